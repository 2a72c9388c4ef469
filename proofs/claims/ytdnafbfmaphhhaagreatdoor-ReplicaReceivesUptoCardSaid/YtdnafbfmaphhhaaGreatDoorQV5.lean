/- Printed by dec.py. -/
import Derived.Test.YtdnafbfmaphhhaaGreatDoorQVManR
set_option linter.unusedSimpArgs false
set_option linter.unusedVariables false
namespace Go.Proofs.YtdnafbfmaphhhaaGreatDoor
open Go.RowKit
set_option maxRecDepth 20000
set_option maxHeartbeats 4000000
noncomputable section
def Dj (p_m:aj) (v0:Int) (v1:Int) (v2:Int) (x0:ay) : Mo (Bool) :=
 .iG 18004 (decide ((x0.bf:Int) < v0)) (.rt [1,4,5,6,33] 2 (true)) <|
 .rt [1,4,5,6,33] 2 (decide ((p_m.bf:Int) < x0.bf))
def Dk (p_m:aj) (r0:Bool) (v0:Int) (v1:Int) (x0:ay) : Mo (Bool) :=
 .iG 18011 (r0) (.rt [1,5,6,39] 2 (true)) <|
 .rt [1,5,6,39] 2 (decide ((x0.fC:Int) ≤ v0))
def wI (p_m:aj) (r0:Bool) (v0:Int) (x0:ay) : Mo (Bool) :=
 .iG 18017 (r0) (.rt [1,5,6,44] 2 (true)) <|
 .rt [1,5,6,44] 2 (decide ((1099511627776:Int) < x0.fC))
def qW (p_m:aj) : (Int × Int × Int) → Mo ((Int × Int × Int) ⊕ (Unit ⊕ Unit)) := fun (v0,v1,v2) =>
 .say [.num p_m.aP.length] (ok1 (ln_ p_m.aP ay.lf)) <|
 .iB (decide ((v2:Int) < (p_m.aP.length:Int))) (.ask (bP p_m.aP v2) fun x0 h0 =>
 .say [.row (ay.lf1 x0)] (ok1 (aX ay.aZ h0)) <|
 .sj Tryz.f66 0 [1,1,1,0,1,0,0,1,0,0,1,0,0] [0,1,2,3,4,5,6,7,8,9,10] 8 11 [1,3,4,5,6] 2 (fun r_=>⟨[(1,.ptr 0 0),(4,.i_ v1),(5,.i_ v2),(6,.ptr 1 0),(33,.b_ r_)],[.box 25 (.dat (aj.lf1 p_m)),.box 54 (.agg ((ay.lf1 x0).map AV.lf))]⟩) ⟨[(1,.ptr 0 0),(3,.i_ v0),(4,.i_ v1),(5,.i_ v2),(6,.ptr 1 0)],[.box 25 (.dat (aj.lf1 p_m)),.box 54 (.agg ((ay.lf1 x0).map AV.lf))]⟩ (Dj p_m v0 v1 v2 x0).den (sW (by kernel_rfl)) fun r0 _ =>
 .sj Tryz.f66 0 [1,1,1,0,1,0,0,1,0,0,1,0,0] [11,12,13,14,15,16] 8 6 [1,4,5,6,33] 2 (fun r_=>⟨[(1,.ptr 0 0),(5,.i_ v2),(6,.ptr 1 0),(39,.b_ r_)],[.box 25 (.dat (aj.lf1 p_m)),.box 54 (.agg ((ay.lf1 x0).map AV.lf))]⟩) ⟨[(1,.ptr 0 0),(4,.i_ v1),(5,.i_ v2),(6,.ptr 1 0),(33,.b_ r0)],[.box 25 (.dat (aj.lf1 p_m)),.box 54 (.agg ((ay.lf1 x0).map AV.lf))]⟩ (Dk p_m r0 v1 v2 x0).den (sW (by kernel_rfl)) fun r1 _ =>
 .sj Tryz.f66 0 [1,1,1,0,1,0,0,1,0,0,1,0,0] [17,18,19,20,21] 8 5 [1,5,6,39] 2 (fun r_=>⟨[(1,.ptr 0 0),(5,.i_ v2),(6,.ptr 1 0),(44,.b_ r_)],[.box 25 (.dat (aj.lf1 p_m)),.box 54 (.agg ((ay.lf1 x0).map AV.lf))]⟩) ⟨[(1,.ptr 0 0),(5,.i_ v2),(6,.ptr 1 0),(39,.b_ r1)],[.box 25 (.dat (aj.lf1 p_m)),.box 54 (.agg ((ay.lf1 x0).map AV.lf))]⟩ (wI p_m r1 v2 x0).den (sW (by kernel_rfl)) fun r2 _ =>
 .iB (r2) (.ret ⟨[.kill 0],[2],[],1⟩ (.inr (.inl ()))) <|
 .rt [1,3,4,5] 1 (.inl (x0.bf,x0.fC,IntKind.wrap .i64 (v2 + 1)))) <|
 .rt [1] 1 (.inr (.inr (())))
def Ec (p_m:aj) (v0:Int) (v1:Int) (v2:Int) : Option (Unit ⊕ Unit) := bM (fun v_=>(qW p_m v_).den) FU (v0,v1,v2)
def PS (p_m:aj) : (Int × Int × Int) → St := fun (v0,v1,v2)=>⟨[(1,.ptr 0 0),(3,.i_ v0),(4,.i_ v1),(5,.i_ v2)],[.box 25 (.dat (aj.lf1 p_m))]⟩
def wJ (r_:Unit ⊕ Unit) : Exit := match r_ with
 | .inl o_=>.ret
 | .inr (o_)=>.exit 0
def wK (p_m:aj) (r_:Unit ⊕ Unit) : St := match r_ with
 | .inl o_=>⟨[(2,.b_ false)],[.dead]⟩
 | .inr (o_)=>⟨[(1,.ptr 0 0)],[.box 25 (.dat (aj.lf1 p_m))]⟩
theorem PU {p_m:aj} {v0:Int} {v1:Int} {v2:Int} {r_:Unit ⊕ Unit} (h:Ec p_m v0 v1 v2 = some r_) : fK Tryz.f66 0 [1,1,1,0,1,0] (wJ r_) (wK p_m r_) (PS p_m (v0,v1,v2)) :=
 dO dK (body := (Code.sub (bodyC Tryz.f66) [1,1,1,0,1,0,0])) (by kernel_rfl) (qW p_m) (PS p_m) wJ (wK p_m) (fun r_=>by rcases r_ with _ | _ <;> rfl) (fun v_=>by kernel_rfl) h
def wL (p_m:aj) : Mo (Bool) :=
 .ite (decide ((0:Int) ≤ p_m.au)) (fun c0 =>
 .say [.gd 26003 true,.num p_m.aP.length] (okc c0 (ok1 (ln_ p_m.aP ay.lf))) <|
 .ret ⟨[.kill 0],[59],[],1⟩ (decide ((p_m.au:Int) ≤ (p_m.aP.length:Int)))) fun c0 =>
 .say [.gd 26003 false] (ok1 c0) <|
 .ret ⟨[.kill 0],[59],[],1⟩ (false)
def wM (r0:Bool) : Mo (Unit) :=
 .rt [2] 1 ()
def acG (p_m:aj) : Mo (Bool) :=
 .say [.num p_m.aP.length] (ok1 (ln_ p_m.aP ay.lf)) <|
 .iB (decide ((16384:Int) < (p_m.aP.length:Int))) (.ret (bD 1) (false)) <|
 .eU (Ec p_m 0 0 0) (fun o0 h0 =>
 .say [.pt_ 0 [1,3,4,5] 1 (wJ (.inl o0)) (wK p_m (.inl o0))] (ok1 (PU h0)) <|
 .ret (bD 1) (false)) fun o1 h0 =>
 .say [.pt_ 0 [1,3,4,5] 1 (wJ (.inr (o1))) (wK p_m (.inr (o1)))] (ok1 (PU h0)) <|
 .sj Tryz.f66 0 [1,1,1,1,0] [0,1,2,3,4,5,6,7,8,9,10] 12 11 [1] 1 (fun r_=>⟨[(59,.b_ r_)],[.dead]⟩) ⟨[(1,.ptr 0 0)],[.box 25 (.dat (aj.lf1 p_m))]⟩ (wL p_m).den (sW (by kernel_rfl)) fun r0 _ =>
 .sj Tryz.f66 0 [1,1,1,1,0] [11] 12 1 [59] 1 (fun r_=>⟨[(2,.b_ r0)],[.dead]⟩) ⟨[(59,.b_ r0)],[.dead]⟩ (wM r0).den (sW (by kernel_rfl)) fun r1 _ =>
 .ret (bD 1) (r0)
def Q9 (p_m:aj) : Option (Bool) := Mo.den (acG p_m)
theorem amD (p_m:aj) : FV (Q9 p_m) 66 [.dat (aj.lf1 p_m)] (fun r=>.b_ r) := bZ Tryz.func66 (by kernel_rfl) (fun _=>rfl) (by kernel_rfl)
def PV (p_set:Int) (p_size:Int) : (Int × Int) → Mo ((Int × Int) ⊕ (Int)) := fun (v0,v1) =>
 .iB (decide ((v1:Int) < p_size)) (.grd ((0:Int) ≤ v1) fun h0 =>
 .say [] (okc h0 (ok1 (by decide:(2:Int) ≠ 0))) <|
 .rt [0,1,5,6] 0 (.inl (IntKind.wrap .i64 (v0 + (Int.tmod (fP .i64 p_set v1) 2)),IntKind.wrap .i64 (v1 + 1)))) <|
 .rt [5] 0 (.inr (v0))
def akk (p_set:Int) (p_size:Int) (v0:Int) (v1:Int) : Option (Int) := bM (fun v_=>(PV p_set p_size v_).den) FU (v0,v1)
def aiN (p_set:Int) (p_size:Int) : Mo (Int) :=
 .lp Tryz.f67 0 [1,1,0,1,0] 0 [0,1,5,6] 0 (.exit 0) (fun r_=>⟨[(5,.i_ r_)],[]⟩) (akk p_set p_size 0 0) (lW (fun (v0,v1)=>⟨[(0,.i_ p_set),(1,.i_ p_size),(5,.i_ v0),(6,.i_ v1)],[]⟩) (by kernel_rfl) rfl fun v_=>by kernel_rfl) fun r0 _ =>
 .ret (bD 1) (r0)
def Q94 (p_set:Int) (p_size:Int) : Option (Int) := Mo.den (aiN p_set p_size)
theorem acH (p_set:Int) (p_size:Int) : FV (Q94 p_set p_size) 67 [.i_ p_set,.i_ p_size] (fun r=>.i_ r) := bZ Tryz.func67 (by kernel_rfl) (fun _=>rfl) (by kernel_rfl)
def PW (p_size:Int) : Mo (Bool) :=
 .iG 4002 (decide ((p_size:Int) < 1)) (.rt [0,8] 0 (true)) <|
 .rt [0,8] 0 (decide ((7:Int) < p_size))
def aiO (p_size:Int) : Mo (Int) :=
 .jp Tryz.f56 0 [1,0,0] 9 [0] 0 (.normal) (fun r_=>⟨[(0,.i_ p_size),(8,.b_ r_)],[]⟩) ⟨[(0,.i_ p_size)],[]⟩ (PW p_size).den (jW (by kernel_rfl)) fun r0 _ =>
 .ite (r0) (fun c0 =>
 .say [.br true] (ok1 c0) <|
 .ret (bD 1) (0)) fun c0 =>
 .say [.br false] (okc c0 (ok1 (by decide:(2:Int) ≠ 0))) <|
 .ret (bD 1) (IntKind.wrap .i64 ((IntKind.wrap .i64 (Int.tdiv p_size 2)) + 1))
def Q93 (p_size:Int) : Option (Int) := Mo.den (aiO p_size)
theorem WB (p_size:Int) : FV (Q93 p_size) 56 [.i_ p_size] (fun r=>.i_ r) := bZ Tryz.func56 (by kernel_rfl) (fun _=>rfl) (by kernel_rfl)
def PX (p_l:List Int) (p_most:Int) (v0:Int) : Mo (Bool) :=
 .ask (bP p_l v0) fun x0 h0 =>
 .say [.row (lfI x0)] (ok1 (aX lI_ h0)) <|
 .iG 10005 (decide ((x0:Int) < 0)) (.rt [0,1,5,24] 0 (true)) <|
 .ask (bP p_l v0) fun x1 h1 =>
 .say [.row (lfI x1)] (ok1 (aX lI_ h1)) <|
 .rt [0,1,5,24] 0 (decide ((p_most:Int) < x1))
def wO (p_l:List Int) (p_most:Int) : (Int) → Mo ((Int) ⊕ (Unit ⊕ Unit)) := fun (v0) =>
 .say [.num p_l.length] (ok1 (ln_ p_l lfI)) <|
 .iB (decide ((v0:Int) < (p_l.length:Int))) (.jp Tryz.f68 0 [1,0,1,0,0,1,0,0,0] 15 [0,1,5] 0 (.normal) (fun r_=>⟨[(0,.lf (.rows 1 (p_l.map lfI))),(1,.i_ p_most),(5,.i_ v0),(24,.b_ r_)],[]⟩) ⟨[(0,.lf (.rows 1 (p_l.map lfI))),(1,.i_ p_most),(5,.i_ v0)],[]⟩ (PX p_l p_most v0).den (jW (by kernel_rfl)) fun r0 _ =>
 .iB (r0) (.rt [4] 0 (.inr (.inl ()))) <|
 .rt [0,1,5] 0 (.inl (IntKind.wrap .i64 (v0 + 1)))) <|
 .rt [] 0 (.inr (.inr (())))
def WC (p_l:List Int) (p_most:Int) (v0:Int) : Option (Unit ⊕ Unit) := bM (fun v_=>(wO p_l p_most v_).den) FU (v0)
def PY (p_l:List Int) (p_most:Int) : (Int) → St := fun (v0)=>⟨[(0,.lf (.rows 1 (p_l.map lfI))),(1,.i_ p_most),(5,.i_ v0)],[]⟩
def wP (r_:Unit ⊕ Unit) : Exit := match r_ with
 | .inl o_=>.ret
 | .inr (o_)=>.exit 0
def wQ  (r_:Unit ⊕ Unit) : St := match r_ with
 | .inl o_=>⟨[(4,.b_ false)],[]⟩
 | .inr (o_)=>⟨[],[]⟩
theorem PZ {p_l:List Int} {p_most:Int} {v0:Int} {r_:Unit ⊕ Unit} (h:WC p_l p_most v0 = some r_) : fK Tryz.f68 0 [1,0,1,0] (wP r_) (wQ r_) (PY p_l p_most (v0)) :=
 dO dK (body := (Code.sub (bodyC Tryz.f68) [1,0,1,0,0])) (by kernel_rfl) (wO p_l p_most) (PY p_l p_most) wP wQ (fun r_=>by rcases r_ with _ | _ <;> rfl) (fun v_=>by kernel_rfl) h
def aiP (p_l:List Int) (p_most:Int) : Mo (Bool) :=
 .eU (WC p_l p_most 0) (fun o0 h0 =>
 .say [.pt_ 0 [0,1,5] 0 (wP (.inl o0)) (wQ (.inl o0))] (ok1 (PZ h0)) <|
 .ret (bD 1) (false)) fun o1 h0 =>
 .say [.pt_ 0 [0,1,5] 0 (wP (.inr (o1))) (wQ (.inr (o1)))] (ok1 (PZ h0)) <|
 .ret (bD 1) (true)
def Q37 (p_l:List Int) (p_most:Int) : Option (Bool) := Mo.den (aiP p_l p_most)
theorem acI (p_l:List Int) (p_most:Int) : FV (Q37 p_l p_most) 68 [.lf (.rows 1 (p_l.map lfI)),.i_ p_most] (fun r=>.b_ r) := bZ Tryz.func68 (by kernel_rfl) (fun _=>rfl) (by kernel_rfl)
def YR (p_m:aj) : Mo (Bool) :=
 .iG 4003 (decide ((p_m.bW:Int) < 1)) (.rt [1,11] 1 (true)) <|
 .rt [1,11] 1 (decide ((7:Int) < p_m.bW))
def YS (p_m:aj) (r0:Bool) : Mo (Bool) :=
 .iG 4008 (r0) (.rt [1,16] 1 (true)) <|
 .rt [1,16] 1 (decide ((p_m.fID:Int) < 0))
def P5 (p_m:aj) (r0:Bool) : Mo (Bool) :=
 .iG 4013 (r0) (.rt [1,23] 1 (true)) <|
 .rt [1,23] 1 (decide ((p_m.bW:Int) ≤ p_m.fID))
def P6 (p_m:aj) (r0:Bool) : Mo (Bool) :=
 .iG 4020 (r0) (.rt [1,28] 1 (true)) <|
 .rt [1,28] 1 (decide ((p_m.bf:Int) < 0))
def P7 (p_m:aj) (r0:Bool) : Mo (Bool) :=
 .iG 4025 (r0) (.rt [1,33] 1 (true)) <|
 .rt [1,33] 1 (decide ((p_m.iy:Int) < (-1)))
def P8 (p_m:aj) (r0:Bool) : Mo (Bool) :=
 .iG 4030 (r0) (.rt [1,40] 1 (true)) <|
 .rt [1,40] 1 (decide ((p_m.bW:Int) ≤ p_m.iy))
def P9 (p_m:aj) (r0:Bool) : Mo (Bool) :=
 .iG 4037 (r0) (.rt [1,45] 1 (true)) <|
 .rt [1,45] 1 (decide ((p_m.gK:Int) < (-1)))
def Qa (p_m:aj) (r0:Bool) : Mo (Bool) :=
 .iG 4042 (r0) (.rt [1,52] 1 (true)) <|
 .rt [1,52] 1 (decide ((p_m.bW:Int) ≤ p_m.gK))
def Qb (p_m:aj) : Mo (Bool) :=
 .ite (decide ((p_m.dh:Int) < 0)) (fun c0 =>
 .say [.dL (.q 0 (.q 1 (.q 2 (.q 3 (.q 4 (.q 5 (.q 6 (.q 7 (.q 8 (.q 9 (.q 10 (.q 11 (.q 12 (.q 13 (.q 14 (.q 15 (.q 16 (.q 17 (.q 18 (.q 19 (.q 20 (.q 21 (.q 22 (.q 23 (.q 24 (.q 25 (.q 26 (.q 27 (.l 28 (.q 29 (.q 30 .fin))))))))))))))))))))))))))))))) (some 28) [] [.gd 8003 true] [1,83] 1 [(1,.ptr 0 0),(83,.b_ true)] [.box 25 (.dat (aj.lf1 p_m))]] (okc c0 (ok1 (rf_ ⟨[(1,.ptr 0 0),(83,.b_ true)],[.box 25 (.dat (aj.lf1 p_m))]⟩))) <|
 .rt [1,83] 1 (true)) fun c0 =>
 .say [] (ok1 c0) <|
 .ite (decide ((2:Int) < p_m.dh)) (fun c1 =>
 .say [.dL (.q 0 (.q 1 (.q 2 (.q 3 (.q 4 (.q 5 (.q 6 (.q 7 (.q 8 (.q 9 (.q 10 (.q 11 (.q 12 (.q 13 (.q 14 (.q 15 (.q 16 (.q 17 (.q 18 (.q 19 (.q 20 (.q 21 (.q 22 (.q 23 (.q 24 (.q 25 (.q 26 (.q 27 (.l 28 (.q 29 (.q 30 .fin))))))))))))))))))))))))))))))) (some 28) [] [.gd 8003 false,.gd 8008 true] [1,83] 1 [(1,.ptr 0 0),(83,.b_ true)] [.box 25 (.dat (aj.lf1 p_m))]] (okc c1 (ok1 (rf_ ⟨[(1,.ptr 0 0),(83,.b_ true)],[.box 25 (.dat (aj.lf1 p_m))]⟩))) <|
 .rt [1,83] 1 (true)) fun c1 =>
 .say [] (ok1 c1) <|
 .ite (decide ((p_m.gu:Int) < 0)) (fun c2 =>
 .say [.dL (.q 0 (.q 1 (.q 2 (.q 3 (.q 4 (.q 5 (.q 6 (.q 7 (.q 8 (.q 9 (.q 10 (.q 11 (.q 12 (.q 13 (.q 14 (.q 15 (.q 16 (.q 17 (.q 18 (.q 19 (.q 20 (.q 21 (.q 22 (.q 23 (.q 24 (.q 25 (.q 26 (.q 27 (.l 28 (.q 29 (.q 30 .fin))))))))))))))))))))))))))))))) (some 28) [] [.gd 8003 false,.gd 8008 false,.gd 8013 true] [1,83] 1 [(1,.ptr 0 0),(83,.b_ true)] [.box 25 (.dat (aj.lf1 p_m))]] (okc c2 (ok1 (rf_ ⟨[(1,.ptr 0 0),(83,.b_ true)],[.box 25 (.dat (aj.lf1 p_m))]⟩))) <|
 .rt [1,83] 1 (true)) fun c2 =>
 .say [] (ok1 c2) <|
 .ite (decide ((p_m.dY:Int) < 0)) (fun c3 =>
 .say [.dL (.q 0 (.q 1 (.q 2 (.q 3 (.q 4 (.q 5 (.q 6 (.q 7 (.q 8 (.q 9 (.q 10 (.q 11 (.q 12 (.q 13 (.q 14 (.q 15 (.q 16 (.q 17 (.q 18 (.q 19 (.q 20 (.q 21 (.q 22 (.q 23 (.q 24 (.q 25 (.q 26 (.q 27 (.l 28 (.q 29 (.q 30 .fin))))))))))))))))))))))))))))))) (some 28) [] [.gd 8003 false,.gd 8008 false,.gd 8013 false,.gd 8018 true] [1,83] 1 [(1,.ptr 0 0),(83,.b_ true)] [.box 25 (.dat (aj.lf1 p_m))]] (okc c3 (ok1 (rf_ ⟨[(1,.ptr 0 0),(83,.b_ true)],[.box 25 (.dat (aj.lf1 p_m))]⟩))) <|
 .rt [1,83] 1 (true)) fun c3 =>
 .say [] (ok1 c3) <|
 .grd ((0:Int) ≤ p_m.bW) fun h0 =>
 .say [] (ok1 h0) <|
 .ite (decide ((nD .i64 1 p_m.bW:Int) ≤ p_m.dY)) (fun c4 =>
 .say [.dL (.q 0 (.q 1 (.q 2 (.q 3 (.q 4 (.q 5 (.q 6 (.q 7 (.q 8 (.q 9 (.q 10 (.q 11 (.q 12 (.q 13 (.q 14 (.q 15 (.q 16 (.q 17 (.q 18 (.q 19 (.q 20 (.q 21 (.q 22 (.q 23 (.q 24 (.q 25 (.q 26 (.q 27 (.l 28 (.q 29 (.q 30 .fin))))))))))))))))))))))))))))))) (some 28) [] [.gd 8003 false,.gd 8008 false,.gd 8013 false,.gd 8018 false,.gd 8026 true] [1,83] 1 [(1,.ptr 0 0),(83,.b_ true)] [.box 25 (.dat (aj.lf1 p_m))]] (okc c4 (ok1 (rf_ ⟨[(1,.ptr 0 0),(83,.b_ true)],[.box 25 (.dat (aj.lf1 p_m))]⟩))) <|
 .rt [1,83] 1 (true)) fun c4 =>
 .say [] (ok1 c4) <|
 .ask (Q9 p_m) fun r0 h1 =>
 .say [.dL (.q 0 (.q 1 (.q 2 (.q 3 (.q 4 (.q 5 (.q 6 (.q 7 (.q 8 (.q 9 (.q 10 (.q 11 (.q 12 (.q 13 (.q 14 (.q 15 (.q 16 (.q 17 (.q 18 (.q 19 (.q 20 (.q 21 (.q 22 (.q 23 (.q 24 (.q 25 (.q 26 (.q 27 (.l 28 (.q 29 (.q 30 .fin))))))))))))))))))))))))))))))) (some 28) [] [.gd 8003 false,.gd 8008 false,.gd 8013 false,.gd 8018 false,.gd 8026 false,.res (.b_ r0)] [1,83] 1 [(1,.ptr 0 0),(83,.lf (.bool (!r0)))] [.box 25 (.dat (aj.lf1 p_m))]] (okc (amD _ _ h1) (ok1 (rf_ ⟨[(1,.ptr 0 0),(83,.lf (.bool (!r0)))],[.box 25 (.dat (aj.lf1 p_m))]⟩))) <|
 .rt [1,83] 1 (!r0)
def Qc (p_m:aj) : Mo (Bool) :=
 .iG 12003 (p_m.dh != 0) (.iG 12007 (decide ((p_m.bf:Int) < 1)) (.rt [1,107] 1 (true)) <|
 .iG 12014 (p_m.iy != p_m.fID) (.rt [1,107] 1 (true)) <|
 .grd ((0:Int) ≤ p_m.fID) fun h0 =>
 .say [] (okc h0 (ok1 (by decide:(2:Int) ≠ 0))) <|
 .rt [1,107] 1 ((Int.tmod (fP .i64 p_m.dY p_m.fID) 2) == 0)) <|
 .rt [1,107] 1 (false)
def Qd (p_m:aj) (r0:Int) (r1:Int) : Mo (Bool) :=
 .iG 22003 (p_m.gK != (-1)) (.rt [1,126] 1 (true)) <|
 .rt [1,126] 1 (decide ((r1:Int) ≤ r0))
def Qe (p_m:aj) (r0:Int) (r1:Int) : Mo (Bool) :=
 .iG 28005 (p_m.gK == p_m.fID) (.rt [1,136] 1 (decide ((r1:Int) ≤ r0))) <|
 .rt [1,136] 1 (false)
def Qg (p_m:aj) (r0:Bool) : Mo (Bool) :=
 .ite (r0) (fun c0 =>
 .say [.gd 28008 true,.num p_m.fNext.length] (okc c0 (ok1 (ln_ p_m.fNext lfI))) <|
 .rt [1,144] 1 ((p_m.fNext.length:Int) == p_m.bW)) fun c0 =>
 .say [.gd 28008 false] (ok1 c0) <|
 .rt [1,144] 1 (false)
def Qh (p_m:aj) (r0:Bool) : Mo (Bool) :=
 .ite (r0) (fun c0 =>
 .say [.gd 28016 true,.num p_m.bg.length] (okc c0 (ok1 (ln_ p_m.bg lfI))) <|
 .rt [1,152] 1 ((p_m.bg.length:Int) == p_m.bW)) fun c0 =>
 .say [.gd 28016 false] (ok1 c0) <|
 .rt [1,152] 1 (false)
def Qi (p_m:aj) (r0:Bool) : Mo (Bool) :=
 .ite (r0) (fun c0 =>
 .say [.gd 28024 true,.num p_m.aP.length] (okc c0 (ok1 (ln_ p_m.aP ay.lf))) <|
 .cl (acI p_m.fNext (p_m.aP.length:Int)) fun r1 _ =>
 .rt [1,160] 1 (r1)) fun c0 =>
 .say [.gd 28024 false] (ok1 c0) <|
 .rt [1,160] 1 (false)
def Qj (p_m:aj) (r0:Bool) : Mo (Bool) :=
 .ite (r0) (fun c0 =>
 .say [.gd 28032 true,.num p_m.aP.length] (okc c0 (ok1 (ln_ p_m.aP ay.lf))) <|
 .cl (acI p_m.bg (p_m.aP.length:Int)) fun r1 _ =>
 .ret ⟨[.kill 0],[168],[],1⟩ (r1)) fun c0 =>
 .say [.gd 28032 false] (ok1 c0) <|
 .ret ⟨[.kill 0],[168],[],1⟩ (false)
def Qk (r0:Bool) : Mo (Unit) :=
 .rt [2] 1 ()
def Ed (p_m:aj) (r0:Int) (r1:Int) : Mo ((Bool) ⊕ Unit) :=
 .iB (p_m.dh == 1) (.jp Tryz.f32 0 [1,1,1,1,1,0,1,0,1,0,0] 27 [1,3] 1 (.normal) (fun r_=>⟨[(1,.ptr 0 0),(126,.b_ r_)],[.box 25 (.dat (aj.lf1 p_m))]⟩) ⟨[(1,.ptr 0 0),(3,.lf (.bool (decide ((r1:Int) ≤ r0))))],[.box 25 (.dat (aj.lf1 p_m))]⟩ (Qd p_m r0 r1).den (jW (by kernel_rfl)) fun r2 _ =>
 .iB (r2) (.ret ⟨[.kill 0],[2],[],1⟩ (.inl (false))) <|
 .rt [1] 1 (.inr (()))) <|
 .iB (p_m.dh == 2) (.sj Tryz.f32 0 [1,1,1,1,1,0,1,0,1,1,1,0,0] [0,1,2,3,4,5,6,7] 13 8 [1,3] 1 (fun r_=>⟨[(1,.ptr 0 0),(136,.b_ r_)],[.box 25 (.dat (aj.lf1 p_m))]⟩) ⟨[(1,.ptr 0 0),(3,.lf (.bool (decide ((r1:Int) ≤ r0))))],[.box 25 (.dat (aj.lf1 p_m))]⟩ (Qe p_m r0 r1).den (sW (by kernel_rfl)) fun r3 _ =>
 .sj Tryz.f32 0 [1,1,1,1,1,0,1,0,1,1,1,0,0] [8,9,10,11,12,13,14,15] 13 8 [1,136] 1 (fun r_=>⟨[(1,.ptr 0 0),(144,.b_ r_)],[.box 25 (.dat (aj.lf1 p_m))]⟩) ⟨[(1,.ptr 0 0),(136,.b_ r3)],[.box 25 (.dat (aj.lf1 p_m))]⟩ (Qg p_m r3).den (sW (by kernel_rfl)) fun r4 _ =>
 .sj Tryz.f32 0 [1,1,1,1,1,0,1,0,1,1,1,0,0] [16,17,18,19,20,21,22,23] 13 8 [1,144] 1 (fun r_=>⟨[(1,.ptr 0 0),(152,.b_ r_)],[.box 25 (.dat (aj.lf1 p_m))]⟩) ⟨[(1,.ptr 0 0),(144,.b_ r4)],[.box 25 (.dat (aj.lf1 p_m))]⟩ (Qh p_m r4).den (sW (by kernel_rfl)) fun r5 _ =>
 .sj Tryz.f32 0 [1,1,1,1,1,0,1,0,1,1,1,0,0] [24,25,26,27,28,29,30,31] 13 8 [1,152] 1 (fun r_=>⟨[(1,.ptr 0 0),(160,.b_ r_)],[.box 25 (.dat (aj.lf1 p_m))]⟩) ⟨[(1,.ptr 0 0),(152,.b_ r5)],[.box 25 (.dat (aj.lf1 p_m))]⟩ (Qi p_m r5).den (sW (by kernel_rfl)) fun r6 _ =>
 .sj Tryz.f32 0 [1,1,1,1,1,0,1,0,1,1,1,0,0] [32,33,34,35,36,37,38,39] 13 8 [1,160] 1 (fun r_=>⟨[(168,.b_ r_)],[.dead]⟩) ⟨[(1,.ptr 0 0),(160,.b_ r6)],[.box 25 (.dat (aj.lf1 p_m))]⟩ (Qj p_m r6).den (sW (by kernel_rfl)) fun r7 _ =>
 .sj Tryz.f32 0 [1,1,1,1,1,0,1,0,1,1,1,0,0] [40] 13 1 [168] 1 (fun r_=>⟨[(2,.b_ r7)],[.dead]⟩) ⟨[(168,.b_ r7)],[.dead]⟩ (Qk r7).den (sW (by kernel_rfl)) fun r8 _ =>
 .rt [2] 1 (.inl (r7))) <|
 .rt [1] 1 (.inr (()))
def WE (p_m:aj) (r0:Int) (r1:Int) : Option ((Bool) ⊕ Unit) := Mo.den (Ed p_m r0 r1)
def wR (r_:(Bool) ⊕ Unit) : Exit := match r_ with
 | .inl o_=>.ret
 | .inr (o_)=>.normal
def wS (p_m:aj) (r_:(Bool) ⊕ Unit) : St := match r_ with
 | .inl o_=>⟨[(2,.b_ o_)],[.dead]⟩
 | .inr (o_)=>⟨[(1,.ptr 0 0)],[.box 25 (.dat (aj.lf1 p_m))]⟩
theorem Ql {p_m:aj} {r0:Int} {r1:Int} {r_:(Bool) ⊕ Unit} (h:WE p_m r0 r1 = some r_) : fK Tryz.f32 0 [1,1,1,1,1,0,1] (wR r_) (wS p_m r_) ⟨[(1,.ptr 0 0),(3,.lf (.bool (decide ((r1:Int) ≤ r0)))),(118,.i_ p_m.dh)],[.box 25 (.dat (aj.lf1 p_m))]⟩ :=
 jh dK (Ed p_m r0 r1) wR (wS p_m) (by kernel_rfl) h
def amE (p_m:aj) : Mo (Bool) :=
 .sj Tryz.f32 0 [1,0,0] [0,1,2,3,4,5,6,7] 1 8 [1] 1 (fun r_=>⟨[(1,.ptr 0 0),(11,.b_ r_)],[.box 25 (.dat (aj.lf1 p_m))]⟩) ⟨[(1,.ptr 0 0)],[.box 25 (.dat (aj.lf1 p_m))]⟩ (YR p_m).den (sW (by kernel_rfl)) fun r0 _ =>
 .sj Tryz.f32 0 [1,0,0] [8,9,10,11,12] 1 5 [1,11] 1 (fun r_=>⟨[(1,.ptr 0 0),(16,.b_ r_)],[.box 25 (.dat (aj.lf1 p_m))]⟩) ⟨[(1,.ptr 0 0),(11,.b_ r0)],[.box 25 (.dat (aj.lf1 p_m))]⟩ (YS p_m r0).den (sW (by kernel_rfl)) fun r1 _ =>
 .sj Tryz.f32 0 [1,0,0] [13,14,15,16,17,18,19] 1 7 [1,16] 1 (fun r_=>⟨[(1,.ptr 0 0),(23,.b_ r_)],[.box 25 (.dat (aj.lf1 p_m))]⟩) ⟨[(1,.ptr 0 0),(16,.b_ r1)],[.box 25 (.dat (aj.lf1 p_m))]⟩ (P5 p_m r1).den (sW (by kernel_rfl)) fun r2 _ =>
 .sj Tryz.f32 0 [1,0,0] [20,21,22,23,24] 1 5 [1,23] 1 (fun r_=>⟨[(1,.ptr 0 0),(28,.b_ r_)],[.box 25 (.dat (aj.lf1 p_m))]⟩) ⟨[(1,.ptr 0 0),(23,.b_ r2)],[.box 25 (.dat (aj.lf1 p_m))]⟩ (P6 p_m r2).den (sW (by kernel_rfl)) fun r3 _ =>
 .sj Tryz.f32 0 [1,0,0] [25,26,27,28,29] 1 5 [1,28] 1 (fun r_=>⟨[(1,.ptr 0 0),(33,.b_ r_)],[.box 25 (.dat (aj.lf1 p_m))]⟩) ⟨[(1,.ptr 0 0),(28,.b_ r3)],[.box 25 (.dat (aj.lf1 p_m))]⟩ (P7 p_m r3).den (sW (by kernel_rfl)) fun r4 _ =>
 .sj Tryz.f32 0 [1,0,0] [30,31,32,33,34,35,36] 1 7 [1,33] 1 (fun r_=>⟨[(1,.ptr 0 0),(40,.b_ r_)],[.box 25 (.dat (aj.lf1 p_m))]⟩) ⟨[(1,.ptr 0 0),(33,.b_ r4)],[.box 25 (.dat (aj.lf1 p_m))]⟩ (P8 p_m r4).den (sW (by kernel_rfl)) fun r5 _ =>
 .sj Tryz.f32 0 [1,0,0] [37,38,39,40,41] 1 5 [1,40] 1 (fun r_=>⟨[(1,.ptr 0 0),(45,.b_ r_)],[.box 25 (.dat (aj.lf1 p_m))]⟩) ⟨[(1,.ptr 0 0),(40,.b_ r5)],[.box 25 (.dat (aj.lf1 p_m))]⟩ (P9 p_m r5).den (sW (by kernel_rfl)) fun r6 _ =>
 .sj Tryz.f32 0 [1,0,0] [42,43,44,45,46,47,48] 1 7 [1,45] 1 (fun r_=>⟨[(1,.ptr 0 0),(52,.b_ r_)],[.box 25 (.dat (aj.lf1 p_m))]⟩) ⟨[(1,.ptr 0 0),(45,.b_ r6)],[.box 25 (.dat (aj.lf1 p_m))]⟩ (Qa p_m r6).den (sW (by kernel_rfl)) fun r7 _ =>
 .iB (r7) (.ret (bD 1) (false)) <|
 .jp Tryz.f32 0 [1,1,0,0] 13 [1] 1 (.normal) (fun r_=>⟨[(1,.ptr 0 0),(83,.b_ r_)],[.box 25 (.dat (aj.lf1 p_m))]⟩) ⟨[(1,.ptr 0 0)],[.box 25 (.dat (aj.lf1 p_m))]⟩ (Qb p_m).den (jW (by kernel_rfl)) fun r8 _ =>
 .iB (r8) (.ret (bD 1) (false)) <|
 .jp Tryz.f32 0 [1,1,1,0,0] 17 [1] 1 (.normal) (fun r_=>⟨[(1,.ptr 0 0),(107,.b_ r_)],[.box 25 (.dat (aj.lf1 p_m))]⟩) ⟨[(1,.ptr 0 0)],[.box 25 (.dat (aj.lf1 p_m))]⟩ (Qc p_m).den (jW (by kernel_rfl)) fun r9 _ =>
 .iB (r9) (.ret (bD 1) (false)) <|
 .ask (Q94 p_m.dY p_m.bW) fun r10 h0 =>
 .say [] (ok1 (acH _ _ _ h0)) <|
 .ask (Q93 p_m.bW) fun r11 h1 =>
 .say [.dL (.q 0 (.q 1 (.q 2 (.q 3 (.q 5 (.q 6 (.l 4 (.l 7 (.q 8 (.q 9 .fin)))))))))) (some 7) [] [.res (.i_ r10),.res (.i_ r11)] [1,3] 1 [(1,.ptr 0 0),(3,.lf (.bool (decide ((r11:Int) ≤ r10))))] [.box 25 (.dat (aj.lf1 p_m))]] (okc (WB _ _ h1) (ok1 (rf_ ⟨[(1,.ptr 0 0),(3,.lf (.bool (decide ((r11:Int) ≤ r10))))],[.box 25 (.dat (aj.lf1 p_m))]⟩))) <|
 .eU (WE p_m r10 r11) (fun o0 h2 =>
 .say [.pt_ 6 [1,3,118] 1 (wR (.inl o0)) (wS p_m (.inl o0))] (ok1 (Ql h2)) <|
 .ret (bD 1) (o0)) fun o1 h2 =>
 .say [.pt_ 6 [1,3,118] 1 (wR (.inr (o1))) (wS p_m (.inr (o1))),.num p_m.fNext.length] (okc (Ql h2) (ok1 (ln_ p_m.fNext lfI))) <|
 .ite ((p_m.fNext.length:Int) == 0) (fun c0 =>
 .say [.gd 30004 true,.num p_m.bg.length] (okc c0 (ok1 (ln_ p_m.bg lfI))) <|
 .ret (bD 1) ((p_m.bg.length:Int) == 0)) fun c0 =>
 .say [.gd 30004 false] (ok1 c0) <|
 .ret (bD 1) (false)
def Q6 (p_m:aj) : Option (Bool) := Mo.den (amE p_m)
theorem amF (p_m:aj) : FV (Q6 p_m) 32 [.dat (aj.lf1 p_m)] (fun r=>.b_ r) := bZ Tryz.func32 (by kernel_rfl) (fun _=>rfl) (by kernel_rfl)
def acJ (p_m:aj) : Mo (Bool) :=
 .say [.num p_m.aP.length] (ok1 (ln_ p_m.aP ay.lf)) <|
 .iG 4004 (decide (((p_m.aP.length:Int) : Int) ≤ 200)) (.cl (amF p_m) fun r0 _ =>
 .ret (bD 1) (r0)) <|
 .ret (bD 1) (false)
def akl (p_m:aj) : Option (Bool) := Mo.den (acJ p_m)
theorem agW (p_m:aj) : FV (akl p_m) 10 [.dat (aj.lf1 p_m)] (fun r=>.b_ r) := bZ Tryz.func10 (by kernel_rfl) (fun _=>rfl) (by kernel_rfl)
def Qm (p_s:ByteArray) : Mo (Bool) :=
 .iG 4003 (decide (((p_s.size:Int) : Int) < 1)) (.rt [0,11] 0 (true)) <|
 .rt [0,11] 0 (decide ((32:Int) < (p_s.size:Int)))
def Qn (p_s:ByteArray) (r0:Bool) : Mo (Bool) :=
 .iG 4008 (r0) (.rt [0,16] 0 (true)) <|
 .ask (lZ p_s 0) fun b0 h0 =>
 .say [.byt b0] (ok1 (iK h0)) <|
 .rt [0,16] 0 ((b0.toNat:Int) == 36)
def IV (p_s:ByteArray) (v0:Int) : Mo (Bool) :=
 .ask (lZ p_s v0) fun b0 h0 =>
 .say [.byt b0] (ok1 (iK h0)) <|
 .iG 14004 (decide (((b0.toNat:Int) : Int) < 33)) (.rt [0,3,32] 0 (true)) <|
 .ask (lZ p_s v0) fun b1 h1 =>
 .say [.byt b1] (ok1 (iK h1)) <|
 .rt [0,3,32] 0 (decide ((126:Int) < (b1.toNat:Int)))
def IW (p_s:ByteArray) (r0:Bool) (v0:Int) : Mo (Bool) :=
 .iG 14010 (r0) (.rt [0,3,38] 0 (true)) <|
 .ask (lZ p_s v0) fun b0 h0 =>
 .say [.byt b0] (ok1 (iK h0)) <|
 .rt [0,3,38] 0 ((b0.toNat:Int) == 46)
def AB (p_s:ByteArray) : (Int) → Mo ((Int) ⊕ (Unit ⊕ Unit)) := fun (v0) =>
 .iB (decide ((v0:Int) < (p_s.size:Int))) (.sj Tryz.f150 0 [1,1,0,1,0,0,1,0,0,0] [0,1,2,3,4,5,6,7,8,9] 6 10 [0,3] 0 (fun r_=>⟨[(0,.lf (.str p_s)),(3,.i_ v0),(32,.b_ r_)],[]⟩) ⟨[(0,.lf (.str p_s)),(3,.i_ v0)],[]⟩ (IV p_s v0).den (sW (by kernel_rfl)) fun r0 _ =>
 .sj Tryz.f150 0 [1,1,0,1,0,0,1,0,0,0] [10,11,12,13,14,15] 6 6 [0,3,32] 0 (fun r_=>⟨[(0,.lf (.str p_s)),(3,.i_ v0),(38,.b_ r_)],[]⟩) ⟨[(0,.lf (.str p_s)),(3,.i_ v0),(32,.b_ r0)],[]⟩ (IW p_s r0 v0).den (sW (by kernel_rfl)) fun r1 _ =>
 .iB (r1) (.rt [2] 0 (.inr (.inl ()))) <|
 .rt [0,3] 0 (.inl (IntKind.wrap .i64 (v0 + 1)))) <|
 .rt [] 0 (.inr (.inr (())))
def Nb (p_s:ByteArray) (v0:Int) : Option (Unit ⊕ Unit) := bM (fun v_=>(AB p_s v_).den) FU (v0)
def IX (p_s:ByteArray) : (Int) → St := fun (v0)=>⟨[(0,.lf (.str p_s)),(3,.i_ v0)],[]⟩
def su (r_:Unit ⊕ Unit) : Exit := match r_ with
 | .inl o_=>.ret
 | .inr (o_)=>.exit 0
def sD  (r_:Unit ⊕ Unit) : St := match r_ with
 | .inl o_=>⟨[(2,.b_ false)],[]⟩
 | .inr (o_)=>⟨[],[]⟩
theorem IY {p_s:ByteArray} {v0:Int} {r_:Unit ⊕ Unit} (h:Nb p_s v0 = some r_) : fK Tryz.f150 0 [1,1,0,1,0] (su r_) (sD r_) (IX p_s (v0)) :=
 dO dK (body := (Code.sub (bodyC Tryz.f150) [1,1,0,1,0,0])) (by kernel_rfl) (AB p_s) (IX p_s) su sD (fun r_=>by rcases r_ with _ | _ <;> rfl) (fun v_=>by kernel_rfl) h
def aiQ (p_s:ByteArray) : Mo (Bool) :=
 .sj Tryz.f150 0 [1,0,0] [0,1,2,3,4,5,6,7] 1 8 [0] 0 (fun r_=>⟨[(0,.lf (.str p_s)),(11,.b_ r_)],[]⟩) ⟨[(0,.lf (.str p_s))],[]⟩ (Qm p_s).den (sW (by kernel_rfl)) fun r0 _ =>
 .sj Tryz.f150 0 [1,0,0] [8,9,10,11,12] 1 5 [0,11] 0 (fun r_=>⟨[(0,.lf (.str p_s)),(16,.b_ r_)],[]⟩) ⟨[(0,.lf (.str p_s)),(11,.b_ r0)],[]⟩ (Qn p_s r0).den (sW (by kernel_rfl)) fun r1 _ =>
 .iB (r1) (.ret (bD 1) (false)) <|
 .eU (Nb p_s 0) (fun o0 h0 =>
 .say [.pt_ 0 [0,3] 0 (su (.inl o0)) (sD (.inl o0))] (ok1 (IY h0)) <|
 .ret (bD 1) (false)) fun o1 h0 =>
 .say [.pt_ 0 [0,3] 0 (su (.inr (o1))) (sD (.inr (o1)))] (ok1 (IY h0)) <|
 .ret (bD 1) (true)
def Q22 (p_s:ByteArray) : Option (Bool) := Mo.den (aiQ p_s)
theorem vJ (p_s:ByteArray) : FV (Q22 p_s) 150 [.lf (.str p_s)] (fun r=>.b_ r) := bZ Tryz.func150 (by kernel_rfl) (fun _=>rfl) (by kernel_rfl)
def Qo (p_p:List ByteArray) : Mo (Bool) :=
 .say [.num p_p.length] (ok1 (ln_ p_p lfS)) <|
 .ite (decide (((p_p.length:Int) : Int) < 1)) (fun c0 =>
 .say [.gd 4003 true] (ok1 c0) <|
 .rt [0,11] 0 (true)) fun c0 =>
 .say [.gd 4003 false,.num p_p.length] (okc c0 (ok1 (ln_ p_p lfS))) <|
 .rt [0,11] 0 (decide ((16:Int) < (p_p.length:Int)))
def Ee (p_p:List ByteArray) : (Int) → Mo ((Int) ⊕ (Unit ⊕ Unit)) := fun (v0) =>
 .say [.num p_p.length] (ok1 (ln_ p_p lfS)) <|
 .iB (decide ((v0:Int) < (p_p.length:Int))) (.ask (bP p_p v0) fun x0 h0 =>
 .say [.row (lfS x0)] (ok1 (aX lS_ h0)) <|
 .cl (vJ x0) fun r0 _ =>
 .iB (!r0) (.rt [2] 0 (.inr (.inl ()))) <|
 .rt [0,3] 0 (.inl (IntKind.wrap .i64 (v0 + 1)))) <|
 .rt [] 0 (.inr (.inr (())))
def WG (p_p:List ByteArray) (v0:Int) : Option (Unit ⊕ Unit) := bM (fun v_=>(Ee p_p v_).den) FU (v0)
def Qp (p_p:List ByteArray) : (Int) → St := fun (v0)=>⟨[(0,.lf (.rows 1 (p_p.map lfS))),(3,.i_ v0)],[]⟩
def wU (r_:Unit ⊕ Unit) : Exit := match r_ with
 | .inl o_=>.ret
 | .inr (o_)=>.exit 0
def wV  (r_:Unit ⊕ Unit) : St := match r_ with
 | .inl o_=>⟨[(2,.b_ false)],[]⟩
 | .inr (o_)=>⟨[],[]⟩
theorem Qq {p_p:List ByteArray} {v0:Int} {r_:Unit ⊕ Unit} (h:WG p_p v0 = some r_) : fK Tryz.f106 0 [1,1,0,1,0] (wU r_) (wV r_) (Qp p_p (v0)) :=
 dO dK (body := (Code.sub (bodyC Tryz.f106) [1,1,0,1,0,0])) (by kernel_rfl) (Ee p_p) (Qp p_p) wU wV (fun r_=>by rcases r_ with _ | _ <;> rfl) (fun v_=>by kernel_rfl) h
def aiR (p_p:List ByteArray) : Mo (Bool) :=
 .jp Tryz.f106 0 [1,0,0] 9 [0] 0 (.normal) (fun r_=>⟨[(0,.lf (.rows 1 (p_p.map lfS))),(11,.b_ r_)],[]⟩) ⟨[(0,.lf (.rows 1 (p_p.map lfS)))],[]⟩ (Qo p_p).den (jW (by kernel_rfl)) fun r0 _ =>
 .iB (r0) (.ret (bD 1) (false)) <|
 .eU (WG p_p 0) (fun o0 h0 =>
 .say [.pt_ 0 [0,3] 0 (wU (.inl o0)) (wV (.inl o0))] (ok1 (Qq h0)) <|
 .ret (bD 1) (false)) fun o1 h0 =>
 .say [.pt_ 0 [0,3] 0 (wU (.inr (o1))) (wV (.inr (o1)))] (ok1 (Qq h0)) <|
 .ret (bD 1) (true)
def Q36 (p_p:List ByteArray) : Option (Bool) := Mo.den (aiR p_p)
theorem Ef (p_p:List ByteArray) : FV (Q36 p_p) 106 [.lf (.rows 1 (p_p.map lfS))] (fun r=>.b_ r) := bZ Tryz.func106 (by kernel_rfl) (fun _=>rfl) (by kernel_rfl)
def acK (p_s:ByteArray) : Mo (Bool) :=
 .say [.at_ 4 2,.VK 0 ([p_s].map lfS)] (ok1 (by simp [lfS] : [p_s].map lfS = [(lfS p_s)])) <|
 .cl (Ef [p_s]) fun r0 _ =>
 .ret (bD 1) (r0)
def akm (p_s:ByteArray) : Option (Bool) := Mo.den (acK p_s)
theorem Dl (p_s:ByteArray) : FV (akm p_s) 77 [.lf (.str p_s)] (fun r=>.b_ r) := bZ Tryz.func77 (by kernel_rfl) (fun _=>rfl) (by kernel_rfl)
def acL (p_kind:Int) : Mo (Bool) :=
 .iG 4002 (decide ((2:Int) ≤ p_kind)) (.ret (bD 1) (decide ((p_kind:Int) ≤ 7))) <|
 .ret (bD 1) (false)
def amG (p_kind:Int) : Option (Bool) := Mo.den (acL p_kind)
theorem agX (p_kind:Int) : FV (amG p_kind) 153 [.i_ p_kind] (fun r=>.b_ r) := bZ Tryz.func153 (by kernel_rfl) (fun _=>rfl) (by kernel_rfl)
def acM (p_kind:Int) : Mo (Bool) :=
 .cl (agX p_kind) fun r0 _ =>
 .iG 4002 (r0) (.ret (bD 1) (p_kind != 4)) <|
 .ret (bD 1) (false)
def amH (p_kind:Int) : Option (Bool) := Mo.den (acM p_kind)
theorem YT (p_kind:Int) : FV (amH p_kind) 109 [.i_ p_kind] (fun r=>.b_ r) := bZ Tryz.func109 (by kernel_rfl) (fun _=>rfl) (by kernel_rfl)
def acN (p_kind:Int) : Mo (Bool) :=
 .iG 4002 (p_kind == 2) (.ret (bD 1) (true)) <|
 .ret (bD 1) (p_kind == 3)
def amI (p_kind:Int) : Option (Bool) := Mo.den (acN p_kind)
theorem Nc (p_kind:Int) : FV (amI p_kind) 112 [.i_ p_kind] (fun r=>.b_ r) := bZ Tryz.func112 (by kernel_rfl) (fun _=>rfl) (by kernel_rfl)
def Qr (p_v:ak) : Mo (Bool) :=
 .iG 4003 (p_v.aU == 0) (.rt [1,2,10] 1 (p_v.jU == 0)) <|
 .rt [1,2,10] 1 (false)
def Qs (p_v:ak) (r0:Bool) : Mo (Bool) :=
 .iG 4008 (r0) (.rt [1,2,15] 1 (decide ((p_v.fText:ByteArray) = (⟨#[]⟩ : ByteArray)))) <|
 .rt [1,2,15] 1 (false)
def IZ (p_v:ak) (r0:Bool) : Mo (Bool) :=
 .ite (r0) (fun c0 =>
 .say [.gd 4013 true,.num p_v.bY.length] (okc c0 (ok1 (ln_ p_v.bY ak.lf))) <|
 .rt [1,2,21] 1 ((p_v.bY.length:Int) == 0)) fun c0 =>
 .say [.gd 4013 false] (ok1 c0) <|
 .rt [1,2,21] 1 (false)
def I4 (p_v:ak) (r0:Bool) : Mo (Bool) :=
 .ite (r0) (fun c0 =>
 .say [.gd 4019 true,.num p_v.bV.length] (okc c0 (ok1 (ln_ p_v.bV aT.lf))) <|
 .ret ⟨[.kill 0],[2,27],[],1⟩ ((p_v.bV.length:Int) == 0)) fun c0 =>
 .say [.gd 4019 false] (ok1 c0) <|
 .ret ⟨[.kill 0],[2,27],[],1⟩ (false)
def I5 (r0:Bool) : Mo (Unit) :=
 .rt [2] 1 ()
def aiS (p_v:ak) : Mo (Bool) :=
 .sj Tryz.f115 0 [1,0] [0,1,2,3,4,5,6,7] 1 8 [1,2] 1 (fun r_=>⟨[(1,.ptr 0 0),(2,.b_ false),(10,.b_ r_)],[.box 29 (.dat (ak.lf1 p_v))]⟩) ⟨[(1,.ptr 0 0),(2,.b_ false)],[.box 29 (.dat (ak.lf1 p_v))]⟩ (Qr p_v).den (sW (by kernel_rfl)) fun r0 _ =>
 .sj Tryz.f115 0 [1,0] [8,9,10,11,12] 1 5 [1,2,10] 1 (fun r_=>⟨[(1,.ptr 0 0),(2,.b_ false),(15,.b_ r_)],[.box 29 (.dat (ak.lf1 p_v))]⟩) ⟨[(1,.ptr 0 0),(2,.b_ false),(10,.b_ r0)],[.box 29 (.dat (ak.lf1 p_v))]⟩ (Qs p_v r0).den (sW (by kernel_rfl)) fun r1 _ =>
 .sj Tryz.f115 0 [1,0] [13,14,15,16,17,18] 1 6 [1,2,15] 1 (fun r_=>⟨[(1,.ptr 0 0),(2,.b_ false),(21,.b_ r_)],[.box 29 (.dat (ak.lf1 p_v))]⟩) ⟨[(1,.ptr 0 0),(2,.b_ false),(15,.b_ r1)],[.box 29 (.dat (ak.lf1 p_v))]⟩ (IZ p_v r1).den (sW (by kernel_rfl)) fun r2 _ =>
 .sj Tryz.f115 0 [1,0] [19,20,21,22,23,24] 1 6 [1,2,21] 1 (fun r_=>⟨[(2,.b_ false),(27,.b_ r_)],[.dead]⟩) ⟨[(1,.ptr 0 0),(2,.b_ false),(21,.b_ r2)],[.box 29 (.dat (ak.lf1 p_v))]⟩ (I4 p_v r2).den (sW (by kernel_rfl)) fun r3 _ =>
 .sj Tryz.f115 0 [1,0] [25] 1 1 [2,27] 1 (fun r_=>⟨[(2,.b_ r3)],[.dead]⟩) ⟨[(2,.b_ false),(27,.b_ r3)],[.dead]⟩ (I5 r3).den (sW (by kernel_rfl)) fun r4 _ =>
 .ret (bD 1) (r3)
def Q54 (p_v:ak) : Option (Bool) := Mo.den (aiS p_v)
theorem vK (p_v:ak) : FV (Q54 p_v) 115 [.dat (ak.lf1 p_v)] (fun r=>.b_ r) := bZ Tryz.func115 (by kernel_rfl) (fun _=>rfl) (by kernel_rfl)
def Qu (p_n:Int) : Mo (Int) :=
 .iB (decide ((p_n:Int) < 0)) (.rt [3] 0 (bJ .xor .u64 (IntKind.max .u64) (nD .u64 (IntKind.wrap .u64 p_n) 1))) <|
 .rt [3] 0 (nD .u64 (IntKind.wrap .u64 p_n) 1)
def Qv (v0:Int) (v1:ByteArray) (v2:Int) : Mo (Bool) :=
 .iG 14002 (decide ((v2:Int) < 10)) (.rt [3,4,5,18] 0 (decide ((128:Int) ≤ v0))) <|
 .rt [3,4,5,18] 0 (false)
def AO  : (Int × ByteArray × Int) → Mo ((Int × ByteArray × Int) ⊕ (Int × ByteArray)) := fun (v0,v1,v2) =>
 .jp Tryz.f166 0 [1,1,1,1,0,1,0,0,0,0] 19 [3,4,5] 0 (.normal) (fun r_=>⟨[(3,.lf (.int .u64 v0)),(4,.lf (.str v1)),(5,.i_ v2),(18,.b_ r_)],[]⟩) ⟨[(3,.lf (.int .u64 v0)),(4,.lf (.str v1)),(5,.i_ v2)],[]⟩ (Qv v0 v1 v2).den (jW (by kernel_rfl)) fun r0 _ =>
 .ite (r0) (fun c0 =>
 .say [.br true,.nums [bJ .or .u8 (IntKind.wrap .u8 (Int.tmod v0 128)) 128]] (okc c0 (okc (by decide:(128:Int) ≠ 0) (ok1 (by simp [lfI,lfK] : [(lfK .u8 (bJ .or .u8 (IntKind.wrap .u8 (Int.tmod v0 128)) 128))] = [bJ .or .u8 (IntKind.wrap .u8 (Int.tmod v0 128)) 128].map fun n=>[Lf.int .u8 n])))) <|
 .grd (v1.size + (strOfNums [bJ .or .u8 (IntKind.wrap .u8 (Int.tmod v0 128)) 128]).size ≤ 9223372036854775807) fun h0 =>
 .say [] (okc h0 (ok1 (by decide:(128:Int) ≠ 0))) <|
 .rt [3,4,5] 0 (.inl (IntKind.wrap .u64 (Int.tdiv v0 128),v1 ++ (strOfNums [bJ .or .u8 (IntKind.wrap .u8 (Int.tmod v0 128)) 128]),IntKind.wrap .i64 (v2 + 1)))) fun c0 =>
 .say [.br false] (ok1 c0) <|
 .rt [3,4] 0 (.inr (v0,v1))
def Nh (v0:Int) (v1:ByteArray) (v2:Int) : Option ((Int × ByteArray)) := bM (fun v_=>(AO  v_).den) FU (v0,v1,v2)
def I7  : (Int × ByteArray × Int) → St := fun (v0,v1,v2)=>⟨[(3,.lf (.int .u64 v0)),(4,.lf (.str v1)),(5,.i_ v2)],[]⟩
def AP  (r_:(Int × ByteArray)) : St := ⟨[(3,.lf (.int .u64 r_.1)),(4,.lf (.str r_.2))],[]⟩
theorem aak {v0:Int} {v1:ByteArray} {v2:Int} {r_:(Int × ByteArray)} (h:Nh v0 v1 v2 = some r_) : fK Tryz.f166 0 [1,1,1,1,0,1,0] (.exit 0) (AP r_) (I7  (v0,v1,v2)) :=
 dO dK (body := (Code.sub (bodyC Tryz.f166) [1,1,1,1,0,1,0,0])) (by kernel_rfl) (AO ) (I7 ) (fun _=>.exit 0) AP (fun r_=>rfl) (fun v_=>by kernel_rfl) h
def aiT (p_n:Int) : Mo (ByteArray) :=
 .say [] (ok1 (by decide:(0:Int) ≤ 1)) <|
 .jp Tryz.f166 0 [1,1,0,1] 1 [3,10] 0 (.normal) (fun r_=>⟨[(3,.lf (.int .u64 r_))],[]⟩) ⟨[(3,.lf (.int .u64 (nD .u64 (IntKind.wrap .u64 p_n) 1))),(10,.lf (.bool (decide ((p_n:Int) < 0))))],[]⟩ (Qu p_n).den (jW (by kernel_rfl)) fun r0 _ =>
 .ask (Nh r0 ⟨#[]⟩ 0) fun r1 h0 =>
 .say [.pt_ 0 [3,4,5] 0 (.exit 0) (AP r1),.nums [IntKind.wrap .u8 r1.1]] (okc (aak h0) (ok1 (by simp [lfI,lfK] : [(lfK .u8 (IntKind.wrap .u8 r1.1))] = [IntKind.wrap .u8 r1.1].map fun n=>[Lf.int .u8 n]))) <|
 .grd (r1.2.size + (strOfNums [IntKind.wrap .u8 r1.1]).size ≤ 9223372036854775807) fun h1 =>
 .say [] (ok1 h1) <|
 .ret (bD 1) (r1.2 ++ (strOfNums [IntKind.wrap .u8 r1.1]))
def Q47 (p_n:Int) : Option (ByteArray) := Mo.den (aiT p_n)
theorem AQ (p_n:Int) : FV (Q47 p_n) 166 [.i_ p_n] (fun r=>.lf (.str r)) := bZ Tryz.func166 (by kernel_rfl) (fun _=>rfl) (by kernel_rfl)
def aiU (p_n:Int) (p_b0:aA) : Mo (aA) :=
 .say [.order [(true,0),(true,1),(true,2),(true,3),(true,4),(false,5),(true,6),(true,7),(true,8),(false,9)] (some 9) []] ok0 <|
 .cl (AQ p_n) fun r0 _ =>
 .grd (p_b0.fS.size + r0.size ≤ 9223372036854775807) fun h0 =>
 .say [] (ok1 h0) <|
 .rt [] 1 (aA.mk (p_b0.fS ++ r0) p_b0.CQ p_b0.qA)
def Q20 (p_n:Int) (p_b0:aA) : Option (aA) := Mo.den (aiU p_n p_b0)
theorem fD (p_n:Int) (p_b0:aA) : FH (Q20 p_n p_b0) 123 [.ptr 0 0,.i_ p_n] [.box 124 (.dat (aA.lf1 p_b0))] (fun _=>.tup []) (fun r=>[.box 124 (.dat (aA.lf1 r))]) := gX Tryz.func123 (by kernel_rfl) (fun _=>rfl) (by kernel_rfl)
def aiV (p_s:ByteArray) (p_b0:aA) : Mo (aA) :=
 .cH [0] (fD (p_s.size:Int) p_b0) fun r0 _ =>
 .grd (r0.fS.size + p_s.size ≤ 9223372036854775807) fun h0 =>
 .say [] (ok1 h0) <|
 .rt [] 1 (aA.mk (r0.fS ++ p_s) r0.CQ r0.qA)
def Q78 (p_s:ByteArray) (p_b0:aA) : Option (aA) := Mo.den (aiV p_s p_b0)
theorem oO (p_s:ByteArray) (p_b0:aA) : FH (Q78 p_s p_b0) 124 [.ptr 0 0,.lf (.str p_s)] [.box 124 (.dat (aA.lf1 p_b0))] (fun _=>.tup []) (fun r=>[.box 124 (.dat (aA.lf1 r))]) := gX Tryz.func124 (by kernel_rfl) (fun _=>rfl) (by kernel_rfl)
def Eh (p_l:List ByteArray) : (Int × aA) → Mo ((Int × aA) ⊕ (aA)) := fun (v0,s957) =>
 .say [.num p_l.length] (ok1 (ln_ p_l lfS)) <|
 .iB (decide ((v0:Int) < (p_l.length:Int))) (.ask (bP p_l v0) fun x0 h0 =>
 .say [.row (lfS x0)] (ok1 (aX lS_ h0)) <|
 .cH [0] (oO x0 s957) fun r0 _ =>
 .rt [0,1,4] 1 (.inl (IntKind.wrap .i64 (v0 + 1),r0))) <|
 .rt [] 1 (.inr (s957))
def WH (p_l:List ByteArray) (v0:Int) (s957:aA) : Option (aA) := bM (fun v_=>(Eh p_l v_).den) FU (v0,s957)
def aiW (p_l:List ByteArray) (p_b0:aA) : Mo (aA) :=
 .say [.num p_l.length] (ok1 (ln_ p_l lfS)) <|
 .cH [0] (fD (p_l.length:Int) p_b0) fun r0 _ =>
 .lp Tryz.f216 1 [1,1,0] 0 [0,1,4] 1 (.exit 0) (fun r_=>⟨[],[.box 124 (.dat (aA.lf1 r_))]⟩) (WH p_l 0 r0) (lW (fun (v0,s957)=>⟨[(0,.ptr 0 0),(1,.lf (.rows 1 (p_l.map lfS))),(4,.i_ v0)],[.box 124 (.dat (aA.lf1 s957))]⟩) (by kernel_rfl) rfl fun v_=>by kernel_rfl) fun r1 _ =>
 .rt [] 1 (r1)
def Q70 (p_l:List ByteArray) (p_b0:aA) : Option (aA) := Mo.den (aiW p_l p_b0)
theorem Ei (p_l:List ByteArray) (p_b0:aA) : FH (Q70 p_l p_b0) 216 [.ptr 0 0,.lf (.rows 1 (p_l.map lfS))] [.box 124 (.dat (aA.lf1 p_b0))] (fun _=>.tup []) (fun r=>[.box 124 (.dat (aA.lf1 r))]) := gX Tryz.func216 (by kernel_rfl) (fun _=>rfl) (by kernel_rfl)
def aiX (p_b:Bool) (p_b0:aA) : Mo (aA) :=
 .iB (p_b) (.grd (p_b0.fS.size + (⟨#[1]⟩ : ByteArray).size ≤ 9223372036854775807) fun h0 =>
 .say [] (ok1 h0) <|
 .rt [] 1 (aA.mk (p_b0.fS ++ ⟨#[1]⟩) p_b0.CQ p_b0.qA)) <|
 .grd (p_b0.fS.size + (⟨#[0]⟩ : ByteArray).size ≤ 9223372036854775807) fun h1 =>
 .say [] (ok1 h1) <|
 .rt [] 1 (aA.mk (p_b0.fS ++ ⟨#[0]⟩) p_b0.CQ p_b0.qA)
def Q83 (p_b:Bool) (p_b0:aA) : Option (aA) := Mo.den (aiX p_b p_b0)
theorem pW (p_b:Bool) (p_b0:aA) : FH (Q83 p_b p_b0) 170 [.ptr 0 0,.b_ p_b] [.box 124 (.dat (aA.lf1 p_b0))] (fun _=>.tup []) (fun r=>[.box 124 (.dat (aA.lf1 r))]) := gX Tryz.func170 (by kernel_rfl) (fun _=>rfl) (by kernel_rfl)
def wW (p_v:ak) : (Int × (List ak)) → Mo ((Int × (List ak)) ⊕ ((List ak))) := fun (v0,l0) =>
 .say [.num p_v.bY.length] (ok1 (ln_ p_v.bY ak.lf)) <|
 .iB (decide ((v0:Int) < (p_v.bY.length:Int))) (.ask (bP p_v.bY v0) fun x0 h0 =>
 .say [.row (ak.lf1 x0),.rows ((l0 ++ [x0]).map ak.lf)] (okc (aX ak.aZ h0) (ok1 (ap_ ak.aZ l0 x0))) <|
 .grd ((l0.length + [x0].length) * 80 ≤ 140737488355328) fun h1 =>
 .say [] (ok1 (cp_ ak.lf h1)) <|
 .ret ⟨[],[1,3,4],[(3,1)],2⟩ (.inl (IntKind.wrap .i64 (v0 + 1),l0 ++ [x0]))) <|
 .rt [1,3] 2 (.inr (l0))
def Nj (p_v:ak) (v0:Int) (l0:List ak) : Option (((List ak))) := bM (fun v_=>(wW p_v v_).den) FU (v0,l0)
def Qw (p_v:ak) : (Int × (List ak)) → St := fun (v0,l0)=>⟨[(1,.ptr 0 0),(3,.own 1),(4,.i_ v0)],[.box 29 (.dat (ak.lf1 p_v)),.row 29 5 (l0.map ak.lf)]⟩
def wX (p_v:ak) (r_:((List ak))) : St := ⟨[(1,.ptr 0 0),(3,.own 1)],[.box 29 (.dat (ak.lf1 p_v)),.row 29 5 (r_.map ak.lf)]⟩
theorem acO {p_v:ak} {v0:Int} {l0:List ak} {r_:((List ak))} (h:Nj p_v v0 l0 = some r_) : fK Tryz.f288 0 [1,1,0,1,0,1,0] (.exit 0) (wX p_v r_) (Qw p_v (v0,l0)) :=
 dO dK (body := (Code.sub (bodyC Tryz.f288) [1,1,0,1,0,1,0,0])) (by kernel_rfl) (wW p_v) (Qw p_v) (fun _=>.exit 0) (wX p_v) (fun r_=>rfl) (fun v_=>by kernel_rfl) h
def Ej (p_v:ak) : Mo (((List ak))) :=
 .ite (p_v.aU == 6) (fun c0 =>
 .say [.br true] (okc c0 (ok1 (by simp [ak.aZ] : (([] : List ak).map ak.lf) = []))) <|
 .ask (Nj p_v 0 ([] : List ak)) fun r0 h0 =>
 .say [.part [.kE 1 (([] : List ak).map ak.lf)] 0 [1,3,4] 2 (.exit 0) (wX p_v r0).T (wX p_v r0).H] (ok1 (acO h0)) <|
 .rt [1,3] 2 (r0)) fun c0 =>
 .say [.br false] (okc c0 (ok1 (by simp [ak.aZ] : (([] : List ak).map ak.lf) = []))) <|
 .ret ⟨[.kE 1 (([] : List ak).map ak.lf)],[1,3],[],2⟩ (([] : List ak))
def WI (p_v:ak) : Option (((List ak))) := Mo.den (Ej p_v)
def wY (p_v:ak) (r_:((List ak))) : St := ⟨[(1,.ptr 0 0),(3,.own 1)],[.box 29 (.dat (ak.lf1 p_v)),.row 29 5 (r_.map ak.lf)]⟩
theorem acP {p_v:ak} {r_:((List ak))} (h:WI p_v = some r_) : fK Tryz.f288 0 [1,1,0,1] (.normal) (wY p_v r_) ⟨[(1,.ptr 0 0),(3,.own 1),(8,.lf (.bool (p_v.aU == 6)))],[.box 29 (.dat (ak.lf1 p_v)),.row 29 5 []]⟩ :=
 jh dK (Ej p_v) (fun _=>.normal) (wY p_v) (by kernel_rfl) h
def AU (p_v:ak) : (Int × (List ak)) → Mo ((Int × (List ak)) ⊕ ((List ak))) := fun (v0,l0) =>
 .say [.num p_v.bV.length] (ok1 (ln_ p_v.bV aT.lf)) <|
 .iB (decide ((v0:Int) < (p_v.bV.length:Int))) (.ask (bP p_v.bV v0) fun x0 h0 =>
 .say [.row (aT.lf1 x0),.rows ((l0 ++ [x0.fValue]).map ak.lf)] (okc (aX aT.aZ h0) (ok1 (ap_ ak.aZ l0 x0.fValue))) <|
 .grd ((l0.length + [x0.fValue].length) * 80 ≤ 140737488355328) fun h1 =>
 .say [] (ok1 (cp_ ak.lf h1)) <|
 .ret ⟨[],[1,3,5],[(3,1)],2⟩ (.inl (IntKind.wrap .i64 (v0 + 1),l0 ++ [x0.fValue]))) <|
 .ret ⟨[.kill 0],[3],[],2⟩ (.inr (l0))
def Nk (p_v:ak) (v0:Int) (l0:List ak) : Option (((List ak))) := bM (fun v_=>(AU p_v v_).den) FU (v0,l0)
def AX (p_v:ak) (r0:((List ak))) : Mo (((List ak))) :=
 .iB (p_v.aU == 5) (.lp Tryz.f288 0 [1,1,1,0,1,0,1,0] 0 [1,3,5] 2 (.exit 2) (fun r_=>⟨[(3,.own 1)],[.dead,.row 29 5 (r_.map ak.lf)]⟩) (Nk p_v 0 r0) (lW (fun (v0,l0)=>⟨[(1,.ptr 0 0),(3,.own 1),(5,.i_ v0)],[.box 29 (.dat (ak.lf1 p_v)),.row 29 5 (l0.map ak.lf)]⟩) (by kernel_rfl) rfl fun v_=>by kernel_rfl) fun r1 _ =>
 .rt [3] 2 (r1)) <|
 .ret ⟨[.kill 0],[3],[],2⟩ (r0)
def Nl (p_v:ak) (r0:((List ak))) : Option (((List ak))) := Mo.den (AX p_v r0)
def AY  (r_:((List ak))) : St := ⟨[(3,.own 1)],[.dead,.row 29 5 (r_.map ak.lf)]⟩
theorem aal {p_v:ak} {r0:((List ak))} {r_:((List ak))} (h:Nl p_v r0 = some r_) : fK Tryz.f288 0 [1,1,1,0,1] (.normal) (AY r_) ⟨[(1,.ptr 0 0),(3,.own 1),(26,.lf (.bool (p_v.aU == 5)))],[.box 29 (.dat (ak.lf1 p_v)),.row 29 5 (r0.map ak.lf)]⟩ :=
 jh dK (AX p_v r0) (fun _=>.normal) AY (by kernel_rfl) h
def aiY (p_v:ak) : Mo (List ak) :=
 .ask (WI p_v) fun r0 h0 =>
 .say [.part [.Hr 3 29 5] 1 [1,3,8] 2 (.normal) (wY p_v r0).T (wY p_v r0).H] (ok1 (acP h0)) <|
 .ask (Nl p_v r0) fun r1 h1 =>
 .say [.pt_ 1 [1,3,26] 2 (.normal) (AY r1),.at_ 0 0,.frz 1] (ok1 (aal h1)) <|
 .ret (bD 1) (r1)
def Q13 (p_v:ak) : Option (List ak) := Mo.den (aiY p_v)
theorem acQ (p_v:ak) : FV (Q13 p_v) 288 [.dat (ak.lf1 p_v)] (fun r=>.lf (.rows 5 (r.map ak.lf))) := bZ Tryz.func288 (by kernel_rfl) (fun _=>rfl) (by kernel_rfl)
structure RB3 where
 m1:(p_v:ak) → (p_most:Int) → Option (Int)
 ok1:∀ p_v p_most,FV (m1 p_v p_most) 237 [.dat (ak.lf1 p_v),.i_ p_most] (fun r=>.i_ r)
def Em (R_:RB3) (p_most:Int) (r0:List ak) : Mo (Bool) :=
 .ite (decide ((p_most:Int) < 2)) (fun c0 =>
 .say [.gd 6002 true] (ok1 c0) <|
 .rt [1,5,16] 1 (true)) fun c0 =>
 .say [.gd 6002 false,.num r0.length] (okc c0 (ok1 (ln_ r0 ak.lf))) <|
 .rt [1,5,16] 1 ((r0.length:Int) == 0)
def WJ (R_:RB3) (p_most:Int) (r0:List ak) : Option (Bool) := Mo.den (Em R_ p_most r0)
def wZ (p_most:Int) (r0:List ak) (r_:Bool) : St := ⟨[(1,.i_ p_most),(5,.lf (.rows 5 (r0.map ak.lf))),(16,.b_ r_)],[.dead]⟩
theorem acR {R_:RB3} {p_most:Int} {r0:List ak} {r_:Bool} (h:WJ R_ p_most r0 = some r_) : fK Tryz.f237 0 [1,1,0,0] (.normal) (wZ p_most r0 r_) ⟨[(1,.i_ p_most),(5,.lf (.rows 5 (r0.map ak.lf)))],[.dead]⟩ :=
 jh dK (Em R_ p_most r0) (fun _=>.normal) (wZ p_most r0) (by kernel_rfl) h
def En (R_:RB3) (p_most:Int) (r0:List ak) : (Int × Int) → Mo ((Int × Int) ⊕ (Int)) := fun (v0,v1) =>
 .say [.num r0.length] (ok1 (ln_ r0 ak.lf)) <|
 .iB (decide ((v1:Int) < (r0.length:Int))) (.ask (bP r0 v1) fun x0 h0 =>
 .say [.row (ak.lf1 x0)] (ok1 (aX ak.aZ h0)) <|
 .cl (R_.ok1 x0 (IntKind.wrap .i64 (p_most - 1))) fun r1 _ =>
 .rt [1,5,6,7] 1 (.inl ((if r1 > v0 then r1 else v0),IntKind.wrap .i64 (v1 + 1)))) <|
 .rt [6] 1 (.inr (v0))
def akn (R_:RB3) (p_most:Int) (r0:List ak) (v0:Int) (v1:Int) : Option (Int) := bM (fun v_=>(En R_ p_most r0 v_).den) FU (v0,v1)
def acS (R_:RB3) (p_v:ak) (p_most:Int) : Mo (Int) :=
 .cl (acQ p_v) fun r0 _ =>
 .ask (WJ R_ p_most r0) fun r1 h0 =>
 .say [.part [.kill 0] 11 [1,5] 1 (.normal) (wZ p_most r0 r1).T (wZ p_most r0 r1).H] (ok1 (acR h0)) <|
 .iB (r1) (.ret (bD 1) (1)) <|
 .lp Tryz.f237 0 [1,1,1,1,0,1,0] 0 [1,5,6,7] 1 (.exit 0) (fun r_=>⟨[(6,.i_ r_)],[.dead]⟩) (akn R_ p_most r0 0 0) (lW (fun (v0,v1)=>⟨[(1,.i_ p_most),(5,.lf (.rows 5 (r0.map ak.lf))),(6,.i_ v0),(7,.i_ v1)],[.dead]⟩) (by kernel_rfl) rfl fun v_=>by kernel_rfl) fun r2 _ =>
 .ret (bD 1) (IntKind.wrap .i64 (r2 + 1))
theorem agY (R_:RB3) (p_v:ak) (p_most:Int) : FV (Mo.den (acS R_ p_v p_most)) 237 [.dat (ak.lf1 p_v),.i_ p_most] (fun r=>.i_ r) := bZ Tryz.func237 (by kernel_rfl) (fun _=>rfl) (by kernel_rfl)
def I8:Nat → RB3
 | 0=>{ m1 := fun p_v p_most=>none,ok1 := fun _ _ _ h=>(by cases h) }
 | n_ + 1=>{ m1 := fun p_v p_most=>Mo.den (acS (I8 n_) p_v p_most),ok1 := agY (I8 n_) }
def Q52 (p_v:ak) (p_most:Int) : Option (Int) := (I8 FU).m1 p_v p_most
theorem ako (p_v:ak) (p_most:Int) : FV (Q52 p_v p_most) 237 [.dat (ak.lf1 p_v),.i_ p_most] (fun r=>.i_ r) := (I8 FU).ok1 p_v p_most
def acT (p_v:ak) : Mo (Int) :=
 .cl (ako p_v 17) fun r0 _ =>
 .ret (bD 1) (r0)
def akp (p_v:ak) : Option (Int) := Mo.den (acT p_v)
theorem agZ (p_v:ak) : FV (akp p_v) 196 [.dat (ak.lf1 p_v)] (fun r=>.i_ r) := bZ Tryz.func196 (by kernel_rfl) (fun _=>rfl) (by kernel_rfl)
structure RB4 where
 m1:(p_v:ak) → (p_most:Int) → Option (Int)
 ok1:∀ p_v p_most,FV (m1 p_v p_most) 238 [.dat (ak.lf1 p_v),.i_ p_most] (fun r=>.i_ r)
def Eo (R_:RB4) (p_most:Int) (r0:List ak) (v0:Int) (v1:Int) : Mo (Bool) :=
 .say [.num r0.length] (ok1 (ln_ r0 ak.lf)) <|
 .iG 10004 (decide ((v1:Int) < (r0.length:Int))) (.rt [1,5,6,7,18] 1 (decide ((v0:Int) < p_most))) <|
 .rt [1,5,6,7,18] 1 (false)
def xg (R_:RB4) (p_most:Int) (r0:List ak) : (Int × Int) → Mo ((Int × Int) ⊕ (Int)) := fun (v0,v1) =>
 .jp Tryz.f238 0 [1,1,1,0,1,0,0,0,0] 15 [1,5,6,7] 1 (.normal) (fun r_=>⟨[(1,.i_ p_most),(5,.i_ v0),(6,.lf (.rows 5 (r0.map ak.lf))),(7,.i_ v1),(18,.b_ r_)],[.dead]⟩) ⟨[(1,.i_ p_most),(5,.i_ v0),(6,.lf (.rows 5 (r0.map ak.lf))),(7,.i_ v1)],[.dead]⟩ (Eo R_ p_most r0 v0 v1).den (jW (by kernel_rfl)) fun r1 _ =>
 .iB (r1) (.ask (bP r0 v1) fun x0 h0 =>
 .say [.row (ak.lf1 x0)] (ok1 (aX ak.aZ h0)) <|
 .cl (R_.ok1 x0 (IntKind.wrap .i64 (p_most - v0))) fun r2 _ =>
 .rt [1,5,6,7] 1 (.inl (IntKind.wrap .i64 (v0 + r2),IntKind.wrap .i64 (v1 + 1)))) <|
 .rt [5] 1 (.inr (v0))
def acU (R_:RB4) (p_most:Int) (r0:List ak) (v0:Int) (v1:Int) : Option (Int) := bM (fun v_=>(xg R_ p_most r0 v_).den) FU (v0,v1)
def Qx (R_:RB4) (p_most:Int) (r0:List ak) : (Int × Int) → St := fun (v0,v1)=>⟨[(1,.i_ p_most),(5,.i_ v0),(6,.lf (.rows 5 (r0.map ak.lf))),(7,.i_ v1)],[.dead]⟩
def xk  (r_:Int) : St := ⟨[(5,.i_ r_)],[.dead]⟩
theorem acV {R_:RB4} {p_most:Int} {r0:List ak} {v0:Int} {v1:Int} {r_:Int} (h:acU R_ p_most r0 v0 v1 = some r_) : fK Tryz.f238 0 [1,1,1,0,1,0] (.exit 0) (xk r_) (Qx R_ p_most r0 (v0,v1)) :=
 dO dK (body := (Code.sub (bodyC Tryz.f238) [1,1,1,0,1,0,0])) (by kernel_rfl) (xg R_ p_most r0) (Qx R_ p_most r0) (fun _=>.exit 0) xk (fun r_=>rfl) (fun v_=>by kernel_rfl) h
def acW (R_:RB4) (p_v:ak) (p_most:Int) : Mo (Int) :=
 .cl (acQ p_v) fun r0 _ =>
 .ask (acU R_ p_most r0 1 0) fun r1 h0 =>
 .say [.part [.kill 0] 0 [1,5,6,7] 1 (.exit 0) (xk r1).T (xk r1).H] (ok1 (acV h0)) <|
 .ret (bD 1) (r1)
theorem ag0 (R_:RB4) (p_v:ak) (p_most:Int) : FV (Mo.den (acW R_ p_v p_most)) 238 [.dat (ak.lf1 p_v),.i_ p_most] (fun r=>.i_ r) := bZ Tryz.func238 (by kernel_rfl) (fun _=>rfl) (by kernel_rfl)
def I9:Nat → RB4
 | 0=>{ m1 := fun p_v p_most=>none,ok1 := fun _ _ _ h=>(by cases h) }
 | n_ + 1=>{ m1 := fun p_v p_most=>Mo.den (acW (I9 n_) p_v p_most),ok1 := ag0 (I9 n_) }
def Q53 (p_v:ak) (p_most:Int) : Option (Int) := (I9 FU).m1 p_v p_most
theorem akq (p_v:ak) (p_most:Int) : FV (Q53 p_v p_most) 238 [.dat (ak.lf1 p_v),.i_ p_most] (fun r=>.i_ r) := (I9 FU).ok1 p_v p_most
def acX (p_v:ak) : Mo (Int) :=
 .cl (akq p_v 1025) fun r0 _ =>
 .ret (bD 1) (r0)
def akr (p_v:ak) : Option (Int) := Mo.den (acX p_v)
theorem ag1 (p_v:ak) : FV (akr p_v) 197 [.dat (ak.lf1 p_v)] (fun r=>.i_ r) := bZ Tryz.func197 (by kernel_rfl) (fun _=>rfl) (by kernel_rfl)
def Qy (p_i:Int) (p_n:Int) (p_s:ByteArray) (v0:Int) : Mo (Bool) :=
 .ask (lZ p_s (IntKind.wrap .i64 (p_i + v0))) fun b0 h0 =>
 .say [.byt b0] (ok1 (iK h0)) <|
 .iG 14006 (decide (((b0.toNat:Int) : Int) < 128)) (.rt [0,1,2,7,32] 0 (true)) <|
 .ask (lZ p_s (IntKind.wrap .i64 (p_i + v0))) fun b1 h1 =>
 .say [.byt b1] (ok1 (iK h1)) <|
 .rt [0,1,2,7,32] 0 (decide ((191:Int) < (b1.toNat:Int)))
def xq (p_i:Int) (p_n:Int) (p_s:ByteArray) : (Int) → Mo ((Int) ⊕ (Unit ⊕ Unit)) := fun (v0) =>
 .iB (decide ((v0:Int) < p_n)) (.jp Tryz.f289 0 [1,1,0,1,0,0,1,0,0,0] 19 [0,1,2,7] 0 (.normal) (fun r_=>⟨[(0,.lf (.str p_s)),(1,.i_ p_i),(2,.i_ p_n),(7,.i_ v0),(32,.b_ r_)],[]⟩) ⟨[(0,.lf (.str p_s)),(1,.i_ p_i),(2,.i_ p_n),(7,.i_ v0)],[]⟩ (Qy p_i p_n p_s v0).den (jW (by kernel_rfl)) fun r0 _ =>
 .iB (r0) (.rt [6] 0 (.inr (.inl ()))) <|
 .rt [0,1,2,7] 0 (.inl (IntKind.wrap .i64 (v0 + 1)))) <|
 .rt [] 0 (.inr (.inr (())))
def acY (p_i:Int) (p_n:Int) (p_s:ByteArray) (v0:Int) : Option (Unit ⊕ Unit) := bM (fun v_=>(xq p_i p_n p_s v_).den) FU (v0)
def Qz (p_i:Int) (p_n:Int) (p_s:ByteArray) : (Int) → St := fun (v0)=>⟨[(0,.lf (.str p_s)),(1,.i_ p_i),(2,.i_ p_n),(7,.i_ v0)],[]⟩
def xu (r_:Unit ⊕ Unit) : Exit := match r_ with
 | .inl o_=>.ret
 | .inr (o_)=>.exit 0
def xw  (r_:Unit ⊕ Unit) : St := match r_ with
 | .inl o_=>⟨[(6,.b_ false)],[]⟩
 | .inr (o_)=>⟨[],[]⟩
theorem QA {p_i:Int} {p_n:Int} {p_s:ByteArray} {v0:Int} {r_:Unit ⊕ Unit} (h:acY p_i p_n p_s v0 = some r_) : fK Tryz.f289 0 [1,1,0,1,0] (xu r_) (xw r_) (Qz p_i p_n p_s (v0)) :=
 dO dK (body := (Code.sub (bodyC Tryz.f289) [1,1,0,1,0,0])) (by kernel_rfl) (xq p_i p_n p_s) (Qz p_i p_n p_s) xu xw (fun r_=>by rcases r_ with _ | _ <;> rfl) (fun v_=>by kernel_rfl) h
def aiZ (p_s:ByteArray) (p_i:Int) (p_n:Int) : Mo (Bool) :=
 .iB (decide (((p_s.size:Int) : Int) < (IntKind.wrap .i64 (p_i + p_n)))) (.ret (bD 1) (false)) <|
 .eU (acY p_i p_n p_s 0) (fun o0 h0 =>
 .say [.pt_ 0 [0,1,2,7] 0 (xu (.inl o0)) (xw (.inl o0))] (ok1 (QA h0)) <|
 .ret (bD 1) (false)) fun o1 h0 =>
 .say [.pt_ 0 [0,1,2,7] 0 (xu (.inr (o1))) (xw (.inr (o1)))] (ok1 (QA h0)) <|
 .ret (bD 1) (true)
def Q51 (p_s:ByteArray) (p_i:Int) (p_n:Int) : Option (Bool) := Mo.den (aiZ p_s p_i p_n)
theorem aks (p_s:ByteArray) (p_i:Int) (p_n:Int) : FV (Q51 p_s p_i p_n) 289 [.lf (.str p_s),.i_ p_i,.i_ p_n] (fun r=>.b_ r) := bZ Tryz.func289 (by kernel_rfl) (fun _=>rfl) (by kernel_rfl)
def Np (b0:UInt8) (p_s:ByteArray) (v0:Int) : Mo (Bool) :=
 .iG 16002 (decide ((194:Int) ≤ (b0.toNat:Int))) (.rt [0,3,4,16] 0 (decide (((b0.toNat:Int) : Int) ≤ 223))) <|
 .rt [0,3,4,16] 0 (false)
def Nq (b0:UInt8) (p_s:ByteArray) (v0:Int) : Mo (Bool) :=
 .iG 20002 (decide ((224:Int) ≤ (b0.toNat:Int))) (.rt [0,3,4,23] 0 (decide (((b0.toNat:Int) : Int) ≤ 239))) <|
 .rt [0,3,4,23] 0 (false)
def Ep (b0:UInt8) (p_s:ByteArray) (v0:Int) : Mo (Bool) :=
 .iG 24002 (decide ((240:Int) ≤ (b0.toNat:Int))) (.rt [0,3,4,30] 0 (decide (((b0.toNat:Int) : Int) ≤ 244))) <|
 .rt [0,3,4,30] 0 (false)
def xA (b0:UInt8) (p_s:ByteArray) (v0:Int) : Mo ((Int) ⊕ Unit) :=
 .iB (decide (((b0.toNat:Int) : Int) < 128)) (.rt [0,3,4,5] 0 (.inl (0))) <|
 .jp Tryz.f239 0 [1,0,1,0,0,1,0,1,1,0,0,1,1,0] 21 [0,3,4] 0 (.normal) (fun r_=>⟨[(0,.lf (.str p_s)),(3,.i_ v0),(4,.lf (.int .u8 (b0.toNat:Int))),(16,.b_ r_)],[]⟩) ⟨[(0,.lf (.str p_s)),(3,.i_ v0),(4,.lf (.int .u8 (b0.toNat:Int)))],[]⟩ (Np b0 p_s v0).den (jW (by kernel_rfl)) fun r0 _ =>
 .iB (r0) (.rt [0,3,4,5] 0 (.inl (1))) <|
 .jp Tryz.f239 0 [1,0,1,0,0,1,0,1,1,0,0,1,1,1,1,0] 25 [0,3,4] 0 (.normal) (fun r_=>⟨[(0,.lf (.str p_s)),(3,.i_ v0),(4,.lf (.int .u8 (b0.toNat:Int))),(23,.b_ r_)],[]⟩) ⟨[(0,.lf (.str p_s)),(3,.i_ v0),(4,.lf (.int .u8 (b0.toNat:Int)))],[]⟩ (Nq b0 p_s v0).den (jW (by kernel_rfl)) fun r1 _ =>
 .iB (r1) (.rt [0,3,4,5] 0 (.inl (2))) <|
 .jp Tryz.f239 0 [1,0,1,0,0,1,0,1,1,0,0,1,1,1,1,1,1,0] 29 [0,3,4] 0 (.normal) (fun r_=>⟨[(0,.lf (.str p_s)),(3,.i_ v0),(4,.lf (.int .u8 (b0.toNat:Int))),(30,.b_ r_)],[]⟩) ⟨[(0,.lf (.str p_s)),(3,.i_ v0),(4,.lf (.int .u8 (b0.toNat:Int)))],[]⟩ (Ep b0 p_s v0).den (jW (by kernel_rfl)) fun r2 _ =>
 .iB (r2) (.rt [0,3,4,5] 0 (.inl (3))) <|
 .rt [2] 0 (.inr (()))
def Nr (b0:UInt8) (p_s:ByteArray) (v0:Int) : Option ((Int) ⊕ Unit) := Mo.den (xA b0 p_s v0)
def xB (r_:(Int) ⊕ Unit) : Exit := match r_ with
 | .inl o_=>.normal
 | .inr (o_)=>.ret
def xC (b0:UInt8) (p_s:ByteArray) (v0:Int) (r_:(Int) ⊕ Unit) : St := match r_ with
 | .inl o_=>⟨[(0,.lf (.str p_s)),(3,.i_ v0),(4,.lf (.int .u8 (b0.toNat:Int))),(5,.i_ o_)],[]⟩
 | .inr (o_)=>⟨[(2,.b_ false)],[]⟩
theorem QB {b0:UInt8} {p_s:ByteArray} {v0:Int} {r_:(Int) ⊕ Unit} (h:Nr b0 p_s v0 = some r_) : fK Tryz.f239 0 [1,0,1,0,0,1,0,1,1,0] (xB r_) (xC b0 p_s v0 r_) ⟨[(0,.lf (.str p_s)),(3,.i_ v0),(4,.lf (.int .u8 (b0.toNat:Int))),(5,.i_ 0)],[]⟩ :=
 jh dK (xA b0 p_s v0) xB (xC b0 p_s v0) (by kernel_rfl) h
def Es (b0:UInt8) (o0:Int) (p_s:ByteArray) (v0:Int) : Mo (Bool) :=
 .iG 32002 ((b0.toNat:Int) == 224) (.ask (lZ p_s (IntKind.wrap .i64 (v0 + 1))) fun b1 h0 =>
 .say [.byt b1] (ok1 (iK h0)) <|
 .rt [0,3,4,5,51] 0 (decide (((b1.toNat:Int) : Int) < 160))) <|
 .rt [0,3,4,5,51] 0 (false)
def Et (b0:UInt8) (o0:Int) (p_s:ByteArray) (r0:Bool) (v0:Int) : Mo (Bool) :=
 .iG 32009 (r0) (.rt [0,3,4,5,62] 0 (true)) <|
 .iG 32012 ((b0.toNat:Int) == 237) (.ask (lZ p_s (IntKind.wrap .i64 (v0 + 1))) fun b1 h0 =>
 .say [.byt b1] (ok1 (iK h0)) <|
 .rt [0,3,4,5,62] 0 (decide ((159:Int) < (b1.toNat:Int)))) <|
 .rt [0,3,4,5,62] 0 (false)
def Eu (b0:UInt8) (o0:Int) (p_s:ByteArray) (r0:Bool) (v0:Int) : Mo (Bool) :=
 .iG 32020 (r0) (.rt [0,3,4,5,73] 0 (true)) <|
 .iG 32023 ((b0.toNat:Int) == 240) (.ask (lZ p_s (IntKind.wrap .i64 (v0 + 1))) fun b1 h0 =>
 .say [.byt b1] (ok1 (iK h0)) <|
 .rt [0,3,4,5,73] 0 (decide (((b1.toNat:Int) : Int) < 144))) <|
 .rt [0,3,4,5,73] 0 (false)
def Ew (b0:UInt8) (o0:Int) (p_s:ByteArray) (r0:Bool) (v0:Int) : Mo (Bool) :=
 .iG 32031 (r0) (.rt [0,3,5,84] 0 (true)) <|
 .iG 32034 ((b0.toNat:Int) == 244) (.ask (lZ p_s (IntKind.wrap .i64 (v0 + 1))) fun b1 h0 =>
 .say [.byt b1] (ok1 (iK h0)) <|
 .rt [0,3,5,84] 0 (decide ((143:Int) < (b1.toNat:Int)))) <|
 .rt [0,3,5,84] 0 (false)
def nM (p_s:ByteArray) : (Int) → Mo ((Int) ⊕ (Unit ⊕ Unit)) := fun (v0) =>
 .iB (decide ((v0:Int) < (p_s.size:Int))) (.ask (lZ p_s v0) fun b0 h0 =>
 .say [.byt b0] (ok1 (iK h0)) <|
 .eU (Nr b0 p_s v0) (fun o0 h1 =>
 .say [.pt_ 10 [0,3,4,5] 0 (xB (.inl o0)) (xC b0 p_s v0 (.inl o0))] (ok1 (QB h1)) <|
 .cl (aks p_s (IntKind.wrap .i64 (v0 + 1)) o0) fun r0 _ =>
 .iB (!r0) (.rt [2] 0 (.inr (.inl ()))) <|
 .sj Tryz.f239 0 [1,0,1,0,0,1,0,1,1,1,1,0,0] [0,1,2,3,4,5,6,7,8] 15 9 [0,3,4,5] 0 (fun r_=>⟨[(0,.lf (.str p_s)),(3,.i_ v0),(4,.lf (.int .u8 (b0.toNat:Int))),(5,.i_ o0),(51,.b_ r_)],[]⟩) ⟨[(0,.lf (.str p_s)),(3,.i_ v0),(4,.lf (.int .u8 (b0.toNat:Int))),(5,.i_ o0)],[]⟩ (Es b0 o0 p_s v0).den (sW (by kernel_rfl)) fun r1 _ =>
 .sj Tryz.f239 0 [1,0,1,0,0,1,0,1,1,1,1,0,0] [9,10,11,12,13,14,15,16,17,18,19] 15 11 [0,3,4,5,51] 0 (fun r_=>⟨[(0,.lf (.str p_s)),(3,.i_ v0),(4,.lf (.int .u8 (b0.toNat:Int))),(5,.i_ o0),(62,.b_ r_)],[]⟩) ⟨[(0,.lf (.str p_s)),(3,.i_ v0),(4,.lf (.int .u8 (b0.toNat:Int))),(5,.i_ o0),(51,.b_ r1)],[]⟩ (Et b0 o0 p_s r1 v0).den (sW (by kernel_rfl)) fun r2 _ =>
 .sj Tryz.f239 0 [1,0,1,0,0,1,0,1,1,1,1,0,0] [20,21,22,23,24,25,26,27,28,29,30] 15 11 [0,3,4,5,62] 0 (fun r_=>⟨[(0,.lf (.str p_s)),(3,.i_ v0),(4,.lf (.int .u8 (b0.toNat:Int))),(5,.i_ o0),(73,.b_ r_)],[]⟩) ⟨[(0,.lf (.str p_s)),(3,.i_ v0),(4,.lf (.int .u8 (b0.toNat:Int))),(5,.i_ o0),(62,.b_ r2)],[]⟩ (Eu b0 o0 p_s r2 v0).den (sW (by kernel_rfl)) fun r3 _ =>
 .sj Tryz.f239 0 [1,0,1,0,0,1,0,1,1,1,1,0,0] [31,32,33,34,35,36,37,38,39,40,41] 15 11 [0,3,4,5,73] 0 (fun r_=>⟨[(0,.lf (.str p_s)),(3,.i_ v0),(5,.i_ o0),(84,.b_ r_)],[]⟩) ⟨[(0,.lf (.str p_s)),(3,.i_ v0),(4,.lf (.int .u8 (b0.toNat:Int))),(5,.i_ o0),(73,.b_ r3)],[]⟩ (Ew b0 o0 p_s r3 v0).den (sW (by kernel_rfl)) fun r4 _ =>
 .iB (r4) (.rt [2] 0 (.inr (.inl ()))) <|
 .rt [0,3] 0 (.inl (IntKind.wrap .i64 ((IntKind.wrap .i64 (v0 + o0)) + 1)))) fun o1 h1 =>
 .say [.pt_ 10 [0,3,4,5] 0 (xB (.inr (o1))) (xC b0 p_s v0 (.inr (o1)))] (ok1 (QB h1)) <|
 .rt [2] 0 (.inr (.inl ()))) <|
 .rt [] 0 (.inr (.inr (())))
def Ns (p_s:ByteArray) (v0:Int) : Option (Unit ⊕ Unit) := bM (fun v_=>(nM p_s v_).den) FU (v0)
def QC (p_s:ByteArray) : (Int) → St := fun (v0)=>⟨[(0,.lf (.str p_s)),(3,.i_ v0)],[]⟩
def xE (r_:Unit ⊕ Unit) : Exit := match r_ with
 | .inl o_=>.ret
 | .inr (o_)=>.exit 0
def xG  (r_:Unit ⊕ Unit) : St := match r_ with
 | .inl o_=>⟨[(2,.b_ false)],[]⟩
 | .inr (o_)=>⟨[],[]⟩
theorem QD {p_s:ByteArray} {v0:Int} {r_:Unit ⊕ Unit} (h:Ns p_s v0 = some r_) : fK Tryz.f239 0 [1,0,1,0] (xE r_) (xG r_) (QC p_s (v0)) :=
 dO dK (body := (Code.sub (bodyC Tryz.f239) [1,0,1,0,0])) (by kernel_rfl) (nM p_s) (QC p_s) xE xG (fun r_=>by rcases r_ with _ | _ <;> rfl) (fun v_=>by kernel_rfl) h
def ag2 (p_s:ByteArray) : Mo (Bool) :=
 .eU (Ns p_s 0) (fun o0 h0 =>
 .say [.pt_ 0 [0,3] 0 (xE (.inl o0)) (xG (.inl o0))] (ok1 (QD h0)) <|
 .ret (bD 1) (false)) fun o1 h0 =>
 .say [.pt_ 0 [0,3] 0 (xE (.inr (o1))) (xG (.inr (o1)))] (ok1 (QD h0)) <|
 .ret (bD 1) (true)
def Q2 (p_s:ByteArray) : Option (Bool) := Mo.den (ag2 p_s)
theorem amJ (p_s:ByteArray) : FV (Q2 p_s) 239 [.lf (.str p_s)] (fun r=>.b_ r) := bZ Tryz.func239 (by kernel_rfl) (fun _=>rfl) (by kernel_rfl)
def acZ (p_s:ByteArray) : Mo (Bool) :=
 .iG 4003 (decide (((p_s.size:Int) : Int) < 1)) (.rt [0,11] 0 (true)) <|
 .rt [0,11] 0 (decide ((128:Int) < (p_s.size:Int)))
def ac0 (p_s:ByteArray) (v0:Int) : Mo (Bool) :=
 .ask (lZ p_s v0) fun b0 h0 =>
 .say [.byt b0] (ok1 (iK h0)) <|
 .iG 14004 (decide (((b0.toNat:Int) : Int) < 32)) (.rt [0,3,27] 0 (true)) <|
 .ask (lZ p_s v0) fun b1 h1 =>
 .say [.byt b1] (ok1 (iK h1)) <|
 .rt [0,3,27] 0 (decide ((126:Int) < (b1.toNat:Int)))
def Ja (p_s:ByteArray) : (Int) → Mo ((Int) ⊕ (Unit ⊕ Unit)) := fun (v0) =>
 .iB (decide ((v0:Int) < (p_s.size:Int))) (.jp Tryz.f290 0 [1,1,0,1,0,0,1,0,0,0] 19 [0,3] 0 (.normal) (fun r_=>⟨[(0,.lf (.str p_s)),(3,.i_ v0),(27,.b_ r_)],[]⟩) ⟨[(0,.lf (.str p_s)),(3,.i_ v0)],[]⟩ (ac0 p_s v0).den (jW (by kernel_rfl)) fun r0 _ =>
 .iB (r0) (.rt [2] 0 (.inr (.inl ()))) <|
 .rt [0,3] 0 (.inl (IntKind.wrap .i64 (v0 + 1)))) <|
 .rt [] 0 (.inr (.inr (())))
def YU (p_s:ByteArray) (v0:Int) : Option (Unit ⊕ Unit) := bM (fun v_=>(Ja p_s v_).den) FU (v0)
def Jb (p_s:ByteArray) : (Int) → St := fun (v0)=>⟨[(0,.lf (.str p_s)),(3,.i_ v0)],[]⟩
def sF (r_:Unit ⊕ Unit) : Exit := match r_ with
 | .inl o_=>.ret
 | .inr (o_)=>.exit 0
def sG  (r_:Unit ⊕ Unit) : St := match r_ with
 | .inl o_=>⟨[(2,.b_ false)],[]⟩
 | .inr (o_)=>⟨[],[]⟩
theorem Jc {p_s:ByteArray} {v0:Int} {r_:Unit ⊕ Unit} (h:YU p_s v0 = some r_) : fK Tryz.f290 0 [1,1,0,1,0] (sF r_) (sG r_) (Jb p_s (v0)) :=
 dO dK (body := (Code.sub (bodyC Tryz.f290) [1,1,0,1,0,0])) (by kernel_rfl) (Ja p_s) (Jb p_s) sF sG (fun r_=>by rcases r_ with _ | _ <;> rfl) (fun v_=>by kernel_rfl) h
def amK (p_s:ByteArray) : Mo (Bool) :=
 .jp Tryz.f290 0 [1,0,0] 9 [0] 0 (.normal) (fun r_=>⟨[(0,.lf (.str p_s)),(11,.b_ r_)],[]⟩) ⟨[(0,.lf (.str p_s))],[]⟩ (acZ p_s).den (jW (by kernel_rfl)) fun r0 _ =>
 .iB (r0) (.ret (bD 1) (false)) <|
 .eU (YU p_s 0) (fun o0 h0 =>
 .say [.pt_ 0 [0,3] 0 (sF (.inl o0)) (sG (.inl o0))] (ok1 (Jc h0)) <|
 .ret (bD 1) (false)) fun o1 h0 =>
 .say [.pt_ 0 [0,3] 0 (sF (.inr (o1))) (sG (.inr (o1)))] (ok1 (Jc h0)) <|
 .ret (bD 1) (true)
def Q57 (p_s:ByteArray) : Option (Bool) := Mo.den (amK p_s)
theorem akt (p_s:ByteArray) : FV (Q57 p_s) 290 [.lf (.str p_s)] (fun r=>.b_ r) := bZ Tryz.func290 (by kernel_rfl) (fun _=>rfl) (by kernel_rfl)
structure RB5 where
 m1:(p_v:ak) → (p_names:Bool) → Option (Bool)
 ok1:∀ p_v p_names,FV (m1 p_v p_names) 198 [.dat (ak.lf1 p_v),.b_ p_names] (fun r=>.b_ r)
 m2:(p_v:ak) → (p_names:Bool) → Option (Bool)
 ok2:∀ p_v p_names,FV (m2 p_v p_names) 240 [.dat (ak.lf1 p_v),.b_ p_names] (fun r=>.b_ r)
def YV (R_:RB5) (p_names:Bool) (p_v:ak) : Mo (Bool) :=
 .ite (p_v.aU != 6) (fun c0 =>
 .say [.gd 4003 true,.num p_v.bY.length] (okc c0 (ok1 (ln_ p_v.bY ak.lf))) <|
 .rt [1,2,16] 1 (decide ((0:Int) < (p_v.bY.length:Int)))) fun c0 =>
 .say [.gd 4003 false] (ok1 c0) <|
 .rt [1,2,16] 1 (false)
def YW (R_:RB5) (p_names:Bool) (p_v:ak) (r0:Bool) : Mo (Bool) :=
 .iG 4009 (r0) (.rt [1,2,27] 1 (true)) <|
 .ite (p_v.aU != 5) (fun c0 =>
 .say [.gd 4013 true,.num p_v.bV.length] (okc c0 (ok1 (ln_ p_v.bV aT.lf))) <|
 .rt [1,2,27] 1 (decide ((0:Int) < (p_v.bV.length:Int)))) fun c0 =>
 .say [.gd 4013 false] (ok1 c0) <|
 .rt [1,2,27] 1 (false)
def QE (R_:RB5) (p_names:Bool) (p_v:ak) : Mo (Bool) :=
 .iG 8003 (p_v.aU == 4) (.rt [1,2,35] 1 (true)) <|
 .rt [1,2,35] 1 (p_v.aU == 7)
def QF (R_:RB5) (p_names:Bool) (p_v:ak) (r0:Bool) : Mo (Bool) :=
 .iG 8008 (r0) (.rt [1,2,40] 1 (true)) <|
 .rt [1,2,40] 1 (p_v.aU == 8)
def QG (R_:RB5) (p_names:Bool) (p_v:ak) (r0:Bool) : Mo (Unit) :=
 .rt [1,2,5] 1 ()
def QH (R_:RB5) (p_names:Bool) (p_v:ak) (r0:Bool) : Mo (Bool) :=
 .iG 10003 (p_v.aU == 3) (.rt [1,2,5,48] 1 (true)) <|
 .rt [1,2,5,48] 1 (p_v.aU == 9)
def QI (R_:RB5) (p_names:Bool) (p_v:ak) (r0:Bool) (r1:Bool) : Mo (Bool) :=
 .iG 10008 (r1) (.rt [1,2,5,53] 1 (true)) <|
 .rt [1,2,5,53] 1 (p_v.aU == 10)
def QJ (R_:RB5) (p_names:Bool) (p_v:ak) (r0:Bool) (r1:Bool) : Mo (Unit) :=
 .rt [1,2,5,6] 1 ()
def QK (R_:RB5) (p_names:Bool) (p_v:ak) (r0:Bool) (r1:Bool) : Mo (Bool) :=
 .iG 12002 (!r0) (.rt [1,2,6,60] 1 (!decide ((p_v.fText:ByteArray) = (⟨#[]⟩ : ByteArray)))) <|
 .rt [1,2,6,60] 1 (false)
def QL (R_:RB5) (p_names:Bool) (p_v:ak) (r0:Bool) (r1:Bool) : Mo (Bool) :=
 .iG 12007 (r1) (.rt [1,2,69] 1 (true)) <|
 .iG 12010 (!r0) (.rt [1,2,69] 1 (p_v.jU != 0)) <|
 .rt [1,2,69] 1 (false)
def QM (R_:RB5) (p_names:Bool) (p_v:ak) (r0:Bool) : Mo (Bool) :=
 .iG 12016 (r0) (.rt [1,2,74] 1 (true)) <|
 .rt [1,2,74] 1 (decide ((p_v.aU:Int) < 1))
def QN (R_:RB5) (p_names:Bool) (p_v:ak) (r0:Bool) : Mo (Bool) :=
 .iG 12021 (r0) (.rt [1,2,79] 1 (true)) <|
 .rt [1,2,79] 1 (decide ((11:Int) < p_v.aU))
def QO (R_:RB5) (p_v:ak) : Mo (Bool) :=
 .iG 20003 (p_v.jU == 0) (.ret ⟨[.kill 0],[4],[],1⟩ (true)) <|
 .ret ⟨[.kill 0],[4],[],1⟩ (p_v.jU == 1)
def QS (R_:RB5) (p_v:ak) : Mo (Bool) :=
 .iG 28004 (decide (((p_v.fText.size:Int) : Int) ≤ 4096)) (.cl (amJ p_v.fText) fun r0 _ =>
 .ret ⟨[.kill 0],[4],[],1⟩ (r0)) <|
 .ret ⟨[.kill 0],[4],[],1⟩ (false)
def Ey (R_:RB5) (p_names:Bool) (p_v:ak) : (Int) → Mo ((Int) ⊕ (Unit ⊕ Unit)) := fun (v0) =>
 .say [.num p_v.bY.length] (ok1 (ln_ p_v.bY ak.lf)) <|
 .iB (decide ((v0:Int) < (p_v.bY.length:Int))) (.ask (bP p_v.bY v0) fun x0 h0 =>
 .say [.row (ak.lf1 x0)] (ok1 (aX ak.aZ h0)) <|
 .cl (R_.ok1 x0 p_names) fun r0 _ =>
 .iB (!r0) (.ret ⟨[.kill 0],[4],[],1⟩ (.inr (.inl ()))) <|
 .rt [1,2,7] 1 (.inl (IntKind.wrap .i64 (v0 + 1)))) <|
 .rt [1,2] 1 (.inr (.inr (())))
def WL (R_:RB5) (p_names:Bool) (p_v:ak) (v0:Int) : Option (Unit ⊕ Unit) := bM (fun v_=>(Ey R_ p_names p_v v_).den) FU (v0)
def QT (R_:RB5) (p_names:Bool) (p_v:ak) : (Int) → St := fun (v0)=>⟨[(1,.b_ p_names),(2,.ptr 0 0),(7,.i_ v0)],[.box 29 (.dat (ak.lf1 p_v))]⟩
def xH (r_:Unit ⊕ Unit) : Exit := match r_ with
 | .inl o_=>.ret
 | .inr (o_)=>.exit 1
def xI (p_names:Bool) (p_v:ak) (r_:Unit ⊕ Unit) : St := match r_ with
 | .inl o_=>⟨[(4,.b_ false)],[.dead]⟩
 | .inr (o_)=>⟨[(1,.b_ p_names),(2,.ptr 0 0)],[.box 29 (.dat (ak.lf1 p_v))]⟩
theorem QU {R_:RB5} {p_names:Bool} {p_v:ak} {v0:Int} {r_:Unit ⊕ Unit} (h:WL R_ p_names p_v v0 = some r_) : fK Tryz.f198 0 [1,1,1,1,1,1,0,1,0] (xH r_) (xI p_names p_v r_) (QT R_ p_names p_v (v0)) :=
 dO dK (body := (Code.sub (bodyC Tryz.f198) [1,1,1,1,1,1,0,1,0,0])) (by kernel_rfl) (Ey R_ p_names p_v) (QT R_ p_names p_v) xH (xI p_names p_v) (fun r_=>by rcases r_ with _ | _ <;> rfl) (fun v_=>by kernel_rfl) h
def aku (R_:RB5) (p_v:ak) (p_names:Bool) : Mo (Bool) :=
 .sj Tryz.f198 0 [1,0,0] [0,1,2,3,4,5,6,7,8] 1 9 [1,2] 1 (fun r_=>⟨[(1,.b_ p_names),(2,.ptr 0 0),(16,.b_ r_)],[.box 29 (.dat (ak.lf1 p_v))]⟩) ⟨[(1,.b_ p_names),(2,.ptr 0 0)],[.box 29 (.dat (ak.lf1 p_v))]⟩ (YV R_ p_names p_v).den (sW (by kernel_rfl)) fun r0 _ =>
 .sj Tryz.f198 0 [1,0,0] [9,10,11,12,13,14,15,16,17,18,19] 1 11 [1,2,16] 1 (fun r_=>⟨[(1,.b_ p_names),(2,.ptr 0 0),(27,.b_ r_)],[.box 29 (.dat (ak.lf1 p_v))]⟩) ⟨[(1,.b_ p_names),(2,.ptr 0 0),(16,.b_ r0)],[.box 29 (.dat (ak.lf1 p_v))]⟩ (YW R_ p_names p_v r0).den (sW (by kernel_rfl)) fun r1 _ =>
 .iB (r1) (.ret (bD 1) (false)) <|
 .sj Tryz.f198 0 [1,1,0] [0,1,2,3,4,5,6,7] 3 8 [1,2] 1 (fun r_=>⟨[(1,.b_ p_names),(2,.ptr 0 0),(35,.b_ r_)],[.box 29 (.dat (ak.lf1 p_v))]⟩) ⟨[(1,.b_ p_names),(2,.ptr 0 0)],[.box 29 (.dat (ak.lf1 p_v))]⟩ (QE R_ p_names p_v).den (sW (by kernel_rfl)) fun r2 _ =>
 .sj Tryz.f198 0 [1,1,0] [8,9,10,11,12] 3 5 [1,2,35] 1 (fun r_=>⟨[(1,.b_ p_names),(2,.ptr 0 0),(40,.b_ r_)],[.box 29 (.dat (ak.lf1 p_v))]⟩) ⟨[(1,.b_ p_names),(2,.ptr 0 0),(35,.b_ r2)],[.box 29 (.dat (ak.lf1 p_v))]⟩ (QF R_ p_names p_v r2).den (sW (by kernel_rfl)) fun r3 _ =>
 .sj Tryz.f198 0 [1,1,0] [13] 3 1 [1,2,40] 1 (fun r_=>⟨[(1,.b_ p_names),(2,.ptr 0 0),(5,.b_ r3)],[.box 29 (.dat (ak.lf1 p_v))]⟩) ⟨[(1,.b_ p_names),(2,.ptr 0 0),(40,.b_ r3)],[.box 29 (.dat (ak.lf1 p_v))]⟩ (QG R_ p_names p_v r3).den (sW (by kernel_rfl)) fun r4 _ =>
 .sj Tryz.f198 0 [1,1,1,0] [0,1,2,3,4,5,6,7] 4 8 [1,2,5] 1 (fun r_=>⟨[(1,.b_ p_names),(2,.ptr 0 0),(5,.b_ r3),(48,.b_ r_)],[.box 29 (.dat (ak.lf1 p_v))]⟩) ⟨[(1,.b_ p_names),(2,.ptr 0 0),(5,.b_ r3)],[.box 29 (.dat (ak.lf1 p_v))]⟩ (QH R_ p_names p_v r3).den (sW (by kernel_rfl)) fun r5 _ =>
 .sj Tryz.f198 0 [1,1,1,0] [8,9,10,11,12] 4 5 [1,2,5,48] 1 (fun r_=>⟨[(1,.b_ p_names),(2,.ptr 0 0),(5,.b_ r3),(53,.b_ r_)],[.box 29 (.dat (ak.lf1 p_v))]⟩) ⟨[(1,.b_ p_names),(2,.ptr 0 0),(5,.b_ r3),(48,.b_ r5)],[.box 29 (.dat (ak.lf1 p_v))]⟩ (QI R_ p_names p_v r3 r5).den (sW (by kernel_rfl)) fun r6 _ =>
 .sj Tryz.f198 0 [1,1,1,0] [13] 4 1 [1,2,5,53] 1 (fun r_=>⟨[(1,.b_ p_names),(2,.ptr 0 0),(5,.b_ r3),(6,.b_ r6)],[.box 29 (.dat (ak.lf1 p_v))]⟩) ⟨[(1,.b_ p_names),(2,.ptr 0 0),(5,.b_ r3),(53,.b_ r6)],[.box 29 (.dat (ak.lf1 p_v))]⟩ (QJ R_ p_names p_v r3 r6).den (sW (by kernel_rfl)) fun r7 _ =>
 .sj Tryz.f198 0 [1,1,1,1,0,0] [0,1,2,3,4,5,6] 5 7 [1,2,5,6] 1 (fun r_=>⟨[(1,.b_ p_names),(2,.ptr 0 0),(6,.b_ r6),(60,.b_ r_)],[.box 29 (.dat (ak.lf1 p_v))]⟩) ⟨[(1,.b_ p_names),(2,.ptr 0 0),(5,.b_ r3),(6,.b_ r6)],[.box 29 (.dat (ak.lf1 p_v))]⟩ (QK R_ p_names p_v r3 r6).den (sW (by kernel_rfl)) fun r8 _ =>
 .sj Tryz.f198 0 [1,1,1,1,0,0] [7,8,9,10,11,12,13,14,15] 5 9 [1,2,6,60] 1 (fun r_=>⟨[(1,.b_ p_names),(2,.ptr 0 0),(69,.b_ r_)],[.box 29 (.dat (ak.lf1 p_v))]⟩) ⟨[(1,.b_ p_names),(2,.ptr 0 0),(6,.b_ r6),(60,.b_ r8)],[.box 29 (.dat (ak.lf1 p_v))]⟩ (QL R_ p_names p_v r6 r8).den (sW (by kernel_rfl)) fun r9 _ =>
 .sj Tryz.f198 0 [1,1,1,1,0,0] [16,17,18,19,20] 5 5 [1,2,69] 1 (fun r_=>⟨[(1,.b_ p_names),(2,.ptr 0 0),(74,.b_ r_)],[.box 29 (.dat (ak.lf1 p_v))]⟩) ⟨[(1,.b_ p_names),(2,.ptr 0 0),(69,.b_ r9)],[.box 29 (.dat (ak.lf1 p_v))]⟩ (QM R_ p_names p_v r9).den (sW (by kernel_rfl)) fun r10 _ =>
 .sj Tryz.f198 0 [1,1,1,1,0,0] [21,22,23,24,25] 5 5 [1,2,74] 1 (fun r_=>⟨[(1,.b_ p_names),(2,.ptr 0 0),(79,.b_ r_)],[.box 29 (.dat (ak.lf1 p_v))]⟩) ⟨[(1,.b_ p_names),(2,.ptr 0 0),(74,.b_ r10)],[.box 29 (.dat (ak.lf1 p_v))]⟩ (QN R_ p_names p_v r10).den (sW (by kernel_rfl)) fun r11 _ =>
 .iB (r11) (.ret (bD 1) (false)) <|
 .iB (p_v.aU == 9) (.jp Tryz.f198 0 [1,1,1,1,1,0,1,0,1,0,0] 25 [2] 1 (.normal) (fun r_=>⟨[(4,.b_ r_)],[.dead]⟩) ⟨[(2,.ptr 0 0)],[.box 29 (.dat (ak.lf1 p_v))]⟩ (QO R_ p_v).den (jW (by kernel_rfl)) fun r12 _ =>
 .ret (bD 1) (r12)) <|
 .iB (p_v.aU == 10) (.ret (bD 1) (decide ((0:Int) ≤ p_v.jU))) <|
 .iB (p_v.aU == 4) (.jp Tryz.f198 0 [1,1,1,1,1,0,1,0,1,1,1,1,1,0,0] 33 [2] 1 (.normal) (fun r_=>⟨[(4,.b_ r_)],[.dead]⟩) ⟨[(2,.ptr 0 0)],[.box 29 (.dat (ak.lf1 p_v))]⟩ (QS R_ p_v).den (jW (by kernel_rfl)) fun r13 _ =>
 .ret (bD 1) (r13)) <|
 .iB (p_v.aU == 7) (.ret (bD 1) (decide (((p_v.fText.size:Int) : Int) ≤ 4096))) <|
 .iB (p_v.aU == 8) (.ret (bD 1) ((p_v.fText.size:Int) == 12)) <|
 .eU (WL R_ p_names p_v 0) (fun o0 h0 =>
 .say [.pt_ 0 [1,2,7] 1 (xH (.inl o0)) (xI p_names p_v (.inl o0))] (ok1 (QU h0)) <|
 .ret (bD 1) (false)) fun o1 h0 =>
 .say [.pt_ 0 [1,2,7] 1 (xH (.inr (o1))) (xI p_names p_v (.inr (o1)))] (ok1 (QU h0)) <|
 .cl (R_.ok2 p_v p_names) fun r14 _ =>
 .ret (bD 1) (r14)
theorem akv (R_:RB5) (p_v:ak) (p_names:Bool) : FV (Mo.den (aku R_ p_v p_names)) 198 [.dat (ak.lf1 p_v),.b_ p_names] (fun r=>.b_ r) := bZ Tryz.func198 (by kernel_rfl) (fun _=>rfl) (by kernel_rfl)
def QV (R_:RB5) (p_names:Bool) (p_v:ak) (v0:Int) (x0:aT) : Mo (Bool) :=
 .iG 12001 (p_names) (.cl (vJ x0.fName) fun r0 _ =>
 .rt [1,2,5,6,26] 2 (!r0)) <|
 .rt [1,2,5,6,26] 2 (false)
def QW (R_:RB5) (p_names:Bool) (p_v:ak) (r0:Bool) (v0:Int) (x0:aT) : Mo (Bool) :=
 .iG 12007 (r0) (.rt [1,2,5,6,36] 2 (true)) <|
 .iG 12010 (!p_names) (.cl (akt x0.fName) fun r1 _ =>
 .rt [1,2,5,6,36] 2 (!r1)) <|
 .rt [1,2,5,6,36] 2 (false)
def Jd (R_:RB5) (p_names:Bool) (p_v:ak) (r0:Bool) (v0:Int) (x0:aT) : Mo (Bool) :=
 .iG 12017 (r0) (.rt [1,2,5,6,43] 2 (true)) <|
 .cl (R_.ok1 x0.fValue p_names) fun r1 _ =>
 .rt [1,2,5,6,43] 2 (!r1)
def AZ (R_:RB5) (p_names:Bool) (p_v:ak) (v0:Int) (x0:aT) : (Int) → Mo ((Int) ⊕ (Unit ⊕ Unit)) := fun (v1) =>
 .ite (decide ((v1:Int) < v0)) (fun c0 =>
 .say [.br true,.order [(true,0),(true,1),(true,2),(true,3),(true,4),(true,5),(true,6),(true,7),(true,8)] none []] (ok1 c0) <|
 .ask (bP p_v.bV v1) fun x1 h0 =>
 .say [.row (aT.lf1 x1)] (ok1 (aX aT.aZ h0)) <|
 .iB (decide ((x1.fName:ByteArray) = (x0.fName:ByteArray))) (.ret ⟨[.kill 0,.kill 1],[4],[],2⟩ (.inr (.inl ()))) <|
 .rt [1,2,5,6,7] 2 (.inl (IntKind.wrap .i64 (v1 + 1)))) fun c0 =>
 .say [.br false] (ok1 c0) <|
 .ret ⟨[.kill 1],[1,2,5],[],2⟩ (.inr (.inr (())))
def Nu (R_:RB5) (p_names:Bool) (p_v:ak) (v0:Int) (x0:aT) (v1:Int) : Option (Unit ⊕ Unit) := bM (fun v_=>(AZ R_ p_names p_v v0 x0 v_).den) FU (v1)
def Je (R_:RB5) (p_names:Bool) (p_v:ak) (v0:Int) (x0:aT) : (Int) → St := fun (v1)=>⟨[(1,.b_ p_names),(2,.ptr 0 0),(5,.i_ v0),(6,.ptr 1 0),(7,.i_ v1)],[.box 29 (.dat (ak.lf1 p_v)),.box 174 (.agg ((aT.lf1 x0).map AV.lf))]⟩
def sH (r_:Unit ⊕ Unit) : Exit := match r_ with
 | .inl o_=>.ret
 | .inr (o_)=>.exit 2
def sJ (p_names:Bool) (p_v:ak) (v0:Int) (r_:Unit ⊕ Unit) : St := match r_ with
 | .inl o_=>⟨[(4,.b_ false)],[.dead,.dead]⟩
 | .inr (o_)=>⟨[(1,.b_ p_names),(2,.ptr 0 0),(5,.i_ v0)],[.box 29 (.dat (ak.lf1 p_v)),.dead]⟩
theorem Jf {R_:RB5} {p_names:Bool} {p_v:ak} {v0:Int} {x0:aT} {v1:Int} {r_:Unit ⊕ Unit} (h:Nu R_ p_names p_v v0 x0 v1 = some r_) : fK Tryz.f240 0 [1,0,1,0,0,1,0,0,1,1,1,0] (sH r_) (sJ p_names p_v v0 r_) (Je R_ p_names p_v v0 x0 (v1)) :=
 dO dK (body := (Code.sub (bodyC Tryz.f240) [1,0,1,0,0,1,0,0,1,1,1,0,0])) (by kernel_rfl) (AZ R_ p_names p_v v0 x0) (Je R_ p_names p_v v0 x0) sH (sJ p_names p_v v0) (fun r_=>by rcases r_ with _ | _ <;> rfl) (fun v_=>by kernel_rfl) h
def A8 (R_:RB5) (p_names:Bool) (p_v:ak) : (Int) → Mo ((Int) ⊕ (Unit ⊕ Unit)) := fun (v0) =>
 .say [.num p_v.bV.length] (ok1 (ln_ p_v.bV aT.lf)) <|
 .iB (decide ((v0:Int) < (p_v.bV.length:Int))) (.ask (bP p_v.bV v0) fun x0 h0 =>
 .say [.row (aT.lf1 x0)] (ok1 (aX aT.aZ h0)) <|
 .sj Tryz.f240 0 [1,0,1,0,0,1,0,0,1,0,0] [0,1,2,3,4,5,6] 5 7 [1,2,5,6] 2 (fun r_=>⟨[(1,.b_ p_names),(2,.ptr 0 0),(5,.i_ v0),(6,.ptr 1 0),(26,.b_ r_)],[.box 29 (.dat (ak.lf1 p_v)),.box 174 (.agg ((aT.lf1 x0).map AV.lf))]⟩) ⟨[(1,.b_ p_names),(2,.ptr 0 0),(5,.i_ v0),(6,.ptr 1 0)],[.box 29 (.dat (ak.lf1 p_v)),.box 174 (.agg ((aT.lf1 x0).map AV.lf))]⟩ (QV R_ p_names p_v v0 x0).den (sW (by kernel_rfl)) fun r0 _ =>
 .sj Tryz.f240 0 [1,0,1,0,0,1,0,0,1,0,0] [7,8,9,10,11,12,13,14,15,16] 5 10 [1,2,5,6,26] 2 (fun r_=>⟨[(1,.b_ p_names),(2,.ptr 0 0),(5,.i_ v0),(6,.ptr 1 0),(36,.b_ r_)],[.box 29 (.dat (ak.lf1 p_v)),.box 174 (.agg ((aT.lf1 x0).map AV.lf))]⟩) ⟨[(1,.b_ p_names),(2,.ptr 0 0),(5,.i_ v0),(6,.ptr 1 0),(26,.b_ r0)],[.box 29 (.dat (ak.lf1 p_v)),.box 174 (.agg ((aT.lf1 x0).map AV.lf))]⟩ (QW R_ p_names p_v r0 v0 x0).den (sW (by kernel_rfl)) fun r1 _ =>
 .sj Tryz.f240 0 [1,0,1,0,0,1,0,0,1,0,0] [17,18,19,20,21,22,23] 5 7 [1,2,5,6,36] 2 (fun r_=>⟨[(1,.b_ p_names),(2,.ptr 0 0),(5,.i_ v0),(6,.ptr 1 0),(43,.b_ r_)],[.box 29 (.dat (ak.lf1 p_v)),.box 174 (.agg ((aT.lf1 x0).map AV.lf))]⟩) ⟨[(1,.b_ p_names),(2,.ptr 0 0),(5,.i_ v0),(6,.ptr 1 0),(36,.b_ r1)],[.box 29 (.dat (ak.lf1 p_v)),.box 174 (.agg ((aT.lf1 x0).map AV.lf))]⟩ (Jd R_ p_names p_v r1 v0 x0).den (sW (by kernel_rfl)) fun r2 _ =>
 .iB (r2) (.ret ⟨[.kill 0],[4],[],1⟩ (.inr (.inl ()))) <|
 .eU (Nu R_ p_names p_v v0 x0 0) (fun o0 h1 =>
 .say [.pt_ 0 [1,2,5,6,7] 2 (sH (.inl o0)) (sJ p_names p_v v0 (.inl o0))] (ok1 (Jf h1)) <|
 .rt [4] 1 (.inr (.inl ()))) fun o1 h1 =>
 .say [.pt_ 0 [1,2,5,6,7] 2 (sH (.inr (o1))) (sJ p_names p_v v0 (.inr (o1)))] (ok1 (Jf h1)) <|
 .rt [1,2,5] 1 (.inl (IntKind.wrap .i64 (v0 + 1)))) <|
 .ret ⟨[.kill 0],[],[],1⟩ (.inr (.inr (())))
def Nv (R_:RB5) (p_names:Bool) (p_v:ak) (v0:Int) : Option (Unit ⊕ Unit) := bM (fun v_=>(A8 R_ p_names p_v v_).den) FU (v0)
def Jg (R_:RB5) (p_names:Bool) (p_v:ak) : (Int) → St := fun (v0)=>⟨[(1,.b_ p_names),(2,.ptr 0 0),(5,.i_ v0)],[.box 29 (.dat (ak.lf1 p_v))]⟩
def sK (r_:Unit ⊕ Unit) : Exit := match r_ with
 | .inl o_=>.ret
 | .inr (o_)=>.exit 0
def sO  (r_:Unit ⊕ Unit) : St := match r_ with
 | .inl o_=>⟨[(4,.b_ false)],[.dead]⟩
 | .inr (o_)=>⟨[],[.dead]⟩
theorem Jh {R_:RB5} {p_names:Bool} {p_v:ak} {v0:Int} {r_:Unit ⊕ Unit} (h:Nv R_ p_names p_v v0 = some r_) : fK Tryz.f240 0 [1,0,1,0] (sK r_) (sO r_) (Jg R_ p_names p_v (v0)) :=
 dO dK (body := (Code.sub (bodyC Tryz.f240) [1,0,1,0,0])) (by kernel_rfl) (A8 R_ p_names p_v) (Jg R_ p_names p_v) sK sO (fun r_=>by rcases r_ with _ | _ <;> rfl) (fun v_=>by kernel_rfl) h
def ac1 (R_:RB5) (p_v:ak) (p_names:Bool) : Mo (Bool) :=
 .eU (Nv R_ p_names p_v 0) (fun o0 h0 =>
 .say [.pt_ 0 [1,2,5] 1 (sK (.inl o0)) (sO (.inl o0))] (ok1 (Jh h0)) <|
 .ret (bD 1) (false)) fun o1 h0 =>
 .say [.pt_ 0 [1,2,5] 1 (sK (.inr (o1))) (sO (.inr (o1)))] (ok1 (Jh h0)) <|
 .ret (bD 1) (true)
theorem ag3 (R_:RB5) (p_v:ak) (p_names:Bool) : FV (Mo.den (ac1 R_ p_v p_names)) 240 [.dat (ak.lf1 p_v),.b_ p_names] (fun r=>.b_ r) := bZ Tryz.func240 (by kernel_rfl) (fun _=>rfl) (by kernel_rfl)
def qX:Nat → RB5
 | 0=>{ m1 := fun p_v p_names=>none,ok1 := fun _ _ _ h=>(by cases h),m2 := fun p_v p_names=>none,ok2 := fun _ _ _ h=>(by cases h) }
 | n_ + 1=>{ m1 := fun p_v p_names=>Mo.den (aku (qX n_) p_v p_names),ok1 := fun p_v p_names r h=>akv (qX n_) p_v p_names r h,m2 := fun p_v p_names=>Mo.den (ac1 (qX n_) p_v p_names),ok2 := ag3 (qX n_) }
def Q5 (p_v:ak) (p_names:Bool) : Option (Bool) := (qX FU).m1 p_v p_names
theorem amL (p_v:ak) (p_names:Bool) : FV (Q5 p_v p_names) 198 [.dat (ak.lf1 p_v),.b_ p_names] (fun r=>.b_ r) := (qX FU).ok1 p_v p_names
def Q11 (p_v:ak) (p_names:Bool) : Option (Bool) := (qX FU).m2 p_v p_names
def ac2 (p_v:ak) : Mo (Bool) :=
 .cl (agZ p_v) fun r0 _ =>
 .iG 4003 (decide ((r0:Int) ≤ 16)) (.cl (ag1 p_v) fun r1 _ =>
 .iG 4008 (decide ((r1:Int) ≤ 1024)) (.cl (amL p_v true) fun r2 _ =>
 .ret (bD 1) (r2)) <|
 .ret (bD 1) (false)) <|
 .ret (bD 1) (false)
def akw (p_v:ak) : Option (Bool) := Mo.den (ac2 p_v)
theorem oD (p_v:ak) : FV (akw p_v) 154 [.dat (ak.lf1 p_v)] (fun r=>.b_ r) := bZ Tryz.func154 (by kernel_rfl) (fun _=>rfl) (by kernel_rfl)
structure RB6 where
 m1:(p_v:ak) → Option (ByteArray)
 ok1:∀ p_v,FV (m1 p_v) 260 [.dat (ak.lf1 p_v)] (fun r=>.lf (.str r))
def QX (R_:RB6) (p_v:ak) : Mo (Bool) :=
 .iB (p_v.aU == 3) (.rt [1,3,12,13] 2 (p_v.aU == 3)) <|
 .rt [1,3,12,13] 2 (p_v.aU == 10)
def QY (R_:RB6) (p_v:ak) : Mo (Bool) :=
 .iB (p_v.aU == 4) (.rt [1,3,12,30] 2 (p_v.aU == 4)) <|
 .rt [1,3,12,30] 2 (p_v.aU == 7)
def Ba (R_:RB6) (p_v:ak) : (ByteArray × Int) → Mo ((ByteArray × Int) ⊕ (ByteArray)) := fun (v0,v1) =>
 .say [.num p_v.bY.length] (ok1 (ln_ p_v.bY ak.lf)) <|
 .iB (decide ((v1:Int) < (p_v.bY.length:Int))) (.ask (bP p_v.bY v1) fun x0 h0 =>
 .say [.row (ak.lf1 x0)] (ok1 (aX ak.aZ h0)) <|
 .cl (R_.ok1 x0) fun r0 _ =>
 .grd (v0.size + r0.size ≤ 9223372036854775807) fun h1 =>
 .say [] (ok1 h1) <|
 .rt [1,3,4] 2 (.inl (v0 ++ r0,IntKind.wrap .i64 (v1 + 1)))) <|
 .ret ⟨[.kill 0],[3],[],2⟩ (.inr (v0))
def YX (R_:RB6) (p_v:ak) (v0:ByteArray) (v1:Int) : Option (ByteArray) := bM (fun v_=>(Ba R_ p_v v_).den) FU (v0,v1)
def Bc (R_:RB6) (p_v:ak) : (ByteArray × Int) → Mo ((ByteArray × Int) ⊕ (ByteArray)) := fun (v0,v1) =>
 .say [.num p_v.bV.length] (ok1 (ln_ p_v.bV aT.lf)) <|
 .ite (decide ((v1:Int) < (p_v.bV.length:Int))) (fun c0 =>
 .say [.br true,.order [(true,0),(true,1),(true,2),(true,3),(true,4),(true,5),(true,6),(true,7),(true,10),(true,11),(true,12),(true,13),(true,14),(true,15),(true,17),(true,18),(true,19),(true,20),(true,21),(true,22),(false,8),(true,9),(true,16),(false,23),(true,24),(true,25)] none []] (ok1 c0) <|
 .ask (bP p_v.bV v1) fun x0 h0 =>
 .say [.row (aT.lf1 x0)] (ok1 (aX aT.aZ h0)) <|
 .ask (bP p_v.bV v1) fun x1 h1 =>
 .say [.row (aT.lf1 x1)] (ok1 (aX aT.aZ h1)) <|
 .ask (bP p_v.bV v1) fun x2 h2 =>
 .say [.row (aT.lf1 x2)] (ok1 (aX aT.aZ h2)) <|
 .cl (AQ (x0.fName.size:Int)) fun r0 _ =>
 .grd (v0.size + r0.size ≤ 9223372036854775807) fun h3 =>
 .say [] (ok1 h3) <|
 .grd ((v0 ++ r0).size + x1.fName.size ≤ 9223372036854775807) fun h4 =>
 .say [] (ok1 h4) <|
 .cl (R_.ok1 x2.fValue) fun r1 _ =>
 .grd (((v0 ++ r0) ++ x1.fName).size + r1.size ≤ 9223372036854775807) fun h5 =>
 .say [] (ok1 h5) <|
 .rt [1,3,5] 2 (.inl (((v0 ++ r0) ++ x1.fName) ++ r1,IntKind.wrap .i64 (v1 + 1)))) fun c0 =>
 .say [.br false] (ok1 c0) <|
 .ret ⟨[.kill 0],[3],[],2⟩ (.inr (v0))
def YZ (R_:RB6) (p_v:ak) (v0:ByteArray) (v1:Int) : Option (ByteArray) := bM (fun v_=>(Bc R_ p_v v_).den) FU (v0,v1)
def Bd (R_:RB6) (p_v:ak) : Mo (ByteArray) :=
 .jp Tryz.f260 0 [1,1,0,1,0,0,1] 1 [1,3,12,13] 2 (.normal) (fun r_=>⟨[(1,.ptr 0 0),(3,.lf (.str (strOfNums [IntKind.wrap .u8 p_v.aU]))),(12,.i_ p_v.aU),(13,.b_ r_)],[.box 29 (.dat (ak.lf1 p_v)),.dead]⟩) ⟨[(1,.ptr 0 0),(3,.lf (.str (strOfNums [IntKind.wrap .u8 p_v.aU]))),(12,.i_ p_v.aU),(13,.lf (.bool (p_v.aU == 3)))],[.box 29 (.dat (ak.lf1 p_v)),.dead]⟩ (QX R_ p_v).den (jW (by kernel_rfl)) fun r0 _ =>
 .iB (r0) (.cl (AQ p_v.jU) fun r1 _ =>
 .grd ((strOfNums [IntKind.wrap .u8 p_v.aU]).size + r1.size ≤ 9223372036854775807) fun h0 =>
 .say [] (ok1 h0) <|
 .ret ⟨[.kill 0],[3],[],2⟩ ((strOfNums [IntKind.wrap .u8 p_v.aU]) ++ r1)) <|
 .ite (p_v.aU == 9) (fun c0 =>
 .say [.br true,.nums [IntKind.wrap .u8 p_v.jU]] (okc c0 (ok1 (by simp [lfI,lfK] : [(lfK .u8 (IntKind.wrap .u8 p_v.jU))] = [IntKind.wrap .u8 p_v.jU].map fun n=>[Lf.int .u8 n]))) <|
 .grd ((strOfNums [IntKind.wrap .u8 p_v.aU]).size + (strOfNums [IntKind.wrap .u8 p_v.jU]).size ≤ 9223372036854775807) fun h1 =>
 .say [] (ok1 h1) <|
 .ret ⟨[.kill 0],[3],[],2⟩ ((strOfNums [IntKind.wrap .u8 p_v.aU]) ++ (strOfNums [IntKind.wrap .u8 p_v.jU]))) fun c0 =>
 .say [.br false] (ok1 c0) <|
 .jp Tryz.f260 0 [1,1,0,1,0,1,1,1,1,0,1] 1 [1,3,12,30] 2 (.normal) (fun r_=>⟨[(1,.ptr 0 0),(3,.lf (.str (strOfNums [IntKind.wrap .u8 p_v.aU]))),(12,.i_ p_v.aU),(30,.b_ r_)],[.box 29 (.dat (ak.lf1 p_v)),.dead]⟩) ⟨[(1,.ptr 0 0),(3,.lf (.str (strOfNums [IntKind.wrap .u8 p_v.aU]))),(12,.i_ p_v.aU),(30,.lf (.bool (p_v.aU == 4)))],[.box 29 (.dat (ak.lf1 p_v)),.dead]⟩ (QY R_ p_v).den (jW (by kernel_rfl)) fun r2 _ =>
 .ite (r2) (fun c1 =>
 .say [.br true,.order [(true,0),(true,1),(true,2),(true,3),(true,6),(true,7),(false,4),(true,5),(true,8),(true,9)] none []] (ok1 c1) <|
 .cl (AQ (p_v.fText.size:Int)) fun r3 _ =>
 .grd ((strOfNums [IntKind.wrap .u8 p_v.aU]).size + r3.size ≤ 9223372036854775807) fun h2 =>
 .say [] (ok1 h2) <|
 .grd (((strOfNums [IntKind.wrap .u8 p_v.aU]) ++ r3).size + p_v.fText.size ≤ 9223372036854775807) fun h3 =>
 .say [] (ok1 h3) <|
 .ret ⟨[.kill 0],[3],[],2⟩ (((strOfNums [IntKind.wrap .u8 p_v.aU]) ++ r3) ++ p_v.fText)) fun c1 =>
 .say [.br false] (ok1 c1) <|
 .iB (p_v.aU == 8) (.grd ((strOfNums [IntKind.wrap .u8 p_v.aU]).size + p_v.fText.size ≤ 9223372036854775807) fun h4 =>
 .say [] (ok1 h4) <|
 .ret ⟨[.kill 0],[3],[],2⟩ ((strOfNums [IntKind.wrap .u8 p_v.aU]) ++ p_v.fText)) <|
 .ite (p_v.aU == 6) (fun c2 =>
 .say [.br true,.num p_v.bY.length] (okc c2 (ok1 (ln_ p_v.bY ak.lf))) <|
 .cl (AQ (p_v.bY.length:Int)) fun r4 _ =>
 .grd ((strOfNums [IntKind.wrap .u8 p_v.aU]).size + r4.size ≤ 9223372036854775807) fun h5 =>
 .say [] (ok1 h5) <|
 .lp Tryz.f260 0 [1,1,0,1,0,1,1,1,1,1,1,1,1,1,0,1,1,0] 0 [1,3,4] 2 (.exit 1) (fun r_=>⟨[(3,.lf (.str r_))],[.dead,.dead]⟩) (YX R_ p_v ((strOfNums [IntKind.wrap .u8 p_v.aU]) ++ r4) 0) (lW (fun (v0,v1)=>⟨[(1,.ptr 0 0),(3,.lf (.str v0)),(4,.i_ v1)],[.box 29 (.dat (ak.lf1 p_v)),.dead]⟩) (by kernel_rfl) rfl fun v_=>by kernel_rfl) fun r5 _ =>
 .rt [3] 2 (r5)) fun c2 =>
 .say [.br false] (ok1 c2) <|
 .ite (p_v.aU == 5) (fun c3 =>
 .say [.br true,.num p_v.bV.length] (okc c3 (ok1 (ln_ p_v.bV aT.lf))) <|
 .cl (AQ (p_v.bV.length:Int)) fun r6 _ =>
 .grd ((strOfNums [IntKind.wrap .u8 p_v.aU]).size + r6.size ≤ 9223372036854775807) fun h6 =>
 .say [] (ok1 h6) <|
 .lp Tryz.f260 0 [1,1,0,1,0,1,1,1,1,1,1,1,1,1,1,1,0,1,1,0] 0 [1,3,5] 2 (.exit 3) (fun r_=>⟨[(3,.lf (.str r_))],[.dead,.dead]⟩) (YZ R_ p_v ((strOfNums [IntKind.wrap .u8 p_v.aU]) ++ r6) 0) (lW (fun (v2,v3)=>⟨[(1,.ptr 0 0),(3,.lf (.str v2)),(5,.i_ v3)],[.box 29 (.dat (ak.lf1 p_v)),.dead]⟩) (by kernel_rfl) rfl fun v_=>by kernel_rfl) fun r7 _ =>
 .rt [3] 2 (r7)) fun c3 =>
 .say [.br false] (ok1 c3) <|
 .ret ⟨[.kill 0],[3],[],2⟩ (strOfNums [IntKind.wrap .u8 p_v.aU])
def Nw (R_:RB6) (p_v:ak) : Option (ByteArray) := Mo.den (Bd R_ p_v)
def sQ  (r_:ByteArray) : St := ⟨[(3,.lf (.str r_))],[.dead,.dead]⟩
theorem aam {R_:RB6} {p_v:ak} {r_:ByteArray} (h:Nw R_ p_v = some r_) : fK Tryz.f260 0 [1,1,0,1] (.normal) (sQ r_) ⟨[(1,.ptr 0 0),(3,.lf (.str (strOfNums [IntKind.wrap .u8 p_v.aU]))),(12,.i_ p_v.aU)],[.box 29 (.dat (ak.lf1 p_v)),.dead]⟩ :=
 jh dK (Bd R_ p_v) (fun _=>.normal) sQ (by kernel_rfl) h
def ac3 (R_:RB6) (p_v:ak) : Mo (ByteArray) :=
 .say [.nums [IntKind.wrap .u8 p_v.aU]] (ok1 (by simp [lfI,lfK] : [(lfK .u8 (IntKind.wrap .u8 p_v.aU))] = [IntKind.wrap .u8 p_v.aU].map fun n=>[Lf.int .u8 n])) <|
 .ask (Nw R_ p_v) fun r0 h0 =>
 .say [.part [.kill 1] 6 [1,3,12] 2 (.normal) (sQ r0).T (sQ r0).H] (ok1 (aam h0)) <|
 .ret (bD 1) (r0)
theorem ag4 (R_:RB6) (p_v:ak) : FV (Mo.den (ac3 R_ p_v)) 260 [.dat (ak.lf1 p_v)] (fun r=>.lf (.str r)) := bZ Tryz.func260 (by kernel_rfl) (fun _=>rfl) (by kernel_rfl)
def Cc:Nat → RB6
 | 0=>{ m1 := fun p_v=>none,ok1 := fun _ _ h=>(by cases h) }
 | n_ + 1=>{ m1 := fun p_v=>Mo.den (ac3 (Cc n_) p_v),ok1 := ag4 (Cc n_) }
def Q24 (p_v:ak) : Option (ByteArray) := (Cc FU).m1 p_v
theorem akx (p_v:ak) : FV (Q24 p_v) 260 [.dat (ak.lf1 p_v)] (fun r=>.lf (.str r)) := (Cc FU).ok1 p_v
def ac4 (p_v:ak) : Mo (ByteArray × Int) :=
 .cl (oD p_v) fun r0 _ =>
 .iB (!r0) (.ret (bD 2) (⟨#[]⟩,8)) <|
 .cl (akx p_v) fun r1 _ =>
 .ret (bD 2) (r1,0)
def aky (p_v:ak) : Option (ByteArray × Int) := Mo.den (ac4 p_v)
theorem Y0 (p_v:ak) : FV (aky p_v) 214 [.dat (ak.lf1 p_v)] (fun r=>.tup [.lf (.str r.1),.i_ r.2]) := bZ Tryz.func214 (by kernel_rfl) (fun _=>rfl) (by kernel_rfl)
structure RB2 where
 m1:(p_v:ak) → (p_b0:aA) → Option (aA)
 ok1:∀ p_v p_b0,FH (m1 p_v p_b0) 167 [.ptr 0 0,.dat (ak.lf1 p_v)] [.box 124 (.dat (aA.lf1 p_b0))] (fun _=>.tup []) (fun r=>[.box 124 (.dat (aA.lf1 r))])
 m2:(p_l:List ak) → (p_b0:aA) → Option (aA)
 ok2:∀ p_l p_b0,FH (m2 p_l p_b0) 213 [.ptr 0 0,.lf (.rows 5 (p_l.map ak.lf))] [.box 124 (.dat (aA.lf1 p_b0))] (fun _=>.tup []) (fun r=>[.box 124 (.dat (aA.lf1 r))])
def Ez (R_:RB2) (p_v:ak) : (Int × aA) → Mo ((Int × aA) ⊕ (aA)) := fun (v0,s1155) =>
 .say [.num p_v.bV.length] (ok1 (ln_ p_v.bV aT.lf)) <|
 .iB (decide ((v0:Int) < (p_v.bV.length:Int))) (.ask (bP p_v.bV v0) fun x0 h0 =>
 .say [.row (aT.lf1 x0)] (ok1 (aX aT.aZ h0)) <|
 .cH [0] (oO x0.fName s1155) fun r0 _ =>
 .ask (bP p_v.bV v0) fun x1 h1 =>
 .say [.row (aT.lf1 x1)] (ok1 (aX aT.aZ h1)) <|
 .cH [0] (R_.ok1 x1.fValue r0) fun r1 _ =>
 .rt [0,3,4] 2 (.inl (IntKind.wrap .i64 (v0 + 1),r1))) <|
 .ret ⟨[.kill 1],[],[],2⟩ (.inr (s1155))
def WM (R_:RB2) (p_v:ak) (v0:Int) (s1155:aA) : Option (aA) := bM (fun v_=>(Ez R_ p_v v_).den) FU (v0,s1155)
def QZ (R_:RB2) (p_b0:aA) (r0:ByteArray × Int) : Mo (aA) :=
 .iG 32005 (p_b0.CQ) (.rt [0,5] 2 (aA.mk p_b0.fS true p_b0.qA)) <|
 .rt [0,5] 2 (aA.mk p_b0.fS (r0.2 != 0) p_b0.qA)
def ac5 (R_:RB2) (p_b0:aA) (r0:ByteArray × Int) : Option (aA) := Mo.den (QZ R_ p_b0 r0)
def xJ (r0:ByteArray × Int) (r_:aA) : St := ⟨[(0,.ptr 0 0),(5,.lf (.str r0.1))],[.box 124 (.dat (aA.lf1 r_)),.dead]⟩
theorem ac6 {R_:RB2} {p_b0:aA} {r0:ByteArray × Int} {r_:aA} (h:ac5 R_ p_b0 r0 = some r_) : fK Tryz.f167 1 [1,1,1,1,0] (.normal) (xJ r0 r_) ⟨[(0,.ptr 0 0),(5,.lf (.str r0.1)),(6,.i_ r0.2)],[.box 124 (.dat (aA.lf1 p_b0)),.dead]⟩ :=
 jh dK (QZ R_ p_b0 r0) (fun _=>.normal) (xJ r0) (by kernel_rfl) h
def ac7 (R_:RB2) (p_v:ak) (p_b0:aA) : Mo (aA) :=
 .iB (p_b0.qA) (.cH [0] (fD p_v.aU p_b0) fun r0 _ =>
 .cH [0] (fD p_v.jU r0) fun r1 _ =>
 .cH [0] (oO p_v.fText r1) fun r2 _ =>
 .ask (R_.m2 p_v.bY r2) fun r3 h0 =>
 .say [.ji [0] (.tup []) [.box 124 (.dat (aA.lf1 r3))],.num p_v.bV.length] (okc (R_.ok2 _ _ _ h0) (ok1 (ln_ p_v.bV aT.lf))) <|
 .cH [0] (fD (p_v.bV.length:Int) r3) fun r4 _ =>
 .lp Tryz.f167 1 [1,0,1,0,1,1,1,1,1,0,1,0] 0 [0,3,4] 2 (.exit 0) (fun r_=>⟨[],[.box 124 (.dat (aA.lf1 r_)),.dead]⟩) (WM R_ p_v 0 r4) (lW (fun (v0,s1155)=>⟨[(0,.ptr 0 0),(3,.ptr 1 0),(4,.i_ v0)],[.box 124 (.dat (aA.lf1 s1155)),.box 29 (.dat (ak.lf1 p_v))]⟩) (by kernel_rfl) rfl fun v_=>by kernel_rfl) fun r5 _ =>
 .rt [] 1 (r5)) <|
 .cl (vK p_v) fun r6 _ =>
 .iB (r6) (.grd (p_b0.fS.size + (⟨#[0]⟩ : ByteArray).size ≤ 9223372036854775807) fun h1 =>
 .say [] (ok1 h1) <|
 .ret ⟨[.kill 1],[],[],1⟩ (aA.mk (p_b0.fS ++ ⟨#[0]⟩) p_b0.CQ p_b0.qA)) <|
 .cl (Y0 p_v) fun r7 _ =>
 .ask (ac5 R_ p_b0 r7) fun r8 h2 =>
 .say [.part [.kill 1] 37 [0,5,6] 2 (.normal) (xJ r7 r8).T (xJ r7 r8).H] (ok1 (ac6 h2)) <|
 .grd ((⟨#[1]⟩ : ByteArray).size + r7.1.size ≤ 9223372036854775807) fun h3 =>
 .say [] (ok1 h3) <|
 .grd (r8.fS.size + ((⟨#[1]⟩ : ByteArray) ++ r7.1).size ≤ 9223372036854775807) fun h4 =>
 .say [] (ok1 h4) <|
 .rt [] 1 (aA.mk (r8.fS ++ ((⟨#[1]⟩ : ByteArray) ++ r7.1)) r8.CQ r8.qA)
theorem ag5 (R_:RB2) (p_v:ak) (p_b0:aA) : FH (Mo.den (ac7 R_ p_v p_b0)) 167 [.ptr 0 0,.dat (ak.lf1 p_v)] [.box 124 (.dat (aA.lf1 p_b0))] (fun _=>.tup []) (fun r=>[.box 124 (.dat (aA.lf1 r))]) := gX Tryz.func167 (by kernel_rfl) (fun _=>rfl) (by kernel_rfl)
def EC (R_:RB2) (p_l:List ak) : (Int × aA) → Mo ((Int × aA) ⊕ (aA)) := fun (v0,s2580) =>
 .say [.num p_l.length] (ok1 (ln_ p_l ak.lf)) <|
 .iB (decide ((v0:Int) < (p_l.length:Int))) (.ask (bP p_l v0) fun x0 h0 =>
 .say [.row (ak.lf1 x0)] (ok1 (aX ak.aZ h0)) <|
 .cH [0] (R_.ok1 x0 s2580) fun r0 _ =>
 .rt [0,1,4] 1 (.inl (IntKind.wrap .i64 (v0 + 1),r0))) <|
 .rt [] 1 (.inr (s2580))
def WO (R_:RB2) (p_l:List ak) (v0:Int) (s2580:aA) : Option (aA) := bM (fun v_=>(EC R_ p_l v_).den) FU (v0,s2580)
def ac8 (R_:RB2) (p_l:List ak) (p_b0:aA) : Mo (aA) :=
 .say [.num p_l.length] (ok1 (ln_ p_l ak.lf)) <|
 .cH [0] (fD (p_l.length:Int) p_b0) fun r0 _ =>
 .lp Tryz.f213 1 [1,1,0] 0 [0,1,4] 1 (.exit 0) (fun r_=>⟨[],[.box 124 (.dat (aA.lf1 r_))]⟩) (WO R_ p_l 0 r0) (lW (fun (v0,s2580)=>⟨[(0,.ptr 0 0),(1,.lf (.rows 5 (p_l.map ak.lf))),(4,.i_ v0)],[.box 124 (.dat (aA.lf1 s2580))]⟩) (by kernel_rfl) rfl fun v_=>by kernel_rfl) fun r1 _ =>
 .rt [] 1 (r1)
theorem ag6 (R_:RB2) (p_l:List ak) (p_b0:aA) : FH (Mo.den (ac8 R_ p_l p_b0)) 213 [.ptr 0 0,.lf (.rows 5 (p_l.map ak.lf))] [.box 124 (.dat (aA.lf1 p_b0))] (fun _=>.tup []) (fun r=>[.box 124 (.dat (aA.lf1 r))]) := gX Tryz.func213 (by kernel_rfl) (fun _=>rfl) (by kernel_rfl)
def mO:Nat → RB2
 | 0=>{ m1 := fun p_v p_b0=>none,ok1 := fun _ _ _ h=>(by cases h),m2 := fun p_l p_b0=>none,ok2 := fun _ _ _ h=>(by cases h) }
 | n_ + 1=>{ m1 := fun p_v p_b0=>Mo.den (ac7 (mO n_) p_v p_b0),ok1 := fun p_v p_b0 r h=>ag5 (mO n_) p_v p_b0 r h,m2 := fun p_l p_b0=>Mo.den (ac8 (mO n_) p_l p_b0),ok2 := ag6 (mO n_) }
def Q31 (p_v:ak) (p_b0:aA) : Option (aA) := (mO FU).m1 p_v p_b0
theorem vM (p_v:ak) (p_b0:aA) : FH (Q31 p_v p_b0) 167 [.ptr 0 0,.dat (ak.lf1 p_v)] [.box 124 (.dat (aA.lf1 p_b0))] (fun _=>.tup []) (fun r=>[.box 124 (.dat (aA.lf1 r))]) := (mO FU).ok1 p_v p_b0
def Q74 (p_l:List ak) (p_b0:aA) : Option (aA) := (mO FU).m2 p_l p_b0
theorem ac9 (p_l:List ak) (p_b0:aA) : FH (Q74 p_l p_b0) 213 [.ptr 0 0,.lf (.rows 5 (p_l.map ak.lf))] [.box 124 (.dat (aA.lf1 p_b0))] (fun _=>.tup []) (fun r=>[.box 124 (.dat (aA.lf1 r))]) := (mO FU).ok2 p_l p_b0
def ED (p_s:cZ) : (Int × aA) → Mo ((Int × aA) ⊕ (aA)) := fun (v0,s2663) =>
 .say [.num p_s.cu.length] (ok1 (ln_ p_s.cu dH.lf)) <|
 .iB (decide ((v0:Int) < (p_s.cu.length:Int))) (.ask (bP p_s.cu v0) fun x0 h0 =>
 .say [.row (dH.lf1 x0)] (ok1 (aX dH.aZ h0)) <|
 .cH [0] (fD x0.fX s2663) fun r0 _ =>
 .ask (bP p_s.cu v0) fun x1 h1 =>
 .say [.row (dH.lf1 x1)] (ok1 (aX dH.aZ h1)) <|
 .cH [0] (fD x1.fY r0) fun r1 _ =>
 .rt [0,3,4] 2 (.inl (IntKind.wrap .i64 (v0 + 1),r1))) <|
 .rt [0,3] 2 (.inr (s2663))
def WQ (p_s:cZ) (v0:Int) (s2663:aA) : Option (aA) := bM (fun v_=>(ED p_s v_).den) FU (v0,s2663)
def ai0 (p_s:cZ) (p_b0:aA) : Mo (aA) :=
 .ask (Q20 p_s.aU p_b0) fun r0 h0 =>
 .say [.ji [0] (.tup []) [.box 124 (.dat (aA.lf1 r0))],.num p_s.cu.length] (okc (fD _ _ _ h0) (ok1 (ln_ p_s.cu dH.lf))) <|
 .cH [0] (fD (p_s.cu.length:Int) r0) fun r1 _ =>
 .lp Tryz.f261 1 [1,1,1,0,1,0] 0 [0,3,4] 2 (.exit 0) (fun r_=>⟨[(0,.ptr 0 0),(3,.ptr 1 0)],[.box 124 (.dat (aA.lf1 r_)),.box 41 (.dat (cZ.lf1 p_s))]⟩) (WQ p_s 0 r1) (lW (fun (v0,s2663)=>⟨[(0,.ptr 0 0),(3,.ptr 1 0),(4,.i_ v0)],[.box 124 (.dat (aA.lf1 s2663)),.box 41 (.dat (cZ.lf1 p_s))]⟩) (by kernel_rfl) rfl fun v_=>by kernel_rfl) fun r2 _ =>
 .cH [0] (fD p_s.fR r2) fun r3 _ =>
 .ret ⟨[.kill 1],[],[],1⟩ (r3)
def Q87 (p_s:cZ) (p_b0:aA) : Option (aA) := Mo.den (ai0 p_s p_b0)
theorem akz (p_s:cZ) (p_b0:aA) : FH (Q87 p_s p_b0) 261 [.ptr 0 0,.dat (cZ.lf1 p_s)] [.box 124 (.dat (aA.lf1 p_b0))] (fun _=>.tup []) (fun r=>[.box 124 (.dat (aA.lf1 r))]) := gX Tryz.func261 (by kernel_rfl) (fun _=>rfl) (by kernel_rfl)
end
end Go.Proofs.YtdnafbfmaphhhaaGreatDoor
set_option linter.unusedSimpArgs false
set_option linter.unusedVariables false
namespace Go.Proofs.YtdnafbfmaphhhaaGreatDoor
open Go.RowKit
set_option maxRecDepth 20000
set_option maxHeartbeats 4000000
noncomputable section
structure RB7 where
 m1:(p_e:aH) → (p_b0:aA) → Option (aA)
 ok1:∀ p_e p_b0,FH (m1 p_e p_b0) 262 [.ptr 0 0,.dat (aH.lf1 p_e)] [.box 124 (.dat (aA.lf1 p_b0))] (fun _=>.tup []) (fun r=>[.box 124 (.dat (aA.lf1 r))])
def EF (R_:RB7) (p_e:aH) : (Int × aA) → Mo ((Int × aA) ⊕ (aA)) := fun (v0,s2725) =>
 .say [.num p_e.bC.length] (ok1 (ln_ p_e.bC aH.lf)) <|
 .iB (decide ((v0:Int) < (p_e.bC.length:Int))) (.ask (bP p_e.bC v0) fun x0 h0 =>
 .say [.row (aH.lf1 x0)] (ok1 (aX aH.aZ h0)) <|
 .cH [0] (R_.ok1 x0 s2725) fun r0 _ =>
 .rt [0,3,4] 2 (.inl (IntKind.wrap .i64 (v0 + 1),r0))) <|
 .ret ⟨[.kill 1],[],[],2⟩ (.inr (s2725))
def WR (R_:RB7) (p_e:aH) (v0:Int) (s2725:aA) : Option (aA) := bM (fun v_=>(EF R_ p_e v_).den) FU (v0,s2725)
def ada (R_:RB7) (p_e:aH) (p_b0:aA) : Mo (aA) :=
 .cH [0] (fD p_e.fOp p_b0) fun r0 _ =>
 .cH [0] (Ei p_e.dA r0) fun r1 _ =>
 .cH [0] (oO p_e.fName r1) fun r2 _ =>
 .cH [0] (Ei p_e.bT r2) fun r3 _ =>
 .cH [0] (vM p_e.fArg r3) fun r4 _ =>
 .ask (Q20 p_e.fN r4) fun r5 h0 =>
 .say [.ji [0] (.tup []) [.box 124 (.dat (aA.lf1 r5))],.num p_e.bC.length] (okc (fD _ _ _ h0) (ok1 (ln_ p_e.bC aH.lf))) <|
 .cH [0] (fD (p_e.bC.length:Int) r5) fun r6 _ =>
 .lp Tryz.f262 1 [1,1,1,1,1,1,1,1,1,0] 0 [0,3,4] 2 (.exit 0) (fun r_=>⟨[],[.box 124 (.dat (aA.lf1 r_)),.dead]⟩) (WR R_ p_e 0 r6) (lW (fun (v0,s2725)=>⟨[(0,.ptr 0 0),(3,.ptr 1 0),(4,.i_ v0)],[.box 124 (.dat (aA.lf1 s2725)),.box 44 (.dat (aH.lf1 p_e))]⟩) (by kernel_rfl) rfl fun v_=>by kernel_rfl) fun r7 _ =>
 .rt [] 1 (r7)
theorem ag7 (R_:RB7) (p_e:aH) (p_b0:aA) : FH (Mo.den (ada R_ p_e p_b0)) 262 [.ptr 0 0,.dat (aH.lf1 p_e)] [.box 124 (.dat (aA.lf1 p_b0))] (fun _=>.tup []) (fun r=>[.box 124 (.dat (aA.lf1 r))]) := gX Tryz.func262 (by kernel_rfl) (fun _=>rfl) (by kernel_rfl)
def Ce:Nat → RB7
 | 0=>{ m1 := fun p_e p_b0=>none,ok1 := fun _ _ _ h=>(by cases h) }
 | n_ + 1=>{ m1 := fun p_e p_b0=>Mo.den (ada (Ce n_) p_e p_b0),ok1 := ag7 (Ce n_) }
def Q80 (p_e:aH) (p_b0:aA) : Option (aA) := (Ce FU).m1 p_e p_b0
theorem akA (p_e:aH) (p_b0:aA) : FH (Q80 p_e p_b0) 262 [.ptr 0 0,.dat (aH.lf1 p_e)] [.box 124 (.dat (aA.lf1 p_b0))] (fun _=>.tup []) (fun r=>[.box 124 (.dat (aA.lf1 r))]) := (Ce FU).ok1 p_e p_b0
structure RB1 where
 m1:(p_p:aO) → (p_b0:aA) → Option (aA)
 ok1:∀ p_p p_b0,FH (m1 p_p p_b0) 217 [.ptr 0 0,.dat (aO.lf1 p_p)] [.box 124 (.dat (aA.lf1 p_b0))] (fun _=>.tup []) (fun r=>[.box 124 (.dat (aA.lf1 r))])
def EG (R_:RB1) (p_p:aO) : (Int × aA) → Mo ((Int × aA) ⊕ (aA)) := fun (v0,s2758) =>
 .say [.num p_p.bC.length] (ok1 (ln_ p_p.bC aO.lf)) <|
 .iB (decide ((v0:Int) < (p_p.bC.length:Int))) (.ask (bP p_p.bC v0) fun x0 h0 =>
 .say [.row (aO.lf1 x0)] (ok1 (aX aO.aZ h0)) <|
 .cH [0] (R_.ok1 x0 s2758) fun r0 _ =>
 .rt [0,3,4] 2 (.inl (IntKind.wrap .i64 (v0 + 1),r0))) <|
 .ret ⟨[.kill 1],[],[],2⟩ (.inr (s2758))
def WS (R_:RB1) (p_p:aO) (v0:Int) (s2758:aA) : Option (aA) := bM (fun v_=>(EG R_ p_p v_).den) FU (v0,s2758)
def adb (R_:RB1) (p_p:aO) (p_b0:aA) : Mo (aA) :=
 .cH [0] (fD p_p.fOp p_b0) fun r0 _ =>
 .cH [0] (Ei p_p.dA r0) fun r1 _ =>
 .cH [0] (vM p_p.fArg r1) fun r2 _ =>
 .cH [0] (ac9 p_p.fArgs r2) fun r3 _ =>
 .cH [0] (fD p_p.fN r3) fun r4 _ =>
 .cH [0] (fD p_p.fM r4) fun r5 _ =>
 .cH [0] (akz p_p.eG r5) fun r6 _ =>
 .ask (Q80 p_p.fExpr r6) fun r7 h0 =>
 .say [.ji [0] (.tup []) [.box 124 (.dat (aA.lf1 r7))],.num p_p.bC.length] (okc (akA _ _ _ h0) (ok1 (ln_ p_p.bC aO.lf))) <|
 .cH [0] (fD (p_p.bC.length:Int) r7) fun r8 _ =>
 .lp Tryz.f217 1 [1,1,1,1,1,1,1,1,1,1,1,0] 0 [0,3,4] 2 (.exit 0) (fun r_=>⟨[],[.box 124 (.dat (aA.lf1 r_)),.dead]⟩) (WS R_ p_p 0 r8) (lW (fun (v0,s2758)=>⟨[(0,.ptr 0 0),(3,.ptr 1 0),(4,.i_ v0)],[.box 124 (.dat (aA.lf1 s2758)),.box 47 (.dat (aO.lf1 p_p))]⟩) (by kernel_rfl) rfl fun v_=>by kernel_rfl) fun r9 _ =>
 .rt [] 1 (r9)
theorem ag8 (R_:RB1) (p_p:aO) (p_b0:aA) : FH (Mo.den (adb R_ p_p p_b0)) 217 [.ptr 0 0,.dat (aO.lf1 p_p)] [.box 124 (.dat (aA.lf1 p_b0))] (fun _=>.tup []) (fun r=>[.box 124 (.dat (aA.lf1 r))]) := gX Tryz.func217 (by kernel_rfl) (fun _=>rfl) (by kernel_rfl)
def Ci:Nat → RB1
 | 0=>{ m1 := fun p_p p_b0=>none,ok1 := fun _ _ _ h=>(by cases h) }
 | n_ + 1=>{ m1 := fun p_p p_b0=>Mo.den (adb (Ci n_) p_p p_b0),ok1 := ag8 (Ci n_) }
def Q82 (p_p:aO) (p_b0:aA) : Option (aA) := (Ci FU).m1 p_p p_b0
theorem akB (p_p:aO) (p_b0:aA) : FH (Q82 p_p p_b0) 217 [.ptr 0 0,.dat (aO.lf1 p_p)] [.box 124 (.dat (aA.lf1 p_b0))] (fun _=>.tup []) (fun r=>[.box 124 (.dat (aA.lf1 r))]) := (Ci FU).ok1 p_p p_b0
def EH (p_x:aV) : (Int × aA) → Mo ((Int × aA) ⊕ (aA)) := fun (v0,s1015) =>
 .say [.num p_x.gB.length] (ok1 (ln_ p_x.gB bn.lf)) <|
 .iB (decide ((v0:Int) < (p_x.gB.length:Int))) (.ask (bP p_x.gB v0) fun x0 h0 =>
 .say [.row (bn.lf1 x0)] (ok1 (aX bn.aZ h0)) <|
 .cH [0] (Ei x0.dA s1015) fun r0 _ =>
 .ask (bP p_x.gB v0) fun x1 h1 =>
 .say [.row (bn.lf1 x1)] (ok1 (aX bn.aZ h1)) <|
 .cH [0] (pW x1.IJ r0) fun r1 _ =>
 .rt [0,3,4] 2 (.inl (IntKind.wrap .i64 (v0 + 1),r1))) <|
 .rt [0,3] 2 (.inr (s1015))
def WT (p_x:aV) (v0:Int) (s1015:aA) : Option (aA) := bM (fun v_=>(EH p_x v_).den) FU (v0,s1015)
def ai1 (p_x:aV) (p_b0:aA) : Mo (aA) :=
 .cH [0] (oO p_x.fName p_b0) fun r0 _ =>
 .ask (Q20 p_x.aU r0) fun r1 h0 =>
 .say [.ji [0] (.tup []) [.box 124 (.dat (aA.lf1 r1))],.num p_x.gB.length] (okc (fD _ _ _ h0) (ok1 (ln_ p_x.gB bn.lf))) <|
 .cH [0] (fD (p_x.gB.length:Int) r1) fun r2 _ =>
 .lp Tryz.f169 1 [1,1,1,1,0,1,0] 0 [0,3,4] 2 (.exit 0) (fun r_=>⟨[(0,.ptr 0 0),(3,.ptr 1 0)],[.box 124 (.dat (aA.lf1 r_)),.box 49 (.dat (aV.lf1 p_x))]⟩) (WT p_x 0 r2) (lW (fun (v0,s1015)=>⟨[(0,.ptr 0 0),(3,.ptr 1 0),(4,.i_ v0)],[.box 124 (.dat (aA.lf1 s1015)),.box 49 (.dat (aV.lf1 p_x))]⟩) (by kernel_rfl) rfl fun v_=>by kernel_rfl) fun r3 _ =>
 .cH [0] (pW p_x.iW r3) fun r4 _ =>
 .cH [0] (pW p_x.oz r4) fun r5 _ =>
 .cH [0] (pW p_x.kF r5) fun r6 _ =>
 .cH [0] (akB p_x.jc r6) fun r7 _ =>
 .ret ⟨[.kill 1],[],[],1⟩ (r7)
def Q71 (p_x:aV) (p_b0:aA) : Option (aA) := Mo.den (ai1 p_x p_b0)
theorem Ny (p_x:aV) (p_b0:aA) : FH (Q71 p_x p_b0) 169 [.ptr 0 0,.dat (aV.lf1 p_x)] [.box 124 (.dat (aA.lf1 p_b0))] (fun _=>.tup []) (fun r=>[.box 124 (.dat (aA.lf1 r))]) := gX Tryz.func169 (by kernel_rfl) (fun _=>rfl) (by kernel_rfl)
structure RB8 where
 m1:(p_s:aB) → (p_b0:aA) → Option (aA)
 ok1:∀ p_s p_b0,FH (m1 p_s p_b0) 215 [.ptr 0 0,.dat (aB.lf1 p_s)] [.box 124 (.dat (aA.lf1 p_b0))] (fun _=>.tup []) (fun r=>[.box 124 (.dat (aA.lf1 r))])
def EI (R_:RB8) (p_s:aB) : (Int × aA) → Mo ((Int × aA) ⊕ (aA)) := fun (v0,s2895) =>
 .say [.num p_s.dP.length] (ok1 (ln_ p_s.dP bH.lf)) <|
 .iB (decide ((v0:Int) < (p_s.dP.length:Int))) (.ask (bP p_s.dP v0) fun x0 h0 =>
 .say [.row (bH.lf1 x0)] (ok1 (aX bH.aZ h0)) <|
 .cH [0] (oO x0.fName s2895) fun r0 _ =>
 .ask (bP p_s.dP v0) fun x1 h1 =>
 .say [.row (bH.lf1 x1)] (ok1 (aX bH.aZ h1)) <|
 .cH [0] (R_.ok1 x1.fG r0) fun r1 _ =>
 .rt [0,3,4] 2 (.inl (IntKind.wrap .i64 (v0 + 1),r1))) <|
 .rt [0,3] 2 (.inr (s2895))
def WU (R_:RB8) (p_s:aB) (v0:Int) (s2895:aA) : Option (aA) := bM (fun v_=>(EI R_ p_s v_).den) FU (v0,s2895)
def EJ (R_:RB8) (p_s:aB) : (Int × aA) → Mo ((Int × aA) ⊕ (aA)) := fun (v0,s2946) =>
 .say [.num p_s.fH.length] (ok1 (ln_ p_s.fH aB.lf)) <|
 .iB (decide ((v0:Int) < (p_s.fH.length:Int))) (.ask (bP p_s.fH v0) fun x0 h0 =>
 .say [.row (aB.lf1 x0)] (ok1 (aX aB.aZ h0)) <|
 .cH [0] (R_.ok1 x0 s2946) fun r0 _ =>
 .rt [0,3,5] 2 (.inl (IntKind.wrap .i64 (v0 + 1),r0))) <|
 .rt [0,3] 2 (.inr (s2946))
def WV (R_:RB8) (p_s:aB) (v0:Int) (s2946:aA) : Option (aA) := bM (fun v_=>(EJ R_ p_s v_).den) FU (v0,s2946)
def ade (R_:RB8) (p_s:aB) (p_b0:aA) : Mo (aA) :=
 .cH [0] (fD p_s.kG p_b0) fun r0 _ =>
 .cH [0] (pW p_s.lD r0) fun r1 _ =>
 .cH [0] (vM p_s.uH r1) fun r2 _ =>
 .cH [0] (pW p_s.lF r2) fun r3 _ =>
 .cH [0] (vM p_s.uI r3) fun r4 _ =>
 .cH [0] (ac9 p_s.kH r4) fun r5 _ =>
 .cH [0] (fD p_s.lG r5) fun r6 _ =>
 .cH [0] (fD p_s.lH r6) fun r7 _ =>
 .ask (Q70 p_s.gG r7) fun r8 h0 =>
 .say [.ji [0] (.tup []) [.box 124 (.dat (aA.lf1 r8))],.num p_s.dP.length] (okc (Ei _ _ _ h0) (ok1 (ln_ p_s.dP bH.lf))) <|
 .cH [0] (fD (p_s.dP.length:Int) r8) fun r9 _ =>
 .lp Tryz.f215 1 [1,1,1,1,1,1,1,1,1,1,1,0,1,0] 0 [0,3,4] 2 (.exit 0) (fun r_=>⟨[(0,.ptr 0 0),(3,.ptr 1 0)],[.box 124 (.dat (aA.lf1 r_)),.box 35 (.dat (aB.lf1 p_s))]⟩) (WU R_ p_s 0 r9) (lW (fun (v0,s2895)=>⟨[(0,.ptr 0 0),(3,.ptr 1 0),(4,.i_ v0)],[.box 124 (.dat (aA.lf1 s2895)),.box 35 (.dat (aB.lf1 p_s))]⟩) (by kernel_rfl) rfl fun v_=>by kernel_rfl) fun r10 _ =>
 .ask (Q83 p_s.oC r10) fun r11 h1 =>
 .say [.ji [0] (.tup []) [.box 124 (.dat (aA.lf1 r11))],.num p_s.fH.length] (okc (pW _ _ _ h1) (ok1 (ln_ p_s.fH aB.lf))) <|
 .cH [0] (fD (p_s.fH.length:Int) r11) fun r12 _ =>
 .lp Tryz.f215 1 [1,1,1,1,1,1,1,1,1,1,1,1,1,1,0,1,0] 0 [0,3,5] 2 (.exit 2) (fun r_=>⟨[(0,.ptr 0 0),(3,.ptr 1 0)],[.box 124 (.dat (aA.lf1 r_)),.box 35 (.dat (aB.lf1 p_s))]⟩) (WV R_ p_s 0 r12) (lW (fun (v1,s2946)=>⟨[(0,.ptr 0 0),(3,.ptr 1 0),(5,.i_ v1)],[.box 124 (.dat (aA.lf1 s2946)),.box 35 (.dat (aB.lf1 p_s))]⟩) (by kernel_rfl) rfl fun v_=>by kernel_rfl) fun r13 _ =>
 .cH [0] (pW p_s.iW r13) fun r14 _ =>
 .ret ⟨[.kill 1],[],[],1⟩ (r14)
theorem ag9 (R_:RB8) (p_s:aB) (p_b0:aA) : FH (Mo.den (ade R_ p_s p_b0)) 215 [.ptr 0 0,.dat (aB.lf1 p_s)] [.box 124 (.dat (aA.lf1 p_b0))] (fun _=>.tup []) (fun r=>[.box 124 (.dat (aA.lf1 r))]) := gX Tryz.func215 (by kernel_rfl) (fun _=>rfl) (by kernel_rfl)
def uU:Nat → RB8
 | 0=>{ m1 := fun p_s p_b0=>none,ok1 := fun _ _ _ h=>(by cases h) }
 | n_ + 1=>{ m1 := fun p_s p_b0=>Mo.den (ade (uU n_) p_s p_b0),ok1 := ag9 (uU n_) }
def Q59 (p_s:aB) (p_b0:aA) : Option (aA) := (uU FU).m1 p_s p_b0
theorem akC (p_s:aB) (p_b0:aA) : FH (Q59 p_s p_b0) 215 [.ptr 0 0,.dat (aB.lf1 p_s)] [.box 124 (.dat (aA.lf1 p_b0))] (fun _=>.tup []) (fun r=>[.box 124 (.dat (aA.lf1 r))]) := (uU FU).ok1 p_s p_b0
def EK (p_d:bQ) : (Int × aA) → Mo ((Int × aA) ⊕ (aA)) := fun (v0,s2796) =>
 .say [.num p_d.dJ.length] (ok1 (ln_ p_d.dJ aV.lf)) <|
 .iB (decide ((v0:Int) < (p_d.dJ.length:Int))) (.ask (bP p_d.dJ v0) fun x0 h0 =>
 .say [.row (aV.lf1 x0)] (ok1 (aX aV.aZ h0)) <|
 .cH [0] (Ny x0 s2796) fun r0 _ =>
 .rt [0,3,4] 2 (.inl (IntKind.wrap .i64 (v0 + 1),r0))) <|
 .rt [0,3] 2 (.inr (s2796))
def WW (p_d:bQ) (v0:Int) (s2796:aA) : Option (aA) := bM (fun v_=>(EK p_d v_).den) FU (v0,s2796)
def ai2 (p_d:bQ) (p_b0:aA) : Mo (aA) :=
 .ask (Q78 p_d.fName p_b0) fun r0 h0 =>
 .say [.ji [0] (.tup []) [.box 124 (.dat (aA.lf1 r0))],.num p_d.dJ.length] (okc (oO _ _ _ h0) (ok1 (ln_ p_d.dJ aV.lf))) <|
 .cH [0] (fD (p_d.dJ.length:Int) r0) fun r1 _ =>
 .lp Tryz.f168 1 [1,1,1,0,1,0] 0 [0,3,4] 2 (.exit 0) (fun r_=>⟨[(0,.ptr 0 0),(3,.ptr 1 0)],[.box 124 (.dat (aA.lf1 r_)),.box 37 (.dat (bQ.lf1 p_d))]⟩) (WW p_d 0 r1) (lW (fun (v0,s2796)=>⟨[(0,.ptr 0 0),(3,.ptr 1 0),(4,.i_ v0)],[.box 124 (.dat (aA.lf1 s2796)),.box 37 (.dat (bQ.lf1 p_d))]⟩) (by kernel_rfl) rfl fun v_=>by kernel_rfl) fun r2 _ =>
 .cH [0] (akC p_d.fG r2) fun r3 _ =>
 .cH [0] (fD p_d.pK r3) fun r4 _ =>
 .cH [0] (fD p_d.mV r4) fun r5 _ =>
 .ret ⟨[.kill 1],[],[],1⟩ (r5)
def Q76 (p_d:bQ) (p_b0:aA) : Option (aA) := Mo.den (ai2 p_d p_b0)
theorem WX (p_d:bQ) (p_b0:aA) : FH (Q76 p_d p_b0) 168 [.ptr 0 0,.dat (bQ.lf1 p_d)] [.box 124 (.dat (aA.lf1 p_b0))] (fun _=>.tup []) (fun r=>[.box 124 (.dat (aA.lf1 r))]) := gX Tryz.func168 (by kernel_rfl) (fun _=>rfl) (by kernel_rfl)
def Ji (p_d:bQ) : Mo (Bool) :=
 .ite (!decide ((p_d.fName:ByteArray) = (⟨#[]⟩ : ByteArray))) (fun c0 =>
 .say [.gd 4003 true] (ok1 c0) <|
 .rt [1,13] 1 (true)) fun c0 =>
 .say [.gd 4003 false,.num p_d.dJ.length] (okc c0 (ok1 (ln_ p_d.dJ aV.lf))) <|
 .rt [1,13] 1 (decide ((0:Int) < (p_d.dJ.length:Int)))
def adf (p_d:bQ) : Mo (Bool) :=
 .jp Tryz.f151 0 [1,0,0] 9 [1] 1 (.normal) (fun r_=>⟨[(1,.ptr 0 0),(13,.b_ r_)],[.box 37 (.dat (bQ.lf1 p_d))]⟩) ⟨[(1,.ptr 0 0)],[.box 37 (.dat (bQ.lf1 p_d))]⟩ (Ji p_d).den (jW (by kernel_rfl)) fun r0 _ =>
 .ite (r0) (fun c0 =>
 .say [.br true] (ok1 c0) <|
 .ret (bD 1) (false)) fun c0 =>
 .say [.br false,.at_ 10 1,.norm 1] (ok1 c0) <|
 .ask (Q76 p_d (aA.mk ⟨#[]⟩ false true)) fun r1 h0 =>
 .say [.ji [1] (.tup []) [.box 124 (.dat (aA.lf1 r1))],.at_ 12 1,.tod 18,.norm 2] (ok1 (WX _ _ _ h0)) <|
 .cH [2] (WX (bQ.mk ⟨#[]⟩ [] aB.z 0 0) (aA.mk ⟨#[]⟩ false true)) fun r2 _ =>
 .ret (bD 1) (decide ((r1.fS:ByteArray) = (r2.fS:ByteArray)))
def akD (p_d:bQ) : Option (Bool) := Mo.den (adf p_d)
theorem aha (p_d:bQ) : FV (akD p_d) 151 [.dat (bQ.lf1 p_d)] (fun r=>.b_ r) := bZ Tryz.func151 (by kernel_rfl) (fun _=>rfl) (by kernel_rfl)
def adg (p_x:aV) : Mo (Bool) :=
 .say [.at_ 6 1,.norm 1] ok0 <|
 .ask (Q71 p_x (aA.mk ⟨#[]⟩ false true)) fun r0 h0 =>
 .say [.ji [1] (.tup []) [.box 124 (.dat (aA.lf1 r0))],.at_ 8 1,.tod 9,.norm 2] (ok1 (Ny _ _ _ h0)) <|
 .cH [2] (Ny aV.z (aA.mk ⟨#[]⟩ false true)) fun r1 _ =>
 .ret (bD 1) (decide ((r0.fS:ByteArray) = (r1.fS:ByteArray)))
def akE (p_x:aV) : Option (Bool) := Mo.den (adg p_x)
theorem ahb (p_x:aV) : FV (akE p_x) 152 [.dat (aV.lf1 p_x)] (fun r=>.b_ r) := bZ Tryz.func152 (by kernel_rfl) (fun _=>rfl) (by kernel_rfl)
def adh (p_kind:Int) : Mo (Bool) :=
 .iG 4002 (decide ((9:Int) ≤ p_kind)) (.ret (bD 1) (decide ((p_kind:Int) ≤ 12))) <|
 .ret (bD 1) (false)
def amM (p_kind:Int) : Option (Bool) := Mo.den (adh p_kind)
theorem Y1 (p_kind:Int) : FV (amM p_kind) 110 [.i_ p_kind] (fun r=>.b_ r) := bZ Tryz.func110 (by kernel_rfl) (fun _=>rfl) (by kernel_rfl)
def adi (p_kind:Int) : Mo (Bool) :=
 .iG 4002 (p_kind == 8) (.ret (bD 1) (true)) <|
 .ret (bD 1) (p_kind == 9)
def amN (p_kind:Int) : Option (Bool) := Mo.den (adi p_kind)
theorem Y2 (p_kind:Int) : FV (amN p_kind) 108 [.i_ p_kind] (fun r=>.b_ r) := bZ Tryz.func108 (by kernel_rfl) (fun _=>rfl) (by kernel_rfl)
def Rf (p_w:aJ) : Mo (aV) :=
 .iB (p_w.aU == 7) (.ret ⟨[.norm 1],[1,3,4],[],2⟩ (aV.acr p_w.aW ⟨#[]⟩)) <|
 .ret ⟨[.norm 1],[1,3,4],[],2⟩ (p_w.aW)
def Rh (p_w:aJ) (r0:aV) : Mo (Bool) :=
 .cl (YT p_w.aU) fun r1 _ =>
 .iG 12002 (r1) (.rt [1,3,4,18] 2 (true)) <|
 .rt [1,3,4,18] 2 (decide ((p_w.kT:ByteArray) = (⟨#[]⟩ : ByteArray)))
def Jj (p_w:aJ) (r0:aV) (r1:Bool) : Mo (Bool) :=
 .iG 12007 (r1) (.cl (Nc p_w.aU) fun r2 _ =>
 .iG 12010 (r2) (.rt [1,3,4,37] 2 (true)) <|
 .cl (vK p_w.mW) fun r3 _ =>
 .iG 12014 (r3) (.cl (vK p_w.gY) fun r4 _ =>
 .iG 12019 (r4) (.rt [1,3,4,37] 2 (!p_w.lI)) <|
 .rt [1,3,4,37] 2 (false)) <|
 .rt [1,3,4,37] 2 (false)) <|
 .rt [1,3,4,37] 2 (false)
def Jk (p_w:aJ) (r0:aV) (r1:Bool) : Mo (Bool) :=
 .iG 12026 (r1) (.iG 12029 (p_w.aU == 2) (.rt [1,3,4,46] 2 (true)) <|
 .cl (vK p_w.bV) fun r2 _ =>
 .rt [1,3,4,46] 2 (r2)) <|
 .rt [1,3,4,46] 2 (false)
def Jl (p_w:aJ) (r0:aV) (r1:Bool) : Mo (Bool) :=
 .iG 12035 (r1) (.iG 12038 (p_w.aU == 4) (.rt [1,3,4,55] 2 (true)) <|
 .cl (aha p_w.oW) fun r2 _ =>
 .rt [1,3,4,55] 2 (r2)) <|
 .rt [1,3,4,55] 2 (false)
def Jm (p_w:aJ) (r0:Bool) (r1:aV) : Mo (Bool) :=
 .iG 12044 (r0) (.iG 12047 (p_w.aU == 6) (.ret ⟨[.kill 1],[1,3,63],[],2⟩ (true)) <|
 .cl (ahb r1) fun r2 _ =>
 .ret ⟨[.kill 1],[1,3,63],[],2⟩ (r2)) <|
 .ret ⟨[.kill 1],[1,3,63],[],2⟩ (false)
def Jo (p_w:aJ) (r0:Bool) : Mo (Bool) :=
 .iG 12052 (r0) (.cl (Y1 p_w.aU) fun r1 _ =>
 .iG 12055 (r1) (.rt [1,3,72] 2 (true)) <|
 .rt [1,3,72] 2 (decide ((p_w.Az:ByteArray) = (⟨#[]⟩ : ByteArray)))) <|
 .rt [1,3,72] 2 (false)
def Jp (p_w:aJ) (r0:Bool) : Mo (Bool) :=
 .iG 12061 (r0) (.iG 12064 (p_w.aU == 10) (.rt [1,3,85] 2 (true)) <|
 .iG 12068 (p_w.aU == 12) (.rt [1,3,85] 2 (true)) <|
 .rt [1,3,85] 2 (p_w.fC == 0)) <|
 .rt [1,3,85] 2 (false)
def Jq (p_w:aJ) (r0:Bool) : Mo (Bool) :=
 .iG 12074 (r0) (.cl (Y2 p_w.aU) fun r1 _ =>
 .ite (r1) (fun c0 =>
 .say [.gd 12077 true] (ok1 c0) <|
 .rt [1,3,95] 2 (true)) fun c0 =>
 .say [.gd 12077 false,.num p_w.dN.length] (okc c0 (ok1 (ln_ p_w.dN aJ.lf))) <|
 .rt [1,3,95] 2 ((p_w.dN.length:Int) == 0)) <|
 .rt [1,3,95] 2 (false)
def Jr (p_w:aJ) (r0:Bool) : Mo (Bool) :=
 .iG 12084 (r0) (.ite (p_w.aU == 12) (fun c0 =>
 .say [.gd 12087 true] (ok1 c0) <|
 .ret ⟨[.kill 0],[105],[],2⟩ (true)) fun c0 =>
 .say [.gd 12087 false,.num p_w.eF.length] (okc c0 (ok1 (ln_ p_w.eF lfI))) <|
 .ret ⟨[.kill 0],[105],[],2⟩ ((p_w.eF.length:Int) == 0)) <|
 .ret ⟨[.kill 0],[105],[],2⟩ (false)
def Js (r0:Bool) : Mo (Unit) :=
 .rt [2] 2 ()
def ai3 (p_w:aJ) : Mo (Bool) :=
 .jp Tryz.f107 0 [1,1,1,0,1] 1 [1,3,4,10] 2 (.normal) (fun r_=>⟨[(1,.ptr 0 0),(3,.i_ p_w.aU),(4,.ptr 1 0)],[.box 52 (.dat (aJ.lf1 p_w)),.box 49 (.dat (aV.lf1 r_))]⟩) ⟨[(1,.ptr 0 0),(3,.i_ p_w.aU),(4,.ptr 1 0),(10,.lf (.bool (p_w.aU == 7)))],[.box 52 (.dat (aJ.lf1 p_w)),.box 49 (.agg ((aV.lf1 p_w.aW).map AV.lf))]⟩ (Rf p_w).den (jW (by kernel_rfl)) fun r0 _ =>
 .sj Tryz.f107 0 [1,1,1,1,0] [0,1,2,3,4,5,6] 5 7 [1,3,4] 2 (fun r_=>⟨[(1,.ptr 0 0),(3,.i_ p_w.aU),(4,.ptr 1 0),(18,.b_ r_)],[.box 52 (.dat (aJ.lf1 p_w)),.box 49 (.dat (aV.lf1 r0))]⟩) ⟨[(1,.ptr 0 0),(3,.i_ p_w.aU),(4,.ptr 1 0)],[.box 52 (.dat (aJ.lf1 p_w)),.box 49 (.dat (aV.lf1 r0))]⟩ (Rh p_w r0).den (sW (by kernel_rfl)) fun r1 _ =>
 .sj Tryz.f107 0 [1,1,1,1,0] [7,8,9,10,11,12,13,14,15,16,17,18,19,20,21,22,23,24,25] 5 19 [1,3,4,18] 2 (fun r_=>⟨[(1,.ptr 0 0),(3,.i_ p_w.aU),(4,.ptr 1 0),(37,.b_ r_)],[.box 52 (.dat (aJ.lf1 p_w)),.box 49 (.dat (aV.lf1 r0))]⟩) ⟨[(1,.ptr 0 0),(3,.i_ p_w.aU),(4,.ptr 1 0),(18,.b_ r1)],[.box 52 (.dat (aJ.lf1 p_w)),.box 49 (.dat (aV.lf1 r0))]⟩ (Jj p_w r0 r1).den (sW (by kernel_rfl)) fun r2 _ =>
 .sj Tryz.f107 0 [1,1,1,1,0] [26,27,28,29,30,31,32,33,34] 5 9 [1,3,4,37] 2 (fun r_=>⟨[(1,.ptr 0 0),(3,.i_ p_w.aU),(4,.ptr 1 0),(46,.b_ r_)],[.box 52 (.dat (aJ.lf1 p_w)),.box 49 (.dat (aV.lf1 r0))]⟩) ⟨[(1,.ptr 0 0),(3,.i_ p_w.aU),(4,.ptr 1 0),(37,.b_ r2)],[.box 52 (.dat (aJ.lf1 p_w)),.box 49 (.dat (aV.lf1 r0))]⟩ (Jk p_w r0 r2).den (sW (by kernel_rfl)) fun r3 _ =>
 .sj Tryz.f107 0 [1,1,1,1,0] [35,36,37,38,39,40,41,42,43] 5 9 [1,3,4,46] 2 (fun r_=>⟨[(1,.ptr 0 0),(3,.i_ p_w.aU),(4,.ptr 1 0),(55,.b_ r_)],[.box 52 (.dat (aJ.lf1 p_w)),.box 49 (.dat (aV.lf1 r0))]⟩) ⟨[(1,.ptr 0 0),(3,.i_ p_w.aU),(4,.ptr 1 0),(46,.b_ r3)],[.box 52 (.dat (aJ.lf1 p_w)),.box 49 (.dat (aV.lf1 r0))]⟩ (Jl p_w r0 r3).den (sW (by kernel_rfl)) fun r4 _ =>
 .sj Tryz.f107 0 [1,1,1,1,0] [44,45,46,47,48,49,50,51] 5 8 [1,3,4,55] 2 (fun r_=>⟨[(1,.ptr 0 0),(3,.i_ p_w.aU),(63,.b_ r_)],[.box 52 (.dat (aJ.lf1 p_w)),.dead]⟩) ⟨[(1,.ptr 0 0),(3,.i_ p_w.aU),(4,.ptr 1 0),(55,.b_ r4)],[.box 52 (.dat (aJ.lf1 p_w)),.box 49 (.dat (aV.lf1 r0))]⟩ (Jm p_w r4 r0).den (sW (by kernel_rfl)) fun r5 _ =>
 .sj Tryz.f107 0 [1,1,1,1,0] [52,53,54,55,56,57,58,59,60] 5 9 [1,3,63] 2 (fun r_=>⟨[(1,.ptr 0 0),(3,.i_ p_w.aU),(72,.b_ r_)],[.box 52 (.dat (aJ.lf1 p_w)),.dead]⟩) ⟨[(1,.ptr 0 0),(3,.i_ p_w.aU),(63,.b_ r5)],[.box 52 (.dat (aJ.lf1 p_w)),.dead]⟩ (Jo p_w r5).den (sW (by kernel_rfl)) fun r6 _ =>
 .sj Tryz.f107 0 [1,1,1,1,0] [61,62,63,64,65,66,67,68,69,70,71,72,73] 5 13 [1,3,72] 2 (fun r_=>⟨[(1,.ptr 0 0),(3,.i_ p_w.aU),(85,.b_ r_)],[.box 52 (.dat (aJ.lf1 p_w)),.dead]⟩) ⟨[(1,.ptr 0 0),(3,.i_ p_w.aU),(72,.b_ r6)],[.box 52 (.dat (aJ.lf1 p_w)),.dead]⟩ (Jp p_w r6).den (sW (by kernel_rfl)) fun r7 _ =>
 .sj Tryz.f107 0 [1,1,1,1,0] [74,75,76,77,78,79,80,81,82,83] 5 10 [1,3,85] 2 (fun r_=>⟨[(1,.ptr 0 0),(3,.i_ p_w.aU),(95,.b_ r_)],[.box 52 (.dat (aJ.lf1 p_w)),.dead]⟩) ⟨[(1,.ptr 0 0),(3,.i_ p_w.aU),(85,.b_ r7)],[.box 52 (.dat (aJ.lf1 p_w)),.dead]⟩ (Jq p_w r7).den (sW (by kernel_rfl)) fun r8 _ =>
 .sj Tryz.f107 0 [1,1,1,1,0] [84,85,86,87,88,89,90,91,92,93] 5 10 [1,3,95] 2 (fun r_=>⟨[(105,.b_ r_)],[.dead,.dead]⟩) ⟨[(1,.ptr 0 0),(3,.i_ p_w.aU),(95,.b_ r8)],[.box 52 (.dat (aJ.lf1 p_w)),.dead]⟩ (Jr p_w r8).den (sW (by kernel_rfl)) fun r9 _ =>
 .sj Tryz.f107 0 [1,1,1,1,0] [94] 5 1 [105] 2 (fun r_=>⟨[(2,.b_ r9)],[.dead,.dead]⟩) ⟨[(105,.b_ r9)],[.dead,.dead]⟩ (Js r9).den (sW (by kernel_rfl)) fun r10 _ =>
 .ret (bD 1) (r9)
def Q28 (p_w:aJ) : Option (Bool) := Mo.den (ai3 p_w)
theorem akF (p_w:aJ) : FV (Q28 p_w) 107 [.dat (aJ.lf1 p_w)] (fun r=>.b_ r) := bZ Tryz.func107 (by kernel_rfl) (fun _=>rfl) (by kernel_rfl)
def Ri (p_l:List Int) (v0:Int) : Mo (Bool) :=
 .say [.order [(true,0),(true,1),(true,2),(true,3),(true,4),(true,5),(true,6),(true,7),(true,8),(true,9),(true,10),(true,11),(true,12),(true,13),(true,14),(true,15),(true,16),(true,17),(true,18),(true,19),(true,20),(true,21),(true,22),(true,23),(true,24),(true,25),(true,26),(true,27)] none []] ok0 <|
 .ask (bP p_l v0) fun x0 h0 =>
 .say [.row (lfI x0)] (ok1 (aX lI_ h0)) <|
 .iG 10005 (decide ((x0:Int) < 0)) (.rt [0,3,37] 0 (true)) <|
 .ask (bP p_l v0) fun x1 h1 =>
 .say [.row (lfI x1)] (ok1 (aX lI_ h1)) <|
 .iG 10012 (decide ((8:Int) ≤ x1)) (.rt [0,3,37] 0 (true)) <|
 .iG 10015 (decide ((0:Int) < v0)) (.ask (bP p_l (IntKind.wrap .i64 (v0 - 1))) fun x2 h2 =>
 .say [.row (lfI x2)] (ok1 (aX lI_ h2)) <|
 .ask (bP p_l v0) fun x3 h3 =>
 .say [.row (lfI x3)] (ok1 (aX lI_ h3)) <|
 .rt [0,3,37] 0 (decide ((x3:Int) ≤ x2))) <|
 .rt [0,3,37] 0 (false)
def EL (p_l:List Int) : (Int) → Mo ((Int) ⊕ (Unit ⊕ Unit)) := fun (v0) =>
 .say [.num p_l.length] (ok1 (ln_ p_l lfI)) <|
 .iB (decide ((v0:Int) < (p_l.length:Int))) (.jp Tryz.f111 0 [1,0,1,0,0,1,0,0,0] 15 [0,3] 0 (.normal) (fun r_=>⟨[(0,.lf (.rows 1 (p_l.map lfI))),(3,.i_ v0),(37,.b_ r_)],[]⟩) ⟨[(0,.lf (.rows 1 (p_l.map lfI))),(3,.i_ v0)],[]⟩ (Ri p_l v0).den (jW (by kernel_rfl)) fun r0 _ =>
 .iB (r0) (.rt [2] 0 (.inr (.inl ()))) <|
 .rt [0,3] 0 (.inl (IntKind.wrap .i64 (v0 + 1)))) <|
 .rt [0] 0 (.inr (.inr (())))
def adk (p_l:List Int) (v0:Int) : Option (Unit ⊕ Unit) := bM (fun v_=>(EL p_l v_).den) FU (v0)
def Rj (p_l:List Int) : (Int) → St := fun (v0)=>⟨[(0,.lf (.rows 1 (p_l.map lfI))),(3,.i_ v0)],[]⟩
def xK (r_:Unit ⊕ Unit) : Exit := match r_ with
 | .inl o_=>.ret
 | .inr (o_)=>.exit 0
def xM (p_l:List Int) (r_:Unit ⊕ Unit) : St := match r_ with
 | .inl o_=>⟨[(2,.b_ false)],[]⟩
 | .inr (o_)=>⟨[(0,.lf (.rows 1 (p_l.map lfI)))],[]⟩
theorem Rk {p_l:List Int} {v0:Int} {r_:Unit ⊕ Unit} (h:adk p_l v0 = some r_) : fK Tryz.f111 0 [1,0,1,0] (xK r_) (xM p_l r_) (Rj p_l (v0)) :=
 dO dK (body := (Code.sub (bodyC Tryz.f111) [1,0,1,0,0])) (by kernel_rfl) (EL p_l) (Rj p_l) xK (xM p_l) (fun r_=>by rcases r_ with _ | _ <;> rfl) (fun v_=>by kernel_rfl) h
def ai4 (p_l:List Int) : Mo (Bool) :=
 .eU (adk p_l 0) (fun o0 h0 =>
 .say [.pt_ 0 [0,3] 0 (xK (.inl o0)) (xM p_l (.inl o0))] (ok1 (Rk h0)) <|
 .ret (bD 1) (false)) fun o1 h0 =>
 .say [.pt_ 0 [0,3] 0 (xK (.inr (o1))) (xM p_l (.inr (o1))),.num p_l.length] (okc (Rk h0) (ok1 (ln_ p_l lfI))) <|
 .ret (bD 1) (decide ((0:Int) < (p_l.length:Int)))
def Q48 (p_l:List Int) : Option (Bool) := Mo.den (ai4 p_l)
theorem akG (p_l:List Int) : FV (Q48 p_l) 111 [.lf (.rows 1 (p_l.map lfI))] (fun r=>.b_ r) := bZ Tryz.func111 (by kernel_rfl) (fun _=>rfl) (by kernel_rfl)
def adl (p_v:ak) : Mo (Bool) :=
 .cl (oD p_v) fun r0 _ =>
 .iG 4002 (r0) (.rt [1,2,9] 1 (p_v.aU != 6)) <|
 .rt [1,2,9] 1 (false)
def adn (p_v:ak) (r0:Bool) : Mo (Bool) :=
 .iG 4007 (r0) (.rt [1,2,14] 1 (p_v.aU != 1)) <|
 .rt [1,2,14] 1 (false)
def aan (p_v:ak) (r0:Bool) : Mo (Bool) :=
 .iG 4012 (r0) (.ret ⟨[.kill 0],[2,19],[],1⟩ (p_v.aU != 11)) <|
 .ret ⟨[.kill 0],[2,19],[],1⟩ (false)
def aao (r0:Bool) : Mo (Unit) :=
 .rt [2] 1 ()
def ai5 (p_v:ak) : Mo (Bool) :=
 .sj Tryz.f113 0 [1,0] [0,1,2,3,4,5,6] 1 7 [1,2] 1 (fun r_=>⟨[(1,.ptr 0 0),(2,.b_ false),(9,.b_ r_)],[.box 29 (.dat (ak.lf1 p_v))]⟩) ⟨[(1,.ptr 0 0),(2,.b_ false)],[.box 29 (.dat (ak.lf1 p_v))]⟩ (adl p_v).den (sW (by kernel_rfl)) fun r0 _ =>
 .sj Tryz.f113 0 [1,0] [7,8,9,10,11] 1 5 [1,2,9] 1 (fun r_=>⟨[(1,.ptr 0 0),(2,.b_ false),(14,.b_ r_)],[.box 29 (.dat (ak.lf1 p_v))]⟩) ⟨[(1,.ptr 0 0),(2,.b_ false),(9,.b_ r0)],[.box 29 (.dat (ak.lf1 p_v))]⟩ (adn p_v r0).den (sW (by kernel_rfl)) fun r1 _ =>
 .sj Tryz.f113 0 [1,0] [12,13,14,15,16] 1 5 [1,2,14] 1 (fun r_=>⟨[(2,.b_ false),(19,.b_ r_)],[.dead]⟩) ⟨[(1,.ptr 0 0),(2,.b_ false),(14,.b_ r1)],[.box 29 (.dat (ak.lf1 p_v))]⟩ (aan p_v r1).den (sW (by kernel_rfl)) fun r2 _ =>
 .sj Tryz.f113 0 [1,0] [17] 1 1 [2,19] 1 (fun r_=>⟨[(2,.b_ r2)],[.dead]⟩) ⟨[(2,.b_ false),(19,.b_ r2)],[.dead]⟩ (aao r2).den (sW (by kernel_rfl)) fun r3 _ =>
 .ret (bD 1) (r2)
def Q86 (p_v:ak) : Option (Bool) := Mo.den (ai5 p_v)
theorem akH (p_v:ak) : FV (Q86 p_v) 113 [.dat (ak.lf1 p_v)] (fun r=>.b_ r) := bZ Tryz.func113 (by kernel_rfl) (fun _=>rfl) (by kernel_rfl)
def Rl (p_doc:ak) : Mo (Bool) :=
 .cl (oD p_doc) fun r0 _ =>
 .ite (!r0) (fun c0 =>
 .say [.gd 4003 true] (ok1 c0) <|
 .rt [1,2,13] 2 (true)) fun c0 =>
 .say [.gd 4003 false,.num p_doc.bV.length] (okc c0 (ok1 (ln_ p_doc.bV aT.lf))) <|
 .rt [1,2,13] 2 ((p_doc.bV.length:Int) == 0)
def Rn (p_doc:ak) (r0:Bool) : Mo (Bool) :=
 .iG 4009 (r0) (.rt [1,2,21] 2 (true)) <|
 .ask (bP p_doc.bV 0) fun x0 h0 =>
 .say [.row (aT.lf1 x0)] (ok1 (aX aT.aZ h0)) <|
 .rt [1,2,21] 2 (!decide ((x0.fName:ByteArray) = (⟨#[95,105,100]⟩ : ByteArray)))
def Bf (x0:aT) : Mo (Bool) :=
 .iG 10003 (x0.fValue.aU == 6) (.rt [2,4,35] 3 (true)) <|
 .rt [2,4,35] 3 (x0.fValue.aU == 1)
def Nz (x0:aT) : Option (Bool) := Mo.den (Bf x0)
def sS (x0:aT) (r_:Bool) : St := ⟨[(2,.ptr 1 0),(4,.ptr 2 0),(35,.b_ r_)],[.dead,.box 29 (.agg [.i_ 0,.i_ 0,.lf (.str ⟨#[]⟩),.bI 5,.bI 6]),.box 29 (.agg [.i_ x0.fValue.aU,.i_ x0.fValue.jU,.lf (.str x0.fValue.fText),.lf (.rows 5 (x0.fValue.bY.map ak.lf)),.lf (.rows 6 (x0.fValue.bV.map aT.lf))])]⟩
theorem aap {x0:aT} {r_:Bool} (h:Nz x0 = some r_) : PE Tryz.f199 0 [1,1,1,0,0] [0,1,2,3,4,5,6,7] (sS x0 r_) ⟨[(2,.ptr 1 0),(4,.ptr 2 0)],[.dead,.box 29 (.agg [.i_ 0,.i_ 0,.lf (.str ⟨#[]⟩),.bI 5,.bI 6]),.box 29 (.agg [.i_ x0.fValue.aU,.i_ x0.fValue.jU,.lf (.str x0.fValue.fText),.lf (.rows 5 (x0.fValue.bY.map ak.lf)),.lf (.rows 6 (x0.fValue.bV.map aT.lf))])]⟩ :=
 YK dK (Bf x0) (sS x0) (by kernel_rfl) h
def Jt (r0:Bool) (x0:aT) : Mo (Bool) :=
 .iG 10008 (r0) (.rt [2,4,40] 3 (true)) <|
 .rt [2,4,40] 3 (x0.fValue.aU == 11)
def ai6 (p_doc:ak) : Mo (ak × Bool) :=
 .sj Tryz.f199 0 [1,0,0] [0,1,2,3,4,5,6,7,8] 1 9 [1,2] 2 (fun r_=>⟨[(1,.ptr 0 0),(2,.ptr 1 0),(13,.b_ r_)],[.box 29 (.dat (ak.lf1 p_doc)),.box 29 (.agg [.i_ 0,.i_ 0,.lf (.str ⟨#[]⟩),.bI 5,.bI 6])]⟩) ⟨[(1,.ptr 0 0),(2,.ptr 1 0)],[.box 29 (.dat (ak.lf1 p_doc)),.box 29 (.agg [.i_ 0,.i_ 0,.lf (.str ⟨#[]⟩),.bI 5,.bI 6])]⟩ (Rl p_doc).den (sW (by kernel_rfl)) fun r0 _ =>
 .sj Tryz.f199 0 [1,0,0] [9,10,11,12,13,14,15,16] 1 8 [1,2,13] 2 (fun r_=>⟨[(1,.ptr 0 0),(2,.ptr 1 0),(21,.b_ r_)],[.box 29 (.dat (ak.lf1 p_doc)),.box 29 (.agg [.i_ 0,.i_ 0,.lf (.str ⟨#[]⟩),.bI 5,.bI 6])]⟩) ⟨[(1,.ptr 0 0),(2,.ptr 1 0),(13,.b_ r0)],[.box 29 (.dat (ak.lf1 p_doc)),.box 29 (.agg [.i_ 0,.i_ 0,.lf (.str ⟨#[]⟩),.bI 5,.bI 6])]⟩ (Rn p_doc r0).den (sW (by kernel_rfl)) fun r1 _ =>
 .iB (r1) (.ret (bD 2) (ak.mk 0 0 ⟨#[]⟩ [] [],false)) <|
 .ask (bP p_doc.bV 0) fun x0 h0 =>
 .say [.row (aT.lf1 x0)] (ok1 (aX aT.aZ h0)) <|
 .ask (Nz x0) fun r2 h1 =>
 .say [.seg 4 [.kill 0] 8 [2,4] 3 (sS x0 r2).T (sS x0 r2).H] (ok1 (aap h1)) <|
 .sj Tryz.f199 0 [1,1,1,0,0] [8,9,10,11,12] 4 5 [2,4,35] 3 (fun r_=>⟨[(2,.ptr 1 0),(4,.ptr 2 0),(40,.b_ r_)],[.dead,.box 29 (.agg [.i_ 0,.i_ 0,.lf (.str ⟨#[]⟩),.bI 5,.bI 6]),.box 29 (.agg [.i_ x0.fValue.aU,.i_ x0.fValue.jU,.lf (.str x0.fValue.fText),.lf (.rows 5 (x0.fValue.bY.map ak.lf)),.lf (.rows 6 (x0.fValue.bV.map aT.lf))])]⟩) ⟨[(2,.ptr 1 0),(4,.ptr 2 0),(35,.b_ r2)],[.dead,.box 29 (.agg [.i_ 0,.i_ 0,.lf (.str ⟨#[]⟩),.bI 5,.bI 6]),.box 29 (.agg [.i_ x0.fValue.aU,.i_ x0.fValue.jU,.lf (.str x0.fValue.fText),.lf (.rows 5 (x0.fValue.bY.map ak.lf)),.lf (.rows 6 (x0.fValue.bV.map aT.lf))])]⟩ (Jt r2 x0).den (sW (by kernel_rfl)) fun r3 _ =>
 .iB (r3) (.ret (bD 2) (ak.mk 0 0 ⟨#[]⟩ [] [],false)) <|
 .ret (bD 2) (x0.fValue,true)
def Q63 (p_doc:ak) : Option (ak × Bool) := Mo.den (ai6 p_doc)
theorem akI (p_doc:ak) : FV (Q63 p_doc) 199 [.dat (ak.lf1 p_doc)] (fun r=>.tup [.dat (ak.lf1 r.1),.b_ r.2]) := bZ Tryz.func199 (by kernel_rfl) (fun _=>rfl) (by kernel_rfl)
def ado (p_v:ak) : Mo (Int × Int) :=
 .cl (Y0 p_v) fun r0 _ =>
 .ret (bD 2) ((r0.1.size:Int),r0.2)
def akJ (p_v:ak) : Option (Int × Int) := Mo.den (ado p_v)
theorem ahc (p_v:ak) : FV (akJ p_v) 200 [.dat (ak.lf1 p_v)] (fun r=>.tup [.i_ r.1,.i_ r.2]) := bZ Tryz.func200 (by kernel_rfl) (fun _=>rfl) (by kernel_rfl)
def adp (p_doc:ak) : Mo (Int) :=
 .cl (akI p_doc) fun r0 _ =>
 .iB (!r0.2) (.ret (bD 1) (8)) <|
 .cl (ahc p_doc) fun r1 _ =>
 .iB (r1.2 != 0) (.ret (bD 1) (r1.2)) <|
 .iB (decide ((16384:Int) < r1.1)) (.ret (bD 1) (2)) <|
 .ret (bD 1) (0)
def ahd (p_doc:ak) : Option (Int) := Mo.den (adp p_doc)
theorem Y3 (p_doc:ak) : FV (ahd p_doc) 155 [.dat (ak.lf1 p_doc)] (fun r=>.i_ r) := bZ Tryz.func155 (by kernel_rfl) (fun _=>rfl) (by kernel_rfl)
def adq (p_a:Int) (p_b:Int) : Mo (Int) :=
 .iB (decide ((p_a:Int) < p_b)) (.ret (bD 1) ((-1))) <|
 .iB (decide ((p_b:Int) < p_a)) (.ret (bD 1) (1)) <|
 .ret (bD 1) (0)
def ahe (p_a:Int) (p_b:Int) : Option (Int) := Mo.den (adq p_a p_b)
theorem sU (p_a:Int) (p_b:Int) : FV (ahe p_a p_b) 201 [.i_ p_a,.i_ p_b] (fun r=>.i_ r) := bZ Tryz.func201 (by kernel_rfl) (fun _=>rfl) (by kernel_rfl)
def Ro (p_a:ByteArray) (p_b:ByteArray) (v0:Int) : Mo (Bool) :=
 .iG 6004 (decide ((v0:Int) < (p_a.size:Int))) (.rt [0,1,5,15] 0 (decide ((v0:Int) < (p_b.size:Int)))) <|
 .rt [0,1,5,15] 0 (false)
def EM (p_a:ByteArray) (p_b:ByteArray) : (Int) → Mo ((Int) ⊕ (Int) ⊕ Unit) := fun (v0) =>
 .jp Tryz.f202 0 [1,0,1,0,0,0,0] 11 [0,1,5] 0 (.normal) (fun r_=>⟨[(0,.lf (.str p_a)),(1,.lf (.str p_b)),(5,.i_ v0),(15,.b_ r_)],[]⟩) ⟨[(0,.lf (.str p_a)),(1,.lf (.str p_b)),(5,.i_ v0)],[]⟩ (Ro p_a p_b v0).den (jW (by kernel_rfl)) fun r0 _ =>
 .ite (r0) (fun c0 =>
 .say [.br true,.order [(true,0),(true,1),(true,2),(true,3),(true,4),(true,5),(true,6)] none []] (ok1 c0) <|
 .ask (lZ p_a v0) fun b0 h0 =>
 .say [.byt b0] (ok1 (iK h0)) <|
 .ask (lZ p_b v0) fun b1 h1 =>
 .say [.byt b1] (ok1 (iK h1)) <|
 .iB ((b0.toNat:Int) != (b1.toNat:Int)) (.ask (lZ p_a v0) fun b2 h2 =>
 .say [] (ok1 (iK h2)) <|
 .ask (lZ p_b v0) fun b3 h3 =>
 .say [] (ok1 (iK h3)) <|
 .ask (ahe (IntKind.wrap .i64 (b2.toNat:Int)) (IntKind.wrap .i64 (b3.toNat:Int))) fun r1 h4 =>
 .say [.dL (.q 0 (.q 1 (.q 2 (.q 3 (.q 4 (.q 5 (.q 6 (.q 7 (.l 8 (.q 9 .fin)))))))))) (some 8) [] [.byt b2,.byt b3,.res (.i_ r1)] [4] 0 [(4,.i_ r1)] []] (okc (sU _ _ _ h4) (ok1 (rf_ ⟨[(4,.i_ r1)],[]⟩))) <|
 .rt [4] 0 (.inr (.inl (r1)))) <|
 .rt [0,1,5] 0 (.inl (IntKind.wrap .i64 (v0 + 1)))) fun c0 =>
 .say [.br false] (ok1 c0) <|
 .rt [0,1] 0 (.inr (.inr (())))
def WY (p_a:ByteArray) (p_b:ByteArray) (v0:Int) : Option ((Int) ⊕ Unit) := bM (fun v_=>(EM p_a p_b v_).den) FU (v0)
def Rq (p_a:ByteArray) (p_b:ByteArray) : (Int) → St := fun (v0)=>⟨[(0,.lf (.str p_a)),(1,.lf (.str p_b)),(5,.i_ v0)],[]⟩
def xO (r_:(Int) ⊕ Unit) : Exit := match r_ with
 | .inl o_=>.ret
 | .inr (o_)=>.exit 0
def xP (p_a:ByteArray) (p_b:ByteArray) (r_:(Int) ⊕ Unit) : St := match r_ with
 | .inl o_=>⟨[(4,.i_ o_)],[]⟩
 | .inr (o_)=>⟨[(0,.lf (.str p_a)),(1,.lf (.str p_b))],[]⟩
theorem Rt {p_a:ByteArray} {p_b:ByteArray} {v0:Int} {r_:(Int) ⊕ Unit} (h:WY p_a p_b v0 = some r_) : fK Tryz.f202 0 [1,0,1,0] (xO r_) (xP p_a p_b r_) (Rq p_a p_b (v0)) :=
 dO dK (body := (Code.sub (bodyC Tryz.f202) [1,0,1,0,0])) (by kernel_rfl) (EM p_a p_b) (Rq p_a p_b) xO (xP p_a p_b) (fun r_=>by rcases r_ with _ | _ <;> rfl) (fun v_=>by kernel_rfl) h
def ai7 (p_a:ByteArray) (p_b:ByteArray) : Mo (Int) :=
 .eU (WY p_a p_b 0) (fun o0 h0 =>
 .say [.pt_ 0 [0,1,5] 0 (xO (.inl o0)) (xP p_a p_b (.inl o0))] (ok1 (Rt h0)) <|
 .ret (bD 1) (o0)) fun o1 h0 =>
 .say [.pt_ 0 [0,1,5] 0 (xO (.inr (o1))) (xP p_a p_b (.inr (o1)))] (ok1 (Rt h0)) <|
 .cl (sU (p_a.size:Int) (p_b.size:Int)) fun r0 _ =>
 .ret (bD 1) (r0)
def Q41 (p_a:ByteArray) (p_b:ByteArray) : Option (Int) := Mo.den (ai7 p_a p_b)
theorem adr (p_a:ByteArray) (p_b:ByteArray) : FV (Q41 p_a p_b) 202 [.lf (.str p_a),.lf (.str p_b)] (fun r=>.i_ r) := bZ Tryz.func202 (by kernel_rfl) (fun _=>rfl) (by kernel_rfl)
structure RB9 where
 m1:(p_a:ak) → (p_b:ak) → Option (Int)
 ok1:∀ p_a p_b,FV (m1 p_a p_b) 156 [.dat (ak.lf1 p_a),.dat (ak.lf1 p_b)] (fun r=>.i_ r)
def Y4 (R_:RB9) (p_a:ak) (p_b:ak) : Mo (Bool) :=
 .iB (p_a.aU == 3) (.rt [2,3,20,21] 2 (p_a.aU == 3)) <|
 .iB (p_a.aU == 9) (.rt [2,3,20,21] 2 (p_a.aU == 9)) <|
 .rt [2,3,20,21] 2 (p_a.aU == 10)
def Y5 (R_:RB9) (p_a:ak) (p_b:ak) : Mo (Bool) :=
 .iB (p_a.aU == 4) (.rt [2,3,20,30] 2 (p_a.aU == 4)) <|
 .iB (p_a.aU == 7) (.rt [2,3,20,30] 2 (p_a.aU == 7)) <|
 .rt [2,3,20,30] 2 (p_a.aU == 8)
def Ru (R_:RB9) (p_a:ak) (p_b:ak) (v0:Int) : Mo (Bool) :=
 .say [.num p_a.bY.length] (ok1 (ln_ p_a.bY ak.lf)) <|
 .ite (decide ((v0:Int) < (p_a.bY.length:Int))) (fun c0 =>
 .say [.gd 30005 true,.num p_b.bY.length] (okc c0 (ok1 (ln_ p_b.bY ak.lf))) <|
 .rt [2,3,5,52] 2 (decide ((v0:Int) < (p_b.bY.length:Int)))) fun c0 =>
 .say [.gd 30005 false] (ok1 c0) <|
 .rt [2,3,5,52] 2 (false)
def EN (R_:RB9) (p_a:ak) (p_b:ak) : (Int) → Mo ((Int) ⊕ (Int) ⊕ Unit) := fun (v0) =>
 .jp Tryz.f156 0 [1,1,0,1,0,1,1,1,1,1,0,0,1,0,0,0,0] 35 [2,3,5] 2 (.normal) (fun r_=>⟨[(2,.ptr 0 0),(3,.ptr 1 0),(5,.i_ v0),(52,.b_ r_)],[.box 29 (.dat (ak.lf1 p_a)),.box 29 (.dat (ak.lf1 p_b))]⟩) ⟨[(2,.ptr 0 0),(3,.ptr 1 0),(5,.i_ v0)],[.box 29 (.dat (ak.lf1 p_a)),.box 29 (.dat (ak.lf1 p_b))]⟩ (Ru R_ p_a p_b v0).den (jW (by kernel_rfl)) fun r0 _ =>
 .iB (r0) (.ask (bP p_a.bY v0) fun x0 h0 =>
 .say [] (ok1 (aX ak.aZ h0)) <|
 .ask (bP p_b.bY v0) fun x1 h1 =>
 .say [] (ok1 (aX ak.aZ h1)) <|
 .ask (R_.m1 x0 x1) fun r1 h2 =>
 .say [.dL (.q 0 (.q 1 (.q 2 (.q 3 (.q 4 (.q 5 (.q 6 (.q 7 (.q 8 (.q 9 (.l 10 (.q 11 .fin)))))))))))) (some 10) [] [.row (ak.lf1 x0),.row (ak.lf1 x1),.res (.i_ r1)] [2,3,5,6] 2 [(2,.ptr 0 0),(3,.ptr 1 0),(5,.i_ v0),(6,.i_ r1)] [.box 29 (.dat (ak.lf1 p_a)),.box 29 (.dat (ak.lf1 p_b))]] (okc (R_.ok1 _ _ _ h2) (ok1 (rf_ ⟨[(2,.ptr 0 0),(3,.ptr 1 0),(5,.i_ v0),(6,.i_ r1)],[.box 29 (.dat (ak.lf1 p_a)),.box 29 (.dat (ak.lf1 p_b))]⟩))) <|
 .iB (r1 != 0) (.ret ⟨[.kill 0,.kill 1],[4],[],2⟩ (.inr (.inl (r1)))) <|
 .rt [2,3,5] 2 (.inl (IntKind.wrap .i64 (v0 + 1)))) <|
 .rt [2,3] 2 (.inr (.inr (())))
def WZ (R_:RB9) (p_a:ak) (p_b:ak) (v0:Int) : Option ((Int) ⊕ Unit) := bM (fun v_=>(EN R_ p_a p_b v_).den) FU (v0)
def Rw (R_:RB9) (p_a:ak) (p_b:ak) : (Int) → St := fun (v0)=>⟨[(2,.ptr 0 0),(3,.ptr 1 0),(5,.i_ v0)],[.box 29 (.dat (ak.lf1 p_a)),.box 29 (.dat (ak.lf1 p_b))]⟩
def xQ (r_:(Int) ⊕ Unit) : Exit := match r_ with
 | .inl o_=>.ret
 | .inr (o_)=>.exit 1
def xR (p_a:ak) (p_b:ak) (r_:(Int) ⊕ Unit) : St := match r_ with
 | .inl o_=>⟨[(4,.i_ o_)],[.dead,.dead]⟩
 | .inr (o_)=>⟨[(2,.ptr 0 0),(3,.ptr 1 0)],[.box 29 (.dat (ak.lf1 p_a)),.box 29 (.dat (ak.lf1 p_b))]⟩
theorem Rx {R_:RB9} {p_a:ak} {p_b:ak} {v0:Int} {r_:(Int) ⊕ Unit} (h:WZ R_ p_a p_b v0 = some r_) : fK Tryz.f156 0 [1,1,0,1,0,1,1,1,1,1,0,0,1,0] (xQ r_) (xR p_a p_b r_) (Rw R_ p_a p_b (v0)) :=
 dO dK (body := (Code.sub (bodyC Tryz.f156) [1,1,0,1,0,1,1,1,1,1,0,0,1,0,0])) (by kernel_rfl) (EN R_ p_a p_b) (Rw R_ p_a p_b) xQ (xR p_a p_b) (fun r_=>by rcases r_ with _ | _ <;> rfl) (fun v_=>by kernel_rfl) h
def Ry (R_:RB9) (p_a:ak) (p_b:ak) (v0:Int) : Mo (Bool) :=
 .say [.num p_a.bV.length] (ok1 (ln_ p_a.bV aT.lf)) <|
 .ite (decide ((v0:Int) < (p_a.bV.length:Int))) (fun c0 =>
 .say [.gd 46005 true,.num p_b.bV.length] (okc c0 (ok1 (ln_ p_b.bV aT.lf))) <|
 .rt [2,3,7,89] 2 (decide ((v0:Int) < (p_b.bV.length:Int)))) fun c0 =>
 .say [.gd 46005 false] (ok1 c0) <|
 .rt [2,3,7,89] 2 (false)
def Rz (R_:RB9) (p_a:ak) (p_b:ak) (r0:Int) (v0:Int) : Mo (Int) :=
 .iB (r0 == 0) (.ask (bP p_a.bV v0) fun x0 h0 =>
 .say [] (ok1 (aX aT.aZ h0)) <|
 .ask (bP p_b.bV v0) fun x1 h1 =>
 .say [] (ok1 (aX aT.aZ h1)) <|
 .ask (R_.m1 x0.fValue x1.fValue) fun r1 h2 =>
 .say [.dL (.q 0 (.q 1 (.q 2 (.q 3 (.q 4 (.q 5 (.q 6 (.q 7 (.q 8 (.q 9 (.q 10 (.q 11 (.l 12 (.q 13 .fin)))))))))))))) (some 12) [] [.row (aT.lf1 x0),.row (aT.lf1 x1),.res (.i_ r1)] [2,3,7,8] 2 [(2,.ptr 0 0),(3,.ptr 1 0),(7,.i_ v0),(8,.i_ r1)] [.box 29 (.dat (ak.lf1 p_a)),.box 29 (.dat (ak.lf1 p_b))]] (okc (R_.ok1 _ _ _ h2) (ok1 (rf_ ⟨[(2,.ptr 0 0),(3,.ptr 1 0),(7,.i_ v0),(8,.i_ r1)],[.box 29 (.dat (ak.lf1 p_a)),.box 29 (.dat (ak.lf1 p_b))]⟩))) <|
 .rt [2,3,7,8] 2 (r1)) <|
 .rt [2,3,7,8] 2 (r0)
def EO (R_:RB9) (p_a:ak) (p_b:ak) : (Int) → Mo ((Int) ⊕ (Int) ⊕ Unit) := fun (v0) =>
 .jp Tryz.f156 0 [1,1,0,1,0,1,1,1,1,1,1,1,0,0,1,0,0,0,0] 51 [2,3,7] 2 (.normal) (fun r_=>⟨[(2,.ptr 0 0),(3,.ptr 1 0),(7,.i_ v0),(89,.b_ r_)],[.box 29 (.dat (ak.lf1 p_a)),.box 29 (.dat (ak.lf1 p_b))]⟩) ⟨[(2,.ptr 0 0),(3,.ptr 1 0),(7,.i_ v0)],[.box 29 (.dat (ak.lf1 p_a)),.box 29 (.dat (ak.lf1 p_b))]⟩ (Ry R_ p_a p_b v0).den (jW (by kernel_rfl)) fun r0 _ =>
 .iB (r0) (.ask (bP p_a.bV v0) fun x0 h0 =>
 .say [] (ok1 (aX aT.aZ h0)) <|
 .ask (bP p_b.bV v0) fun x1 h1 =>
 .say [] (ok1 (aX aT.aZ h1)) <|
 .ask (Q41 x0.fName x1.fName) fun r1 h2 =>
 .say [.dL (.q 0 (.q 1 (.q 2 (.q 3 (.q 4 (.q 5 (.q 6 (.q 7 (.q 8 (.q 9 (.q 10 (.q 11 (.l 12 (.q 13 .fin)))))))))))))) (some 12) [] [.row (aT.lf1 x0),.row (aT.lf1 x1),.res (.i_ r1)] [2,3,7,8] 2 [(2,.ptr 0 0),(3,.ptr 1 0),(7,.i_ v0),(8,.i_ r1)] [.box 29 (.dat (ak.lf1 p_a)),.box 29 (.dat (ak.lf1 p_b))]] (okc (adr _ _ _ h2) (ok1 (rf_ ⟨[(2,.ptr 0 0),(3,.ptr 1 0),(7,.i_ v0),(8,.i_ r1)],[.box 29 (.dat (ak.lf1 p_a)),.box 29 (.dat (ak.lf1 p_b))]⟩))) <|
 .jp Tryz.f156 0 [1,1,0,1,0,1,1,1,1,1,1,1,0,0,1,0,0,1,0,0,1,0,1] 1 [2,3,7,8,106] 2 (.normal) (fun r_=>⟨[(2,.ptr 0 0),(3,.ptr 1 0),(7,.i_ v0),(8,.i_ r_)],[.box 29 (.dat (ak.lf1 p_a)),.box 29 (.dat (ak.lf1 p_b))]⟩) ⟨[(2,.ptr 0 0),(3,.ptr 1 0),(7,.i_ v0),(8,.i_ r1),(106,.lf (.bool (r1 == 0)))],[.box 29 (.dat (ak.lf1 p_a)),.box 29 (.dat (ak.lf1 p_b))]⟩ (Rz R_ p_a p_b r1 v0).den (jW (by kernel_rfl)) fun r2 _ =>
 .iB (r2 != 0) (.ret ⟨[.kill 0,.kill 1],[4],[],2⟩ (.inr (.inl (r2)))) <|
 .rt [2,3,7] 2 (.inl (IntKind.wrap .i64 (v0 + 1)))) <|
 .rt [2,3] 2 (.inr (.inr (())))
def W9 (R_:RB9) (p_a:ak) (p_b:ak) (v0:Int) : Option ((Int) ⊕ Unit) := bM (fun v_=>(EO R_ p_a p_b v_).den) FU (v0)
def RD (R_:RB9) (p_a:ak) (p_b:ak) : (Int) → St := fun (v0)=>⟨[(2,.ptr 0 0),(3,.ptr 1 0),(7,.i_ v0)],[.box 29 (.dat (ak.lf1 p_a)),.box 29 (.dat (ak.lf1 p_b))]⟩
def xU (r_:(Int) ⊕ Unit) : Exit := match r_ with
 | .inl o_=>.ret
 | .inr (o_)=>.exit 3
def xW (p_a:ak) (p_b:ak) (r_:(Int) ⊕ Unit) : St := match r_ with
 | .inl o_=>⟨[(4,.i_ o_)],[.dead,.dead]⟩
 | .inr (o_)=>⟨[(2,.ptr 0 0),(3,.ptr 1 0)],[.box 29 (.dat (ak.lf1 p_a)),.box 29 (.dat (ak.lf1 p_b))]⟩
theorem RF {R_:RB9} {p_a:ak} {p_b:ak} {v0:Int} {r_:(Int) ⊕ Unit} (h:W9 R_ p_a p_b v0 = some r_) : fK Tryz.f156 0 [1,1,0,1,0,1,1,1,1,1,1,1,0,0,1,0] (xU r_) (xW p_a p_b r_) (RD R_ p_a p_b (v0)) :=
 dO dK (body := (Code.sub (bodyC Tryz.f156) [1,1,0,1,0,1,1,1,1,1,1,1,0,0,1,0,0])) (by kernel_rfl) (EO R_ p_a p_b) (RD R_ p_a p_b) xU (xW p_a p_b) (fun r_=>by rcases r_ with _ | _ <;> rfl) (fun v_=>by kernel_rfl) h
def akK (R_:RB9) (p_a:ak) (p_b:ak) : Mo (Int) :=
 .iB (p_a.aU != p_b.aU) (.cl (sU p_a.aU p_b.aU) fun r0 _ =>
 .ret (bD 1) (r0)) <|
 .jp Tryz.f156 0 [1,1,0,1,0,0,1] 1 [2,3,20,21] 2 (.normal) (fun r_=>⟨[(2,.ptr 0 0),(3,.ptr 1 0),(20,.i_ p_a.aU),(21,.b_ r_)],[.box 29 (.dat (ak.lf1 p_a)),.box 29 (.dat (ak.lf1 p_b))]⟩) ⟨[(2,.ptr 0 0),(3,.ptr 1 0),(20,.i_ p_a.aU),(21,.lf (.bool (p_a.aU == 3)))],[.box 29 (.dat (ak.lf1 p_a)),.box 29 (.dat (ak.lf1 p_b))]⟩ (Y4 R_ p_a p_b).den (jW (by kernel_rfl)) fun r1 _ =>
 .iB (r1) (.cl (sU p_a.jU p_b.jU) fun r2 _ =>
 .ret (bD 1) (r2)) <|
 .jp Tryz.f156 0 [1,1,0,1,0,1,1,0,1] 1 [2,3,20,30] 2 (.normal) (fun r_=>⟨[(2,.ptr 0 0),(3,.ptr 1 0),(20,.i_ p_a.aU),(30,.b_ r_)],[.box 29 (.dat (ak.lf1 p_a)),.box 29 (.dat (ak.lf1 p_b))]⟩) ⟨[(2,.ptr 0 0),(3,.ptr 1 0),(20,.i_ p_a.aU),(30,.lf (.bool (p_a.aU == 4)))],[.box 29 (.dat (ak.lf1 p_a)),.box 29 (.dat (ak.lf1 p_b))]⟩ (Y5 R_ p_a p_b).den (jW (by kernel_rfl)) fun r3 _ =>
 .iB (r3) (.cl (adr p_a.fText p_b.fText) fun r4 _ =>
 .ret (bD 1) (r4)) <|
 .iB (p_a.aU == 6) (.eU (WZ R_ p_a p_b 0) (fun o0 h0 =>
 .say [.pt_ 0 [2,3,5] 2 (xQ (.inl o0)) (xR p_a p_b (.inl o0))] (ok1 (Rx h0)) <|
 .ret (bD 1) (o0)) fun o1 h0 =>
 .say [.pt_ 0 [2,3,5] 2 (xQ (.inr (o1))) (xR p_a p_b (.inr (o1))),.num p_a.bY.length,.num p_b.bY.length] (okc (Rx h0) (okc (ln_ p_a.bY ak.lf) (ok1 (ln_ p_b.bY ak.lf)))) <|
 .cl (sU (p_a.bY.length:Int) (p_b.bY.length:Int)) fun r5 _ =>
 .ret (bD 1) (r5)) <|
 .iB (p_a.aU == 5) (.eU (W9 R_ p_a p_b 0) (fun o2 h1 =>
 .say [.pt_ 0 [2,3,7] 2 (xU (.inl o2)) (xW p_a p_b (.inl o2))] (ok1 (RF h1)) <|
 .ret (bD 1) (o2)) fun o3 h1 =>
 .say [.pt_ 0 [2,3,7] 2 (xU (.inr (o3))) (xW p_a p_b (.inr (o3))),.num p_a.bV.length,.num p_b.bV.length] (okc (RF h1) (okc (ln_ p_a.bV aT.lf) (ok1 (ln_ p_b.bV aT.lf)))) <|
 .cl (sU (p_a.bV.length:Int) (p_b.bV.length:Int)) fun r6 _ =>
 .ret (bD 1) (r6)) <|
 .ret (bD 1) (0)
theorem akL (R_:RB9) (p_a:ak) (p_b:ak) : FV (Mo.den (akK R_ p_a p_b)) 156 [.dat (ak.lf1 p_a),.dat (ak.lf1 p_b)] (fun r=>.i_ r) := bZ Tryz.func156 (by kernel_rfl) (fun _=>rfl) (by kernel_rfl)
def Ju:Nat → RB9
 | 0=>{ m1 := fun p_a p_b=>none,ok1 := fun _ _ _ h=>(by cases h) }
 | n_ + 1=>{ m1 := fun p_a p_b=>Mo.den (akK (Ju n_) p_a p_b),ok1 := akL (Ju n_) }
def Q4 (p_a:ak) (p_b:ak) : Option (Int) := (Ju FU).m1 p_a p_b
theorem amO (p_a:ak) (p_b:ak) : FV (Q4 p_a p_b) 156 [.dat (ak.lf1 p_a),.dat (ak.lf1 p_b)] (fun r=>.i_ r) := (Ju FU).ok1 p_a p_b
def Jv (p_doc:ak) (p_key:ak) (r0:Int) : Mo (Bool) :=
 .iG 6002 (r0 != 0) (.rt [2,3,5,13] 2 (r0 != 2)) <|
 .rt [2,3,5,13] 2 (false)
def ads (p_doc:ak) (p_key:ak) : Mo (Int) :=
 .cl (Y3 p_doc) fun r0 _ =>
 .jp Tryz.f114 0 [1,0,1,0] 11 [2,3,5] 2 (.normal) (fun r_=>⟨[(2,.ptr 0 0),(3,.ptr 1 0),(5,.i_ r0),(13,.b_ r_)],[.box 29 (.dat (ak.lf1 p_doc)),.box 29 (.dat (ak.lf1 p_key))]⟩) ⟨[(2,.ptr 0 0),(3,.ptr 1 0),(5,.i_ r0)],[.box 29 (.dat (ak.lf1 p_doc)),.box 29 (.dat (ak.lf1 p_key))]⟩ (Jv p_doc p_key r0).den (jW (by kernel_rfl)) fun r1 _ =>
 .iB (r1) (.ret (bD 1) (r0)) <|
 .ask (bP p_doc.bV 0) fun x0 h0 =>
 .say [] (ok1 (aX aT.aZ h0)) <|
 .ask (Q4 x0.fValue p_key) fun r2 h1 =>
 .say [.dL (.q 0 (.q 1 (.q 2 (.q 3 (.q 4 (.q 5 (.l 6 (.q 7 .fin)))))))) (some 6) [] [.row (aT.lf1 x0),.res (.i_ r2)] [2,22] 2 [(2,.ptr 0 0),(22,.lf (.bool (r2 != 0)))] [.box 29 (.dat (ak.lf1 p_doc)),.box 29 (.dat (ak.lf1 p_key))]] (okc (amO _ _ _ h1) (ok1 (rf_ ⟨[(2,.ptr 0 0),(22,.lf (.bool (r2 != 0)))],[.box 29 (.dat (ak.lf1 p_doc)),.box 29 (.dat (ak.lf1 p_key))]⟩))) <|
 .iB (r2 != 0) (.ret (bD 1) (8)) <|
 .cl (Y3 p_doc) fun r3 _ =>
 .ret (bD 1) (r3)
def akM (p_doc:ak) (p_key:ak) : Option (Int) := Mo.den (ads p_doc p_key)
theorem Y6 (p_doc:ak) (p_key:ak) : FV (akM p_doc p_key) 114 [.dat (ak.lf1 p_doc),.dat (ak.lf1 p_key)] (fun r=>.i_ r) := bZ Tryz.func114 (by kernel_rfl) (fun _=>rfl) (by kernel_rfl)
def EP (p_a:List ByteArray) (p_b:List ByteArray) : (Int) → Mo ((Int) ⊕ (Unit ⊕ Unit)) := fun (v0) =>
 .say [.num p_a.length] (ok1 (ln_ p_a lfS)) <|
 .ite (decide ((v0:Int) < (p_a.length:Int))) (fun c0 =>
 .say [.br true,.order [(true,0),(true,1),(true,2),(true,3),(true,4),(true,5),(true,6),(true,7),(true,8)] none []] (ok1 c0) <|
 .ask (bP p_a v0) fun x0 h0 =>
 .say [.row (lfS x0)] (ok1 (aX lS_ h0)) <|
 .ask (bP p_b v0) fun x1 h1 =>
 .say [.row (lfS x1)] (ok1 (aX lS_ h1)) <|
 .iB (!decide ((x0:ByteArray) = (x1:ByteArray))) (.rt [4] 0 (.inr (.inl ()))) <|
 .rt [0,1,5] 0 (.inl (IntKind.wrap .i64 (v0 + 1)))) fun c0 =>
 .say [.br false] (ok1 c0) <|
 .rt [] 0 (.inr (.inr (())))
def adt (p_a:List ByteArray) (p_b:List ByteArray) (v0:Int) : Option (Unit ⊕ Unit) := bM (fun v_=>(EP p_a p_b v_).den) FU (v0)
def RG (p_a:List ByteArray) (p_b:List ByteArray) : (Int) → St := fun (v0)=>⟨[(0,.lf (.rows 1 (p_a.map lfS))),(1,.lf (.rows 1 (p_b.map lfS))),(5,.i_ v0)],[]⟩
def xX (r_:Unit ⊕ Unit) : Exit := match r_ with
 | .inl o_=>.ret
 | .inr (o_)=>.exit 0
def xY  (r_:Unit ⊕ Unit) : St := match r_ with
 | .inl o_=>⟨[(4,.b_ false)],[]⟩
 | .inr (o_)=>⟨[],[]⟩
theorem RH {p_a:List ByteArray} {p_b:List ByteArray} {v0:Int} {r_:Unit ⊕ Unit} (h:adt p_a p_b v0 = some r_) : fK Tryz.f204 0 [1,1,0,1,0] (xX r_) (xY r_) (RG p_a p_b (v0)) :=
 dO dK (body := (Code.sub (bodyC Tryz.f204) [1,1,0,1,0,0])) (by kernel_rfl) (EP p_a p_b) (RG p_a p_b) xX xY (fun r_=>by rcases r_ with _ | _ <;> rfl) (fun v_=>by kernel_rfl) h
def ai8 (p_a:List ByteArray) (p_b:List ByteArray) : Mo (Bool) :=
 .say [.num p_a.length,.num p_b.length] (okc (ln_ p_a lfS) (ok1 (ln_ p_b lfS))) <|
 .iB ((p_a.length:Int) != (p_b.length:Int)) (.ret (bD 1) (false)) <|
 .eU (adt p_a p_b 0) (fun o0 h0 =>
 .say [.pt_ 0 [0,1,5] 0 (xX (.inl o0)) (xY (.inl o0))] (ok1 (RH h0)) <|
 .ret (bD 1) (false)) fun o1 h0 =>
 .say [.pt_ 0 [0,1,5] 0 (xX (.inr (o1))) (xY (.inr (o1)))] (ok1 (RH h0)) <|
 .ret (bD 1) (true)
def Q61 (p_a:List ByteArray) (p_b:List ByteArray) : Option (Bool) := Mo.den (ai8 p_a p_b)
theorem akN (p_a:List ByteArray) (p_b:List ByteArray) : FV (Q61 p_a p_b) 204 [.lf (.rows 1 (p_a.map lfS)),.lf (.rows 1 (p_b.map lfS))] (fun r=>.b_ r) := bZ Tryz.func204 (by kernel_rfl) (fun _=>rfl) (by kernel_rfl)
def ER (p_l:List bn) (v0:Int) : (Int) → Mo ((Int) ⊕ (Unit ⊕ Unit)) := fun (v1) =>
 .ite (decide ((v1:Int) < v0)) (fun c0 =>
 .say [.br true,.order [(true,0),(true,1),(true,2),(true,3),(true,4),(true,5),(true,6),(true,7),(true,8),(true,9),(false,10)] (some 10) []] (ok1 c0) <|
 .ask (bP p_l v0) fun x0 h0 =>
 .say [.row (bn.lf1 x0)] (ok1 (aX bn.aZ h0)) <|
 .ask (bP p_l v1) fun x1 h1 =>
 .say [.row (bn.lf1 x1)] (ok1 (aX bn.aZ h1)) <|
 .cl (akN x0.dA x1.dA) fun r0 _ =>
 .iB (r0) (.rt [2] 0 (.inr (.inl ()))) <|
 .rt [0,3,4] 0 (.inl (IntKind.wrap .i64 (v1 + 1)))) fun c0 =>
 .say [.br false] (ok1 c0) <|
 .rt [0,3] 0 (.inr (.inr (())))
def adu (p_l:List bn) (v0:Int) (v1:Int) : Option (Unit ⊕ Unit) := bM (fun v_=>(ER p_l v0 v_).den) FU (v1)
def RI (p_l:List bn) (v0:Int) : (Int) → St := fun (v1)=>⟨[(0,.lf (.rows 2 (p_l.map bn.lf))),(3,.i_ v0),(4,.i_ v1)],[]⟩
def xZ (r_:Unit ⊕ Unit) : Exit := match r_ with
 | .inl o_=>.ret
 | .inr (o_)=>.exit 2
def yc (p_l:List bn) (v0:Int) (r_:Unit ⊕ Unit) : St := match r_ with
 | .inl o_=>⟨[(2,.i_ 12)],[]⟩
 | .inr (o_)=>⟨[(0,.lf (.rows 2 (p_l.map bn.lf))),(3,.i_ v0)],[]⟩
theorem RJ {p_l:List bn} {v0:Int} {v1:Int} {r_:Unit ⊕ Unit} (h:adu p_l v0 v1 = some r_) : fK Tryz.f159 0 [1,1,0,1,0,0,1,0,0,1,1,0] (xZ r_) (yc p_l v0 r_) (RI p_l v0 (v1)) :=
 dO dK (body := (Code.sub (bodyC Tryz.f159) [1,1,0,1,0,0,1,0,0,1,1,0,0])) (by kernel_rfl) (ER p_l v0) (RI p_l v0) xZ (yc p_l v0) (fun r_=>by rcases r_ with _ | _ <;> rfl) (fun v_=>by kernel_rfl) h
def ES (p_l:List bn) : (Int) → Mo ((Int) ⊕ (Int) ⊕ Unit) := fun (v0) =>
 .say [.num p_l.length] (ok1 (ln_ p_l bn.lf)) <|
 .iB (decide ((v0:Int) < (p_l.length:Int))) (.ask (bP p_l v0) fun x0 h0 =>
 .say [.row (bn.lf1 x0)] (ok1 (aX bn.aZ h0)) <|
 .cl (Ef x0.dA) fun r0 _ =>
 .iB (!r0) (.rt [2] 0 (.inr (.inl (10)))) <|
 .eU (adu p_l v0 0) (fun o0 h1 =>
 .say [.pt_ 0 [0,3,4] 0 (xZ (.inl o0)) (yc p_l v0 (.inl o0))] (ok1 (RJ h1)) <|
 .rt [2] 0 (.inr (.inl (12)))) fun o1 h1 =>
 .say [.pt_ 0 [0,3,4] 0 (xZ (.inr (o1))) (yc p_l v0 (.inr (o1)))] (ok1 (RJ h1)) <|
 .rt [0,3] 0 (.inl (IntKind.wrap .i64 (v0 + 1)))) <|
 .rt [] 0 (.inr (.inr (())))
def adv (p_l:List bn) (v0:Int) : Option ((Int) ⊕ Unit) := bM (fun v_=>(ES p_l v_).den) FU (v0)
def RN (p_l:List bn) : (Int) → St := fun (v0)=>⟨[(0,.lf (.rows 2 (p_l.map bn.lf))),(3,.i_ v0)],[]⟩
def yg (r_:(Int) ⊕ Unit) : Exit := match r_ with
 | .inl o_=>.ret
 | .inr (o_)=>.exit 0
def yh  (r_:(Int) ⊕ Unit) : St := match r_ with
 | .inl o_=>⟨[(2,.i_ o_)],[]⟩
 | .inr (o_)=>⟨[],[]⟩
theorem RP {p_l:List bn} {v0:Int} {r_:(Int) ⊕ Unit} (h:adv p_l v0 = some r_) : fK Tryz.f159 0 [1,1,0,1,0] (yg r_) (yh r_) (RN p_l (v0)) :=
 dO dK (body := (Code.sub (bodyC Tryz.f159) [1,1,0,1,0,0])) (by kernel_rfl) (ES p_l) (RN p_l) yg yh (fun r_=>by rcases r_ with _ | _ <;> rfl) (fun v_=>by kernel_rfl) h
def ai9 (p_l:List bn) : Mo (Int) :=
 .say [.num p_l.length] (ok1 (ln_ p_l bn.lf)) <|
 .iB (decide ((8:Int) < (p_l.length:Int))) (.ret (bD 1) (2)) <|
 .eU (adv p_l 0) (fun o0 h0 =>
 .say [.pt_ 0 [0,3] 0 (yg (.inl o0)) (yh (.inl o0))] (ok1 (RP h0)) <|
 .ret (bD 1) (o0)) fun o1 h0 =>
 .say [.pt_ 0 [0,3] 0 (yg (.inr (o1))) (yh (.inr (o1)))] (ok1 (RP h0)) <|
 .ret (bD 1) (0)
def Q17 (p_l:List bn) : Option (Int) := Mo.den (ai9 p_l)
theorem akO (p_l:List bn) : FV (Q17 p_l) 159 [.lf (.rows 2 (p_l.map bn.lf))] (fun r=>.i_ r) := bZ Tryz.func159 (by kernel_rfl) (fun _=>rfl) (by kernel_rfl)
structure Xa where
 m1:(p_p:aO) → (p_levels:Int) → (p_left:Int) → Option (Int)
 ok1:∀ p_p p_levels p_left,FV (m1 p_p p_levels p_left) 205 [.dat (aO.lf1 p_p),.i_ p_levels,.i_ p_left] (fun r=>.i_ r)
def RQ (R_:Xa) (p_left:Int) (p_levels:Int) (p_p:aO) : Mo (Bool) :=
 .iG 4002 (p_levels == 0) (.rt [1,2,3,13] 1 (true)) <|
 .rt [1,2,3,13] 1 (decide ((p_left:Int) ≤ 0))
def RS (R_:Xa) (p_levels:Int) (p_p:aO) (v0:Int) (v1:Int) : Mo (Bool) :=
 .say [.num p_p.bC.length] (ok1 (ln_ p_p.bC aO.lf)) <|
 .iG 12005 (decide ((v1:Int) < (p_p.bC.length:Int))) (.rt [1,2,3,7,24] 1 (decide ((0:Int) ≤ v0))) <|
 .rt [1,2,3,7,24] 1 (false)
def Jw (R_:Xa) (p_levels:Int) (p_p:aO) : (Int × Int) → Mo ((Int × Int) ⊕ (Int)) := fun (v0,v1) =>
 .jp Tryz.f205 0 [1,1,1,0,1,0,0,0,0] 17 [1,2,3,7] 1 (.normal) (fun r_=>⟨[(1,.i_ p_levels),(2,.i_ v0),(3,.ptr 0 0),(7,.i_ v1),(24,.b_ r_)],[.box 47 (.dat (aO.lf1 p_p))]⟩) ⟨[(1,.i_ p_levels),(2,.i_ v0),(3,.ptr 0 0),(7,.i_ v1)],[.box 47 (.dat (aO.lf1 p_p))]⟩ (RS R_ p_levels p_p v0 v1).den (jW (by kernel_rfl)) fun r0 _ =>
 .iB (r0) (.ask (bP p_p.bC v1) fun x0 h0 =>
 .say [.row (aO.lf1 x0)] (ok1 (aX aO.aZ h0)) <|
 .cl (R_.ok1 x0 (IntKind.wrap .i64 (p_levels - 1)) v0) fun r1 _ =>
 .rt [1,2,3,7] 1 (.inl (r1,IntKind.wrap .i64 (v1 + 1)))) <|
 .ret ⟨[.kill 0],[2],[],1⟩ (.inr (v0))
def ahf (R_:Xa) (p_levels:Int) (p_p:aO) (v0:Int) (v1:Int) : Option (Int) := bM (fun v_=>(Jw R_ p_levels p_p v_).den) FU (v0,v1)
def adw (R_:Xa) (p_p:aO) (p_levels:Int) (p_left:Int) : Mo (Int) :=
 .jp Tryz.f205 0 [1,0,0] 9 [1,2,3] 1 (.normal) (fun r_=>⟨[(1,.i_ p_levels),(2,.i_ p_left),(3,.ptr 0 0),(13,.b_ r_)],[.box 47 (.dat (aO.lf1 p_p))]⟩) ⟨[(1,.i_ p_levels),(2,.i_ p_left),(3,.ptr 0 0)],[.box 47 (.dat (aO.lf1 p_p))]⟩ (RQ R_ p_left p_levels p_p).den (jW (by kernel_rfl)) fun r0 _ =>
 .iB (r0) (.ret (bD 1) ((-1))) <|
 .lp Tryz.f205 0 [1,1,1,0,1,0] 0 [1,2,3,7] 1 (.exit 0) (fun r_=>⟨[(2,.i_ r_)],[.dead]⟩) (ahf R_ p_levels p_p (IntKind.wrap .i64 (p_left - 1)) 0) (lW (fun (v0,v1)=>⟨[(1,.i_ p_levels),(2,.i_ v0),(3,.ptr 0 0),(7,.i_ v1)],[.box 47 (.dat (aO.lf1 p_p))]⟩) (by kernel_rfl) rfl fun v_=>by kernel_rfl) fun r1 _ =>
 .ret (bD 1) (r1)
theorem ahg (R_:Xa) (p_p:aO) (p_levels:Int) (p_left:Int) : FV (Mo.den (adw R_ p_p p_levels p_left)) 205 [.dat (aO.lf1 p_p),.i_ p_levels,.i_ p_left] (fun r=>.i_ r) := bZ Tryz.func205 (by kernel_rfl) (fun _=>rfl) (by kernel_rfl)
def pX:Nat → Xa
 | 0=>{ m1 := fun p_p p_levels p_left=>none,ok1 := fun _ _ _ _ h=>(by cases h) }
 | n_ + 1=>{ m1 := fun p_p p_levels p_left=>Mo.den (adw (pX n_) p_p p_levels p_left),ok1 := ahg (pX n_) }
def Q79 (p_p:aO) (p_levels:Int) (p_left:Int) : Option (Int) := (pX FU).m1 p_p p_levels p_left
theorem akP (p_p:aO) (p_levels:Int) (p_left:Int) : FV (Q79 p_p p_levels p_left) 205 [.dat (aO.lf1 p_p),.i_ p_levels,.i_ p_left] (fun r=>.i_ r) := (pX FU).ok1 p_p p_levels p_left
def aaq (p_p:aO) : Mo (Bool) :=
 .iB (p_p.fOp == 15) (.rt [1,4,5] 1 (p_p.fOp == 15)) <|
 .rt [1,4,5] 1 (p_p.fOp == 23)
def aar (p_p:aO) : Mo (Bool) :=
 .iB (p_p.fOp == 20) (.rt [1,12] 1 (p_p.fOp == 20)) <|
 .iB (p_p.fOp == 21) (.rt [1,12] 1 (p_p.fOp == 21)) <|
 .rt [1,12] 1 (p_p.fOp == 22)
def adx (p_p:aO) : Mo (Bool) :=
 .jp Tryz.f242 0 [1,0,1,0,0,1] 1 [1,4,5] 1 (.normal) (fun r_=>⟨[(1,.ptr 0 0),(4,.i_ p_p.fOp),(5,.b_ r_)],[.box 47 (.dat (aO.lf1 p_p))]⟩) ⟨[(1,.ptr 0 0),(4,.i_ p_p.fOp),(5,.lf (.bool (p_p.fOp == 15)))],[.box 47 (.dat (aO.lf1 p_p))]⟩ (aaq p_p).den (jW (by kernel_rfl)) fun r0 _ =>
 .ite (r0) (fun c0 =>
 .say [.br true,.num p_p.bC.length] (okc c0 (ok1 (ln_ p_p.bC aO.lf))) <|
 .ret (bD 1) ((p_p.bC.length:Int) == 1)) fun c0 =>
 .say [.br false] (ok1 c0) <|
 .jp Tryz.f242 0 [1,0,1,0,1,1,0,1] 1 [1,4,12] 1 (.normal) (fun r_=>⟨[(1,.ptr 0 0),(12,.b_ r_)],[.box 47 (.dat (aO.lf1 p_p))]⟩) ⟨[(1,.ptr 0 0),(4,.i_ p_p.fOp),(12,.lf (.bool (p_p.fOp == 20)))],[.box 47 (.dat (aO.lf1 p_p))]⟩ (aar p_p).den (jW (by kernel_rfl)) fun r1 _ =>
 .ite (r1) (fun c1 =>
 .say [.br true,.num p_p.bC.length] (okc c1 (ok1 (ln_ p_p.bC aO.lf))) <|
 .ret (bD 1) (decide ((0:Int) < (p_p.bC.length:Int)))) fun c1 =>
 .say [.br false,.num p_p.bC.length] (okc c1 (ok1 (ln_ p_p.bC aO.lf))) <|
 .ret (bD 1) ((p_p.bC.length:Int) == 0)
def amP (p_p:aO) : Option (Bool) := Mo.den (adx p_p)
theorem ahh (p_p:aO) : FV (amP p_p) 242 [.dat (aO.lf1 p_p)] (fun r=>.b_ r) := bZ Tryz.func242 (by kernel_rfl) (fun _=>rfl) (by kernel_rfl)
def ady (p_op:Int) : Mo (Bool) :=
 .iG 4002 (p_op == 8) (.ret (bD 1) (true)) <|
 .iG 4006 (p_op == 9) (.ret (bD 1) (true)) <|
 .ret (bD 1) (p_op == 14)
def amQ (p_op:Int) : Option (Bool) := Mo.den (ady p_op)
theorem NC (p_op:Int) : FV (amQ p_op) 243 [.i_ p_op] (fun r=>.b_ r) := bZ Tryz.func243 (by kernel_rfl) (fun _=>rfl) (by kernel_rfl)
def adz (p_p:aO) : Mo (Bool) :=
 .iG 8003 (p_p.fN == 0) (.ret ⟨[.kill 0],[2],[],1⟩ (true)) <|
 .ret ⟨[.kill 0],[2],[],1⟩ (p_p.fN == 1)
def adA (p_p:aO) : Mo (Bool) :=
 .iG 12003 (decide ((1:Int) ≤ p_p.fN)) (.ret ⟨[.kill 0],[2],[],1⟩ (decide ((p_p.fN:Int) ≤ 11))) <|
 .ret ⟨[.kill 0],[2],[],1⟩ (false)
def aas (p_p:aO) : Mo (Bool) :=
 .iG 16003 (decide ((1:Int) ≤ p_p.fN)) (.rt [1,2,34] 1 (decide ((0:Int) ≤ p_p.fM))) <|
 .rt [1,2,34] 1 (false)
def aat (p_p:aO) (r0:Bool) : Mo (Bool) :=
 .iG 16008 (r0) (.ret ⟨[.kill 0],[2,41],[],1⟩ (decide ((p_p.fM:Int) < p_p.fN))) <|
 .ret ⟨[.kill 0],[2,41],[],1⟩ (false)
def aau (r0:Bool) : Mo (Unit) :=
 .rt [2] 1 ()
def aja (p_p:aO) : Mo (Bool) :=
 .iB (p_p.fOp == 10) (.jp Tryz.f244 0 [1,0,1,0,1,0,0] 13 [1] 1 (.normal) (fun r_=>⟨[(2,.b_ r_)],[.dead]⟩) ⟨[(1,.ptr 0 0)],[.box 47 (.dat (aO.lf1 p_p))]⟩ (adz p_p).den (jW (by kernel_rfl)) fun r0 _ =>
 .ret (bD 1) (r0)) <|
 .iB (p_p.fOp == 11) (.jp Tryz.f244 0 [1,0,1,0,1,1,1,0,0] 17 [1] 1 (.normal) (fun r_=>⟨[(2,.b_ r_)],[.dead]⟩) ⟨[(1,.ptr 0 0)],[.box 47 (.dat (aO.lf1 p_p))]⟩ (adA p_p).den (jW (by kernel_rfl)) fun r1 _ =>
 .ret (bD 1) (r1)) <|
 .iB (p_p.fOp == 12) (.sj Tryz.f244 0 [1,0,1,0,1,1,1,1,1,0,0] [0,1,2,3,4,5,6,7] 7 8 [1,2] 1 (fun r_=>⟨[(1,.ptr 0 0),(2,.b_ false),(34,.b_ r_)],[.box 47 (.dat (aO.lf1 p_p))]⟩) ⟨[(1,.ptr 0 0),(2,.b_ false)],[.box 47 (.dat (aO.lf1 p_p))]⟩ (aas p_p).den (sW (by kernel_rfl)) fun r2 _ =>
 .sj Tryz.f244 0 [1,0,1,0,1,1,1,1,1,0,0] [8,9,10,11,12,13,14] 7 7 [1,2,34] 1 (fun r_=>⟨[(2,.b_ false),(41,.b_ r_)],[.dead]⟩) ⟨[(1,.ptr 0 0),(2,.b_ false),(34,.b_ r2)],[.box 47 (.dat (aO.lf1 p_p))]⟩ (aat p_p r2).den (sW (by kernel_rfl)) fun r3 _ =>
 .sj Tryz.f244 0 [1,0,1,0,1,1,1,1,1,0,0] [15] 7 1 [2,41] 1 (fun r_=>⟨[(2,.b_ r3)],[.dead]⟩) ⟨[(2,.b_ false),(41,.b_ r3)],[.dead]⟩ (aau r3).den (sW (by kernel_rfl)) fun r4 _ =>
 .ret (bD 1) (r3)) <|
 .iB (p_p.fOp == 13) (.ret (bD 1) (decide ((0:Int) ≤ p_p.fN))) <|
 .ret (bD 1) (true)
def Q84 (p_p:aO) : Option (Bool) := Mo.den (aja p_p)
theorem akQ (p_p:aO) : FV (Q84 p_p) 244 [.dat (aO.lf1 p_p)] (fun r=>.b_ r) := bZ Tryz.func244 (by kernel_rfl) (fun _=>rfl) (by kernel_rfl)
def adB (p_op:Int) : Mo (Bool) :=
 .iG 4002 (decide ((2:Int) ≤ p_op)) (.ret (bD 1) (decide ((p_op:Int) ≤ 19))) <|
 .ret (bD 1) (false)
def amR (p_op:Int) : Option (Bool) := Mo.den (adB p_op)
theorem Y7 (p_op:Int) : FV (amR p_op) 245 [.i_ p_op] (fun r=>.b_ r) := bZ Tryz.func245 (by kernel_rfl) (fun _=>rfl) (by kernel_rfl)
def adC (p_op:Int) : Mo (Bool) :=
 .iG 4002 (p_op == 16) (.ret (bD 1) (true)) <|
 .iG 4006 (p_op == 17) (.ret (bD 1) (true)) <|
 .ret (bD 1) (p_op == 19)
def amS (p_op:Int) : Option (Bool) := Mo.den (adC p_op)
theorem ND (p_op:Int) : FV (amS p_op) 247 [.i_ p_op] (fun r=>.b_ r) := bZ Tryz.func247 (by kernel_rfl) (fun _=>rfl) (by kernel_rfl)
def adD (p_op:Int) : Mo (Bool) :=
 .iG 4002 (decide ((2:Int) ≤ p_op)) (.iG 4006 (decide ((p_op:Int) ≤ 7)) (.ret (bD 1) (true)) <|
 .cl (ND p_op) fun r0 _ =>
 .ret (bD 1) (r0)) <|
 .cl (ND p_op) fun r1 _ =>
 .ret (bD 1) (r1)
def amT (p_op:Int) : Option (Bool) := Mo.den (adD p_op)
theorem Y8 (p_op:Int) : FV (amT p_op) 246 [.i_ p_op] (fun r=>.b_ r) := bZ Tryz.func246 (by kernel_rfl) (fun _=>rfl) (by kernel_rfl)
def adE (p_n:Int) : Mo (Bool) :=
 .iG 4002 (decide ((0:Int) ≤ p_n)) (.ret (bD 1) (decide ((p_n:Int) < 65536))) <|
 .ret (bD 1) (false)
def amU (p_n:Int) : Option (Bool) := Mo.den (adE p_n)
theorem NG (p_n:Int) : FV (amU p_n) 294 [.i_ p_n] (fun r=>.b_ r) := bZ Tryz.func294 (by kernel_rfl) (fun _=>rfl) (by kernel_rfl)
def adF (p_p:dH) : Mo (Bool) :=
 .cl (NG p_p.fX) fun r0 _ =>
 .iG 4003 (r0) (.cl (NG p_p.fY) fun r1 _ =>
 .ret (bD 1) (r1)) <|
 .ret (bD 1) (false)
def amV (p_p:dH) : Option (Bool) := Mo.den (adF p_p)
theorem ahi (p_p:dH) : FV (amV p_p) 293 [.dat (dH.lf1 p_p)] (fun r=>.b_ r) := bZ Tryz.func293 (by kernel_rfl) (fun _=>rfl) (by kernel_rfl)
def ET (p_s:cZ) : (Int) → Mo ((Int) ⊕ (Unit ⊕ Unit)) := fun (v0) =>
 .iB (decide ((v0:Int) < (p_s.cu.length:Int))) (.ask (bP p_s.cu v0) fun x0 h0 =>
 .say [.row (dH.lf1 x0)] (ok1 (aX dH.aZ h0)) <|
 .cl (ahi x0) fun r0 _ =>
 .iB (!r0) (.ret ⟨[.kill 0],[2],[],1⟩ (.inr (.inl ()))) <|
 .rt [1,3,4] 1 (.inl (IntKind.wrap .i64 (v0 + 1)))) <|
 .rt [1,3] 1 (.inr (.inr (())))
def adG (p_s:cZ) (v0:Int) : Option (Unit ⊕ Unit) := bM (fun v_=>(ET p_s v_).den) FU (v0)
def RU (p_s:cZ) : (Int) → St := fun (v0)=>⟨[(1,.ptr 0 0),(3,.i_ (p_s.cu.length:Int)),(4,.i_ v0)],[.box 41 (.dat (cZ.lf1 p_s))]⟩
def yj (r_:Unit ⊕ Unit) : Exit := match r_ with
 | .inl o_=>.ret
 | .inr (o_)=>.exit 0
def yt (p_s:cZ) (r_:Unit ⊕ Unit) : St := match r_ with
 | .inl o_=>⟨[(2,.i_ 18)],[.dead]⟩
 | .inr (o_)=>⟨[(1,.ptr 0 0),(3,.i_ (p_s.cu.length:Int))],[.box 41 (.dat (cZ.lf1 p_s))]⟩
theorem RV {p_s:cZ} {v0:Int} {r_:Unit ⊕ Unit} (h:adG p_s v0 = some r_) : fK Tryz.f248 0 [1,1,1,0,1,0] (yj r_) (yt p_s r_) (RU p_s (v0)) :=
 dO dK (body := (Code.sub (bodyC Tryz.f248) [1,1,1,0,1,0,0])) (by kernel_rfl) (ET p_s) (RU p_s) yj (yt p_s) (fun r_=>by rcases r_ with _ | _ <;> rfl) (fun v_=>by kernel_rfl) h
def RX (p_s:cZ) : Mo (Bool) :=
 .iG 20003 (p_s.aU == 1) (.rt [1,3,28] 1 ((p_s.cu.length:Int) == 2)) <|
 .rt [1,3,28] 1 (false)
def Jy (p_s:cZ) (r0:Bool) : Mo (Bool) :=
 .iG 20007 (r0) (.rt [1,3,33] 1 (p_s.fR == 0)) <|
 .rt [1,3,33] 1 (false)
def Jz (p_s:cZ) (r0:Bool) : Mo (Bool) :=
 .iG 20012 (r0) (.rt [1,3,47] 1 (true)) <|
 .iG 20016 (p_s.aU == 2) (.iG 20020 ((p_s.cu.length:Int) == 1) (.cl (NG p_s.fR) fun r1 _ =>
 .rt [1,3,47] 1 (r1)) <|
 .rt [1,3,47] 1 (false)) <|
 .rt [1,3,47] 1 (false)
def JA (p_s:cZ) (r0:Bool) : Mo (Bool) :=
 .iG 20026 (r0) (.ret ⟨[.kill 0],[61],[],1⟩ (true)) <|
 .iG 20030 (p_s.aU == 3) (.iG 20034 (decide ((3:Int) ≤ (p_s.cu.length:Int))) (.ret ⟨[.kill 0],[61],[],1⟩ (p_s.fR == 0)) <|
 .ret ⟨[.kill 0],[61],[],1⟩ (false)) <|
 .ret ⟨[.kill 0],[61],[],1⟩ (false)
def ajb (p_s:cZ) : Mo (Int) :=
 .say [.num p_s.cu.length] (ok1 (ln_ p_s.cu dH.lf)) <|
 .iB (decide ((64:Int) < (p_s.cu.length:Int))) (.ret (bD 1) (18)) <|
 .eU (adG p_s 0) (fun o0 h0 =>
 .say [.pt_ 0 [1,3,4] 1 (yj (.inl o0)) (yt p_s (.inl o0))] (ok1 (RV h0)) <|
 .ret (bD 1) (18)) fun o1 h0 =>
 .say [.pt_ 0 [1,3,4] 1 (yj (.inr (o1))) (yt p_s (.inr (o1)))] (ok1 (RV h0)) <|
 .sj Tryz.f248 0 [1,1,1,1,0,0] [0,1,2,3,4,5,6] 9 7 [1,3] 1 (fun r_=>⟨[(1,.ptr 0 0),(3,.i_ (p_s.cu.length:Int)),(28,.b_ r_)],[.box 41 (.dat (cZ.lf1 p_s))]⟩) ⟨[(1,.ptr 0 0),(3,.i_ (p_s.cu.length:Int))],[.box 41 (.dat (cZ.lf1 p_s))]⟩ (RX p_s).den (sW (by kernel_rfl)) fun r0 _ =>
 .sj Tryz.f248 0 [1,1,1,1,0,0] [7,8,9,10,11] 9 5 [1,3,28] 1 (fun r_=>⟨[(1,.ptr 0 0),(3,.i_ (p_s.cu.length:Int)),(33,.b_ r_)],[.box 41 (.dat (cZ.lf1 p_s))]⟩) ⟨[(1,.ptr 0 0),(3,.i_ (p_s.cu.length:Int)),(28,.b_ r0)],[.box 41 (.dat (cZ.lf1 p_s))]⟩ (Jy p_s r0).den (sW (by kernel_rfl)) fun r1 _ =>
 .sj Tryz.f248 0 [1,1,1,1,0,0] [12,13,14,15,16,17,18,19,20,21,22,23,24,25] 9 14 [1,3,33] 1 (fun r_=>⟨[(1,.ptr 0 0),(3,.i_ (p_s.cu.length:Int)),(47,.b_ r_)],[.box 41 (.dat (cZ.lf1 p_s))]⟩) ⟨[(1,.ptr 0 0),(3,.i_ (p_s.cu.length:Int)),(33,.b_ r1)],[.box 41 (.dat (cZ.lf1 p_s))]⟩ (Jz p_s r1).den (sW (by kernel_rfl)) fun r2 _ =>
 .sj Tryz.f248 0 [1,1,1,1,0,0] [26,27,28,29,30,31,32,33,34,35,36,37,38,39] 9 14 [1,3,47] 1 (fun r_=>⟨[(61,.b_ r_)],[.dead]⟩) ⟨[(1,.ptr 0 0),(3,.i_ (p_s.cu.length:Int)),(47,.b_ r2)],[.box 41 (.dat (cZ.lf1 p_s))]⟩ (JA p_s r2).den (sW (by kernel_rfl)) fun r3 _ =>
 .iB (r3) (.ret (bD 1) (0)) <|
 .ret (bD 1) (18)
def Q29 (p_s:cZ) : Option (Int) := Mo.den (ajb p_s)
theorem akR (p_s:cZ) : FV (Q29 p_s) 248 [.dat (cZ.lf1 p_s)] (fun r=>.i_ r) := bZ Tryz.func248 (by kernel_rfl) (fun _=>rfl) (by kernel_rfl)
def aav (p_s:cZ) : Mo (Bool) :=
 .ite (p_s.aU == 0) (fun c0 =>
 .say [.gd 4003 true,.num p_s.cu.length] (okc c0 (ok1 (ln_ p_s.cu dH.lf))) <|
 .rt [1,2,11] 1 ((p_s.cu.length:Int) == 0)) fun c0 =>
 .say [.gd 4003 false] (ok1 c0) <|
 .rt [1,2,11] 1 (false)
def aaw (p_s:cZ) (r0:Bool) : Mo (Bool) :=
 .iG 4009 (r0) (.ret ⟨[.kill 0],[2,16],[],1⟩ (p_s.fR == 0)) <|
 .ret ⟨[.kill 0],[2,16],[],1⟩ (false)
def Xb (r0:Bool) : Mo (Unit) :=
 .rt [2] 1 ()
def adH (p_s:cZ) : Mo (Bool) :=
 .sj Tryz.f295 0 [1,0] [0,1,2,3,4,5,6,7,8] 1 9 [1,2] 1 (fun r_=>⟨[(1,.ptr 0 0),(2,.b_ false),(11,.b_ r_)],[.box 41 (.dat (cZ.lf1 p_s))]⟩) ⟨[(1,.ptr 0 0),(2,.b_ false)],[.box 41 (.dat (cZ.lf1 p_s))]⟩ (aav p_s).den (sW (by kernel_rfl)) fun r0 _ =>
 .sj Tryz.f295 0 [1,0] [9,10,11,12,13] 1 5 [1,2,11] 1 (fun r_=>⟨[(2,.b_ false),(16,.b_ r_)],[.dead]⟩) ⟨[(1,.ptr 0 0),(2,.b_ false),(11,.b_ r0)],[.box 41 (.dat (cZ.lf1 p_s))]⟩ (aaw p_s r0).den (sW (by kernel_rfl)) fun r1 _ =>
 .sj Tryz.f295 0 [1,0] [14] 1 1 [2,16] 1 (fun r_=>⟨[(2,.b_ r1)],[.dead]⟩) ⟨[(2,.b_ false),(16,.b_ r1)],[.dead]⟩ (Xb r1).den (sW (by kernel_rfl)) fun r2 _ =>
 .ret (bD 1) (r1)
def amW (p_s:cZ) : Option (Bool) := Mo.den (adH p_s)
theorem ahj (p_s:cZ) : FV (amW p_s) 295 [.dat (cZ.lf1 p_s)] (fun r=>.b_ r) := bZ Tryz.func295 (by kernel_rfl) (fun _=>rfl) (by kernel_rfl)
def adI (p_e:aH) : Mo (Bool) :=
 .ite (p_e.fOp == 0) (fun c0 =>
 .say [.gd 4003 true,.num p_e.dA.length] (okc c0 (ok1 (ln_ p_e.dA lfS))) <|
 .rt [1,2,11] 1 ((p_e.dA.length:Int) == 0)) fun c0 =>
 .say [.gd 4003 false] (ok1 c0) <|
 .rt [1,2,11] 1 (false)
def adJ (p_e:aH) (r0:Bool) : Mo (Bool) :=
 .iG 4009 (r0) (.rt [1,2,16] 1 (decide ((p_e.fName:ByteArray) = (⟨#[]⟩ : ByteArray)))) <|
 .rt [1,2,16] 1 (false)
def aax (p_e:aH) (r0:Bool) : Mo (Bool) :=
 .ite (r0) (fun c0 =>
 .say [.gd 4014 true,.num p_e.bT.length] (okc c0 (ok1 (ln_ p_e.bT lfS))) <|
 .rt [1,2,22] 1 ((p_e.bT.length:Int) == 0)) fun c0 =>
 .say [.gd 4014 false] (ok1 c0) <|
 .rt [1,2,22] 1 (false)
def aay (p_e:aH) (r0:Bool) : Mo (Bool) :=
 .iG 4020 (r0) (.cl (vK p_e.fArg) fun r1 _ =>
 .rt [1,2,27] 1 (r1)) <|
 .rt [1,2,27] 1 (false)
def aaz (p_e:aH) (r0:Bool) : Mo (Bool) :=
 .iG 4025 (r0) (.rt [1,2,32] 1 (p_e.fN == 0)) <|
 .rt [1,2,32] 1 (false)
def aaA (p_e:aH) (r0:Bool) : Mo (Bool) :=
 .ite (r0) (fun c0 =>
 .say [.gd 4030 true,.num p_e.bC.length] (okc c0 (ok1 (ln_ p_e.bC aH.lf))) <|
 .ret ⟨[.kill 0],[2,38],[],1⟩ ((p_e.bC.length:Int) == 0)) fun c0 =>
 .say [.gd 4030 false] (ok1 c0) <|
 .ret ⟨[.kill 0],[2,38],[],1⟩ (false)
def aaB (r0:Bool) : Mo (Unit) :=
 .rt [2] 1 ()
def ajc (p_e:aH) : Mo (Bool) :=
 .sj Tryz.f296 0 [1,0] [0,1,2,3,4,5,6,7,8] 1 9 [1,2] 1 (fun r_=>⟨[(1,.ptr 0 0),(2,.b_ false),(11,.b_ r_)],[.box 44 (.dat (aH.lf1 p_e))]⟩) ⟨[(1,.ptr 0 0),(2,.b_ false)],[.box 44 (.dat (aH.lf1 p_e))]⟩ (adI p_e).den (sW (by kernel_rfl)) fun r0 _ =>
 .sj Tryz.f296 0 [1,0] [9,10,11,12,13] 1 5 [1,2,11] 1 (fun r_=>⟨[(1,.ptr 0 0),(2,.b_ false),(16,.b_ r_)],[.box 44 (.dat (aH.lf1 p_e))]⟩) ⟨[(1,.ptr 0 0),(2,.b_ false),(11,.b_ r0)],[.box 44 (.dat (aH.lf1 p_e))]⟩ (adJ p_e r0).den (sW (by kernel_rfl)) fun r1 _ =>
 .sj Tryz.f296 0 [1,0] [14,15,16,17,18,19] 1 6 [1,2,16] 1 (fun r_=>⟨[(1,.ptr 0 0),(2,.b_ false),(22,.b_ r_)],[.box 44 (.dat (aH.lf1 p_e))]⟩) ⟨[(1,.ptr 0 0),(2,.b_ false),(16,.b_ r1)],[.box 44 (.dat (aH.lf1 p_e))]⟩ (aax p_e r1).den (sW (by kernel_rfl)) fun r2 _ =>
 .sj Tryz.f296 0 [1,0] [20,21,22,23,24] 1 5 [1,2,22] 1 (fun r_=>⟨[(1,.ptr 0 0),(2,.b_ false),(27,.b_ r_)],[.box 44 (.dat (aH.lf1 p_e))]⟩) ⟨[(1,.ptr 0 0),(2,.b_ false),(22,.b_ r2)],[.box 44 (.dat (aH.lf1 p_e))]⟩ (aay p_e r2).den (sW (by kernel_rfl)) fun r3 _ =>
 .sj Tryz.f296 0 [1,0] [25,26,27,28,29] 1 5 [1,2,27] 1 (fun r_=>⟨[(1,.ptr 0 0),(2,.b_ false),(32,.b_ r_)],[.box 44 (.dat (aH.lf1 p_e))]⟩) ⟨[(1,.ptr 0 0),(2,.b_ false),(27,.b_ r3)],[.box 44 (.dat (aH.lf1 p_e))]⟩ (aaz p_e r3).den (sW (by kernel_rfl)) fun r4 _ =>
 .sj Tryz.f296 0 [1,0] [30,31,32,33,34,35] 1 6 [1,2,32] 1 (fun r_=>⟨[(2,.b_ false),(38,.b_ r_)],[.dead]⟩) ⟨[(1,.ptr 0 0),(2,.b_ false),(32,.b_ r4)],[.box 44 (.dat (aH.lf1 p_e))]⟩ (aaA p_e r4).den (sW (by kernel_rfl)) fun r5 _ =>
 .sj Tryz.f296 0 [1,0] [36] 1 1 [2,38] 1 (fun r_=>⟨[(2,.b_ r5)],[.dead]⟩) ⟨[(2,.b_ false),(38,.b_ r5)],[.dead]⟩ (aaB r5).den (sW (by kernel_rfl)) fun r6 _ =>
 .ret (bD 1) (r5)
def Q75 (p_e:aH) : Option (Bool) := Mo.den (ajc p_e)
theorem akS (p_e:aH) : FV (Q75 p_e) 296 [.dat (aH.lf1 p_e)] (fun r=>.b_ r) := bZ Tryz.func296 (by kernel_rfl) (fun _=>rfl) (by kernel_rfl)
def adK (p_p:aO) : Mo (Bool) :=
 .cl (Y7 p_p.fOp) fun r0 _ =>
 .ite (!r0) (fun c0 =>
 .say [.gd 4004 true,.num p_p.dA.length] (okc c0 (ok1 (ln_ p_p.dA lfS))) <|
 .rt [1,12] 1 (decide ((0:Int) < (p_p.dA.length:Int)))) fun c0 =>
 .say [.gd 4004 false] (ok1 c0) <|
 .rt [1,12] 1 (false)
def adL (p_p:aO) (r0:Bool) : Mo (Bool) :=
 .iG 4010 (r0) (.rt [1,24] 1 (true)) <|
 .cl (Y8 p_p.fOp) fun r1 _ =>
 .iG 4015 (!r1) (.cl (vK p_p.fArg) fun r2 _ =>
 .rt [1,24] 1 (!r2)) <|
 .rt [1,24] 1 (false)
def aaC (p_p:aO) (r0:Bool) : Mo (Bool) :=
 .iG 4022 (r0) (.rt [1,36] 1 (true)) <|
 .cl (NC p_p.fOp) fun r1 _ =>
 .ite (!r1) (fun c0 =>
 .say [.gd 4027 true,.num p_p.fArgs.length] (okc c0 (ok1 (ln_ p_p.fArgs ak.lf))) <|
 .rt [1,36] 1 (decide ((0:Int) < (p_p.fArgs.length:Int)))) fun c0 =>
 .say [.gd 4027 false] (ok1 c0) <|
 .rt [1,36] 1 (false)
def aaD (p_p:aO) : Mo (Bool) :=
 .iG 8003 (p_p.fOp != 10) (.rt [1,44] 1 (p_p.fOp != 11)) <|
 .rt [1,44] 1 (false)
def aaE (p_p:aO) (r0:Bool) : Mo (Bool) :=
 .iG 8008 (r0) (.rt [1,49] 1 (p_p.fOp != 12)) <|
 .rt [1,49] 1 (false)
def aaF (p_p:aO) (r0:Bool) : Mo (Bool) :=
 .iG 8013 (r0) (.rt [1,54] 1 (p_p.fOp != 13)) <|
 .rt [1,54] 1 (false)
def aaG (p_p:aO) (r0:Bool) : Mo (Bool) :=
 .iG 8018 (r0) (.rt [1,59] 1 (p_p.fN != 0)) <|
 .rt [1,59] 1 (false)
def aaH (p_p:aO) (r0:Bool) : Mo (Bool) :=
 .iG 8023 (r0) (.rt [1,69] 1 (true)) <|
 .iG 8027 (p_p.fOp != 12) (.rt [1,69] 1 (p_p.fM != 0)) <|
 .rt [1,69] 1 (false)
def aaI (p_p:aO) : Mo (Bool) :=
 .iG 12003 (p_p.fOp == 18) (.rt [1,77] 1 (true)) <|
 .cl (ahj p_p.eG) fun r0 _ =>
 .rt [1,77] 1 (r0)
def aaJ (p_p:aO) (r0:Bool) : Mo (Bool) :=
 .iG 12008 (r0) (.iG 12012 (p_p.fOp == 24) (.ret ⟨[.kill 0],[87],[],1⟩ (true)) <|
 .cl (akS p_p.fExpr) fun r1 _ =>
 .ret ⟨[.kill 0],[87],[],1⟩ (r1)) <|
 .ret ⟨[.kill 0],[87],[],1⟩ (false)
def aaK (r0:Bool) : Mo (Unit) :=
 .rt [2] 1 ()
def ajd (p_p:aO) : Mo (Bool) :=
 .sj Tryz.f249 0 [1,0,0] [0,1,2,3,4,5,6,7,8,9] 1 10 [1] 1 (fun r_=>⟨[(1,.ptr 0 0),(12,.b_ r_)],[.box 47 (.dat (aO.lf1 p_p))]⟩) ⟨[(1,.ptr 0 0)],[.box 47 (.dat (aO.lf1 p_p))]⟩ (adK p_p).den (sW (by kernel_rfl)) fun r0 _ =>
 .sj Tryz.f249 0 [1,0,0] [10,11,12,13,14,15,16,17,18,19,20,21] 1 12 [1,12] 1 (fun r_=>⟨[(1,.ptr 0 0),(24,.b_ r_)],[.box 47 (.dat (aO.lf1 p_p))]⟩) ⟨[(1,.ptr 0 0),(12,.b_ r0)],[.box 47 (.dat (aO.lf1 p_p))]⟩ (adL p_p r0).den (sW (by kernel_rfl)) fun r1 _ =>
 .sj Tryz.f249 0 [1,0,0] [22,23,24,25,26,27,28,29,30,31,32,33] 1 12 [1,24] 1 (fun r_=>⟨[(1,.ptr 0 0),(36,.b_ r_)],[.box 47 (.dat (aO.lf1 p_p))]⟩) ⟨[(1,.ptr 0 0),(24,.b_ r1)],[.box 47 (.dat (aO.lf1 p_p))]⟩ (aaC p_p r1).den (sW (by kernel_rfl)) fun r2 _ =>
 .iB (r2) (.ret (bD 1) (false)) <|
 .sj Tryz.f249 0 [1,1,0,0] [0,1,2,3,4,5,6,7] 3 8 [1] 1 (fun r_=>⟨[(1,.ptr 0 0),(44,.b_ r_)],[.box 47 (.dat (aO.lf1 p_p))]⟩) ⟨[(1,.ptr 0 0)],[.box 47 (.dat (aO.lf1 p_p))]⟩ (aaD p_p).den (sW (by kernel_rfl)) fun r3 _ =>
 .sj Tryz.f249 0 [1,1,0,0] [8,9,10,11,12] 3 5 [1,44] 1 (fun r_=>⟨[(1,.ptr 0 0),(49,.b_ r_)],[.box 47 (.dat (aO.lf1 p_p))]⟩) ⟨[(1,.ptr 0 0),(44,.b_ r3)],[.box 47 (.dat (aO.lf1 p_p))]⟩ (aaE p_p r3).den (sW (by kernel_rfl)) fun r4 _ =>
 .sj Tryz.f249 0 [1,1,0,0] [13,14,15,16,17] 3 5 [1,49] 1 (fun r_=>⟨[(1,.ptr 0 0),(54,.b_ r_)],[.box 47 (.dat (aO.lf1 p_p))]⟩) ⟨[(1,.ptr 0 0),(49,.b_ r4)],[.box 47 (.dat (aO.lf1 p_p))]⟩ (aaF p_p r4).den (sW (by kernel_rfl)) fun r5 _ =>
 .sj Tryz.f249 0 [1,1,0,0] [18,19,20,21,22] 3 5 [1,54] 1 (fun r_=>⟨[(1,.ptr 0 0),(59,.b_ r_)],[.box 47 (.dat (aO.lf1 p_p))]⟩) ⟨[(1,.ptr 0 0),(54,.b_ r5)],[.box 47 (.dat (aO.lf1 p_p))]⟩ (aaG p_p r5).den (sW (by kernel_rfl)) fun r6 _ =>
 .sj Tryz.f249 0 [1,1,0,0] [23,24,25,26,27,28,29,30,31,32] 3 10 [1,59] 1 (fun r_=>⟨[(1,.ptr 0 0),(69,.b_ r_)],[.box 47 (.dat (aO.lf1 p_p))]⟩) ⟨[(1,.ptr 0 0),(59,.b_ r6)],[.box 47 (.dat (aO.lf1 p_p))]⟩ (aaH p_p r6).den (sW (by kernel_rfl)) fun r7 _ =>
 .iB (r7) (.ret (bD 1) (false)) <|
 .sj Tryz.f249 0 [1,1,1,0] [0,1,2,3,4,5,6,7] 5 8 [1] 1 (fun r_=>⟨[(1,.ptr 0 0),(77,.b_ r_)],[.box 47 (.dat (aO.lf1 p_p))]⟩) ⟨[(1,.ptr 0 0)],[.box 47 (.dat (aO.lf1 p_p))]⟩ (aaI p_p).den (sW (by kernel_rfl)) fun r8 _ =>
 .sj Tryz.f249 0 [1,1,1,0] [8,9,10,11,12,13,14,15,16,17] 5 10 [1,77] 1 (fun r_=>⟨[(87,.b_ r_)],[.dead]⟩) ⟨[(1,.ptr 0 0),(77,.b_ r8)],[.box 47 (.dat (aO.lf1 p_p))]⟩ (aaJ p_p r8).den (sW (by kernel_rfl)) fun r9 _ =>
 .sj Tryz.f249 0 [1,1,1,0] [18] 5 1 [87] 1 (fun r_=>⟨[(2,.b_ r9)],[.dead]⟩) ⟨[(87,.b_ r9)],[.dead]⟩ (aaK r9).den (sW (by kernel_rfl)) fun r10 _ =>
 .ret (bD 1) (r9)
def Q56 (p_p:aO) : Option (Bool) := Mo.den (ajd p_p)
theorem akT (p_p:aO) : FV (Q56 p_p) 249 [.dat (aO.lf1 p_p)] (fun r=>.b_ r) := bZ Tryz.func249 (by kernel_rfl) (fun _=>rfl) (by kernel_rfl)
def adM (p_op:Int) : Mo (Bool) :=
 .iB (p_op == 1) (.rt [3,4] 0 (p_op == 1)) <|
 .iB (p_op == 2) (.rt [3,4] 0 (p_op == 2)) <|
 .rt [3,4] 0 (p_op == 3)
def adN (p_op:Int) : Mo (Bool) :=
 .iB (p_op == 18) (.rt [3,8] 0 (p_op == 18)) <|
 .iB (p_op == 22) (.rt [3,8] 0 (p_op == 22)) <|
 .iB (p_op == 23) (.rt [3,8] 0 (p_op == 23)) <|
 .iB (p_op == 24) (.rt [3,8] 0 (p_op == 24)) <|
 .iB (p_op == 26) (.rt [3,8] 0 (p_op == 26)) <|
 .iB (p_op == 30) (.rt [3,8] 0 (p_op == 30)) <|
 .iB (p_op == 31) (.rt [3,8] 0 (p_op == 31)) <|
 .rt [3,8] 0 (p_op == 36)
def aaL (p_op:Int) : Mo (Bool) :=
 .iB (p_op == 19) (.rt [3,17] 0 (p_op == 19)) <|
 .rt [3,17] 0 (p_op == 25)
def aaM (p_op:Int) : Mo (Bool) :=
 .iB (p_op == 4) (.rt [20] 0 (p_op == 4)) <|
 .iB (p_op == 6) (.rt [20] 0 (p_op == 6)) <|
 .iB (p_op == 16) (.rt [20] 0 (p_op == 16)) <|
 .iB (p_op == 17) (.rt [20] 0 (p_op == 17)) <|
 .iB (p_op == 21) (.rt [20] 0 (p_op == 21)) <|
 .iB (p_op == 29) (.rt [20] 0 (p_op == 29)) <|
 .iB (p_op == 37) (.rt [20] 0 (p_op == 37)) <|
 .iB (p_op == 35) (.rt [20] 0 (p_op == 35)) <|
 .rt [20] 0 (p_op == 34)
def aje (p_op:Int) : Mo (Int) :=
 .jp Tryz.f323 0 [1,0,1,0,0,1] 1 [3,4] 0 (.normal) (fun r_=>⟨[(3,.i_ p_op),(4,.b_ r_)],[]⟩) ⟨[(3,.i_ p_op),(4,.lf (.bool (p_op == 1)))],[]⟩ (adM p_op).den (jW (by kernel_rfl)) fun r0 _ =>
 .iB (r0) (.ret (bD 1) (0)) <|
 .jp Tryz.f323 0 [1,0,1,0,1,1,0,1] 1 [3,8] 0 (.normal) (fun r_=>⟨[(3,.i_ p_op),(8,.b_ r_)],[]⟩) ⟨[(3,.i_ p_op),(8,.lf (.bool (p_op == 18)))],[]⟩ (adN p_op).den (jW (by kernel_rfl)) fun r1 _ =>
 .iB (r1) (.ret (bD 1) (1)) <|
 .jp Tryz.f323 0 [1,0,1,0,1,1,1,1,0,1] 1 [3,17] 0 (.normal) (fun r_=>⟨[(3,.i_ p_op),(17,.b_ r_)],[]⟩) ⟨[(3,.i_ p_op),(17,.lf (.bool (p_op == 19)))],[]⟩ (aaL p_op).den (jW (by kernel_rfl)) fun r2 _ =>
 .iB (r2) (.ret (bD 1) (3)) <|
 .jp Tryz.f323 0 [1,0,1,0,1,1,1,1,1,1,0,1] 1 [3,20] 0 (.normal) (fun r_=>⟨[(20,.b_ r_)],[]⟩) ⟨[(3,.i_ p_op),(20,.lf (.bool (p_op == 4)))],[]⟩ (aaM p_op).den (jW (by kernel_rfl)) fun r3 _ =>
 .iB (r3) (.ret (bD 1) ((-1))) <|
 .ret (bD 1) (2)
def Q69 (p_op:Int) : Option (Int) := Mo.den (aje p_op)
theorem oP (p_op:Int) : FV (Q69 p_op) 323 [.i_ p_op] (fun r=>.i_ r) := bZ Tryz.func323 (by kernel_rfl) (fun _=>rfl) (by kernel_rfl)
def EU (p_l:List ByteArray) (v0:Int) : (Int) → Mo ((Int) ⊕ (Unit ⊕ Unit)) := fun (v1) =>
 .ite (decide ((v1:Int) < v0)) (fun c0 =>
 .say [.br true,.order [(true,0),(true,1),(true,2),(true,3),(true,4),(true,5),(true,6),(true,7),(true,8)] none []] (ok1 c0) <|
 .ask (bP p_l v1) fun x0 h0 =>
 .say [.row (lfS x0)] (ok1 (aX lS_ h0)) <|
 .ask (bP p_l v0) fun x1 h1 =>
 .say [.row (lfS x1)] (ok1 (aX lS_ h1)) <|
 .iB (decide ((x0:ByteArray) = (x1:ByteArray))) (.rt [2] 0 (.inr (.inl ()))) <|
 .rt [0,3,4] 0 (.inl (IntKind.wrap .i64 (v1 + 1)))) fun c0 =>
 .say [.br false] (ok1 c0) <|
 .rt [0,3] 0 (.inr (.inr (())))
def adO (p_l:List ByteArray) (v0:Int) (v1:Int) : Option (Unit ⊕ Unit) := bM (fun v_=>(EU p_l v0 v_).den) FU (v1)
def RY (p_l:List ByteArray) (v0:Int) : (Int) → St := fun (v1)=>⟨[(0,.lf (.rows 1 (p_l.map lfS))),(3,.i_ v0),(4,.i_ v1)],[]⟩
def yu (r_:Unit ⊕ Unit) : Exit := match r_ with
 | .inl o_=>.ret
 | .inr (o_)=>.exit 2
def yw (p_l:List ByteArray) (v0:Int) (r_:Unit ⊕ Unit) : St := match r_ with
 | .inl o_=>⟨[(2,.b_ false)],[]⟩
 | .inr (o_)=>⟨[(0,.lf (.rows 1 (p_l.map lfS))),(3,.i_ v0)],[]⟩
theorem RZ {p_l:List ByteArray} {v0:Int} {v1:Int} {r_:Unit ⊕ Unit} (h:adO p_l v0 v1 = some r_) : fK Tryz.f324 0 [1,0,1,0,0,1,0,0,1,1,0] (yu r_) (yw p_l v0 r_) (RY p_l v0 (v1)) :=
 dO dK (body := (Code.sub (bodyC Tryz.f324) [1,0,1,0,0,1,0,0,1,1,0,0])) (by kernel_rfl) (EU p_l v0) (RY p_l v0) yu (yw p_l v0) (fun r_=>by rcases r_ with _ | _ <;> rfl) (fun v_=>by kernel_rfl) h
def EW (p_l:List ByteArray) : (Int) → Mo ((Int) ⊕ (Unit ⊕ Unit)) := fun (v0) =>
 .say [.num p_l.length] (ok1 (ln_ p_l lfS)) <|
 .iB (decide ((v0:Int) < (p_l.length:Int))) (.ask (bP p_l v0) fun x0 h0 =>
 .say [.row (lfS x0)] (ok1 (aX lS_ h0)) <|
 .cl (vJ x0) fun r0 _ =>
 .iB (!r0) (.rt [2] 0 (.inr (.inl ()))) <|
 .eU (adO p_l v0 0) (fun o0 h1 =>
 .say [.pt_ 0 [0,3,4] 0 (yu (.inl o0)) (yw p_l v0 (.inl o0))] (ok1 (RZ h1)) <|
 .rt [2] 0 (.inr (.inl ()))) fun o1 h1 =>
 .say [.pt_ 0 [0,3,4] 0 (yu (.inr (o1))) (yw p_l v0 (.inr (o1)))] (ok1 (RZ h1)) <|
 .rt [0,3] 0 (.inl (IntKind.wrap .i64 (v0 + 1)))) <|
 .rt [] 0 (.inr (.inr (())))
def adP (p_l:List ByteArray) (v0:Int) : Option (Unit ⊕ Unit) := bM (fun v_=>(EW p_l v_).den) FU (v0)
def Si (p_l:List ByteArray) : (Int) → St := fun (v0)=>⟨[(0,.lf (.rows 1 (p_l.map lfS))),(3,.i_ v0)],[]⟩
def yx (r_:Unit ⊕ Unit) : Exit := match r_ with
 | .inl o_=>.ret
 | .inr (o_)=>.exit 0
def yA  (r_:Unit ⊕ Unit) : St := match r_ with
 | .inl o_=>⟨[(2,.b_ false)],[]⟩
 | .inr (o_)=>⟨[],[]⟩
theorem Sj {p_l:List ByteArray} {v0:Int} {r_:Unit ⊕ Unit} (h:adP p_l v0 = some r_) : fK Tryz.f324 0 [1,0,1,0] (yx r_) (yA r_) (Si p_l (v0)) :=
 dO dK (body := (Code.sub (bodyC Tryz.f324) [1,0,1,0,0])) (by kernel_rfl) (EW p_l) (Si p_l) yx yA (fun r_=>by rcases r_ with _ | _ <;> rfl) (fun v_=>by kernel_rfl) h
def ajf (p_l:List ByteArray) : Mo (Bool) :=
 .eU (adP p_l 0) (fun o0 h0 =>
 .say [.pt_ 0 [0,3] 0 (yx (.inl o0)) (yA (.inl o0))] (ok1 (Sj h0)) <|
 .ret (bD 1) (false)) fun o1 h0 =>
 .say [.pt_ 0 [0,3] 0 (yx (.inr (o1))) (yA (.inr (o1)))] (ok1 (Sj h0)) <|
 .ret (bD 1) (true)
def Q18 (p_l:List ByteArray) : Option (Bool) := Mo.den (ajf p_l)
theorem akU (p_l:List ByteArray) : FV (Q18 p_l) 324 [.lf (.rows 1 (p_l.map lfS))] (fun r=>.b_ r) := bZ Tryz.func324 (by kernel_rfl) (fun _=>rfl) (by kernel_rfl)
structure uK where
 m1:(p_a:ak) → (p_b:ak) → Option (Bool)
 ok1:∀ p_a p_b,FV (m1 p_a p_b) 207 [.dat (ak.lf1 p_a),.dat (ak.lf1 p_b)] (fun r=>.b_ r)
def Y9 (R_:uK) (p_a:ak) (p_b:ak) : Mo (Bool) :=
 .iG 4005 (p_a.aU != p_b.aU) (.rt [2,3,18] 2 (true)) <|
 .rt [2,3,18] 2 (p_a.jU != p_b.jU)
def Za (R_:uK) (p_a:ak) (p_b:ak) (r0:Bool) : Mo (Bool) :=
 .iG 4012 (r0) (.rt [2,3,25] 2 (true)) <|
 .rt [2,3,25] 2 (!decide ((p_a.fText:ByteArray) = (p_b.fText:ByteArray)))
def Sm (R_:uK) (p_a:ak) (p_b:ak) (r0:Bool) : Mo (Bool) :=
 .ite (r0) (fun c0 =>
 .say [.gd 4019 true] (ok1 c0) <|
 .rt [2,3,34] 2 (true)) fun c0 =>
 .say [.gd 4019 false,.num p_a.bY.length,.num p_b.bY.length] (okc c0 (okc (ln_ p_a.bY ak.lf) (ok1 (ln_ p_b.bY ak.lf)))) <|
 .rt [2,3,34] 2 ((p_a.bY.length:Int) != (p_b.bY.length:Int))
def Sr (R_:uK) (p_a:ak) (p_b:ak) (r0:Bool) : Mo (Bool) :=
 .ite (r0) (fun c0 =>
 .say [.gd 4028 true] (ok1 c0) <|
 .rt [2,3,43] 2 (true)) fun c0 =>
 .say [.gd 4028 false,.num p_a.bV.length,.num p_b.bV.length] (okc c0 (okc (ln_ p_a.bV aT.lf) (ok1 (ln_ p_b.bV aT.lf)))) <|
 .rt [2,3,43] 2 ((p_a.bV.length:Int) != (p_b.bV.length:Int))
def EX (R_:uK) (p_a:ak) (p_b:ak) : (Int) → Mo ((Int) ⊕ (Unit ⊕ Unit)) := fun (v0) =>
 .say [.num p_a.bY.length] (ok1 (ln_ p_a.bY ak.lf)) <|
 .iB (decide ((v0:Int) < (p_a.bY.length:Int))) (.ask (bP p_a.bY v0) fun x0 h0 =>
 .say [] (ok1 (aX ak.aZ h0)) <|
 .ask (bP p_b.bY v0) fun x1 h1 =>
 .say [] (ok1 (aX ak.aZ h1)) <|
 .ask (R_.m1 x0 x1) fun r0 h2 =>
 .say [.dL (.q 0 (.q 1 (.q 2 (.q 3 (.q 4 (.q 5 (.q 6 (.q 7 (.q 8 (.q 9 (.l 10 (.q 11 .fin)))))))))))) (some 10) [] [.row (ak.lf1 x0),.row (ak.lf1 x1),.res (.b_ r0)] [2,3,5,62] 2 [(2,.ptr 0 0),(3,.ptr 1 0),(5,.i_ v0),(62,.lf (.bool (!r0)))] [.box 29 (.dat (ak.lf1 p_a)),.box 29 (.dat (ak.lf1 p_b))]] (okc (R_.ok1 _ _ _ h2) (ok1 (rf_ ⟨[(2,.ptr 0 0),(3,.ptr 1 0),(5,.i_ v0),(62,.lf (.bool (!r0)))],[.box 29 (.dat (ak.lf1 p_a)),.box 29 (.dat (ak.lf1 p_b))]⟩))) <|
 .iB (!r0) (.ret ⟨[.kill 0,.kill 1],[4],[],2⟩ (.inr (.inl ()))) <|
 .rt [2,3,5] 2 (.inl (IntKind.wrap .i64 (v0 + 1)))) <|
 .rt [2,3] 2 (.inr (.inr (())))
def adQ (R_:uK) (p_a:ak) (p_b:ak) (v0:Int) : Option (Unit ⊕ Unit) := bM (fun v_=>(EX R_ p_a p_b v_).den) FU (v0)
def Sv (R_:uK) (p_a:ak) (p_b:ak) : (Int) → St := fun (v0)=>⟨[(2,.ptr 0 0),(3,.ptr 1 0),(5,.i_ v0)],[.box 29 (.dat (ak.lf1 p_a)),.box 29 (.dat (ak.lf1 p_b))]⟩
def yB (r_:Unit ⊕ Unit) : Exit := match r_ with
 | .inl o_=>.ret
 | .inr (o_)=>.exit 0
def yC (p_a:ak) (p_b:ak) (r_:Unit ⊕ Unit) : St := match r_ with
 | .inl o_=>⟨[(4,.b_ false)],[.dead,.dead]⟩
 | .inr (o_)=>⟨[(2,.ptr 0 0),(3,.ptr 1 0)],[.box 29 (.dat (ak.lf1 p_a)),.box 29 (.dat (ak.lf1 p_b))]⟩
theorem Sz {R_:uK} {p_a:ak} {p_b:ak} {v0:Int} {r_:Unit ⊕ Unit} (h:adQ R_ p_a p_b v0 = some r_) : fK Tryz.f207 0 [1,1,0,1,0] (yB r_) (yC p_a p_b r_) (Sv R_ p_a p_b (v0)) :=
 dO dK (body := (Code.sub (bodyC Tryz.f207) [1,1,0,1,0,0])) (by kernel_rfl) (EX R_ p_a p_b) (Sv R_ p_a p_b) yB (yC p_a p_b) (fun r_=>by rcases r_ with _ | _ <;> rfl) (fun v_=>by kernel_rfl) h
def SA (R_:uK) (p_a:ak) (p_b:ak) (v0:Int) : Mo (Bool) :=
 .ask (bP p_a.bV v0) fun x0 h0 =>
 .say [] (ok1 (aX aT.aZ h0)) <|
 .ask (bP p_b.bV v0) fun x1 h1 =>
 .say [] (ok1 (aX aT.aZ h1)) <|
 .ite (!decide ((x0.fName:ByteArray) = (x1.fName:ByteArray))) (fun c0 =>
 .say [.dL (.q 0 (.q 1 (.q 2 (.q 3 (.q 4 (.q 5 (.q 6 (.q 7 (.q 8 (.q 9 (.q 10 (.q 11 (.q 12 (.q 13 (.q 14 (.q 15 (.q 16 (.q 17 (.q 18 (.q 19 (.q 20 (.q 21 (.q 22 (.q 23 (.q 24 (.q 25 (.l 26 (.q 27 (.q 28 .fin))))))))))))))))))))))))))))) (some 26) [] [.row (aT.lf1 x0),.row (aT.lf1 x1),.gd 24013 true] [2,3,6,98] 2 [(2,.ptr 0 0),(3,.ptr 1 0),(6,.i_ v0),(98,.b_ true)] [.box 29 (.dat (ak.lf1 p_a)),.box 29 (.dat (ak.lf1 p_b))]] (okc c0 (ok1 (rf_ ⟨[(2,.ptr 0 0),(3,.ptr 1 0),(6,.i_ v0),(98,.b_ true)],[.box 29 (.dat (ak.lf1 p_a)),.box 29 (.dat (ak.lf1 p_b))]⟩))) <|
 .rt [2,3,6,98] 2 (true)) fun c0 =>
 .say [] (ok1 c0) <|
 .ask (bP p_a.bV v0) fun x2 h2 =>
 .say [] (ok1 (aX aT.aZ h2)) <|
 .ask (bP p_b.bV v0) fun x3 h3 =>
 .say [] (ok1 (aX aT.aZ h3)) <|
 .ask (R_.m1 x2.fValue x3.fValue) fun r0 h4 =>
 .say [.dL (.q 0 (.q 1 (.q 2 (.q 3 (.q 4 (.q 5 (.q 6 (.q 7 (.q 8 (.q 9 (.q 10 (.q 11 (.q 12 (.q 13 (.q 14 (.q 15 (.q 16 (.q 17 (.q 18 (.q 19 (.q 20 (.q 21 (.q 22 (.q 23 (.q 24 (.q 25 (.l 26 (.q 27 (.q 28 .fin))))))))))))))))))))))))))))) (some 26) [] [.row (aT.lf1 x0),.row (aT.lf1 x1),.gd 24013 false,.row (aT.lf1 x2),.row (aT.lf1 x3),.res (.b_ r0)] [2,3,6,98] 2 [(2,.ptr 0 0),(3,.ptr 1 0),(6,.i_ v0),(98,.lf (.bool (!r0)))] [.box 29 (.dat (ak.lf1 p_a)),.box 29 (.dat (ak.lf1 p_b))]] (okc (R_.ok1 _ _ _ h4) (ok1 (rf_ ⟨[(2,.ptr 0 0),(3,.ptr 1 0),(6,.i_ v0),(98,.lf (.bool (!r0)))],[.box 29 (.dat (ak.lf1 p_a)),.box 29 (.dat (ak.lf1 p_b))]⟩))) <|
 .rt [2,3,6,98] 2 (!r0)
def EY (R_:uK) (p_a:ak) (p_b:ak) : (Int) → Mo ((Int) ⊕ (Unit ⊕ Unit)) := fun (v0) =>
 .say [.num p_a.bV.length] (ok1 (ln_ p_a.bV aT.lf)) <|
 .iB (decide ((v0:Int) < (p_a.bV.length:Int))) (.jp Tryz.f207 0 [1,1,1,0,1,0,0,1,0,0,0] 29 [2,3,6] 2 (.normal) (fun r_=>⟨[(2,.ptr 0 0),(3,.ptr 1 0),(6,.i_ v0),(98,.b_ r_)],[.box 29 (.dat (ak.lf1 p_a)),.box 29 (.dat (ak.lf1 p_b))]⟩) ⟨[(2,.ptr 0 0),(3,.ptr 1 0),(6,.i_ v0)],[.box 29 (.dat (ak.lf1 p_a)),.box 29 (.dat (ak.lf1 p_b))]⟩ (SA R_ p_a p_b v0).den (jW (by kernel_rfl)) fun r0 _ =>
 .iB (r0) (.ret ⟨[.kill 0,.kill 1],[4],[],2⟩ (.inr (.inl ()))) <|
 .rt [2,3,6] 2 (.inl (IntKind.wrap .i64 (v0 + 1)))) <|
 .ret ⟨[.kill 0,.kill 1],[],[],2⟩ (.inr (.inr (())))
def adR (R_:uK) (p_a:ak) (p_b:ak) (v0:Int) : Option (Unit ⊕ Unit) := bM (fun v_=>(EY R_ p_a p_b v_).den) FU (v0)
def SB (R_:uK) (p_a:ak) (p_b:ak) : (Int) → St := fun (v0)=>⟨[(2,.ptr 0 0),(3,.ptr 1 0),(6,.i_ v0)],[.box 29 (.dat (ak.lf1 p_a)),.box 29 (.dat (ak.lf1 p_b))]⟩
def yD (r_:Unit ⊕ Unit) : Exit := match r_ with
 | .inl o_=>.ret
 | .inr (o_)=>.exit 2
def yE  (r_:Unit ⊕ Unit) : St := match r_ with
 | .inl o_=>⟨[(4,.b_ false)],[.dead,.dead]⟩
 | .inr (o_)=>⟨[],[.dead,.dead]⟩
theorem SC {R_:uK} {p_a:ak} {p_b:ak} {v0:Int} {r_:Unit ⊕ Unit} (h:adR R_ p_a p_b v0 = some r_) : fK Tryz.f207 0 [1,1,1,0,1,0] (yD r_) (yE r_) (SB R_ p_a p_b (v0)) :=
 dO dK (body := (Code.sub (bodyC Tryz.f207) [1,1,1,0,1,0,0])) (by kernel_rfl) (EY R_ p_a p_b) (SB R_ p_a p_b) yD yE (fun r_=>by rcases r_ with _ | _ <;> rfl) (fun v_=>by kernel_rfl) h
def akV (R_:uK) (p_a:ak) (p_b:ak) : Mo (Bool) :=
 .sj Tryz.f207 0 [1,0,0] [0,1,2,3,4,5,6,7,8,9,10,11] 1 12 [2,3] 2 (fun r_=>⟨[(2,.ptr 0 0),(3,.ptr 1 0),(18,.b_ r_)],[.box 29 (.dat (ak.lf1 p_a)),.box 29 (.dat (ak.lf1 p_b))]⟩) ⟨[(2,.ptr 0 0),(3,.ptr 1 0)],[.box 29 (.dat (ak.lf1 p_a)),.box 29 (.dat (ak.lf1 p_b))]⟩ (Y9 R_ p_a p_b).den (sW (by kernel_rfl)) fun r0 _ =>
 .sj Tryz.f207 0 [1,0,0] [12,13,14,15,16,17,18] 1 7 [2,3,18] 2 (fun r_=>⟨[(2,.ptr 0 0),(3,.ptr 1 0),(25,.b_ r_)],[.box 29 (.dat (ak.lf1 p_a)),.box 29 (.dat (ak.lf1 p_b))]⟩) ⟨[(2,.ptr 0 0),(3,.ptr 1 0),(18,.b_ r0)],[.box 29 (.dat (ak.lf1 p_a)),.box 29 (.dat (ak.lf1 p_b))]⟩ (Za R_ p_a p_b r0).den (sW (by kernel_rfl)) fun r1 _ =>
 .sj Tryz.f207 0 [1,0,0] [19,20,21,22,23,24,25,26,27] 1 9 [2,3,25] 2 (fun r_=>⟨[(2,.ptr 0 0),(3,.ptr 1 0),(34,.b_ r_)],[.box 29 (.dat (ak.lf1 p_a)),.box 29 (.dat (ak.lf1 p_b))]⟩) ⟨[(2,.ptr 0 0),(3,.ptr 1 0),(25,.b_ r1)],[.box 29 (.dat (ak.lf1 p_a)),.box 29 (.dat (ak.lf1 p_b))]⟩ (Sm R_ p_a p_b r1).den (sW (by kernel_rfl)) fun r2 _ =>
 .sj Tryz.f207 0 [1,0,0] [28,29,30,31,32,33,34,35,36] 1 9 [2,3,34] 2 (fun r_=>⟨[(2,.ptr 0 0),(3,.ptr 1 0),(43,.b_ r_)],[.box 29 (.dat (ak.lf1 p_a)),.box 29 (.dat (ak.lf1 p_b))]⟩) ⟨[(2,.ptr 0 0),(3,.ptr 1 0),(34,.b_ r2)],[.box 29 (.dat (ak.lf1 p_a)),.box 29 (.dat (ak.lf1 p_b))]⟩ (Sr R_ p_a p_b r2).den (sW (by kernel_rfl)) fun r3 _ =>
 .iB (r3) (.ret (bD 1) (false)) <|
 .eU (adQ R_ p_a p_b 0) (fun o0 h0 =>
 .say [.pt_ 0 [2,3,5] 2 (yB (.inl o0)) (yC p_a p_b (.inl o0))] (ok1 (Sz h0)) <|
 .ret (bD 1) (false)) fun o1 h0 =>
 .say [.pt_ 0 [2,3,5] 2 (yB (.inr (o1))) (yC p_a p_b (.inr (o1)))] (ok1 (Sz h0)) <|
 .eU (adR R_ p_a p_b 0) (fun o2 h1 =>
 .say [.pt_ 0 [2,3,6] 2 (yD (.inl o2)) (yE (.inl o2))] (ok1 (SC h1)) <|
 .ret (bD 1) (false)) fun o3 h1 =>
 .say [.pt_ 0 [2,3,6] 2 (yD (.inr (o3))) (yE (.inr (o3)))] (ok1 (SC h1)) <|
 .ret (bD 1) (true)
theorem akW (R_:uK) (p_a:ak) (p_b:ak) : FV (Mo.den (akV R_ p_a p_b)) 207 [.dat (ak.lf1 p_a),.dat (ak.lf1 p_b)] (fun r=>.b_ r) := bZ Tryz.func207 (by kernel_rfl) (fun _=>rfl) (by kernel_rfl)
def kV:Nat → uK
 | 0=>{ m1 := fun p_a p_b=>none,ok1 := fun _ _ _ h=>(by cases h) }
 | n_ + 1=>{ m1 := fun p_a p_b=>Mo.den (akV (kV n_) p_a p_b),ok1 := akW (kV n_) }
def Q8 (p_a:ak) (p_b:ak) : Option (Bool) := (kV FU).m1 p_a p_b
theorem Zb (p_a:ak) (p_b:ak) : FV (Q8 p_a p_b) 207 [.dat (ak.lf1 p_a),.dat (ak.lf1 p_b)] (fun r=>.b_ r) := (kV FU).ok1 p_a p_b
end
end Go.Proofs.YtdnafbfmaphhhaaGreatDoor
