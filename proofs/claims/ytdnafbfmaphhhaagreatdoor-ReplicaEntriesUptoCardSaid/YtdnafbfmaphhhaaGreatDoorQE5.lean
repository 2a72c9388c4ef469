/- Printed by dec.py. -/
import Derived.Test.YtdnafbfmaphhhaaGreatDoorQEManR
set_option linter.unusedSimpArgs false
set_option linter.unusedVariables false
namespace Go.Proofs.YtdnafbfmaphhhaaGreatDoor
open Go.RowKit
set_option maxRecDepth 20000
set_option maxHeartbeats 4000000
noncomputable section
def Bh (p_m:aj) (v0:Int) (v1:Int) (v2:Int) (x0:ay) : Mo (Bool) :=
 .iG 18004 (decide ((x0.bD:Int) < v0)) (.rt [1,4,5,6,33] 2 (true)) <|
 .rt [1,4,5,6,33] 2 (decide ((p_m.bD:Int) < x0.bD))
def Bj (p_m:aj) (r0:Bool) (v0:Int) (v1:Int) (x0:ay) : Mo (Bool) :=
 .iG 18011 (r0) (.rt [1,5,6,39] 2 (true)) <|
 .rt [1,5,6,39] 2 (decide ((x0.fB:Int) ≤ v0))
def uU (p_m:aj) (r0:Bool) (v0:Int) (x0:ay) : Mo (Bool) :=
 .iG 18017 (r0) (.rt [1,5,6,44] 2 (true)) <|
 .rt [1,5,6,44] 2 (decide ((1099511627776:Int) < x0.fB))
def qw (p_m:aj) : (Int × Int × Int) → Mo ((Int × Int × Int) ⊕ (Unit ⊕ Unit)) := fun (v0,v1,v2) =>
 .say [.num p_m.aQ.length] (ok1 (ln_ p_m.aQ ay.lf)) <|
 .iB (decide ((v2:Int) < (p_m.aQ.length:Int))) (.ask (bM p_m.aQ v2) fun x0 h0 =>
 .say [.row (ay.lf1 x0)] (ok1 (aX ay.aV h0)) <|
 .sj Tryz.f66 0 [1,1,1,0,1,0,0,1,0,0,1,0,0] [0,1,2,3,4,5,6,7,8,9,10] 8 11 [1,3,4,5,6] 2 (fun r_=>⟨[(1,.ptr 0 0),(4,.i_ v1),(5,.i_ v2),(6,.ptr 1 0),(33,.b_ r_)],[.box 25 (.dat (aj.lf1 p_m)),.box 54 (.agg ((ay.lf1 x0).map AV.lf))]⟩) ⟨[(1,.ptr 0 0),(3,.i_ v0),(4,.i_ v1),(5,.i_ v2),(6,.ptr 1 0)],[.box 25 (.dat (aj.lf1 p_m)),.box 54 (.agg ((ay.lf1 x0).map AV.lf))]⟩ (Bh p_m v0 v1 v2 x0).den (sW (by kernel_rfl)) fun r0 _ =>
 .sj Tryz.f66 0 [1,1,1,0,1,0,0,1,0,0,1,0,0] [11,12,13,14,15,16] 8 6 [1,4,5,6,33] 2 (fun r_=>⟨[(1,.ptr 0 0),(5,.i_ v2),(6,.ptr 1 0),(39,.b_ r_)],[.box 25 (.dat (aj.lf1 p_m)),.box 54 (.agg ((ay.lf1 x0).map AV.lf))]⟩) ⟨[(1,.ptr 0 0),(4,.i_ v1),(5,.i_ v2),(6,.ptr 1 0),(33,.b_ r0)],[.box 25 (.dat (aj.lf1 p_m)),.box 54 (.agg ((ay.lf1 x0).map AV.lf))]⟩ (Bj p_m r0 v1 v2 x0).den (sW (by kernel_rfl)) fun r1 _ =>
 .sj Tryz.f66 0 [1,1,1,0,1,0,0,1,0,0,1,0,0] [17,18,19,20,21] 8 5 [1,5,6,39] 2 (fun r_=>⟨[(1,.ptr 0 0),(5,.i_ v2),(6,.ptr 1 0),(44,.b_ r_)],[.box 25 (.dat (aj.lf1 p_m)),.box 54 (.agg ((ay.lf1 x0).map AV.lf))]⟩) ⟨[(1,.ptr 0 0),(5,.i_ v2),(6,.ptr 1 0),(39,.b_ r1)],[.box 25 (.dat (aj.lf1 p_m)),.box 54 (.agg ((ay.lf1 x0).map AV.lf))]⟩ (uU p_m r1 v2 x0).den (sW (by kernel_rfl)) fun r2 _ =>
 .iB (r2) (.ret ⟨[.kill 0],[2],[],1⟩ (.inr (.inl ()))) <|
 .rt [1,3,4,5] 1 (.inl (x0.bD,x0.fB,IntKind.wrap .i64 (v2 + 1)))) <|
 .rt [1] 1 (.inr (.inr (())))
def CO (p_m:aj) (v0:Int) (v1:Int) (v2:Int) : Option (Unit ⊕ Unit) := bK (fun v_=>(qw p_m v_).den) FU (v0,v1,v2)
def Nk (p_m:aj) : (Int × Int × Int) → St := fun (v0,v1,v2)=>⟨[(1,.ptr 0 0),(3,.i_ v0),(4,.i_ v1),(5,.i_ v2)],[.box 25 (.dat (aj.lf1 p_m))]⟩
def uV (r_:Unit ⊕ Unit) : Exit := match r_ with
 | .inl o_=>.ret
 | .inr (o_)=>.exit 0
def uX (p_m:aj) (r_:Unit ⊕ Unit) : St := match r_ with
 | .inl o_=>⟨[(2,.b_ false)],[.dead]⟩
 | .inr (o_)=>⟨[(1,.ptr 0 0)],[.box 25 (.dat (aj.lf1 p_m))]⟩
theorem Nl {p_m:aj} {v0:Int} {v1:Int} {v2:Int} {r_:Unit ⊕ Unit} (h:CO p_m v0 v1 v2 = some r_) : fQ Tryz.f66 0 [1,1,1,0,1,0] (uV r_) (uX p_m r_) (Nk p_m (v0,v1,v2)) :=
 dO dK (body := (Code.sub (bodyC Tryz.f66) [1,1,1,0,1,0,0])) (by kernel_rfl) (qw p_m) (Nk p_m) uV (uX p_m) (fun r_=>by rcases r_ with _ | _ <;> rfl) (fun v_=>by kernel_rfl) h
def uY (p_m:aj) : Mo (Bool) :=
 .ite (decide ((0:Int) ≤ p_m.au)) (fun c0 =>
 .say [.gd 26003 true,.num p_m.aQ.length] (okc c0 (ok1 (ln_ p_m.aQ ay.lf))) <|
 .ret ⟨[.kill 0],[59],[],1⟩ (decide ((p_m.au:Int) ≤ (p_m.aQ.length:Int)))) fun c0 =>
 .say [.gd 26003 false] (ok1 c0) <|
 .ret ⟨[.kill 0],[59],[],1⟩ (false)
def uZ (r0:Bool) : Mo (Unit) :=
 .rt [2] 1 ()
def aat (p_m:aj) : Mo (Bool) :=
 .say [.num p_m.aQ.length] (ok1 (ln_ p_m.aQ ay.lf)) <|
 .iB (decide ((16384:Int) < (p_m.aQ.length:Int))) (.ret (bC 1) (false)) <|
 .eP (CO p_m 0 0 0) (fun o0 h0 =>
 .say [.pt_ 0 [1,3,4,5] 1 (uV (.inl o0)) (uX p_m (.inl o0))] (ok1 (Nl h0)) <|
 .ret (bC 1) (false)) fun o1 h0 =>
 .say [.pt_ 0 [1,3,4,5] 1 (uV (.inr (o1))) (uX p_m (.inr (o1)))] (ok1 (Nl h0)) <|
 .sj Tryz.f66 0 [1,1,1,1,0] [0,1,2,3,4,5,6,7,8,9,10] 12 11 [1] 1 (fun r_=>⟨[(59,.b_ r_)],[.dead]⟩) ⟨[(1,.ptr 0 0)],[.box 25 (.dat (aj.lf1 p_m))]⟩ (uY p_m).den (sW (by kernel_rfl)) fun r0 _ =>
 .sj Tryz.f66 0 [1,1,1,1,0] [11] 12 1 [59] 1 (fun r_=>⟨[(2,.b_ r0)],[.dead]⟩) ⟨[(59,.b_ r0)],[.dead]⟩ (uZ r0).den (sW (by kernel_rfl)) fun r1 _ =>
 .ret (bC 1) (r0)
def Q9 (p_m:aj) : Option (Bool) := Mo.den (aat p_m)
theorem akp (p_m:aj) : FV (Q9 p_m) 66 [.dat (aj.lf1 p_m)] (fun r=>.b_ r) := bY Tryz.func66 (by kernel_rfl) (fun _=>rfl) (by kernel_rfl)
def Gu (p_set:Int) (p_size:Int) : (Int × Int) → Mo ((Int × Int) ⊕ (Int)) := fun (v0,v1) =>
 .iB (decide ((v1:Int) < p_size)) (.grd ((0:Int) ≤ v1) fun h0 =>
 .say [] (okc h0 (ok1 (by decide:(2:Int) ≠ 0))) <|
 .rt [0,1,5,6] 0 (.inl (IntKind.wrap .i64 (v0 + (Int.tmod (fO .i64 p_set v1) 2)),IntKind.wrap .i64 (v1 + 1)))) <|
 .rt [5] 0 (.inr (v0))
def aeO (p_set:Int) (p_size:Int) (v0:Int) (v1:Int) : Option (Int) := bK (fun v_=>(Gu p_set p_size v_).den) FU (v0,v1)
def aau (p_set:Int) (p_size:Int) : Mo (Int) :=
 .lp Tryz.f67 0 [1,1,0,1,0] 0 [0,1,5,6] 0 (.exit 0) (fun r_=>⟨[(5,.i_ r_)],[]⟩) (aeO p_set p_size 0 0) (lW (fun (v0,v1)=>⟨[(0,.i_ p_set),(1,.i_ p_size),(5,.i_ v0),(6,.i_ v1)],[]⟩) (by kernel_rfl) rfl fun v_=>by kernel_rfl) fun r0 _ =>
 .ret (bC 1) (r0)
def aeP (p_set:Int) (p_size:Int) : Option (Int) := Mo.den (aau p_set p_size)
theorem aeQ (p_set:Int) (p_size:Int) : FV (aeP p_set p_size) 67 [.i_ p_set,.i_ p_size] (fun r=>.i_ r) := bY Tryz.func67 (by kernel_rfl) (fun _=>rfl) (by kernel_rfl)
def Gv (p_size:Int) : Mo (Bool) :=
 .iG 4002 (decide ((p_size:Int) < 1)) (.rt [0,8] 0 (true)) <|
 .rt [0,8] 0 (decide ((7:Int) < p_size))
def aav (p_size:Int) : Mo (Int) :=
 .jp Tryz.f56 0 [1,0,0] 9 [0] 0 (.normal) (fun r_=>⟨[(0,.i_ p_size),(8,.b_ r_)],[]⟩) ⟨[(0,.i_ p_size)],[]⟩ (Gv p_size).den (jW (by kernel_rfl)) fun r0 _ =>
 .ite (r0) (fun c0 =>
 .say [.br true] (ok1 c0) <|
 .ret (bC 1) (0)) fun c0 =>
 .say [.br false] (okc c0 (ok1 (by decide:(2:Int) ≠ 0))) <|
 .ret (bC 1) (IntKind.wrap .i64 ((IntKind.wrap .i64 (Int.tdiv p_size 2)) + 1))
def aeR (p_size:Int) : Option (Int) := Mo.den (aav p_size)
theorem aeS (p_size:Int) : FV (aeR p_size) 56 [.i_ p_size] (fun r=>.i_ r) := bY Tryz.func56 (by kernel_rfl) (fun _=>rfl) (by kernel_rfl)
def Np (p_l:List Int) (p_most:Int) (v0:Int) : Mo (Bool) :=
 .ask (bM p_l v0) fun x0 h0 =>
 .say [.row (lfI x0)] (ok1 (aX lI_ h0)) <|
 .iG 10005 (decide ((x0:Int) < 0)) (.rt [0,1,5,24] 0 (true)) <|
 .ask (bM p_l v0) fun x1 h1 =>
 .say [.row (lfI x1)] (ok1 (aX lI_ h1)) <|
 .rt [0,1,5,24] 0 (decide ((p_most:Int) < x1))
def vg (p_l:List Int) (p_most:Int) : (Int) → Mo ((Int) ⊕ (Unit ⊕ Unit)) := fun (v0) =>
 .say [.num p_l.length] (ok1 (ln_ p_l lfI)) <|
 .iB (decide ((v0:Int) < (p_l.length:Int))) (.jp Tryz.f68 0 [1,0,1,0,0,1,0,0,0] 15 [0,1,5] 0 (.normal) (fun r_=>⟨[(0,.lf (.rows 1 (p_l.map lfI))),(1,.i_ p_most),(5,.i_ v0),(24,.b_ r_)],[]⟩) ⟨[(0,.lf (.rows 1 (p_l.map lfI))),(1,.i_ p_most),(5,.i_ v0)],[]⟩ (Np p_l p_most v0).den (jW (by kernel_rfl)) fun r0 _ =>
 .iB (r0) (.rt [4] 0 (.inr (.inl ()))) <|
 .rt [0,1,5] 0 (.inl (IntKind.wrap .i64 (v0 + 1)))) <|
 .rt [] 0 (.inr (.inr (())))
def Ue (p_l:List Int) (p_most:Int) (v0:Int) : Option (Unit ⊕ Unit) := bK (fun v_=>(vg p_l p_most v_).den) FU (v0)
def Nq (p_l:List Int) (p_most:Int) : (Int) → St := fun (v0)=>⟨[(0,.lf (.rows 1 (p_l.map lfI))),(1,.i_ p_most),(5,.i_ v0)],[]⟩
def vk (r_:Unit ⊕ Unit) : Exit := match r_ with
 | .inl o_=>.ret
 | .inr (o_)=>.exit 0
def vw  (r_:Unit ⊕ Unit) : St := match r_ with
 | .inl o_=>⟨[(4,.b_ false)],[]⟩
 | .inr (o_)=>⟨[],[]⟩
theorem Nr {p_l:List Int} {p_most:Int} {v0:Int} {r_:Unit ⊕ Unit} (h:Ue p_l p_most v0 = some r_) : fQ Tryz.f68 0 [1,0,1,0] (vk r_) (vw r_) (Nq p_l p_most (v0)) :=
 dO dK (body := (Code.sub (bodyC Tryz.f68) [1,0,1,0,0])) (by kernel_rfl) (vg p_l p_most) (Nq p_l p_most) vk vw (fun r_=>by rcases r_ with _ | _ <;> rfl) (fun v_=>by kernel_rfl) h
def agN (p_l:List Int) (p_most:Int) : Mo (Bool) :=
 .eP (Ue p_l p_most 0) (fun o0 h0 =>
 .say [.pt_ 0 [0,1,5] 0 (vk (.inl o0)) (vw (.inl o0))] (ok1 (Nr h0)) <|
 .ret (bC 1) (false)) fun o1 h0 =>
 .say [.pt_ 0 [0,1,5] 0 (vk (.inr (o1))) (vw (.inr (o1)))] (ok1 (Nr h0)) <|
 .ret (bC 1) (true)
def Q34 (p_l:List Int) (p_most:Int) : Option (Bool) := Mo.den (agN p_l p_most)
theorem aaw (p_l:List Int) (p_most:Int) : FV (Q34 p_l p_most) 68 [.lf (.rows 1 (p_l.map lfI)),.i_ p_most] (fun r=>.b_ r) := bY Tryz.func68 (by kernel_rfl) (fun _=>rfl) (by kernel_rfl)
def Wy (p_m:aj) : Mo (Bool) :=
 .iG 4003 (decide ((p_m.dI:Int) < 1)) (.rt [1,11] 1 (true)) <|
 .rt [1,11] 1 (decide ((7:Int) < p_m.dI))
def WA (p_m:aj) (r0:Bool) : Mo (Bool) :=
 .iG 4008 (r0) (.rt [1,16] 1 (true)) <|
 .rt [1,16] 1 (decide ((p_m.fID:Int) < 0))
def Ns (p_m:aj) (r0:Bool) : Mo (Bool) :=
 .iG 4013 (r0) (.rt [1,23] 1 (true)) <|
 .rt [1,23] 1 (decide ((p_m.dI:Int) ≤ p_m.fID))
def Nu (p_m:aj) (r0:Bool) : Mo (Bool) :=
 .iG 4020 (r0) (.rt [1,28] 1 (true)) <|
 .rt [1,28] 1 (decide ((p_m.bD:Int) < 0))
def Nv (p_m:aj) (r0:Bool) : Mo (Bool) :=
 .iG 4025 (r0) (.rt [1,33] 1 (true)) <|
 .rt [1,33] 1 (decide ((p_m.je:Int) < (-1)))
def Nw (p_m:aj) (r0:Bool) : Mo (Bool) :=
 .iG 4030 (r0) (.rt [1,40] 1 (true)) <|
 .rt [1,40] 1 (decide ((p_m.dI:Int) ≤ p_m.je))
def Ny (p_m:aj) (r0:Bool) : Mo (Bool) :=
 .iG 4037 (r0) (.rt [1,45] 1 (true)) <|
 .rt [1,45] 1 (decide ((p_m.gJ:Int) < (-1)))
def Nz (p_m:aj) (r0:Bool) : Mo (Bool) :=
 .iG 4042 (r0) (.rt [1,52] 1 (true)) <|
 .rt [1,52] 1 (decide ((p_m.dI:Int) ≤ p_m.gJ))
def NC (p_m:aj) : Mo (Bool) :=
 .ite (decide ((p_m.dM:Int) < 0)) (fun c0 =>
 .say [.dP (.q 0 (.q 1 (.q 2 (.q 3 (.q 4 (.q 5 (.q 6 (.q 7 (.q 8 (.q 9 (.q 10 (.q 11 (.q 12 (.q 13 (.q 14 (.q 15 (.q 16 (.q 17 (.q 18 (.q 19 (.q 20 (.q 21 (.q 22 (.q 23 (.q 24 (.q 25 (.q 26 (.q 27 (.l 28 (.q 29 (.q 30 .fin))))))))))))))))))))))))))))))) (some 28) [] [.gd 8003 true] [1,83] 1 [(1,.ptr 0 0),(83,.b_ true)] [.box 25 (.dat (aj.lf1 p_m))]] (okc c0 (ok1 (rf_ ⟨[(1,.ptr 0 0),(83,.b_ true)],[.box 25 (.dat (aj.lf1 p_m))]⟩))) <|
 .rt [1,83] 1 (true)) fun c0 =>
 .say [] (ok1 c0) <|
 .ite (decide ((2:Int) < p_m.dM)) (fun c1 =>
 .say [.dP (.q 0 (.q 1 (.q 2 (.q 3 (.q 4 (.q 5 (.q 6 (.q 7 (.q 8 (.q 9 (.q 10 (.q 11 (.q 12 (.q 13 (.q 14 (.q 15 (.q 16 (.q 17 (.q 18 (.q 19 (.q 20 (.q 21 (.q 22 (.q 23 (.q 24 (.q 25 (.q 26 (.q 27 (.l 28 (.q 29 (.q 30 .fin))))))))))))))))))))))))))))))) (some 28) [] [.gd 8003 false,.gd 8008 true] [1,83] 1 [(1,.ptr 0 0),(83,.b_ true)] [.box 25 (.dat (aj.lf1 p_m))]] (okc c1 (ok1 (rf_ ⟨[(1,.ptr 0 0),(83,.b_ true)],[.box 25 (.dat (aj.lf1 p_m))]⟩))) <|
 .rt [1,83] 1 (true)) fun c1 =>
 .say [] (ok1 c1) <|
 .ite (decide ((p_m.gI:Int) < 0)) (fun c2 =>
 .say [.dP (.q 0 (.q 1 (.q 2 (.q 3 (.q 4 (.q 5 (.q 6 (.q 7 (.q 8 (.q 9 (.q 10 (.q 11 (.q 12 (.q 13 (.q 14 (.q 15 (.q 16 (.q 17 (.q 18 (.q 19 (.q 20 (.q 21 (.q 22 (.q 23 (.q 24 (.q 25 (.q 26 (.q 27 (.l 28 (.q 29 (.q 30 .fin))))))))))))))))))))))))))))))) (some 28) [] [.gd 8003 false,.gd 8008 false,.gd 8013 true] [1,83] 1 [(1,.ptr 0 0),(83,.b_ true)] [.box 25 (.dat (aj.lf1 p_m))]] (okc c2 (ok1 (rf_ ⟨[(1,.ptr 0 0),(83,.b_ true)],[.box 25 (.dat (aj.lf1 p_m))]⟩))) <|
 .rt [1,83] 1 (true)) fun c2 =>
 .say [] (ok1 c2) <|
 .ite (decide ((p_m.fH:Int) < 0)) (fun c3 =>
 .say [.dP (.q 0 (.q 1 (.q 2 (.q 3 (.q 4 (.q 5 (.q 6 (.q 7 (.q 8 (.q 9 (.q 10 (.q 11 (.q 12 (.q 13 (.q 14 (.q 15 (.q 16 (.q 17 (.q 18 (.q 19 (.q 20 (.q 21 (.q 22 (.q 23 (.q 24 (.q 25 (.q 26 (.q 27 (.l 28 (.q 29 (.q 30 .fin))))))))))))))))))))))))))))))) (some 28) [] [.gd 8003 false,.gd 8008 false,.gd 8013 false,.gd 8018 true] [1,83] 1 [(1,.ptr 0 0),(83,.b_ true)] [.box 25 (.dat (aj.lf1 p_m))]] (okc c3 (ok1 (rf_ ⟨[(1,.ptr 0 0),(83,.b_ true)],[.box 25 (.dat (aj.lf1 p_m))]⟩))) <|
 .rt [1,83] 1 (true)) fun c3 =>
 .say [] (ok1 c3) <|
 .grd ((0:Int) ≤ p_m.dI) fun h0 =>
 .say [] (ok1 h0) <|
 .ite (decide ((yY .i64 1 p_m.dI:Int) ≤ p_m.fH)) (fun c4 =>
 .say [.dP (.q 0 (.q 1 (.q 2 (.q 3 (.q 4 (.q 5 (.q 6 (.q 7 (.q 8 (.q 9 (.q 10 (.q 11 (.q 12 (.q 13 (.q 14 (.q 15 (.q 16 (.q 17 (.q 18 (.q 19 (.q 20 (.q 21 (.q 22 (.q 23 (.q 24 (.q 25 (.q 26 (.q 27 (.l 28 (.q 29 (.q 30 .fin))))))))))))))))))))))))))))))) (some 28) [] [.gd 8003 false,.gd 8008 false,.gd 8013 false,.gd 8018 false,.gd 8026 true] [1,83] 1 [(1,.ptr 0 0),(83,.b_ true)] [.box 25 (.dat (aj.lf1 p_m))]] (okc c4 (ok1 (rf_ ⟨[(1,.ptr 0 0),(83,.b_ true)],[.box 25 (.dat (aj.lf1 p_m))]⟩))) <|
 .rt [1,83] 1 (true)) fun c4 =>
 .say [] (ok1 c4) <|
 .ask (Q9 p_m) fun r0 h1 =>
 .say [.dP (.q 0 (.q 1 (.q 2 (.q 3 (.q 4 (.q 5 (.q 6 (.q 7 (.q 8 (.q 9 (.q 10 (.q 11 (.q 12 (.q 13 (.q 14 (.q 15 (.q 16 (.q 17 (.q 18 (.q 19 (.q 20 (.q 21 (.q 22 (.q 23 (.q 24 (.q 25 (.q 26 (.q 27 (.l 28 (.q 29 (.q 30 .fin))))))))))))))))))))))))))))))) (some 28) [] [.gd 8003 false,.gd 8008 false,.gd 8013 false,.gd 8018 false,.gd 8026 false,.res (.b_ r0)] [1,83] 1 [(1,.ptr 0 0),(83,.lf (.bool (!r0)))] [.box 25 (.dat (aj.lf1 p_m))]] (okc (akp _ _ h1) (ok1 (rf_ ⟨[(1,.ptr 0 0),(83,.lf (.bool (!r0)))],[.box 25 (.dat (aj.lf1 p_m))]⟩))) <|
 .rt [1,83] 1 (!r0)
def ND (p_m:aj) : Mo (Bool) :=
 .iG 12003 (p_m.dM != 0) (.iG 12007 (decide ((p_m.bD:Int) < 1)) (.rt [1,107] 1 (true)) <|
 .iG 12014 (p_m.je != p_m.fID) (.rt [1,107] 1 (true)) <|
 .grd ((0:Int) ≤ p_m.fID) fun h0 =>
 .say [] (okc h0 (ok1 (by decide:(2:Int) ≠ 0))) <|
 .rt [1,107] 1 ((Int.tmod (fO .i64 p_m.fH p_m.fID) 2) == 0)) <|
 .rt [1,107] 1 (false)
def NG (p_m:aj) (r0:Int) (r1:Int) : Mo (Bool) :=
 .iG 22003 (p_m.gJ != (-1)) (.rt [1,126] 1 (true)) <|
 .rt [1,126] 1 (decide ((r1:Int) ≤ r0))
def NH (p_m:aj) (r0:Int) (r1:Int) : Mo (Bool) :=
 .iG 28005 (p_m.gJ == p_m.fID) (.rt [1,136] 1 (decide ((r1:Int) ≤ r0))) <|
 .rt [1,136] 1 (false)
def NI (p_m:aj) (r0:Bool) : Mo (Bool) :=
 .ite (r0) (fun c0 =>
 .say [.gd 28008 true,.num p_m.fNext.length] (okc c0 (ok1 (ln_ p_m.fNext lfI))) <|
 .rt [1,144] 1 ((p_m.fNext.length:Int) == p_m.dI)) fun c0 =>
 .say [.gd 28008 false] (ok1 c0) <|
 .rt [1,144] 1 (false)
def NJ (p_m:aj) (r0:Bool) : Mo (Bool) :=
 .ite (r0) (fun c0 =>
 .say [.gd 28016 true,.num p_m.bn.length] (okc c0 (ok1 (ln_ p_m.bn lfI))) <|
 .rt [1,152] 1 ((p_m.bn.length:Int) == p_m.dI)) fun c0 =>
 .say [.gd 28016 false] (ok1 c0) <|
 .rt [1,152] 1 (false)
def NK (p_m:aj) (r0:Bool) : Mo (Bool) :=
 .ite (r0) (fun c0 =>
 .say [.gd 28024 true,.num p_m.aQ.length] (okc c0 (ok1 (ln_ p_m.aQ ay.lf))) <|
 .cl (aaw p_m.fNext (p_m.aQ.length:Int)) fun r1 _ =>
 .rt [1,160] 1 (r1)) fun c0 =>
 .say [.gd 28024 false] (ok1 c0) <|
 .rt [1,160] 1 (false)
def NM (p_m:aj) (r0:Bool) : Mo (Bool) :=
 .ite (r0) (fun c0 =>
 .say [.gd 28032 true,.num p_m.aQ.length] (okc c0 (ok1 (ln_ p_m.aQ ay.lf))) <|
 .cl (aaw p_m.bn (p_m.aQ.length:Int)) fun r1 _ =>
 .ret ⟨[.kill 0],[168],[],1⟩ (r1)) fun c0 =>
 .say [.gd 28032 false] (ok1 c0) <|
 .ret ⟨[.kill 0],[168],[],1⟩ (false)
def NP (r0:Bool) : Mo (Unit) :=
 .rt [2] 1 ()
def CP (p_m:aj) (r0:Int) (r1:Int) : Mo ((Bool) ⊕ Unit) :=
 .iB (p_m.dM == 1) (.jp Tryz.f32 0 [1,1,1,1,1,0,1,0,1,0,0] 27 [1,3] 1 (.normal) (fun r_=>⟨[(1,.ptr 0 0),(126,.b_ r_)],[.box 25 (.dat (aj.lf1 p_m))]⟩) ⟨[(1,.ptr 0 0),(3,.lf (.bool (decide ((r1:Int) ≤ r0))))],[.box 25 (.dat (aj.lf1 p_m))]⟩ (NG p_m r0 r1).den (jW (by kernel_rfl)) fun r2 _ =>
 .iB (r2) (.ret ⟨[.kill 0],[2],[],1⟩ (.inl (false))) <|
 .rt [1] 1 (.inr (()))) <|
 .iB (p_m.dM == 2) (.sj Tryz.f32 0 [1,1,1,1,1,0,1,0,1,1,1,0,0] [0,1,2,3,4,5,6,7] 13 8 [1,3] 1 (fun r_=>⟨[(1,.ptr 0 0),(136,.b_ r_)],[.box 25 (.dat (aj.lf1 p_m))]⟩) ⟨[(1,.ptr 0 0),(3,.lf (.bool (decide ((r1:Int) ≤ r0))))],[.box 25 (.dat (aj.lf1 p_m))]⟩ (NH p_m r0 r1).den (sW (by kernel_rfl)) fun r3 _ =>
 .sj Tryz.f32 0 [1,1,1,1,1,0,1,0,1,1,1,0,0] [8,9,10,11,12,13,14,15] 13 8 [1,136] 1 (fun r_=>⟨[(1,.ptr 0 0),(144,.b_ r_)],[.box 25 (.dat (aj.lf1 p_m))]⟩) ⟨[(1,.ptr 0 0),(136,.b_ r3)],[.box 25 (.dat (aj.lf1 p_m))]⟩ (NI p_m r3).den (sW (by kernel_rfl)) fun r4 _ =>
 .sj Tryz.f32 0 [1,1,1,1,1,0,1,0,1,1,1,0,0] [16,17,18,19,20,21,22,23] 13 8 [1,144] 1 (fun r_=>⟨[(1,.ptr 0 0),(152,.b_ r_)],[.box 25 (.dat (aj.lf1 p_m))]⟩) ⟨[(1,.ptr 0 0),(144,.b_ r4)],[.box 25 (.dat (aj.lf1 p_m))]⟩ (NJ p_m r4).den (sW (by kernel_rfl)) fun r5 _ =>
 .sj Tryz.f32 0 [1,1,1,1,1,0,1,0,1,1,1,0,0] [24,25,26,27,28,29,30,31] 13 8 [1,152] 1 (fun r_=>⟨[(1,.ptr 0 0),(160,.b_ r_)],[.box 25 (.dat (aj.lf1 p_m))]⟩) ⟨[(1,.ptr 0 0),(152,.b_ r5)],[.box 25 (.dat (aj.lf1 p_m))]⟩ (NK p_m r5).den (sW (by kernel_rfl)) fun r6 _ =>
 .sj Tryz.f32 0 [1,1,1,1,1,0,1,0,1,1,1,0,0] [32,33,34,35,36,37,38,39] 13 8 [1,160] 1 (fun r_=>⟨[(168,.b_ r_)],[.dead]⟩) ⟨[(1,.ptr 0 0),(160,.b_ r6)],[.box 25 (.dat (aj.lf1 p_m))]⟩ (NM p_m r6).den (sW (by kernel_rfl)) fun r7 _ =>
 .sj Tryz.f32 0 [1,1,1,1,1,0,1,0,1,1,1,0,0] [40] 13 1 [168] 1 (fun r_=>⟨[(2,.b_ r7)],[.dead]⟩) ⟨[(168,.b_ r7)],[.dead]⟩ (NP r7).den (sW (by kernel_rfl)) fun r8 _ =>
 .rt [2] 1 (.inl (r7))) <|
 .rt [1] 1 (.inr (()))
def Uf (p_m:aj) (r0:Int) (r1:Int) : Option ((Bool) ⊕ Unit) := Mo.den (CP p_m r0 r1)
def vC (r_:(Bool) ⊕ Unit) : Exit := match r_ with
 | .inl o_=>.ret
 | .inr (o_)=>.normal
def vF (p_m:aj) (r_:(Bool) ⊕ Unit) : St := match r_ with
 | .inl o_=>⟨[(2,.b_ o_)],[.dead]⟩
 | .inr (o_)=>⟨[(1,.ptr 0 0)],[.box 25 (.dat (aj.lf1 p_m))]⟩
theorem NQ {p_m:aj} {r0:Int} {r1:Int} {r_:(Bool) ⊕ Unit} (h:Uf p_m r0 r1 = some r_) : fQ Tryz.f32 0 [1,1,1,1,1,0,1] (vC r_) (vF p_m r_) ⟨[(1,.ptr 0 0),(3,.lf (.bool (decide ((r1:Int) ≤ r0)))),(118,.i_ p_m.dM)],[.box 25 (.dat (aj.lf1 p_m))]⟩ :=
 jo dK (CP p_m r0 r1) vC (vF p_m) (by kernel_rfl) h
def akq (p_m:aj) : Mo (Bool) :=
 .sj Tryz.f32 0 [1,0,0] [0,1,2,3,4,5,6,7] 1 8 [1] 1 (fun r_=>⟨[(1,.ptr 0 0),(11,.b_ r_)],[.box 25 (.dat (aj.lf1 p_m))]⟩) ⟨[(1,.ptr 0 0)],[.box 25 (.dat (aj.lf1 p_m))]⟩ (Wy p_m).den (sW (by kernel_rfl)) fun r0 _ =>
 .sj Tryz.f32 0 [1,0,0] [8,9,10,11,12] 1 5 [1,11] 1 (fun r_=>⟨[(1,.ptr 0 0),(16,.b_ r_)],[.box 25 (.dat (aj.lf1 p_m))]⟩) ⟨[(1,.ptr 0 0),(11,.b_ r0)],[.box 25 (.dat (aj.lf1 p_m))]⟩ (WA p_m r0).den (sW (by kernel_rfl)) fun r1 _ =>
 .sj Tryz.f32 0 [1,0,0] [13,14,15,16,17,18,19] 1 7 [1,16] 1 (fun r_=>⟨[(1,.ptr 0 0),(23,.b_ r_)],[.box 25 (.dat (aj.lf1 p_m))]⟩) ⟨[(1,.ptr 0 0),(16,.b_ r1)],[.box 25 (.dat (aj.lf1 p_m))]⟩ (Ns p_m r1).den (sW (by kernel_rfl)) fun r2 _ =>
 .sj Tryz.f32 0 [1,0,0] [20,21,22,23,24] 1 5 [1,23] 1 (fun r_=>⟨[(1,.ptr 0 0),(28,.b_ r_)],[.box 25 (.dat (aj.lf1 p_m))]⟩) ⟨[(1,.ptr 0 0),(23,.b_ r2)],[.box 25 (.dat (aj.lf1 p_m))]⟩ (Nu p_m r2).den (sW (by kernel_rfl)) fun r3 _ =>
 .sj Tryz.f32 0 [1,0,0] [25,26,27,28,29] 1 5 [1,28] 1 (fun r_=>⟨[(1,.ptr 0 0),(33,.b_ r_)],[.box 25 (.dat (aj.lf1 p_m))]⟩) ⟨[(1,.ptr 0 0),(28,.b_ r3)],[.box 25 (.dat (aj.lf1 p_m))]⟩ (Nv p_m r3).den (sW (by kernel_rfl)) fun r4 _ =>
 .sj Tryz.f32 0 [1,0,0] [30,31,32,33,34,35,36] 1 7 [1,33] 1 (fun r_=>⟨[(1,.ptr 0 0),(40,.b_ r_)],[.box 25 (.dat (aj.lf1 p_m))]⟩) ⟨[(1,.ptr 0 0),(33,.b_ r4)],[.box 25 (.dat (aj.lf1 p_m))]⟩ (Nw p_m r4).den (sW (by kernel_rfl)) fun r5 _ =>
 .sj Tryz.f32 0 [1,0,0] [37,38,39,40,41] 1 5 [1,40] 1 (fun r_=>⟨[(1,.ptr 0 0),(45,.b_ r_)],[.box 25 (.dat (aj.lf1 p_m))]⟩) ⟨[(1,.ptr 0 0),(40,.b_ r5)],[.box 25 (.dat (aj.lf1 p_m))]⟩ (Ny p_m r5).den (sW (by kernel_rfl)) fun r6 _ =>
 .sj Tryz.f32 0 [1,0,0] [42,43,44,45,46,47,48] 1 7 [1,45] 1 (fun r_=>⟨[(1,.ptr 0 0),(52,.b_ r_)],[.box 25 (.dat (aj.lf1 p_m))]⟩) ⟨[(1,.ptr 0 0),(45,.b_ r6)],[.box 25 (.dat (aj.lf1 p_m))]⟩ (Nz p_m r6).den (sW (by kernel_rfl)) fun r7 _ =>
 .iB (r7) (.ret (bC 1) (false)) <|
 .jp Tryz.f32 0 [1,1,0,0] 13 [1] 1 (.normal) (fun r_=>⟨[(1,.ptr 0 0),(83,.b_ r_)],[.box 25 (.dat (aj.lf1 p_m))]⟩) ⟨[(1,.ptr 0 0)],[.box 25 (.dat (aj.lf1 p_m))]⟩ (NC p_m).den (jW (by kernel_rfl)) fun r8 _ =>
 .iB (r8) (.ret (bC 1) (false)) <|
 .jp Tryz.f32 0 [1,1,1,0,0] 17 [1] 1 (.normal) (fun r_=>⟨[(1,.ptr 0 0),(107,.b_ r_)],[.box 25 (.dat (aj.lf1 p_m))]⟩) ⟨[(1,.ptr 0 0)],[.box 25 (.dat (aj.lf1 p_m))]⟩ (ND p_m).den (jW (by kernel_rfl)) fun r9 _ =>
 .iB (r9) (.ret (bC 1) (false)) <|
 .ask (aeP p_m.fH p_m.dI) fun r10 h0 =>
 .say [] (ok1 (aeQ _ _ _ h0)) <|
 .ask (aeR p_m.dI) fun r11 h1 =>
 .say [.dP (.q 0 (.q 1 (.q 2 (.q 3 (.q 5 (.q 6 (.l 4 (.l 7 (.q 8 (.q 9 .fin)))))))))) (some 7) [] [.res (.i_ r10),.res (.i_ r11)] [1,3] 1 [(1,.ptr 0 0),(3,.lf (.bool (decide ((r11:Int) ≤ r10))))] [.box 25 (.dat (aj.lf1 p_m))]] (okc (aeS _ _ h1) (ok1 (rf_ ⟨[(1,.ptr 0 0),(3,.lf (.bool (decide ((r11:Int) ≤ r10))))],[.box 25 (.dat (aj.lf1 p_m))]⟩))) <|
 .eP (Uf p_m r10 r11) (fun o0 h2 =>
 .say [.pt_ 6 [1,3,118] 1 (vC (.inl o0)) (vF p_m (.inl o0))] (ok1 (NQ h2)) <|
 .ret (bC 1) (o0)) fun o1 h2 =>
 .say [.pt_ 6 [1,3,118] 1 (vC (.inr (o1))) (vF p_m (.inr (o1))),.num p_m.fNext.length] (okc (NQ h2) (ok1 (ln_ p_m.fNext lfI))) <|
 .ite ((p_m.fNext.length:Int) == 0) (fun c0 =>
 .say [.gd 30004 true,.num p_m.bn.length] (okc c0 (ok1 (ln_ p_m.bn lfI))) <|
 .ret (bC 1) ((p_m.bn.length:Int) == 0)) fun c0 =>
 .say [.gd 30004 false] (ok1 c0) <|
 .ret (bC 1) (false)
def Q6 (p_m:aj) : Option (Bool) := Mo.den (akq p_m)
theorem akr (p_m:aj) : FV (Q6 p_m) 32 [.dat (aj.lf1 p_m)] (fun r=>.b_ r) := bY Tryz.func32 (by kernel_rfl) (fun _=>rfl) (by kernel_rfl)
def aax (p_m:aj) : Mo (Bool) :=
 .say [.num p_m.aQ.length] (ok1 (ln_ p_m.aQ ay.lf)) <|
 .iG 4004 (decide (((p_m.aQ.length:Int) : Int) ≤ 200)) (.cl (akr p_m) fun r0 _ =>
 .ret (bC 1) (r0)) <|
 .ret (bC 1) (false)
def aib (p_m:aj) : Option (Bool) := Mo.den (aax p_m)
theorem aeT (p_m:aj) : FV (aib p_m) 10 [.dat (aj.lf1 p_m)] (fun r=>.b_ r) := bY Tryz.func10 (by kernel_rfl) (fun _=>rfl) (by kernel_rfl)
def NR (p_s:ByteArray) : Mo (Bool) :=
 .iG 4003 (decide (((p_s.size:Int) : Int) < 1)) (.rt [0,11] 0 (true)) <|
 .rt [0,11] 0 (decide ((32:Int) < (p_s.size:Int)))
def NS (p_s:ByteArray) (r0:Bool) : Mo (Bool) :=
 .iG 4008 (r0) (.rt [0,16] 0 (true)) <|
 .ask (lM p_s 0) fun b0 h0 =>
 .say [.byt b0] (ok1 (iI h0)) <|
 .rt [0,16] 0 ((b0.toNat:Int) == 36)
def Gw (p_s:ByteArray) (v0:Int) : Mo (Bool) :=
 .ask (lM p_s v0) fun b0 h0 =>
 .say [.byt b0] (ok1 (iI h0)) <|
 .iG 14004 (decide (((b0.toNat:Int) : Int) < 33)) (.rt [0,3,32] 0 (true)) <|
 .ask (lM p_s v0) fun b1 h1 =>
 .say [.byt b1] (ok1 (iI h1)) <|
 .rt [0,3,32] 0 (decide ((126:Int) < (b1.toNat:Int)))
def Gx (p_s:ByteArray) (r0:Bool) (v0:Int) : Mo (Bool) :=
 .iG 14010 (r0) (.rt [0,3,38] 0 (true)) <|
 .ask (lM p_s v0) fun b0 h0 =>
 .say [.byt b0] (ok1 (iI h0)) <|
 .rt [0,3,38] 0 ((b0.toNat:Int) == 46)
def zx (p_s:ByteArray) : (Int) → Mo ((Int) ⊕ (Unit ⊕ Unit)) := fun (v0) =>
 .iB (decide ((v0:Int) < (p_s.size:Int))) (.sj Tryz.f150 0 [1,1,0,1,0,0,1,0,0,0] [0,1,2,3,4,5,6,7,8,9] 6 10 [0,3] 0 (fun r_=>⟨[(0,.lf (.str p_s)),(3,.i_ v0),(32,.b_ r_)],[]⟩) ⟨[(0,.lf (.str p_s)),(3,.i_ v0)],[]⟩ (Gw p_s v0).den (sW (by kernel_rfl)) fun r0 _ =>
 .sj Tryz.f150 0 [1,1,0,1,0,0,1,0,0,0] [10,11,12,13,14,15] 6 6 [0,3,32] 0 (fun r_=>⟨[(0,.lf (.str p_s)),(3,.i_ v0),(38,.b_ r_)],[]⟩) ⟨[(0,.lf (.str p_s)),(3,.i_ v0),(32,.b_ r0)],[]⟩ (Gx p_s r0 v0).den (sW (by kernel_rfl)) fun r1 _ =>
 .iB (r1) (.rt [2] 0 (.inr (.inl ()))) <|
 .rt [0,3] 0 (.inl (IntKind.wrap .i64 (v0 + 1)))) <|
 .rt [] 0 (.inr (.inr (())))
def J4 (p_s:ByteArray) (v0:Int) : Option (Unit ⊕ Unit) := bK (fun v_=>(zx p_s v_).den) FU (v0)
def Gy (p_s:ByteArray) : (Int) → St := fun (v0)=>⟨[(0,.lf (.str p_s)),(3,.i_ v0)],[]⟩
def qV (r_:Unit ⊕ Unit) : Exit := match r_ with
 | .inl o_=>.ret
 | .inr (o_)=>.exit 0
def qW  (r_:Unit ⊕ Unit) : St := match r_ with
 | .inl o_=>⟨[(2,.b_ false)],[]⟩
 | .inr (o_)=>⟨[],[]⟩
theorem Gz {p_s:ByteArray} {v0:Int} {r_:Unit ⊕ Unit} (h:J4 p_s v0 = some r_) : fQ Tryz.f150 0 [1,1,0,1,0] (qV r_) (qW r_) (Gy p_s (v0)) :=
 dO dK (body := (Code.sub (bodyC Tryz.f150) [1,1,0,1,0,0])) (by kernel_rfl) (zx p_s) (Gy p_s) qV qW (fun r_=>by rcases r_ with _ | _ <;> rfl) (fun v_=>by kernel_rfl) h
def agO (p_s:ByteArray) : Mo (Bool) :=
 .sj Tryz.f150 0 [1,0,0] [0,1,2,3,4,5,6,7] 1 8 [0] 0 (fun r_=>⟨[(0,.lf (.str p_s)),(11,.b_ r_)],[]⟩) ⟨[(0,.lf (.str p_s))],[]⟩ (NR p_s).den (sW (by kernel_rfl)) fun r0 _ =>
 .sj Tryz.f150 0 [1,0,0] [8,9,10,11,12] 1 5 [0,11] 0 (fun r_=>⟨[(0,.lf (.str p_s)),(16,.b_ r_)],[]⟩) ⟨[(0,.lf (.str p_s)),(11,.b_ r0)],[]⟩ (NS p_s r0).den (sW (by kernel_rfl)) fun r1 _ =>
 .iB (r1) (.ret (bC 1) (false)) <|
 .eP (J4 p_s 0) (fun o0 h0 =>
 .say [.pt_ 0 [0,3] 0 (qV (.inl o0)) (qW (.inl o0))] (ok1 (Gz h0)) <|
 .ret (bC 1) (false)) fun o1 h0 =>
 .say [.pt_ 0 [0,3] 0 (qV (.inr (o1))) (qW (.inr (o1)))] (ok1 (Gz h0)) <|
 .ret (bC 1) (true)
def Q21 (p_s:ByteArray) : Option (Bool) := Mo.den (agO p_s)
theorem ug (p_s:ByteArray) : FV (Q21 p_s) 150 [.lf (.str p_s)] (fun r=>.b_ r) := bY Tryz.func150 (by kernel_rfl) (fun _=>rfl) (by kernel_rfl)
def NT (p_p:List ByteArray) : Mo (Bool) :=
 .say [.num p_p.length] (ok1 (ln_ p_p lfS)) <|
 .ite (decide (((p_p.length:Int) : Int) < 1)) (fun c0 =>
 .say [.gd 4003 true] (ok1 c0) <|
 .rt [0,11] 0 (true)) fun c0 =>
 .say [.gd 4003 false,.num p_p.length] (okc c0 (ok1 (ln_ p_p lfS))) <|
 .rt [0,11] 0 (decide ((16:Int) < (p_p.length:Int)))
def CQ (p_p:List ByteArray) : (Int) → Mo ((Int) ⊕ (Unit ⊕ Unit)) := fun (v0) =>
 .say [.num p_p.length] (ok1 (ln_ p_p lfS)) <|
 .iB (decide ((v0:Int) < (p_p.length:Int))) (.ask (bM p_p v0) fun x0 h0 =>
 .say [.row (lfS x0)] (ok1 (aX lS_ h0)) <|
 .cl (ug x0) fun r0 _ =>
 .iB (!r0) (.rt [2] 0 (.inr (.inl ()))) <|
 .rt [0,3] 0 (.inl (IntKind.wrap .i64 (v0 + 1)))) <|
 .rt [] 0 (.inr (.inr (())))
def Ug (p_p:List ByteArray) (v0:Int) : Option (Unit ⊕ Unit) := bK (fun v_=>(CQ p_p v_).den) FU (v0)
def NU (p_p:List ByteArray) : (Int) → St := fun (v0)=>⟨[(0,.lf (.rows 1 (p_p.map lfS))),(3,.i_ v0)],[]⟩
def vG (r_:Unit ⊕ Unit) : Exit := match r_ with
 | .inl o_=>.ret
 | .inr (o_)=>.exit 0
def vH  (r_:Unit ⊕ Unit) : St := match r_ with
 | .inl o_=>⟨[(2,.b_ false)],[]⟩
 | .inr (o_)=>⟨[],[]⟩
theorem NV {p_p:List ByteArray} {v0:Int} {r_:Unit ⊕ Unit} (h:Ug p_p v0 = some r_) : fQ Tryz.f106 0 [1,1,0,1,0] (vG r_) (vH r_) (NU p_p (v0)) :=
 dO dK (body := (Code.sub (bodyC Tryz.f106) [1,1,0,1,0,0])) (by kernel_rfl) (CQ p_p) (NU p_p) vG vH (fun r_=>by rcases r_ with _ | _ <;> rfl) (fun v_=>by kernel_rfl) h
def agP (p_p:List ByteArray) : Mo (Bool) :=
 .jp Tryz.f106 0 [1,0,0] 9 [0] 0 (.normal) (fun r_=>⟨[(0,.lf (.rows 1 (p_p.map lfS))),(11,.b_ r_)],[]⟩) ⟨[(0,.lf (.rows 1 (p_p.map lfS)))],[]⟩ (NT p_p).den (jW (by kernel_rfl)) fun r0 _ =>
 .iB (r0) (.ret (bC 1) (false)) <|
 .eP (Ug p_p 0) (fun o0 h0 =>
 .say [.pt_ 0 [0,3] 0 (vG (.inl o0)) (vH (.inl o0))] (ok1 (NV h0)) <|
 .ret (bC 1) (false)) fun o1 h0 =>
 .say [.pt_ 0 [0,3] 0 (vG (.inr (o1))) (vH (.inr (o1)))] (ok1 (NV h0)) <|
 .ret (bC 1) (true)
def Q33 (p_p:List ByteArray) : Option (Bool) := Mo.den (agP p_p)
theorem CS (p_p:List ByteArray) : FV (Q33 p_p) 106 [.lf (.rows 1 (p_p.map lfS))] (fun r=>.b_ r) := bY Tryz.func106 (by kernel_rfl) (fun _=>rfl) (by kernel_rfl)
def aay (p_s:ByteArray) : Mo (Bool) :=
 .say [.at_ 4 2,.XE 0 ([p_s].map lfS)] (ok1 (by simp [lfS] : [p_s].map lfS = [(lfS p_s)])) <|
 .cl (CS [p_s]) fun r0 _ =>
 .ret (bC 1) (r0)
def aic (p_s:ByteArray) : Option (Bool) := Mo.den (aay p_s)
theorem Bl (p_s:ByteArray) : FV (aic p_s) 77 [.lf (.str p_s)] (fun r=>.b_ r) := bY Tryz.func77 (by kernel_rfl) (fun _=>rfl) (by kernel_rfl)
def aaz (p_kind:Int) : Mo (Bool) :=
 .iG 4002 (decide ((2:Int) ≤ p_kind)) (.ret (bC 1) (decide ((p_kind:Int) ≤ 7))) <|
 .ret (bC 1) (false)
def aks (p_kind:Int) : Option (Bool) := Mo.den (aaz p_kind)
theorem aeU (p_kind:Int) : FV (aks p_kind) 153 [.i_ p_kind] (fun r=>.b_ r) := bY Tryz.func153 (by kernel_rfl) (fun _=>rfl) (by kernel_rfl)
def aaA (p_kind:Int) : Mo (Bool) :=
 .cl (aeU p_kind) fun r0 _ =>
 .iG 4002 (r0) (.ret (bC 1) (p_kind != 4)) <|
 .ret (bC 1) (false)
def akt (p_kind:Int) : Option (Bool) := Mo.den (aaA p_kind)
theorem WB (p_kind:Int) : FV (akt p_kind) 109 [.i_ p_kind] (fun r=>.b_ r) := bY Tryz.func109 (by kernel_rfl) (fun _=>rfl) (by kernel_rfl)
def aaB (p_kind:Int) : Mo (Bool) :=
 .iG 4002 (p_kind == 2) (.ret (bC 1) (true)) <|
 .ret (bC 1) (p_kind == 3)
def aku (p_kind:Int) : Option (Bool) := Mo.den (aaB p_kind)
theorem J5 (p_kind:Int) : FV (aku p_kind) 112 [.i_ p_kind] (fun r=>.b_ r) := bY Tryz.func112 (by kernel_rfl) (fun _=>rfl) (by kernel_rfl)
def NW (p_v:ak) : Mo (Bool) :=
 .iG 4003 (p_v.aU == 0) (.rt [1,2,10] 1 (p_v.jL == 0)) <|
 .rt [1,2,10] 1 (false)
def NY (p_v:ak) (r0:Bool) : Mo (Bool) :=
 .iG 4008 (r0) (.rt [1,2,15] 1 (decide ((p_v.fText:ByteArray) = (⟨#[]⟩ : ByteArray)))) <|
 .rt [1,2,15] 1 (false)
def GH (p_v:ak) (r0:Bool) : Mo (Bool) :=
 .ite (r0) (fun c0 =>
 .say [.gd 4013 true,.num p_v.bV.length] (okc c0 (ok1 (ln_ p_v.bV ak.lf))) <|
 .rt [1,2,21] 1 ((p_v.bV.length:Int) == 0)) fun c0 =>
 .say [.gd 4013 false] (ok1 c0) <|
 .rt [1,2,21] 1 (false)
def GK (p_v:ak) (r0:Bool) : Mo (Bool) :=
 .ite (r0) (fun c0 =>
 .say [.gd 4019 true,.num p_v.bU.length] (okc c0 (ok1 (ln_ p_v.bU aS.lf))) <|
 .ret ⟨[.kill 0],[2,27],[],1⟩ ((p_v.bU.length:Int) == 0)) fun c0 =>
 .say [.gd 4019 false] (ok1 c0) <|
 .ret ⟨[.kill 0],[2,27],[],1⟩ (false)
def GL (r0:Bool) : Mo (Unit) :=
 .rt [2] 1 ()
def agQ (p_v:ak) : Mo (Bool) :=
 .sj Tryz.f115 0 [1,0] [0,1,2,3,4,5,6,7] 1 8 [1,2] 1 (fun r_=>⟨[(1,.ptr 0 0),(2,.b_ false),(10,.b_ r_)],[.box 29 (.dat (ak.lf1 p_v))]⟩) ⟨[(1,.ptr 0 0),(2,.b_ false)],[.box 29 (.dat (ak.lf1 p_v))]⟩ (NW p_v).den (sW (by kernel_rfl)) fun r0 _ =>
 .sj Tryz.f115 0 [1,0] [8,9,10,11,12] 1 5 [1,2,10] 1 (fun r_=>⟨[(1,.ptr 0 0),(2,.b_ false),(15,.b_ r_)],[.box 29 (.dat (ak.lf1 p_v))]⟩) ⟨[(1,.ptr 0 0),(2,.b_ false),(10,.b_ r0)],[.box 29 (.dat (ak.lf1 p_v))]⟩ (NY p_v r0).den (sW (by kernel_rfl)) fun r1 _ =>
 .sj Tryz.f115 0 [1,0] [13,14,15,16,17,18] 1 6 [1,2,15] 1 (fun r_=>⟨[(1,.ptr 0 0),(2,.b_ false),(21,.b_ r_)],[.box 29 (.dat (ak.lf1 p_v))]⟩) ⟨[(1,.ptr 0 0),(2,.b_ false),(15,.b_ r1)],[.box 29 (.dat (ak.lf1 p_v))]⟩ (GH p_v r1).den (sW (by kernel_rfl)) fun r2 _ =>
 .sj Tryz.f115 0 [1,0] [19,20,21,22,23,24] 1 6 [1,2,21] 1 (fun r_=>⟨[(2,.b_ false),(27,.b_ r_)],[.dead]⟩) ⟨[(1,.ptr 0 0),(2,.b_ false),(21,.b_ r2)],[.box 29 (.dat (ak.lf1 p_v))]⟩ (GK p_v r2).den (sW (by kernel_rfl)) fun r3 _ =>
 .sj Tryz.f115 0 [1,0] [25] 1 1 [2,27] 1 (fun r_=>⟨[(2,.b_ r3)],[.dead]⟩) ⟨[(2,.b_ false),(27,.b_ r3)],[.dead]⟩ (GL r3).den (sW (by kernel_rfl)) fun r4 _ =>
 .ret (bC 1) (r3)
def Q47 (p_v:ak) : Option (Bool) := Mo.den (agQ p_v)
theorem uh (p_v:ak) : FV (Q47 p_v) 115 [.dat (ak.lf1 p_v)] (fun r=>.b_ r) := bY Tryz.func115 (by kernel_rfl) (fun _=>rfl) (by kernel_rfl)
def NZ (p_n:Int) : Mo (Int) :=
 .iB (decide ((p_n:Int) < 0)) (.rt [3] 0 (bJ .xor .u64 (IntKind.max .u64) (yY .u64 (IntKind.wrap .u64 p_n) 1))) <|
 .rt [3] 0 (yY .u64 (IntKind.wrap .u64 p_n) 1)
def N7 (v0:Int) (v1:ByteArray) (v2:Int) : Mo (Bool) :=
 .iG 14002 (decide ((v2:Int) < 10)) (.rt [3,4,5,18] 0 (decide ((128:Int) ≤ v0))) <|
 .rt [3,4,5,18] 0 (false)
def zy  : (Int × ByteArray × Int) → Mo ((Int × ByteArray × Int) ⊕ (Int × ByteArray)) := fun (v0,v1,v2) =>
 .jp Tryz.f166 0 [1,1,1,1,0,1,0,0,0,0] 19 [3,4,5] 0 (.normal) (fun r_=>⟨[(3,.lf (.int .u64 v0)),(4,.lf (.str v1)),(5,.i_ v2),(18,.b_ r_)],[]⟩) ⟨[(3,.lf (.int .u64 v0)),(4,.lf (.str v1)),(5,.i_ v2)],[]⟩ (N7 v0 v1 v2).den (jW (by kernel_rfl)) fun r0 _ =>
 .ite (r0) (fun c0 =>
 .say [.br true,.nums [bJ .or .u8 (IntKind.wrap .u8 (Int.tmod v0 128)) 128]] (okc c0 (okc (by decide:(128:Int) ≠ 0) (ok1 (by simp [lfI,lfK] : [(lfK .u8 (bJ .or .u8 (IntKind.wrap .u8 (Int.tmod v0 128)) 128))] = [bJ .or .u8 (IntKind.wrap .u8 (Int.tmod v0 128)) 128].map fun n=>[Lf.int .u8 n])))) <|
 .grd (v1.size + (strOfNums [bJ .or .u8 (IntKind.wrap .u8 (Int.tmod v0 128)) 128]).size ≤ 9223372036854775807) fun h0 =>
 .say [] (okc h0 (ok1 (by decide:(128:Int) ≠ 0))) <|
 .rt [3,4,5] 0 (.inl (IntKind.wrap .u64 (Int.tdiv v0 128),v1 ++ (strOfNums [bJ .or .u8 (IntKind.wrap .u8 (Int.tmod v0 128)) 128]),IntKind.wrap .i64 (v2 + 1)))) fun c0 =>
 .say [.br false] (ok1 c0) <|
 .rt [3,4] 0 (.inr (v0,v1))
def J6 (v0:Int) (v1:ByteArray) (v2:Int) : Option ((Int × ByteArray)) := bK (fun v_=>(zy  v_).den) FU (v0,v1,v2)
def GN  : (Int × ByteArray × Int) → St := fun (v0,v1,v2)=>⟨[(3,.lf (.int .u64 v0)),(4,.lf (.str v1)),(5,.i_ v2)],[]⟩
def zA  (r_:(Int × ByteArray)) : St := ⟨[(3,.lf (.int .u64 r_.1)),(4,.lf (.str r_.2))],[]⟩
theorem X0 {v0:Int} {v1:ByteArray} {v2:Int} {r_:(Int × ByteArray)} (h:J6 v0 v1 v2 = some r_) : fQ Tryz.f166 0 [1,1,1,1,0,1,0] (.exit 0) (zA r_) (GN  (v0,v1,v2)) :=
 dO dK (body := (Code.sub (bodyC Tryz.f166) [1,1,1,1,0,1,0,0])) (by kernel_rfl) (zy ) (GN ) (fun _=>.exit 0) zA (fun r_=>rfl) (fun v_=>by kernel_rfl) h
def agR (p_n:Int) : Mo (ByteArray) :=
 .say [] (ok1 (by decide:(0:Int) ≤ 1)) <|
 .jp Tryz.f166 0 [1,1,0,1] 1 [3,10] 0 (.normal) (fun r_=>⟨[(3,.lf (.int .u64 r_))],[]⟩) ⟨[(3,.lf (.int .u64 (yY .u64 (IntKind.wrap .u64 p_n) 1))),(10,.lf (.bool (decide ((p_n:Int) < 0))))],[]⟩ (NZ p_n).den (jW (by kernel_rfl)) fun r0 _ =>
 .ask (J6 r0 ⟨#[]⟩ 0) fun r1 h0 =>
 .say [.pt_ 0 [3,4,5] 0 (.exit 0) (zA r1),.nums [IntKind.wrap .u8 r1.1]] (okc (X0 h0) (ok1 (by simp [lfI,lfK] : [(lfK .u8 (IntKind.wrap .u8 r1.1))] = [IntKind.wrap .u8 r1.1].map fun n=>[Lf.int .u8 n]))) <|
 .grd (r1.2.size + (strOfNums [IntKind.wrap .u8 r1.1]).size ≤ 9223372036854775807) fun h1 =>
 .say [] (ok1 h1) <|
 .ret (bC 1) (r1.2 ++ (strOfNums [IntKind.wrap .u8 r1.1]))
def Q41 (p_n:Int) : Option (ByteArray) := Mo.den (agR p_n)
theorem zB (p_n:Int) : FV (Q41 p_n) 166 [.i_ p_n] (fun r=>.lf (.str r)) := bY Tryz.func166 (by kernel_rfl) (fun _=>rfl) (by kernel_rfl)
def agS (p_n:Int) (p_b0:aA) : Mo (aA) :=
 .say [.order [(true,0),(true,1),(true,2),(true,3),(true,4),(false,5),(true,6),(true,7),(true,8),(false,9)] (some 9) []] ok0 <|
 .cl (zB p_n) fun r0 _ =>
 .grd (p_b0.fS.size + r0.size ≤ 9223372036854775807) fun h0 =>
 .say [] (ok1 h0) <|
 .rt [] 1 (aA.mk (p_b0.fS ++ r0) p_b0.AO p_b0.pF)
def Q19 (p_n:Int) (p_b0:aA) : Option (aA) := Mo.den (agS p_n p_b0)
theorem fC (p_n:Int) (p_b0:aA) : FH (Q19 p_n p_b0) 123 [.ptr 0 0,.i_ p_n] [.box 124 (.dat (aA.lf1 p_b0))] (fun _=>.tup []) (fun r=>[.box 124 (.dat (aA.lf1 r))]) := gW Tryz.func123 (by kernel_rfl) (fun _=>rfl) (by kernel_rfl)
def agT (p_s:ByteArray) (p_b0:aA) : Mo (aA) :=
 .cH [0] (fC (p_s.size:Int) p_b0) fun r0 _ =>
 .grd (r0.fS.size + p_s.size ≤ 9223372036854775807) fun h0 =>
 .say [] (ok1 h0) <|
 .rt [] 1 (aA.mk (r0.fS ++ p_s) r0.AO r0.pF)
def Q70 (p_s:ByteArray) (p_b0:aA) : Option (aA) := Mo.den (agT p_s p_b0)
theorem nY (p_s:ByteArray) (p_b0:aA) : FH (Q70 p_s p_b0) 124 [.ptr 0 0,.lf (.str p_s)] [.box 124 (.dat (aA.lf1 p_b0))] (fun _=>.tup []) (fun r=>[.box 124 (.dat (aA.lf1 r))]) := gW Tryz.func124 (by kernel_rfl) (fun _=>rfl) (by kernel_rfl)
def CU (p_l:List ByteArray) : (Int × aA) → Mo ((Int × aA) ⊕ (aA)) := fun (v0,s957) =>
 .say [.num p_l.length] (ok1 (ln_ p_l lfS)) <|
 .iB (decide ((v0:Int) < (p_l.length:Int))) (.ask (bM p_l v0) fun x0 h0 =>
 .say [.row (lfS x0)] (ok1 (aX lS_ h0)) <|
 .cH [0] (nY x0 s957) fun r0 _ =>
 .rt [0,1,4] 1 (.inl (IntKind.wrap .i64 (v0 + 1),r0))) <|
 .rt [] 1 (.inr (s957))
def Uh (p_l:List ByteArray) (v0:Int) (s957:aA) : Option (aA) := bK (fun v_=>(CU p_l v_).den) FU (v0,s957)
def agU (p_l:List ByteArray) (p_b0:aA) : Mo (aA) :=
 .say [.num p_l.length] (ok1 (ln_ p_l lfS)) <|
 .cH [0] (fC (p_l.length:Int) p_b0) fun r0 _ =>
 .lp Tryz.f216 1 [1,1,0] 0 [0,1,4] 1 (.exit 0) (fun r_=>⟨[],[.box 124 (.dat (aA.lf1 r_))]⟩) (Uh p_l 0 r0) (lW (fun (v0,s957)=>⟨[(0,.ptr 0 0),(1,.lf (.rows 1 (p_l.map lfS))),(4,.i_ v0)],[.box 124 (.dat (aA.lf1 s957))]⟩) (by kernel_rfl) rfl fun v_=>by kernel_rfl) fun r1 _ =>
 .rt [] 1 (r1)
def Q59 (p_l:List ByteArray) (p_b0:aA) : Option (aA) := Mo.den (agU p_l p_b0)
theorem CV (p_l:List ByteArray) (p_b0:aA) : FH (Q59 p_l p_b0) 216 [.ptr 0 0,.lf (.rows 1 (p_l.map lfS))] [.box 124 (.dat (aA.lf1 p_b0))] (fun _=>.tup []) (fun r=>[.box 124 (.dat (aA.lf1 r))]) := gW Tryz.func216 (by kernel_rfl) (fun _=>rfl) (by kernel_rfl)
def agV (p_b:Bool) (p_b0:aA) : Mo (aA) :=
 .iB (p_b) (.grd (p_b0.fS.size + (⟨#[1]⟩ : ByteArray).size ≤ 9223372036854775807) fun h0 =>
 .say [] (ok1 h0) <|
 .rt [] 1 (aA.mk (p_b0.fS ++ ⟨#[1]⟩) p_b0.AO p_b0.pF)) <|
 .grd (p_b0.fS.size + (⟨#[0]⟩ : ByteArray).size ≤ 9223372036854775807) fun h1 =>
 .say [] (ok1 h1) <|
 .rt [] 1 (aA.mk (p_b0.fS ++ ⟨#[0]⟩) p_b0.AO p_b0.pF)
def Q74 (p_b:Bool) (p_b0:aA) : Option (aA) := Mo.den (agV p_b p_b0)
theorem oP (p_b:Bool) (p_b0:aA) : FH (Q74 p_b p_b0) 170 [.ptr 0 0,.b_ p_b] [.box 124 (.dat (aA.lf1 p_b0))] (fun _=>.tup []) (fun r=>[.box 124 (.dat (aA.lf1 r))]) := gW Tryz.func170 (by kernel_rfl) (fun _=>rfl) (by kernel_rfl)
def vI (p_v:ak) : (Int × (List ak)) → Mo ((Int × (List ak)) ⊕ ((List ak))) := fun (v0,l0) =>
 .say [.num p_v.bV.length] (ok1 (ln_ p_v.bV ak.lf)) <|
 .iB (decide ((v0:Int) < (p_v.bV.length:Int))) (.ask (bM p_v.bV v0) fun x0 h0 =>
 .say [.row (ak.lf1 x0),.rows ((l0 ++ [x0]).map ak.lf)] (okc (aX ak.aV h0) (ok1 (ap_ ak.aV l0 x0))) <|
 .grd ((l0.length + [x0].length) * 80 ≤ 140737488355328) fun h1 =>
 .say [] (ok1 (cp_ ak.lf h1)) <|
 .ret ⟨[],[1,3,4],[(3,1)],2⟩ (.inl (IntKind.wrap .i64 (v0 + 1),l0 ++ [x0]))) <|
 .rt [1,3] 2 (.inr (l0))
def J7 (p_v:ak) (v0:Int) (l0:List ak) : Option (((List ak))) := bK (fun v_=>(vI p_v v_).den) FU (v0,l0)
def N8 (p_v:ak) : (Int × (List ak)) → St := fun (v0,l0)=>⟨[(1,.ptr 0 0),(3,.own 1),(4,.i_ v0)],[.box 29 (.dat (ak.lf1 p_v)),.row 29 5 (l0.map ak.lf)]⟩
def vJ (p_v:ak) (r_:((List ak))) : St := ⟨[(1,.ptr 0 0),(3,.own 1)],[.box 29 (.dat (ak.lf1 p_v)),.row 29 5 (r_.map ak.lf)]⟩
theorem aaC {p_v:ak} {v0:Int} {l0:List ak} {r_:((List ak))} (h:J7 p_v v0 l0 = some r_) : fQ Tryz.f288 0 [1,1,0,1,0,1,0] (.exit 0) (vJ p_v r_) (N8 p_v (v0,l0)) :=
 dO dK (body := (Code.sub (bodyC Tryz.f288) [1,1,0,1,0,1,0,0])) (by kernel_rfl) (vI p_v) (N8 p_v) (fun _=>.exit 0) (vJ p_v) (fun r_=>rfl) (fun v_=>by kernel_rfl) h
def CW (p_v:ak) : Mo (((List ak))) :=
 .ite (p_v.aU == 6) (fun c0 =>
 .say [.br true] (okc c0 (ok1 (by simp [ak.aV] : (([] : List ak).map ak.lf) = []))) <|
 .ask (J7 p_v 0 ([] : List ak)) fun r0 h0 =>
 .say [.part [.kJ 1 (([] : List ak).map ak.lf)] 0 [1,3,4] 2 (.exit 0) (vJ p_v r0).T (vJ p_v r0).H] (ok1 (aaC h0)) <|
 .rt [1,3] 2 (r0)) fun c0 =>
 .say [.br false] (okc c0 (ok1 (by simp [ak.aV] : (([] : List ak).map ak.lf) = []))) <|
 .ret ⟨[.kJ 1 (([] : List ak).map ak.lf)],[1,3],[],2⟩ (([] : List ak))
def Ui (p_v:ak) : Option (((List ak))) := Mo.den (CW p_v)
def vK (p_v:ak) (r_:((List ak))) : St := ⟨[(1,.ptr 0 0),(3,.own 1)],[.box 29 (.dat (ak.lf1 p_v)),.row 29 5 (r_.map ak.lf)]⟩
theorem aaD {p_v:ak} {r_:((List ak))} (h:Ui p_v = some r_) : fQ Tryz.f288 0 [1,1,0,1] (.normal) (vK p_v r_) ⟨[(1,.ptr 0 0),(3,.own 1),(8,.lf (.bool (p_v.aU == 6)))],[.box 29 (.dat (ak.lf1 p_v)),.row 29 5 []]⟩ :=
 jo dK (CW p_v) (fun _=>.normal) (vK p_v) (by kernel_rfl) h
def zC (p_v:ak) : (Int × (List ak)) → Mo ((Int × (List ak)) ⊕ ((List ak))) := fun (v0,l0) =>
 .say [.num p_v.bU.length] (ok1 (ln_ p_v.bU aS.lf)) <|
 .iB (decide ((v0:Int) < (p_v.bU.length:Int))) (.ask (bM p_v.bU v0) fun x0 h0 =>
 .say [.row (aS.lf1 x0),.rows ((l0 ++ [x0.fValue]).map ak.lf)] (okc (aX aS.aV h0) (ok1 (ap_ ak.aV l0 x0.fValue))) <|
 .grd ((l0.length + [x0.fValue].length) * 80 ≤ 140737488355328) fun h1 =>
 .say [] (ok1 (cp_ ak.lf h1)) <|
 .ret ⟨[],[1,3,5],[(3,1)],2⟩ (.inl (IntKind.wrap .i64 (v0 + 1),l0 ++ [x0.fValue]))) <|
 .ret ⟨[.kill 0],[3],[],2⟩ (.inr (l0))
def J8 (p_v:ak) (v0:Int) (l0:List ak) : Option (((List ak))) := bK (fun v_=>(zC p_v v_).den) FU (v0,l0)
def zD (p_v:ak) (r0:((List ak))) : Mo (((List ak))) :=
 .iB (p_v.aU == 5) (.lp Tryz.f288 0 [1,1,1,0,1,0,1,0] 0 [1,3,5] 2 (.exit 2) (fun r_=>⟨[(3,.own 1)],[.dead,.row 29 5 (r_.map ak.lf)]⟩) (J8 p_v 0 r0) (lW (fun (v0,l0)=>⟨[(1,.ptr 0 0),(3,.own 1),(5,.i_ v0)],[.box 29 (.dat (ak.lf1 p_v)),.row 29 5 (l0.map ak.lf)]⟩) (by kernel_rfl) rfl fun v_=>by kernel_rfl) fun r1 _ =>
 .rt [3] 2 (r1)) <|
 .ret ⟨[.kill 0],[3],[],2⟩ (r0)
def J9 (p_v:ak) (r0:((List ak))) : Option (((List ak))) := Mo.den (zD p_v r0)
def zF  (r_:((List ak))) : St := ⟨[(3,.own 1)],[.dead,.row 29 5 (r_.map ak.lf)]⟩
theorem X3 {p_v:ak} {r0:((List ak))} {r_:((List ak))} (h:J9 p_v r0 = some r_) : fQ Tryz.f288 0 [1,1,1,0,1] (.normal) (zF r_) ⟨[(1,.ptr 0 0),(3,.own 1),(26,.lf (.bool (p_v.aU == 5)))],[.box 29 (.dat (ak.lf1 p_v)),.row 29 5 (r0.map ak.lf)]⟩ :=
 jo dK (zD p_v r0) (fun _=>.normal) zF (by kernel_rfl) h
def agW (p_v:ak) : Mo (List ak) :=
 .ask (Ui p_v) fun r0 h0 =>
 .say [.part [.Fb 3 29 5] 1 [1,3,8] 2 (.normal) (vK p_v r0).T (vK p_v r0).H] (ok1 (aaD h0)) <|
 .ask (J9 p_v r0) fun r1 h1 =>
 .say [.pt_ 1 [1,3,26] 2 (.normal) (zF r1),.at_ 0 0,.frz 1] (ok1 (X3 h1)) <|
 .ret (bC 1) (r1)
def Q12 (p_v:ak) : Option (List ak) := Mo.den (agW p_v)
theorem aaE (p_v:ak) : FV (Q12 p_v) 288 [.dat (ak.lf1 p_v)] (fun r=>.lf (.rows 5 (r.map ak.lf))) := bY Tryz.func288 (by kernel_rfl) (fun _=>rfl) (by kernel_rfl)
structure RB3 where
 m1:(p_v:ak) → (p_most:Int) → Option (Int)
 ok1:∀ p_v p_most,FV (m1 p_v p_most) 237 [.dat (ak.lf1 p_v),.i_ p_most] (fun r=>.i_ r)
def CX (R_:RB3) (p_most:Int) (r0:List ak) : Mo (Bool) :=
 .ite (decide ((p_most:Int) < 2)) (fun c0 =>
 .say [.gd 6002 true] (ok1 c0) <|
 .rt [1,5,16] 1 (true)) fun c0 =>
 .say [.gd 6002 false,.num r0.length] (okc c0 (ok1 (ln_ r0 ak.lf))) <|
 .rt [1,5,16] 1 ((r0.length:Int) == 0)
def Uj (R_:RB3) (p_most:Int) (r0:List ak) : Option (Bool) := Mo.den (CX R_ p_most r0)
def vM (p_most:Int) (r0:List ak) (r_:Bool) : St := ⟨[(1,.i_ p_most),(5,.lf (.rows 5 (r0.map ak.lf))),(16,.b_ r_)],[.dead]⟩
theorem aaF {R_:RB3} {p_most:Int} {r0:List ak} {r_:Bool} (h:Uj R_ p_most r0 = some r_) : fQ Tryz.f237 0 [1,1,0,0] (.normal) (vM p_most r0 r_) ⟨[(1,.i_ p_most),(5,.lf (.rows 5 (r0.map ak.lf)))],[.dead]⟩ :=
 jo dK (CX R_ p_most r0) (fun _=>.normal) (vM p_most r0) (by kernel_rfl) h
def CY (R_:RB3) (p_most:Int) (r0:List ak) : (Int × Int) → Mo ((Int × Int) ⊕ (Int)) := fun (v0,v1) =>
 .say [.num r0.length] (ok1 (ln_ r0 ak.lf)) <|
 .iB (decide ((v1:Int) < (r0.length:Int))) (.ask (bM r0 v1) fun x0 h0 =>
 .say [.row (ak.lf1 x0)] (ok1 (aX ak.aV h0)) <|
 .cl (R_.ok1 x0 (IntKind.wrap .i64 (p_most - 1))) fun r1 _ =>
 .rt [1,5,6,7] 1 (.inl ((if r1 > v0 then r1 else v0),IntKind.wrap .i64 (v1 + 1)))) <|
 .rt [6] 1 (.inr (v0))
def aie (R_:RB3) (p_most:Int) (r0:List ak) (v0:Int) (v1:Int) : Option (Int) := bK (fun v_=>(CY R_ p_most r0 v_).den) FU (v0,v1)
def aaG (R_:RB3) (p_v:ak) (p_most:Int) : Mo (Int) :=
 .cl (aaE p_v) fun r0 _ =>
 .ask (Uj R_ p_most r0) fun r1 h0 =>
 .say [.part [.kill 0] 11 [1,5] 1 (.normal) (vM p_most r0 r1).T (vM p_most r0 r1).H] (ok1 (aaF h0)) <|
 .iB (r1) (.ret (bC 1) (1)) <|
 .lp Tryz.f237 0 [1,1,1,1,0,1,0] 0 [1,5,6,7] 1 (.exit 0) (fun r_=>⟨[(6,.i_ r_)],[.dead]⟩) (aie R_ p_most r0 0 0) (lW (fun (v0,v1)=>⟨[(1,.i_ p_most),(5,.lf (.rows 5 (r0.map ak.lf))),(6,.i_ v0),(7,.i_ v1)],[.dead]⟩) (by kernel_rfl) rfl fun v_=>by kernel_rfl) fun r2 _ =>
 .ret (bC 1) (IntKind.wrap .i64 (r2 + 1))
theorem aeV (R_:RB3) (p_v:ak) (p_most:Int) : FV (Mo.den (aaG R_ p_v p_most)) 237 [.dat (ak.lf1 p_v),.i_ p_most] (fun r=>.i_ r) := bY Tryz.func237 (by kernel_rfl) (fun _=>rfl) (by kernel_rfl)
def GU:Nat → RB3
 | 0=>{ m1 := fun p_v p_most=>none,ok1 := fun _ _ _ h=>(by cases h) }
 | n_ + 1=>{ m1 := fun p_v p_most=>Mo.den (aaG (GU n_) p_v p_most),ok1 := aeV (GU n_) }
def Q45 (p_v:ak) (p_most:Int) : Option (Int) := (GU FU).m1 p_v p_most
theorem aif (p_v:ak) (p_most:Int) : FV (Q45 p_v p_most) 237 [.dat (ak.lf1 p_v),.i_ p_most] (fun r=>.i_ r) := (GU FU).ok1 p_v p_most
def aaH (p_v:ak) : Mo (Int) :=
 .cl (aif p_v 17) fun r0 _ =>
 .ret (bC 1) (r0)
def aii (p_v:ak) : Option (Int) := Mo.den (aaH p_v)
theorem aeW (p_v:ak) : FV (aii p_v) 196 [.dat (ak.lf1 p_v)] (fun r=>.i_ r) := bY Tryz.func196 (by kernel_rfl) (fun _=>rfl) (by kernel_rfl)
structure RB4 where
 m1:(p_v:ak) → (p_most:Int) → Option (Int)
 ok1:∀ p_v p_most,FV (m1 p_v p_most) 238 [.dat (ak.lf1 p_v),.i_ p_most] (fun r=>.i_ r)
def CZ (R_:RB4) (p_most:Int) (r0:List ak) (v0:Int) (v1:Int) : Mo (Bool) :=
 .say [.num r0.length] (ok1 (ln_ r0 ak.lf)) <|
 .iG 10004 (decide ((v1:Int) < (r0.length:Int))) (.rt [1,5,6,7,18] 1 (decide ((v0:Int) < p_most))) <|
 .rt [1,5,6,7,18] 1 (false)
def vN (R_:RB4) (p_most:Int) (r0:List ak) : (Int × Int) → Mo ((Int × Int) ⊕ (Int)) := fun (v0,v1) =>
 .jp Tryz.f238 0 [1,1,1,0,1,0,0,0,0] 15 [1,5,6,7] 1 (.normal) (fun r_=>⟨[(1,.i_ p_most),(5,.i_ v0),(6,.lf (.rows 5 (r0.map ak.lf))),(7,.i_ v1),(18,.b_ r_)],[.dead]⟩) ⟨[(1,.i_ p_most),(5,.i_ v0),(6,.lf (.rows 5 (r0.map ak.lf))),(7,.i_ v1)],[.dead]⟩ (CZ R_ p_most r0 v0 v1).den (jW (by kernel_rfl)) fun r1 _ =>
 .iB (r1) (.ask (bM r0 v1) fun x0 h0 =>
 .say [.row (ak.lf1 x0)] (ok1 (aX ak.aV h0)) <|
 .cl (R_.ok1 x0 (IntKind.wrap .i64 (p_most - v0))) fun r2 _ =>
 .rt [1,5,6,7] 1 (.inl (IntKind.wrap .i64 (v0 + r2),IntKind.wrap .i64 (v1 + 1)))) <|
 .rt [5] 1 (.inr (v0))
def aaI (R_:RB4) (p_most:Int) (r0:List ak) (v0:Int) (v1:Int) : Option (Int) := bK (fun v_=>(vN R_ p_most r0 v_).den) FU (v0,v1)
def N9 (R_:RB4) (p_most:Int) (r0:List ak) : (Int × Int) → St := fun (v0,v1)=>⟨[(1,.i_ p_most),(5,.i_ v0),(6,.lf (.rows 5 (r0.map ak.lf))),(7,.i_ v1)],[.dead]⟩
def vO  (r_:Int) : St := ⟨[(5,.i_ r_)],[.dead]⟩
theorem aaJ {R_:RB4} {p_most:Int} {r0:List ak} {v0:Int} {v1:Int} {r_:Int} (h:aaI R_ p_most r0 v0 v1 = some r_) : fQ Tryz.f238 0 [1,1,1,0,1,0] (.exit 0) (vO r_) (N9 R_ p_most r0 (v0,v1)) :=
 dO dK (body := (Code.sub (bodyC Tryz.f238) [1,1,1,0,1,0,0])) (by kernel_rfl) (vN R_ p_most r0) (N9 R_ p_most r0) (fun _=>.exit 0) vO (fun r_=>rfl) (fun v_=>by kernel_rfl) h
def aaK (R_:RB4) (p_v:ak) (p_most:Int) : Mo (Int) :=
 .cl (aaE p_v) fun r0 _ =>
 .ask (aaI R_ p_most r0 1 0) fun r1 h0 =>
 .say [.part [.kill 0] 0 [1,5,6,7] 1 (.exit 0) (vO r1).T (vO r1).H] (ok1 (aaJ h0)) <|
 .ret (bC 1) (r1)
theorem aeX (R_:RB4) (p_v:ak) (p_most:Int) : FV (Mo.den (aaK R_ p_v p_most)) 238 [.dat (ak.lf1 p_v),.i_ p_most] (fun r=>.i_ r) := bY Tryz.func238 (by kernel_rfl) (fun _=>rfl) (by kernel_rfl)
def GV:Nat → RB4
 | 0=>{ m1 := fun p_v p_most=>none,ok1 := fun _ _ _ h=>(by cases h) }
 | n_ + 1=>{ m1 := fun p_v p_most=>Mo.den (aaK (GV n_) p_v p_most),ok1 := aeX (GV n_) }
def Q46 (p_v:ak) (p_most:Int) : Option (Int) := (GV FU).m1 p_v p_most
theorem aij (p_v:ak) (p_most:Int) : FV (Q46 p_v p_most) 238 [.dat (ak.lf1 p_v),.i_ p_most] (fun r=>.i_ r) := (GV FU).ok1 p_v p_most
def aaL (p_v:ak) : Mo (Int) :=
 .cl (aij p_v 1025) fun r0 _ =>
 .ret (bC 1) (r0)
def aik (p_v:ak) : Option (Int) := Mo.den (aaL p_v)
theorem aeY (p_v:ak) : FV (aik p_v) 197 [.dat (ak.lf1 p_v)] (fun r=>.i_ r) := bY Tryz.func197 (by kernel_rfl) (fun _=>rfl) (by kernel_rfl)
def Oa (p_i:Int) (p_n:Int) (p_s:ByteArray) (v0:Int) : Mo (Bool) :=
 .ask (lM p_s (IntKind.wrap .i64 (p_i + v0))) fun b0 h0 =>
 .say [.byt b0] (ok1 (iI h0)) <|
 .iG 14006 (decide (((b0.toNat:Int) : Int) < 128)) (.rt [0,1,2,7,32] 0 (true)) <|
 .ask (lM p_s (IntKind.wrap .i64 (p_i + v0))) fun b1 h1 =>
 .say [.byt b1] (ok1 (iI h1)) <|
 .rt [0,1,2,7,32] 0 (decide ((191:Int) < (b1.toNat:Int)))
def vP (p_i:Int) (p_n:Int) (p_s:ByteArray) : (Int) → Mo ((Int) ⊕ (Unit ⊕ Unit)) := fun (v0) =>
 .iB (decide ((v0:Int) < p_n)) (.jp Tryz.f289 0 [1,1,0,1,0,0,1,0,0,0] 19 [0,1,2,7] 0 (.normal) (fun r_=>⟨[(0,.lf (.str p_s)),(1,.i_ p_i),(2,.i_ p_n),(7,.i_ v0),(32,.b_ r_)],[]⟩) ⟨[(0,.lf (.str p_s)),(1,.i_ p_i),(2,.i_ p_n),(7,.i_ v0)],[]⟩ (Oa p_i p_n p_s v0).den (jW (by kernel_rfl)) fun r0 _ =>
 .iB (r0) (.rt [6] 0 (.inr (.inl ()))) <|
 .rt [0,1,2,7] 0 (.inl (IntKind.wrap .i64 (v0 + 1)))) <|
 .rt [] 0 (.inr (.inr (())))
def aaM (p_i:Int) (p_n:Int) (p_s:ByteArray) (v0:Int) : Option (Unit ⊕ Unit) := bK (fun v_=>(vP p_i p_n p_s v_).den) FU (v0)
def Oc (p_i:Int) (p_n:Int) (p_s:ByteArray) : (Int) → St := fun (v0)=>⟨[(0,.lf (.str p_s)),(1,.i_ p_i),(2,.i_ p_n),(7,.i_ v0)],[]⟩
def vS (r_:Unit ⊕ Unit) : Exit := match r_ with
 | .inl o_=>.ret
 | .inr (o_)=>.exit 0
def vT  (r_:Unit ⊕ Unit) : St := match r_ with
 | .inl o_=>⟨[(6,.b_ false)],[]⟩
 | .inr (o_)=>⟨[],[]⟩
theorem Oe {p_i:Int} {p_n:Int} {p_s:ByteArray} {v0:Int} {r_:Unit ⊕ Unit} (h:aaM p_i p_n p_s v0 = some r_) : fQ Tryz.f289 0 [1,1,0,1,0] (vS r_) (vT r_) (Oc p_i p_n p_s (v0)) :=
 dO dK (body := (Code.sub (bodyC Tryz.f289) [1,1,0,1,0,0])) (by kernel_rfl) (vP p_i p_n p_s) (Oc p_i p_n p_s) vS vT (fun r_=>by rcases r_ with _ | _ <;> rfl) (fun v_=>by kernel_rfl) h
def agX (p_s:ByteArray) (p_i:Int) (p_n:Int) : Mo (Bool) :=
 .iB (decide (((p_s.size:Int) : Int) < (IntKind.wrap .i64 (p_i + p_n)))) (.ret (bC 1) (false)) <|
 .eP (aaM p_i p_n p_s 0) (fun o0 h0 =>
 .say [.pt_ 0 [0,1,2,7] 0 (vS (.inl o0)) (vT (.inl o0))] (ok1 (Oe h0)) <|
 .ret (bC 1) (false)) fun o1 h0 =>
 .say [.pt_ 0 [0,1,2,7] 0 (vS (.inr (o1))) (vT (.inr (o1)))] (ok1 (Oe h0)) <|
 .ret (bC 1) (true)
def Q44 (p_s:ByteArray) (p_i:Int) (p_n:Int) : Option (Bool) := Mo.den (agX p_s p_i p_n)
theorem ail (p_s:ByteArray) (p_i:Int) (p_n:Int) : FV (Q44 p_s p_i p_n) 289 [.lf (.str p_s),.i_ p_i,.i_ p_n] (fun r=>.b_ r) := bY Tryz.func289 (by kernel_rfl) (fun _=>rfl) (by kernel_rfl)
def Ko (b0:UInt8) (p_s:ByteArray) (v0:Int) : Mo (Bool) :=
 .iG 16002 (decide ((194:Int) ≤ (b0.toNat:Int))) (.rt [0,3,4,16] 0 (decide (((b0.toNat:Int) : Int) ≤ 223))) <|
 .rt [0,3,4,16] 0 (false)
def Kq (b0:UInt8) (p_s:ByteArray) (v0:Int) : Mo (Bool) :=
 .iG 20002 (decide ((224:Int) ≤ (b0.toNat:Int))) (.rt [0,3,4,23] 0 (decide (((b0.toNat:Int) : Int) ≤ 239))) <|
 .rt [0,3,4,23] 0 (false)
def C9 (b0:UInt8) (p_s:ByteArray) (v0:Int) : Mo (Bool) :=
 .iG 24002 (decide ((240:Int) ≤ (b0.toNat:Int))) (.rt [0,3,4,30] 0 (decide (((b0.toNat:Int) : Int) ≤ 244))) <|
 .rt [0,3,4,30] 0 (false)
def vU (b0:UInt8) (p_s:ByteArray) (v0:Int) : Mo ((Int) ⊕ Unit) :=
 .iB (decide (((b0.toNat:Int) : Int) < 128)) (.rt [0,3,4,5] 0 (.inl (0))) <|
 .jp Tryz.f239 0 [1,0,1,0,0,1,0,1,1,0,0,1,1,0] 21 [0,3,4] 0 (.normal) (fun r_=>⟨[(0,.lf (.str p_s)),(3,.i_ v0),(4,.lf (.int .u8 (b0.toNat:Int))),(16,.b_ r_)],[]⟩) ⟨[(0,.lf (.str p_s)),(3,.i_ v0),(4,.lf (.int .u8 (b0.toNat:Int)))],[]⟩ (Ko b0 p_s v0).den (jW (by kernel_rfl)) fun r0 _ =>
 .iB (r0) (.rt [0,3,4,5] 0 (.inl (1))) <|
 .jp Tryz.f239 0 [1,0,1,0,0,1,0,1,1,0,0,1,1,1,1,0] 25 [0,3,4] 0 (.normal) (fun r_=>⟨[(0,.lf (.str p_s)),(3,.i_ v0),(4,.lf (.int .u8 (b0.toNat:Int))),(23,.b_ r_)],[]⟩) ⟨[(0,.lf (.str p_s)),(3,.i_ v0),(4,.lf (.int .u8 (b0.toNat:Int)))],[]⟩ (Kq b0 p_s v0).den (jW (by kernel_rfl)) fun r1 _ =>
 .iB (r1) (.rt [0,3,4,5] 0 (.inl (2))) <|
 .jp Tryz.f239 0 [1,0,1,0,0,1,0,1,1,0,0,1,1,1,1,1,1,0] 29 [0,3,4] 0 (.normal) (fun r_=>⟨[(0,.lf (.str p_s)),(3,.i_ v0),(4,.lf (.int .u8 (b0.toNat:Int))),(30,.b_ r_)],[]⟩) ⟨[(0,.lf (.str p_s)),(3,.i_ v0),(4,.lf (.int .u8 (b0.toNat:Int)))],[]⟩ (C9 b0 p_s v0).den (jW (by kernel_rfl)) fun r2 _ =>
 .iB (r2) (.rt [0,3,4,5] 0 (.inl (3))) <|
 .rt [2] 0 (.inr (()))
def Kr (b0:UInt8) (p_s:ByteArray) (v0:Int) : Option ((Int) ⊕ Unit) := Mo.den (vU b0 p_s v0)
def vV (r_:(Int) ⊕ Unit) : Exit := match r_ with
 | .inl o_=>.normal
 | .inr (o_)=>.ret
def vW (b0:UInt8) (p_s:ByteArray) (v0:Int) (r_:(Int) ⊕ Unit) : St := match r_ with
 | .inl o_=>⟨[(0,.lf (.str p_s)),(3,.i_ v0),(4,.lf (.int .u8 (b0.toNat:Int))),(5,.i_ o_)],[]⟩
 | .inr (o_)=>⟨[(2,.b_ false)],[]⟩
theorem Og {b0:UInt8} {p_s:ByteArray} {v0:Int} {r_:(Int) ⊕ Unit} (h:Kr b0 p_s v0 = some r_) : fQ Tryz.f239 0 [1,0,1,0,0,1,0,1,1,0] (vV r_) (vW b0 p_s v0 r_) ⟨[(0,.lf (.str p_s)),(3,.i_ v0),(4,.lf (.int .u8 (b0.toNat:Int))),(5,.i_ 0)],[]⟩ :=
 jo dK (vU b0 p_s v0) vV (vW b0 p_s v0) (by kernel_rfl) h
def Dc (b0:UInt8) (o0:Int) (p_s:ByteArray) (v0:Int) : Mo (Bool) :=
 .iG 32002 ((b0.toNat:Int) == 224) (.ask (lM p_s (IntKind.wrap .i64 (v0 + 1))) fun b1 h0 =>
 .say [.byt b1] (ok1 (iI h0)) <|
 .rt [0,3,4,5,51] 0 (decide (((b1.toNat:Int) : Int) < 160))) <|
 .rt [0,3,4,5,51] 0 (false)
def Df (b0:UInt8) (o0:Int) (p_s:ByteArray) (r0:Bool) (v0:Int) : Mo (Bool) :=
 .iG 32009 (r0) (.rt [0,3,4,5,62] 0 (true)) <|
 .iG 32012 ((b0.toNat:Int) == 237) (.ask (lM p_s (IntKind.wrap .i64 (v0 + 1))) fun b1 h0 =>
 .say [.byt b1] (ok1 (iI h0)) <|
 .rt [0,3,4,5,62] 0 (decide ((159:Int) < (b1.toNat:Int)))) <|
 .rt [0,3,4,5,62] 0 (false)
def Dh (b0:UInt8) (o0:Int) (p_s:ByteArray) (r0:Bool) (v0:Int) : Mo (Bool) :=
 .iG 32020 (r0) (.rt [0,3,4,5,73] 0 (true)) <|
 .iG 32023 ((b0.toNat:Int) == 240) (.ask (lM p_s (IntKind.wrap .i64 (v0 + 1))) fun b1 h0 =>
 .say [.byt b1] (ok1 (iI h0)) <|
 .rt [0,3,4,5,73] 0 (decide (((b1.toNat:Int) : Int) < 144))) <|
 .rt [0,3,4,5,73] 0 (false)
def Di (b0:UInt8) (o0:Int) (p_s:ByteArray) (r0:Bool) (v0:Int) : Mo (Bool) :=
 .iG 32031 (r0) (.rt [0,3,5,84] 0 (true)) <|
 .iG 32034 ((b0.toNat:Int) == 244) (.ask (lM p_s (IntKind.wrap .i64 (v0 + 1))) fun b1 h0 =>
 .say [.byt b1] (ok1 (iI h0)) <|
 .rt [0,3,5,84] 0 (decide ((143:Int) < (b1.toNat:Int)))) <|
 .rt [0,3,5,84] 0 (false)
def mY (p_s:ByteArray) : (Int) → Mo ((Int) ⊕ (Unit ⊕ Unit)) := fun (v0) =>
 .iB (decide ((v0:Int) < (p_s.size:Int))) (.ask (lM p_s v0) fun b0 h0 =>
 .say [.byt b0] (ok1 (iI h0)) <|
 .eP (Kr b0 p_s v0) (fun o0 h1 =>
 .say [.pt_ 10 [0,3,4,5] 0 (vV (.inl o0)) (vW b0 p_s v0 (.inl o0))] (ok1 (Og h1)) <|
 .cl (ail p_s (IntKind.wrap .i64 (v0 + 1)) o0) fun r0 _ =>
 .iB (!r0) (.rt [2] 0 (.inr (.inl ()))) <|
 .sj Tryz.f239 0 [1,0,1,0,0,1,0,1,1,1,1,0,0] [0,1,2,3,4,5,6,7,8] 15 9 [0,3,4,5] 0 (fun r_=>⟨[(0,.lf (.str p_s)),(3,.i_ v0),(4,.lf (.int .u8 (b0.toNat:Int))),(5,.i_ o0),(51,.b_ r_)],[]⟩) ⟨[(0,.lf (.str p_s)),(3,.i_ v0),(4,.lf (.int .u8 (b0.toNat:Int))),(5,.i_ o0)],[]⟩ (Dc b0 o0 p_s v0).den (sW (by kernel_rfl)) fun r1 _ =>
 .sj Tryz.f239 0 [1,0,1,0,0,1,0,1,1,1,1,0,0] [9,10,11,12,13,14,15,16,17,18,19] 15 11 [0,3,4,5,51] 0 (fun r_=>⟨[(0,.lf (.str p_s)),(3,.i_ v0),(4,.lf (.int .u8 (b0.toNat:Int))),(5,.i_ o0),(62,.b_ r_)],[]⟩) ⟨[(0,.lf (.str p_s)),(3,.i_ v0),(4,.lf (.int .u8 (b0.toNat:Int))),(5,.i_ o0),(51,.b_ r1)],[]⟩ (Df b0 o0 p_s r1 v0).den (sW (by kernel_rfl)) fun r2 _ =>
 .sj Tryz.f239 0 [1,0,1,0,0,1,0,1,1,1,1,0,0] [20,21,22,23,24,25,26,27,28,29,30] 15 11 [0,3,4,5,62] 0 (fun r_=>⟨[(0,.lf (.str p_s)),(3,.i_ v0),(4,.lf (.int .u8 (b0.toNat:Int))),(5,.i_ o0),(73,.b_ r_)],[]⟩) ⟨[(0,.lf (.str p_s)),(3,.i_ v0),(4,.lf (.int .u8 (b0.toNat:Int))),(5,.i_ o0),(62,.b_ r2)],[]⟩ (Dh b0 o0 p_s r2 v0).den (sW (by kernel_rfl)) fun r3 _ =>
 .sj Tryz.f239 0 [1,0,1,0,0,1,0,1,1,1,1,0,0] [31,32,33,34,35,36,37,38,39,40,41] 15 11 [0,3,4,5,73] 0 (fun r_=>⟨[(0,.lf (.str p_s)),(3,.i_ v0),(5,.i_ o0),(84,.b_ r_)],[]⟩) ⟨[(0,.lf (.str p_s)),(3,.i_ v0),(4,.lf (.int .u8 (b0.toNat:Int))),(5,.i_ o0),(73,.b_ r3)],[]⟩ (Di b0 o0 p_s r3 v0).den (sW (by kernel_rfl)) fun r4 _ =>
 .iB (r4) (.rt [2] 0 (.inr (.inl ()))) <|
 .rt [0,3] 0 (.inl (IntKind.wrap .i64 ((IntKind.wrap .i64 (v0 + o0)) + 1)))) fun o1 h1 =>
 .say [.pt_ 10 [0,3,4,5] 0 (vV (.inr (o1))) (vW b0 p_s v0 (.inr (o1)))] (ok1 (Og h1)) <|
 .rt [2] 0 (.inr (.inl ()))) <|
 .rt [] 0 (.inr (.inr (())))
def Kt (p_s:ByteArray) (v0:Int) : Option (Unit ⊕ Unit) := bK (fun v_=>(mY p_s v_).den) FU (v0)
def Oh (p_s:ByteArray) : (Int) → St := fun (v0)=>⟨[(0,.lf (.str p_s)),(3,.i_ v0)],[]⟩
def vX (r_:Unit ⊕ Unit) : Exit := match r_ with
 | .inl o_=>.ret
 | .inr (o_)=>.exit 0
def vY  (r_:Unit ⊕ Unit) : St := match r_ with
 | .inl o_=>⟨[(2,.b_ false)],[]⟩
 | .inr (o_)=>⟨[],[]⟩
theorem Oi {p_s:ByteArray} {v0:Int} {r_:Unit ⊕ Unit} (h:Kt p_s v0 = some r_) : fQ Tryz.f239 0 [1,0,1,0] (vX r_) (vY r_) (Oh p_s (v0)) :=
 dO dK (body := (Code.sub (bodyC Tryz.f239) [1,0,1,0,0])) (by kernel_rfl) (mY p_s) (Oh p_s) vX vY (fun r_=>by rcases r_ with _ | _ <;> rfl) (fun v_=>by kernel_rfl) h
def aeZ (p_s:ByteArray) : Mo (Bool) :=
 .eP (Kt p_s 0) (fun o0 h0 =>
 .say [.pt_ 0 [0,3] 0 (vX (.inl o0)) (vY (.inl o0))] (ok1 (Oi h0)) <|
 .ret (bC 1) (false)) fun o1 h0 =>
 .say [.pt_ 0 [0,3] 0 (vX (.inr (o1))) (vY (.inr (o1)))] (ok1 (Oi h0)) <|
 .ret (bC 1) (true)
def Q2 (p_s:ByteArray) : Option (Bool) := Mo.den (aeZ p_s)
theorem akv (p_s:ByteArray) : FV (Q2 p_s) 239 [.lf (.str p_s)] (fun r=>.b_ r) := bY Tryz.func239 (by kernel_rfl) (fun _=>rfl) (by kernel_rfl)
def aaN (p_s:ByteArray) : Mo (Bool) :=
 .iG 4003 (decide (((p_s.size:Int) : Int) < 1)) (.rt [0,11] 0 (true)) <|
 .rt [0,11] 0 (decide ((128:Int) < (p_s.size:Int)))
def aaO (p_s:ByteArray) (v0:Int) : Mo (Bool) :=
 .ask (lM p_s v0) fun b0 h0 =>
 .say [.byt b0] (ok1 (iI h0)) <|
 .iG 14004 (decide (((b0.toNat:Int) : Int) < 32)) (.rt [0,3,27] 0 (true)) <|
 .ask (lM p_s v0) fun b1 h1 =>
 .say [.byt b1] (ok1 (iI h1)) <|
 .rt [0,3,27] 0 (decide ((126:Int) < (b1.toNat:Int)))
def GX (p_s:ByteArray) : (Int) → Mo ((Int) ⊕ (Unit ⊕ Unit)) := fun (v0) =>
 .iB (decide ((v0:Int) < (p_s.size:Int))) (.jp Tryz.f290 0 [1,1,0,1,0,0,1,0,0,0] 19 [0,3] 0 (.normal) (fun r_=>⟨[(0,.lf (.str p_s)),(3,.i_ v0),(27,.b_ r_)],[]⟩) ⟨[(0,.lf (.str p_s)),(3,.i_ v0)],[]⟩ (aaO p_s v0).den (jW (by kernel_rfl)) fun r0 _ =>
 .iB (r0) (.rt [2] 0 (.inr (.inl ()))) <|
 .rt [0,3] 0 (.inl (IntKind.wrap .i64 (v0 + 1)))) <|
 .rt [] 0 (.inr (.inr (())))
def WC (p_s:ByteArray) (v0:Int) : Option (Unit ⊕ Unit) := bK (fun v_=>(GX p_s v_).den) FU (v0)
def GY (p_s:ByteArray) : (Int) → St := fun (v0)=>⟨[(0,.lf (.str p_s)),(3,.i_ v0)],[]⟩
def qX (r_:Unit ⊕ Unit) : Exit := match r_ with
 | .inl o_=>.ret
 | .inr (o_)=>.exit 0
def qY  (r_:Unit ⊕ Unit) : St := match r_ with
 | .inl o_=>⟨[(2,.b_ false)],[]⟩
 | .inr (o_)=>⟨[],[]⟩
theorem GZ {p_s:ByteArray} {v0:Int} {r_:Unit ⊕ Unit} (h:WC p_s v0 = some r_) : fQ Tryz.f290 0 [1,1,0,1,0] (qX r_) (qY r_) (GY p_s (v0)) :=
 dO dK (body := (Code.sub (bodyC Tryz.f290) [1,1,0,1,0,0])) (by kernel_rfl) (GX p_s) (GY p_s) qX qY (fun r_=>by rcases r_ with _ | _ <;> rfl) (fun v_=>by kernel_rfl) h
def akw (p_s:ByteArray) : Mo (Bool) :=
 .jp Tryz.f290 0 [1,0,0] 9 [0] 0 (.normal) (fun r_=>⟨[(0,.lf (.str p_s)),(11,.b_ r_)],[]⟩) ⟨[(0,.lf (.str p_s))],[]⟩ (aaN p_s).den (jW (by kernel_rfl)) fun r0 _ =>
 .iB (r0) (.ret (bC 1) (false)) <|
 .eP (WC p_s 0) (fun o0 h0 =>
 .say [.pt_ 0 [0,3] 0 (qX (.inl o0)) (qY (.inl o0))] (ok1 (GZ h0)) <|
 .ret (bC 1) (false)) fun o1 h0 =>
 .say [.pt_ 0 [0,3] 0 (qX (.inr (o1))) (qY (.inr (o1)))] (ok1 (GZ h0)) <|
 .ret (bC 1) (true)
def Q50 (p_s:ByteArray) : Option (Bool) := Mo.den (akw p_s)
theorem ain (p_s:ByteArray) : FV (Q50 p_s) 290 [.lf (.str p_s)] (fun r=>.b_ r) := bY Tryz.func290 (by kernel_rfl) (fun _=>rfl) (by kernel_rfl)
structure RB5 where
 m1:(p_v:ak) → (p_names:Bool) → Option (Bool)
 ok1:∀ p_v p_names,FV (m1 p_v p_names) 198 [.dat (ak.lf1 p_v),.b_ p_names] (fun r=>.b_ r)
 m2:(p_v:ak) → (p_names:Bool) → Option (Bool)
 ok2:∀ p_v p_names,FV (m2 p_v p_names) 240 [.dat (ak.lf1 p_v),.b_ p_names] (fun r=>.b_ r)
def WE (R_:RB5) (p_names:Bool) (p_v:ak) : Mo (Bool) :=
 .ite (p_v.aU != 6) (fun c0 =>
 .say [.gd 4003 true,.num p_v.bV.length] (okc c0 (ok1 (ln_ p_v.bV ak.lf))) <|
 .rt [1,2,16] 1 (decide ((0:Int) < (p_v.bV.length:Int)))) fun c0 =>
 .say [.gd 4003 false] (ok1 c0) <|
 .rt [1,2,16] 1 (false)
def WG (R_:RB5) (p_names:Bool) (p_v:ak) (r0:Bool) : Mo (Bool) :=
 .iG 4009 (r0) (.rt [1,2,27] 1 (true)) <|
 .ite (p_v.aU != 5) (fun c0 =>
 .say [.gd 4013 true,.num p_v.bU.length] (okc c0 (ok1 (ln_ p_v.bU aS.lf))) <|
 .rt [1,2,27] 1 (decide ((0:Int) < (p_v.bU.length:Int)))) fun c0 =>
 .say [.gd 4013 false] (ok1 c0) <|
 .rt [1,2,27] 1 (false)
def Oj (R_:RB5) (p_names:Bool) (p_v:ak) : Mo (Bool) :=
 .iG 8003 (p_v.aU == 4) (.rt [1,2,35] 1 (true)) <|
 .rt [1,2,35] 1 (p_v.aU == 7)
def Ol (R_:RB5) (p_names:Bool) (p_v:ak) (r0:Bool) : Mo (Bool) :=
 .iG 8008 (r0) (.rt [1,2,40] 1 (true)) <|
 .rt [1,2,40] 1 (p_v.aU == 8)
def Om (R_:RB5) (p_names:Bool) (p_v:ak) (r0:Bool) : Mo (Unit) :=
 .rt [1,2,5] 1 ()
def Oo (R_:RB5) (p_names:Bool) (p_v:ak) (r0:Bool) : Mo (Bool) :=
 .iG 10003 (p_v.aU == 3) (.rt [1,2,5,48] 1 (true)) <|
 .rt [1,2,5,48] 1 (p_v.aU == 9)
def Oq (R_:RB5) (p_names:Bool) (p_v:ak) (r0:Bool) (r1:Bool) : Mo (Bool) :=
 .iG 10008 (r1) (.rt [1,2,5,53] 1 (true)) <|
 .rt [1,2,5,53] 1 (p_v.aU == 10)
def Ot (R_:RB5) (p_names:Bool) (p_v:ak) (r0:Bool) (r1:Bool) : Mo (Unit) :=
 .rt [1,2,5,6] 1 ()
def Ou (R_:RB5) (p_names:Bool) (p_v:ak) (r0:Bool) (r1:Bool) : Mo (Bool) :=
 .iG 12002 (!r0) (.rt [1,2,6,60] 1 (!decide ((p_v.fText:ByteArray) = (⟨#[]⟩ : ByteArray)))) <|
 .rt [1,2,6,60] 1 (false)
def Ov (R_:RB5) (p_names:Bool) (p_v:ak) (r0:Bool) (r1:Bool) : Mo (Bool) :=
 .iG 12007 (r1) (.rt [1,2,69] 1 (true)) <|
 .iG 12010 (!r0) (.rt [1,2,69] 1 (p_v.jL != 0)) <|
 .rt [1,2,69] 1 (false)
def Ox (R_:RB5) (p_names:Bool) (p_v:ak) (r0:Bool) : Mo (Bool) :=
 .iG 12016 (r0) (.rt [1,2,74] 1 (true)) <|
 .rt [1,2,74] 1 (decide ((p_v.aU:Int) < 1))
def Oy (R_:RB5) (p_names:Bool) (p_v:ak) (r0:Bool) : Mo (Bool) :=
 .iG 12021 (r0) (.rt [1,2,79] 1 (true)) <|
 .rt [1,2,79] 1 (decide ((11:Int) < p_v.aU))
def Oz (R_:RB5) (p_v:ak) : Mo (Bool) :=
 .iG 20003 (p_v.jL == 0) (.ret ⟨[.kill 0],[4],[],1⟩ (true)) <|
 .ret ⟨[.kill 0],[4],[],1⟩ (p_v.jL == 1)
def OA (R_:RB5) (p_v:ak) : Mo (Bool) :=
 .iG 28004 (decide (((p_v.fText.size:Int) : Int) ≤ 4096)) (.cl (akv p_v.fText) fun r0 _ =>
 .ret ⟨[.kill 0],[4],[],1⟩ (r0)) <|
 .ret ⟨[.kill 0],[4],[],1⟩ (false)
def Dj (R_:RB5) (p_names:Bool) (p_v:ak) : (Int) → Mo ((Int) ⊕ (Unit ⊕ Unit)) := fun (v0) =>
 .say [.num p_v.bV.length] (ok1 (ln_ p_v.bV ak.lf)) <|
 .iB (decide ((v0:Int) < (p_v.bV.length:Int))) (.ask (bM p_v.bV v0) fun x0 h0 =>
 .say [.row (ak.lf1 x0)] (ok1 (aX ak.aV h0)) <|
 .cl (R_.ok1 x0 p_names) fun r0 _ =>
 .iB (!r0) (.ret ⟨[.kill 0],[4],[],1⟩ (.inr (.inl ()))) <|
 .rt [1,2,7] 1 (.inl (IntKind.wrap .i64 (v0 + 1)))) <|
 .rt [1,2] 1 (.inr (.inr (())))
def Uk (R_:RB5) (p_names:Bool) (p_v:ak) (v0:Int) : Option (Unit ⊕ Unit) := bK (fun v_=>(Dj R_ p_names p_v v_).den) FU (v0)
def OB (R_:RB5) (p_names:Bool) (p_v:ak) : (Int) → St := fun (v0)=>⟨[(1,.b_ p_names),(2,.ptr 0 0),(7,.i_ v0)],[.box 29 (.dat (ak.lf1 p_v))]⟩
def vZ (r_:Unit ⊕ Unit) : Exit := match r_ with
 | .inl o_=>.ret
 | .inr (o_)=>.exit 1
def wo (p_names:Bool) (p_v:ak) (r_:Unit ⊕ Unit) : St := match r_ with
 | .inl o_=>⟨[(4,.b_ false)],[.dead]⟩
 | .inr (o_)=>⟨[(1,.b_ p_names),(2,.ptr 0 0)],[.box 29 (.dat (ak.lf1 p_v))]⟩
theorem OC {R_:RB5} {p_names:Bool} {p_v:ak} {v0:Int} {r_:Unit ⊕ Unit} (h:Uk R_ p_names p_v v0 = some r_) : fQ Tryz.f198 0 [1,1,1,1,1,1,0,1,0] (vZ r_) (wo p_names p_v r_) (OB R_ p_names p_v (v0)) :=
 dO dK (body := (Code.sub (bodyC Tryz.f198) [1,1,1,1,1,1,0,1,0,0])) (by kernel_rfl) (Dj R_ p_names p_v) (OB R_ p_names p_v) vZ (wo p_names p_v) (fun r_=>by rcases r_ with _ | _ <;> rfl) (fun v_=>by kernel_rfl) h
def aio (R_:RB5) (p_v:ak) (p_names:Bool) : Mo (Bool) :=
 .sj Tryz.f198 0 [1,0,0] [0,1,2,3,4,5,6,7,8] 1 9 [1,2] 1 (fun r_=>⟨[(1,.b_ p_names),(2,.ptr 0 0),(16,.b_ r_)],[.box 29 (.dat (ak.lf1 p_v))]⟩) ⟨[(1,.b_ p_names),(2,.ptr 0 0)],[.box 29 (.dat (ak.lf1 p_v))]⟩ (WE R_ p_names p_v).den (sW (by kernel_rfl)) fun r0 _ =>
 .sj Tryz.f198 0 [1,0,0] [9,10,11,12,13,14,15,16,17,18,19] 1 11 [1,2,16] 1 (fun r_=>⟨[(1,.b_ p_names),(2,.ptr 0 0),(27,.b_ r_)],[.box 29 (.dat (ak.lf1 p_v))]⟩) ⟨[(1,.b_ p_names),(2,.ptr 0 0),(16,.b_ r0)],[.box 29 (.dat (ak.lf1 p_v))]⟩ (WG R_ p_names p_v r0).den (sW (by kernel_rfl)) fun r1 _ =>
 .iB (r1) (.ret (bC 1) (false)) <|
 .sj Tryz.f198 0 [1,1,0] [0,1,2,3,4,5,6,7] 3 8 [1,2] 1 (fun r_=>⟨[(1,.b_ p_names),(2,.ptr 0 0),(35,.b_ r_)],[.box 29 (.dat (ak.lf1 p_v))]⟩) ⟨[(1,.b_ p_names),(2,.ptr 0 0)],[.box 29 (.dat (ak.lf1 p_v))]⟩ (Oj R_ p_names p_v).den (sW (by kernel_rfl)) fun r2 _ =>
 .sj Tryz.f198 0 [1,1,0] [8,9,10,11,12] 3 5 [1,2,35] 1 (fun r_=>⟨[(1,.b_ p_names),(2,.ptr 0 0),(40,.b_ r_)],[.box 29 (.dat (ak.lf1 p_v))]⟩) ⟨[(1,.b_ p_names),(2,.ptr 0 0),(35,.b_ r2)],[.box 29 (.dat (ak.lf1 p_v))]⟩ (Ol R_ p_names p_v r2).den (sW (by kernel_rfl)) fun r3 _ =>
 .sj Tryz.f198 0 [1,1,0] [13] 3 1 [1,2,40] 1 (fun r_=>⟨[(1,.b_ p_names),(2,.ptr 0 0),(5,.b_ r3)],[.box 29 (.dat (ak.lf1 p_v))]⟩) ⟨[(1,.b_ p_names),(2,.ptr 0 0),(40,.b_ r3)],[.box 29 (.dat (ak.lf1 p_v))]⟩ (Om R_ p_names p_v r3).den (sW (by kernel_rfl)) fun r4 _ =>
 .sj Tryz.f198 0 [1,1,1,0] [0,1,2,3,4,5,6,7] 4 8 [1,2,5] 1 (fun r_=>⟨[(1,.b_ p_names),(2,.ptr 0 0),(5,.b_ r3),(48,.b_ r_)],[.box 29 (.dat (ak.lf1 p_v))]⟩) ⟨[(1,.b_ p_names),(2,.ptr 0 0),(5,.b_ r3)],[.box 29 (.dat (ak.lf1 p_v))]⟩ (Oo R_ p_names p_v r3).den (sW (by kernel_rfl)) fun r5 _ =>
 .sj Tryz.f198 0 [1,1,1,0] [8,9,10,11,12] 4 5 [1,2,5,48] 1 (fun r_=>⟨[(1,.b_ p_names),(2,.ptr 0 0),(5,.b_ r3),(53,.b_ r_)],[.box 29 (.dat (ak.lf1 p_v))]⟩) ⟨[(1,.b_ p_names),(2,.ptr 0 0),(5,.b_ r3),(48,.b_ r5)],[.box 29 (.dat (ak.lf1 p_v))]⟩ (Oq R_ p_names p_v r3 r5).den (sW (by kernel_rfl)) fun r6 _ =>
 .sj Tryz.f198 0 [1,1,1,0] [13] 4 1 [1,2,5,53] 1 (fun r_=>⟨[(1,.b_ p_names),(2,.ptr 0 0),(5,.b_ r3),(6,.b_ r6)],[.box 29 (.dat (ak.lf1 p_v))]⟩) ⟨[(1,.b_ p_names),(2,.ptr 0 0),(5,.b_ r3),(53,.b_ r6)],[.box 29 (.dat (ak.lf1 p_v))]⟩ (Ot R_ p_names p_v r3 r6).den (sW (by kernel_rfl)) fun r7 _ =>
 .sj Tryz.f198 0 [1,1,1,1,0,0] [0,1,2,3,4,5,6] 5 7 [1,2,5,6] 1 (fun r_=>⟨[(1,.b_ p_names),(2,.ptr 0 0),(6,.b_ r6),(60,.b_ r_)],[.box 29 (.dat (ak.lf1 p_v))]⟩) ⟨[(1,.b_ p_names),(2,.ptr 0 0),(5,.b_ r3),(6,.b_ r6)],[.box 29 (.dat (ak.lf1 p_v))]⟩ (Ou R_ p_names p_v r3 r6).den (sW (by kernel_rfl)) fun r8 _ =>
 .sj Tryz.f198 0 [1,1,1,1,0,0] [7,8,9,10,11,12,13,14,15] 5 9 [1,2,6,60] 1 (fun r_=>⟨[(1,.b_ p_names),(2,.ptr 0 0),(69,.b_ r_)],[.box 29 (.dat (ak.lf1 p_v))]⟩) ⟨[(1,.b_ p_names),(2,.ptr 0 0),(6,.b_ r6),(60,.b_ r8)],[.box 29 (.dat (ak.lf1 p_v))]⟩ (Ov R_ p_names p_v r6 r8).den (sW (by kernel_rfl)) fun r9 _ =>
 .sj Tryz.f198 0 [1,1,1,1,0,0] [16,17,18,19,20] 5 5 [1,2,69] 1 (fun r_=>⟨[(1,.b_ p_names),(2,.ptr 0 0),(74,.b_ r_)],[.box 29 (.dat (ak.lf1 p_v))]⟩) ⟨[(1,.b_ p_names),(2,.ptr 0 0),(69,.b_ r9)],[.box 29 (.dat (ak.lf1 p_v))]⟩ (Ox R_ p_names p_v r9).den (sW (by kernel_rfl)) fun r10 _ =>
 .sj Tryz.f198 0 [1,1,1,1,0,0] [21,22,23,24,25] 5 5 [1,2,74] 1 (fun r_=>⟨[(1,.b_ p_names),(2,.ptr 0 0),(79,.b_ r_)],[.box 29 (.dat (ak.lf1 p_v))]⟩) ⟨[(1,.b_ p_names),(2,.ptr 0 0),(74,.b_ r10)],[.box 29 (.dat (ak.lf1 p_v))]⟩ (Oy R_ p_names p_v r10).den (sW (by kernel_rfl)) fun r11 _ =>
 .iB (r11) (.ret (bC 1) (false)) <|
 .iB (p_v.aU == 9) (.jp Tryz.f198 0 [1,1,1,1,1,0,1,0,1,0,0] 25 [2] 1 (.normal) (fun r_=>⟨[(4,.b_ r_)],[.dead]⟩) ⟨[(2,.ptr 0 0)],[.box 29 (.dat (ak.lf1 p_v))]⟩ (Oz R_ p_v).den (jW (by kernel_rfl)) fun r12 _ =>
 .ret (bC 1) (r12)) <|
 .iB (p_v.aU == 10) (.ret (bC 1) (decide ((0:Int) ≤ p_v.jL))) <|
 .iB (p_v.aU == 4) (.jp Tryz.f198 0 [1,1,1,1,1,0,1,0,1,1,1,1,1,0,0] 33 [2] 1 (.normal) (fun r_=>⟨[(4,.b_ r_)],[.dead]⟩) ⟨[(2,.ptr 0 0)],[.box 29 (.dat (ak.lf1 p_v))]⟩ (OA R_ p_v).den (jW (by kernel_rfl)) fun r13 _ =>
 .ret (bC 1) (r13)) <|
 .iB (p_v.aU == 7) (.ret (bC 1) (decide (((p_v.fText.size:Int) : Int) ≤ 4096))) <|
 .iB (p_v.aU == 8) (.ret (bC 1) ((p_v.fText.size:Int) == 12)) <|
 .eP (Uk R_ p_names p_v 0) (fun o0 h0 =>
 .say [.pt_ 0 [1,2,7] 1 (vZ (.inl o0)) (wo p_names p_v (.inl o0))] (ok1 (OC h0)) <|
 .ret (bC 1) (false)) fun o1 h0 =>
 .say [.pt_ 0 [1,2,7] 1 (vZ (.inr (o1))) (wo p_names p_v (.inr (o1)))] (ok1 (OC h0)) <|
 .cl (R_.ok2 p_v p_names) fun r14 _ =>
 .ret (bC 1) (r14)
theorem aip (R_:RB5) (p_v:ak) (p_names:Bool) : FV (Mo.den (aio R_ p_v p_names)) 198 [.dat (ak.lf1 p_v),.b_ p_names] (fun r=>.b_ r) := bY Tryz.func198 (by kernel_rfl) (fun _=>rfl) (by kernel_rfl)
def OD (R_:RB5) (p_names:Bool) (p_v:ak) (v0:Int) (x0:aS) : Mo (Bool) :=
 .iG 12001 (p_names) (.cl (ug x0.fName) fun r0 _ =>
 .rt [1,2,5,6,26] 2 (!r0)) <|
 .rt [1,2,5,6,26] 2 (false)
def OE (R_:RB5) (p_names:Bool) (p_v:ak) (r0:Bool) (v0:Int) (x0:aS) : Mo (Bool) :=
 .iG 12007 (r0) (.rt [1,2,5,6,36] 2 (true)) <|
 .iG 12010 (!p_names) (.cl (ain x0.fName) fun r1 _ =>
 .rt [1,2,5,6,36] 2 (!r1)) <|
 .rt [1,2,5,6,36] 2 (false)
def G5 (R_:RB5) (p_names:Bool) (p_v:ak) (r0:Bool) (v0:Int) (x0:aS) : Mo (Bool) :=
 .iG 12017 (r0) (.rt [1,2,5,6,43] 2 (true)) <|
 .cl (R_.ok1 x0.fValue p_names) fun r1 _ =>
 .rt [1,2,5,6,43] 2 (!r1)
def zG (R_:RB5) (p_names:Bool) (p_v:ak) (v0:Int) (x0:aS) : (Int) → Mo ((Int) ⊕ (Unit ⊕ Unit)) := fun (v1) =>
 .ite (decide ((v1:Int) < v0)) (fun c0 =>
 .say [.br true,.order [(true,0),(true,1),(true,2),(true,3),(true,4),(true,5),(true,6),(true,7),(true,8)] none []] (ok1 c0) <|
 .ask (bM p_v.bU v1) fun x1 h0 =>
 .say [.row (aS.lf1 x1)] (ok1 (aX aS.aV h0)) <|
 .iB (decide ((x1.fName:ByteArray) = (x0.fName:ByteArray))) (.ret ⟨[.kill 0,.kill 1],[4],[],2⟩ (.inr (.inl ()))) <|
 .rt [1,2,5,6,7] 2 (.inl (IntKind.wrap .i64 (v1 + 1)))) fun c0 =>
 .say [.br false] (ok1 c0) <|
 .ret ⟨[.kill 1],[1,2,5],[],2⟩ (.inr (.inr (())))
def Ku (R_:RB5) (p_names:Bool) (p_v:ak) (v0:Int) (x0:aS) (v1:Int) : Option (Unit ⊕ Unit) := bK (fun v_=>(zG R_ p_names p_v v0 x0 v_).den) FU (v1)
def G6 (R_:RB5) (p_names:Bool) (p_v:ak) (v0:Int) (x0:aS) : (Int) → St := fun (v1)=>⟨[(1,.b_ p_names),(2,.ptr 0 0),(5,.i_ v0),(6,.ptr 1 0),(7,.i_ v1)],[.box 29 (.dat (ak.lf1 p_v)),.box 174 (.agg ((aS.lf1 x0).map AV.lf))]⟩
def qZ (r_:Unit ⊕ Unit) : Exit := match r_ with
 | .inl o_=>.ret
 | .inr (o_)=>.exit 2
def ru (p_names:Bool) (p_v:ak) (v0:Int) (r_:Unit ⊕ Unit) : St := match r_ with
 | .inl o_=>⟨[(4,.b_ false)],[.dead,.dead]⟩
 | .inr (o_)=>⟨[(1,.b_ p_names),(2,.ptr 0 0),(5,.i_ v0)],[.box 29 (.dat (ak.lf1 p_v)),.dead]⟩
theorem G7 {R_:RB5} {p_names:Bool} {p_v:ak} {v0:Int} {x0:aS} {v1:Int} {r_:Unit ⊕ Unit} (h:Ku R_ p_names p_v v0 x0 v1 = some r_) : fQ Tryz.f240 0 [1,0,1,0,0,1,0,0,1,1,1,0] (qZ r_) (ru p_names p_v v0 r_) (G6 R_ p_names p_v v0 x0 (v1)) :=
 dO dK (body := (Code.sub (bodyC Tryz.f240) [1,0,1,0,0,1,0,0,1,1,1,0,0])) (by kernel_rfl) (zG R_ p_names p_v v0 x0) (G6 R_ p_names p_v v0 x0) qZ (ru p_names p_v v0) (fun r_=>by rcases r_ with _ | _ <;> rfl) (fun v_=>by kernel_rfl) h
def zH (R_:RB5) (p_names:Bool) (p_v:ak) : (Int) → Mo ((Int) ⊕ (Unit ⊕ Unit)) := fun (v0) =>
 .say [.num p_v.bU.length] (ok1 (ln_ p_v.bU aS.lf)) <|
 .iB (decide ((v0:Int) < (p_v.bU.length:Int))) (.ask (bM p_v.bU v0) fun x0 h0 =>
 .say [.row (aS.lf1 x0)] (ok1 (aX aS.aV h0)) <|
 .sj Tryz.f240 0 [1,0,1,0,0,1,0,0,1,0,0] [0,1,2,3,4,5,6] 5 7 [1,2,5,6] 2 (fun r_=>⟨[(1,.b_ p_names),(2,.ptr 0 0),(5,.i_ v0),(6,.ptr 1 0),(26,.b_ r_)],[.box 29 (.dat (ak.lf1 p_v)),.box 174 (.agg ((aS.lf1 x0).map AV.lf))]⟩) ⟨[(1,.b_ p_names),(2,.ptr 0 0),(5,.i_ v0),(6,.ptr 1 0)],[.box 29 (.dat (ak.lf1 p_v)),.box 174 (.agg ((aS.lf1 x0).map AV.lf))]⟩ (OD R_ p_names p_v v0 x0).den (sW (by kernel_rfl)) fun r0 _ =>
 .sj Tryz.f240 0 [1,0,1,0,0,1,0,0,1,0,0] [7,8,9,10,11,12,13,14,15,16] 5 10 [1,2,5,6,26] 2 (fun r_=>⟨[(1,.b_ p_names),(2,.ptr 0 0),(5,.i_ v0),(6,.ptr 1 0),(36,.b_ r_)],[.box 29 (.dat (ak.lf1 p_v)),.box 174 (.agg ((aS.lf1 x0).map AV.lf))]⟩) ⟨[(1,.b_ p_names),(2,.ptr 0 0),(5,.i_ v0),(6,.ptr 1 0),(26,.b_ r0)],[.box 29 (.dat (ak.lf1 p_v)),.box 174 (.agg ((aS.lf1 x0).map AV.lf))]⟩ (OE R_ p_names p_v r0 v0 x0).den (sW (by kernel_rfl)) fun r1 _ =>
 .sj Tryz.f240 0 [1,0,1,0,0,1,0,0,1,0,0] [17,18,19,20,21,22,23] 5 7 [1,2,5,6,36] 2 (fun r_=>⟨[(1,.b_ p_names),(2,.ptr 0 0),(5,.i_ v0),(6,.ptr 1 0),(43,.b_ r_)],[.box 29 (.dat (ak.lf1 p_v)),.box 174 (.agg ((aS.lf1 x0).map AV.lf))]⟩) ⟨[(1,.b_ p_names),(2,.ptr 0 0),(5,.i_ v0),(6,.ptr 1 0),(36,.b_ r1)],[.box 29 (.dat (ak.lf1 p_v)),.box 174 (.agg ((aS.lf1 x0).map AV.lf))]⟩ (G5 R_ p_names p_v r1 v0 x0).den (sW (by kernel_rfl)) fun r2 _ =>
 .iB (r2) (.ret ⟨[.kill 0],[4],[],1⟩ (.inr (.inl ()))) <|
 .eP (Ku R_ p_names p_v v0 x0 0) (fun o0 h1 =>
 .say [.pt_ 0 [1,2,5,6,7] 2 (qZ (.inl o0)) (ru p_names p_v v0 (.inl o0))] (ok1 (G7 h1)) <|
 .rt [4] 1 (.inr (.inl ()))) fun o1 h1 =>
 .say [.pt_ 0 [1,2,5,6,7] 2 (qZ (.inr (o1))) (ru p_names p_v v0 (.inr (o1)))] (ok1 (G7 h1)) <|
 .rt [1,2,5] 1 (.inl (IntKind.wrap .i64 (v0 + 1)))) <|
 .ret ⟨[.kill 0],[],[],1⟩ (.inr (.inr (())))
def Kv (R_:RB5) (p_names:Bool) (p_v:ak) (v0:Int) : Option (Unit ⊕ Unit) := bK (fun v_=>(zH R_ p_names p_v v_).den) FU (v0)
def G8 (R_:RB5) (p_names:Bool) (p_v:ak) : (Int) → St := fun (v0)=>⟨[(1,.b_ p_names),(2,.ptr 0 0),(5,.i_ v0)],[.box 29 (.dat (ak.lf1 p_v))]⟩
def rC (r_:Unit ⊕ Unit) : Exit := match r_ with
 | .inl o_=>.ret
 | .inr (o_)=>.exit 0
def rD  (r_:Unit ⊕ Unit) : St := match r_ with
 | .inl o_=>⟨[(4,.b_ false)],[.dead]⟩
 | .inr (o_)=>⟨[],[.dead]⟩
theorem G9 {R_:RB5} {p_names:Bool} {p_v:ak} {v0:Int} {r_:Unit ⊕ Unit} (h:Kv R_ p_names p_v v0 = some r_) : fQ Tryz.f240 0 [1,0,1,0] (rC r_) (rD r_) (G8 R_ p_names p_v (v0)) :=
 dO dK (body := (Code.sub (bodyC Tryz.f240) [1,0,1,0,0])) (by kernel_rfl) (zH R_ p_names p_v) (G8 R_ p_names p_v) rC rD (fun r_=>by rcases r_ with _ | _ <;> rfl) (fun v_=>by kernel_rfl) h
def aaP (R_:RB5) (p_v:ak) (p_names:Bool) : Mo (Bool) :=
 .eP (Kv R_ p_names p_v 0) (fun o0 h0 =>
 .say [.pt_ 0 [1,2,5] 1 (rC (.inl o0)) (rD (.inl o0))] (ok1 (G9 h0)) <|
 .ret (bC 1) (false)) fun o1 h0 =>
 .say [.pt_ 0 [1,2,5] 1 (rC (.inr (o1))) (rD (.inr (o1)))] (ok1 (G9 h0)) <|
 .ret (bC 1) (true)
theorem ae0 (R_:RB5) (p_v:ak) (p_names:Bool) : FV (Mo.den (aaP R_ p_v p_names)) 240 [.dat (ak.lf1 p_v),.b_ p_names] (fun r=>.b_ r) := bY Tryz.func240 (by kernel_rfl) (fun _=>rfl) (by kernel_rfl)
def qx:Nat → RB5
 | 0=>{ m1 := fun p_v p_names=>none,ok1 := fun _ _ _ h=>(by cases h),m2 := fun p_v p_names=>none,ok2 := fun _ _ _ h=>(by cases h) }
 | n_ + 1=>{ m1 := fun p_v p_names=>Mo.den (aio (qx n_) p_v p_names),ok1 := fun p_v p_names r h=>aip (qx n_) p_v p_names r h,m2 := fun p_v p_names=>Mo.den (aaP (qx n_) p_v p_names),ok2 := ae0 (qx n_) }
def Q5 (p_v:ak) (p_names:Bool) : Option (Bool) := (qx FU).m1 p_v p_names
theorem akx (p_v:ak) (p_names:Bool) : FV (Q5 p_v p_names) 198 [.dat (ak.lf1 p_v),.b_ p_names] (fun r=>.b_ r) := (qx FU).ok1 p_v p_names
def Q11 (p_v:ak) (p_names:Bool) : Option (Bool) := (qx FU).m2 p_v p_names
def agY (p_v:ak) : Mo (Bool) :=
 .cl (aeW p_v) fun r0 _ =>
 .iG 4003 (decide ((r0:Int) ≤ 16)) (.cl (aeY p_v) fun r1 _ =>
 .iG 4008 (decide ((r1:Int) ≤ 1024)) (.cl (akx p_v true) fun r2 _ =>
 .ret (bC 1) (r2)) <|
 .ret (bC 1) (false)) <|
 .ret (bC 1) (false)
def Q96 (p_v:ak) : Option (Bool) := Mo.den (agY p_v)
theorem qy (p_v:ak) : FV (Q96 p_v) 154 [.dat (ak.lf1 p_v)] (fun r=>.b_ r) := bY Tryz.func154 (by kernel_rfl) (fun _=>rfl) (by kernel_rfl)
structure RB6 where
 m1:(p_v:ak) → Option (ByteArray)
 ok1:∀ p_v,FV (m1 p_v) 260 [.dat (ak.lf1 p_v)] (fun r=>.lf (.str r))
def OG (R_:RB6) (p_v:ak) : Mo (Bool) :=
 .iB (p_v.aU == 3) (.rt [1,3,12,13] 2 (p_v.aU == 3)) <|
 .rt [1,3,12,13] 2 (p_v.aU == 10)
def OH (R_:RB6) (p_v:ak) : Mo (Bool) :=
 .iB (p_v.aU == 4) (.rt [1,3,12,30] 2 (p_v.aU == 4)) <|
 .rt [1,3,12,30] 2 (p_v.aU == 7)
def zI (R_:RB6) (p_v:ak) : (ByteArray × Int) → Mo ((ByteArray × Int) ⊕ (ByteArray)) := fun (v0,v1) =>
 .say [.num p_v.bV.length] (ok1 (ln_ p_v.bV ak.lf)) <|
 .iB (decide ((v1:Int) < (p_v.bV.length:Int))) (.ask (bM p_v.bV v1) fun x0 h0 =>
 .say [.row (ak.lf1 x0)] (ok1 (aX ak.aV h0)) <|
 .cl (R_.ok1 x0) fun r0 _ =>
 .grd (v0.size + r0.size ≤ 9223372036854775807) fun h1 =>
 .say [] (ok1 h1) <|
 .rt [1,3,4] 2 (.inl (v0 ++ r0,IntKind.wrap .i64 (v1 + 1)))) <|
 .ret ⟨[.kill 0],[3],[],2⟩ (.inr (v0))
def WH (R_:RB6) (p_v:ak) (v0:ByteArray) (v1:Int) : Option (ByteArray) := bK (fun v_=>(zI R_ p_v v_).den) FU (v0,v1)
def zJ (R_:RB6) (p_v:ak) : (ByteArray × Int) → Mo ((ByteArray × Int) ⊕ (ByteArray)) := fun (v0,v1) =>
 .say [.num p_v.bU.length] (ok1 (ln_ p_v.bU aS.lf)) <|
 .ite (decide ((v1:Int) < (p_v.bU.length:Int))) (fun c0 =>
 .say [.br true,.order [(true,0),(true,1),(true,2),(true,3),(true,4),(true,5),(true,6),(true,7),(true,10),(true,11),(true,12),(true,13),(true,14),(true,15),(true,17),(true,18),(true,19),(true,20),(true,21),(true,22),(false,8),(true,9),(true,16),(false,23),(true,24),(true,25)] none []] (ok1 c0) <|
 .ask (bM p_v.bU v1) fun x0 h0 =>
 .say [.row (aS.lf1 x0)] (ok1 (aX aS.aV h0)) <|
 .ask (bM p_v.bU v1) fun x1 h1 =>
 .say [.row (aS.lf1 x1)] (ok1 (aX aS.aV h1)) <|
 .ask (bM p_v.bU v1) fun x2 h2 =>
 .say [.row (aS.lf1 x2)] (ok1 (aX aS.aV h2)) <|
 .cl (zB (x0.fName.size:Int)) fun r0 _ =>
 .grd (v0.size + r0.size ≤ 9223372036854775807) fun h3 =>
 .say [] (ok1 h3) <|
 .grd ((v0 ++ r0).size + x1.fName.size ≤ 9223372036854775807) fun h4 =>
 .say [] (ok1 h4) <|
 .cl (R_.ok1 x2.fValue) fun r1 _ =>
 .grd (((v0 ++ r0) ++ x1.fName).size + r1.size ≤ 9223372036854775807) fun h5 =>
 .say [] (ok1 h5) <|
 .rt [1,3,5] 2 (.inl (((v0 ++ r0) ++ x1.fName) ++ r1,IntKind.wrap .i64 (v1 + 1)))) fun c0 =>
 .say [.br false] (ok1 c0) <|
 .ret ⟨[.kill 0],[3],[],2⟩ (.inr (v0))
def WI (R_:RB6) (p_v:ak) (v0:ByteArray) (v1:Int) : Option (ByteArray) := bK (fun v_=>(zJ R_ p_v v_).den) FU (v0,v1)
def zK (R_:RB6) (p_v:ak) : Mo (ByteArray) :=
 .jp Tryz.f260 0 [1,1,0,1,0,0,1] 1 [1,3,12,13] 2 (.normal) (fun r_=>⟨[(1,.ptr 0 0),(3,.lf (.str (strOfNums [IntKind.wrap .u8 p_v.aU]))),(12,.i_ p_v.aU),(13,.b_ r_)],[.box 29 (.dat (ak.lf1 p_v)),.dead]⟩) ⟨[(1,.ptr 0 0),(3,.lf (.str (strOfNums [IntKind.wrap .u8 p_v.aU]))),(12,.i_ p_v.aU),(13,.lf (.bool (p_v.aU == 3)))],[.box 29 (.dat (ak.lf1 p_v)),.dead]⟩ (OG R_ p_v).den (jW (by kernel_rfl)) fun r0 _ =>
 .iB (r0) (.cl (zB p_v.jL) fun r1 _ =>
 .grd ((strOfNums [IntKind.wrap .u8 p_v.aU]).size + r1.size ≤ 9223372036854775807) fun h0 =>
 .say [] (ok1 h0) <|
 .ret ⟨[.kill 0],[3],[],2⟩ ((strOfNums [IntKind.wrap .u8 p_v.aU]) ++ r1)) <|
 .ite (p_v.aU == 9) (fun c0 =>
 .say [.br true,.nums [IntKind.wrap .u8 p_v.jL]] (okc c0 (ok1 (by simp [lfI,lfK] : [(lfK .u8 (IntKind.wrap .u8 p_v.jL))] = [IntKind.wrap .u8 p_v.jL].map fun n=>[Lf.int .u8 n]))) <|
 .grd ((strOfNums [IntKind.wrap .u8 p_v.aU]).size + (strOfNums [IntKind.wrap .u8 p_v.jL]).size ≤ 9223372036854775807) fun h1 =>
 .say [] (ok1 h1) <|
 .ret ⟨[.kill 0],[3],[],2⟩ ((strOfNums [IntKind.wrap .u8 p_v.aU]) ++ (strOfNums [IntKind.wrap .u8 p_v.jL]))) fun c0 =>
 .say [.br false] (ok1 c0) <|
 .jp Tryz.f260 0 [1,1,0,1,0,1,1,1,1,0,1] 1 [1,3,12,30] 2 (.normal) (fun r_=>⟨[(1,.ptr 0 0),(3,.lf (.str (strOfNums [IntKind.wrap .u8 p_v.aU]))),(12,.i_ p_v.aU),(30,.b_ r_)],[.box 29 (.dat (ak.lf1 p_v)),.dead]⟩) ⟨[(1,.ptr 0 0),(3,.lf (.str (strOfNums [IntKind.wrap .u8 p_v.aU]))),(12,.i_ p_v.aU),(30,.lf (.bool (p_v.aU == 4)))],[.box 29 (.dat (ak.lf1 p_v)),.dead]⟩ (OH R_ p_v).den (jW (by kernel_rfl)) fun r2 _ =>
 .ite (r2) (fun c1 =>
 .say [.br true,.order [(true,0),(true,1),(true,2),(true,3),(true,6),(true,7),(false,4),(true,5),(true,8),(true,9)] none []] (ok1 c1) <|
 .cl (zB (p_v.fText.size:Int)) fun r3 _ =>
 .grd ((strOfNums [IntKind.wrap .u8 p_v.aU]).size + r3.size ≤ 9223372036854775807) fun h2 =>
 .say [] (ok1 h2) <|
 .grd (((strOfNums [IntKind.wrap .u8 p_v.aU]) ++ r3).size + p_v.fText.size ≤ 9223372036854775807) fun h3 =>
 .say [] (ok1 h3) <|
 .ret ⟨[.kill 0],[3],[],2⟩ (((strOfNums [IntKind.wrap .u8 p_v.aU]) ++ r3) ++ p_v.fText)) fun c1 =>
 .say [.br false] (ok1 c1) <|
 .iB (p_v.aU == 8) (.grd ((strOfNums [IntKind.wrap .u8 p_v.aU]).size + p_v.fText.size ≤ 9223372036854775807) fun h4 =>
 .say [] (ok1 h4) <|
 .ret ⟨[.kill 0],[3],[],2⟩ ((strOfNums [IntKind.wrap .u8 p_v.aU]) ++ p_v.fText)) <|
 .ite (p_v.aU == 6) (fun c2 =>
 .say [.br true,.num p_v.bV.length] (okc c2 (ok1 (ln_ p_v.bV ak.lf))) <|
 .cl (zB (p_v.bV.length:Int)) fun r4 _ =>
 .grd ((strOfNums [IntKind.wrap .u8 p_v.aU]).size + r4.size ≤ 9223372036854775807) fun h5 =>
 .say [] (ok1 h5) <|
 .lp Tryz.f260 0 [1,1,0,1,0,1,1,1,1,1,1,1,1,1,0,1,1,0] 0 [1,3,4] 2 (.exit 1) (fun r_=>⟨[(3,.lf (.str r_))],[.dead,.dead]⟩) (WH R_ p_v ((strOfNums [IntKind.wrap .u8 p_v.aU]) ++ r4) 0) (lW (fun (v0,v1)=>⟨[(1,.ptr 0 0),(3,.lf (.str v0)),(4,.i_ v1)],[.box 29 (.dat (ak.lf1 p_v)),.dead]⟩) (by kernel_rfl) rfl fun v_=>by kernel_rfl) fun r5 _ =>
 .rt [3] 2 (r5)) fun c2 =>
 .say [.br false] (ok1 c2) <|
 .ite (p_v.aU == 5) (fun c3 =>
 .say [.br true,.num p_v.bU.length] (okc c3 (ok1 (ln_ p_v.bU aS.lf))) <|
 .cl (zB (p_v.bU.length:Int)) fun r6 _ =>
 .grd ((strOfNums [IntKind.wrap .u8 p_v.aU]).size + r6.size ≤ 9223372036854775807) fun h6 =>
 .say [] (ok1 h6) <|
 .lp Tryz.f260 0 [1,1,0,1,0,1,1,1,1,1,1,1,1,1,1,1,0,1,1,0] 0 [1,3,5] 2 (.exit 3) (fun r_=>⟨[(3,.lf (.str r_))],[.dead,.dead]⟩) (WI R_ p_v ((strOfNums [IntKind.wrap .u8 p_v.aU]) ++ r6) 0) (lW (fun (v2,v3)=>⟨[(1,.ptr 0 0),(3,.lf (.str v2)),(5,.i_ v3)],[.box 29 (.dat (ak.lf1 p_v)),.dead]⟩) (by kernel_rfl) rfl fun v_=>by kernel_rfl) fun r7 _ =>
 .rt [3] 2 (r7)) fun c3 =>
 .say [.br false] (ok1 c3) <|
 .ret ⟨[.kill 0],[3],[],2⟩ (strOfNums [IntKind.wrap .u8 p_v.aU])
def Kw (R_:RB6) (p_v:ak) : Option (ByteArray) := Mo.den (zK R_ p_v)
def rE  (r_:ByteArray) : St := ⟨[(3,.lf (.str r_))],[.dead,.dead]⟩
theorem X4 {R_:RB6} {p_v:ak} {r_:ByteArray} (h:Kw R_ p_v = some r_) : fQ Tryz.f260 0 [1,1,0,1] (.normal) (rE r_) ⟨[(1,.ptr 0 0),(3,.lf (.str (strOfNums [IntKind.wrap .u8 p_v.aU]))),(12,.i_ p_v.aU)],[.box 29 (.dat (ak.lf1 p_v)),.dead]⟩ :=
 jo dK (zK R_ p_v) (fun _=>.normal) rE (by kernel_rfl) h
def aaQ (R_:RB6) (p_v:ak) : Mo (ByteArray) :=
 .say [.nums [IntKind.wrap .u8 p_v.aU]] (ok1 (by simp [lfI,lfK] : [(lfK .u8 (IntKind.wrap .u8 p_v.aU))] = [IntKind.wrap .u8 p_v.aU].map fun n=>[Lf.int .u8 n])) <|
 .ask (Kw R_ p_v) fun r0 h0 =>
 .say [.part [.kill 1] 6 [1,3,12] 2 (.normal) (rE r0).T (rE r0).H] (ok1 (X4 h0)) <|
 .ret (bC 1) (r0)
theorem ae1 (R_:RB6) (p_v:ak) : FV (Mo.den (aaQ R_ p_v)) 260 [.dat (ak.lf1 p_v)] (fun r=>.lf (.str r)) := bY Tryz.func260 (by kernel_rfl) (fun _=>rfl) (by kernel_rfl)
def Ak:Nat → RB6
 | 0=>{ m1 := fun p_v=>none,ok1 := fun _ _ h=>(by cases h) }
 | n_ + 1=>{ m1 := fun p_v=>Mo.den (aaQ (Ak n_) p_v),ok1 := ae1 (Ak n_) }
def Q23 (p_v:ak) : Option (ByteArray) := (Ak FU).m1 p_v
theorem aiq (p_v:ak) : FV (Q23 p_v) 260 [.dat (ak.lf1 p_v)] (fun r=>.lf (.str r)) := (Ak FU).ok1 p_v
def aaR (p_v:ak) : Mo (ByteArray × Int) :=
 .cl (qy p_v) fun r0 _ =>
 .iB (!r0) (.ret (bC 2) (⟨#[]⟩,8)) <|
 .cl (aiq p_v) fun r1 _ =>
 .ret (bC 2) (r1,0)
def air (p_v:ak) : Option (ByteArray × Int) := Mo.den (aaR p_v)
theorem WJ (p_v:ak) : FV (air p_v) 214 [.dat (ak.lf1 p_v)] (fun r=>.tup [.lf (.str r.1),.i_ r.2]) := bY Tryz.func214 (by kernel_rfl) (fun _=>rfl) (by kernel_rfl)
structure RB2 where
 m1:(p_v:ak) → (p_b0:aA) → Option (aA)
 ok1:∀ p_v p_b0,FH (m1 p_v p_b0) 167 [.ptr 0 0,.dat (ak.lf1 p_v)] [.box 124 (.dat (aA.lf1 p_b0))] (fun _=>.tup []) (fun r=>[.box 124 (.dat (aA.lf1 r))])
 m2:(p_l:List ak) → (p_b0:aA) → Option (aA)
 ok2:∀ p_l p_b0,FH (m2 p_l p_b0) 213 [.ptr 0 0,.lf (.rows 5 (p_l.map ak.lf))] [.box 124 (.dat (aA.lf1 p_b0))] (fun _=>.tup []) (fun r=>[.box 124 (.dat (aA.lf1 r))])
def Dk (R_:RB2) (p_v:ak) : (Int × aA) → Mo ((Int × aA) ⊕ (aA)) := fun (v0,s1155) =>
 .say [.num p_v.bU.length] (ok1 (ln_ p_v.bU aS.lf)) <|
 .iB (decide ((v0:Int) < (p_v.bU.length:Int))) (.ask (bM p_v.bU v0) fun x0 h0 =>
 .say [.row (aS.lf1 x0)] (ok1 (aX aS.aV h0)) <|
 .cH [0] (nY x0.fName s1155) fun r0 _ =>
 .ask (bM p_v.bU v0) fun x1 h1 =>
 .say [.row (aS.lf1 x1)] (ok1 (aX aS.aV h1)) <|
 .cH [0] (R_.ok1 x1.fValue r0) fun r1 _ =>
 .rt [0,3,4] 2 (.inl (IntKind.wrap .i64 (v0 + 1),r1))) <|
 .ret ⟨[.kill 1],[],[],2⟩ (.inr (s1155))
def Ul (R_:RB2) (p_v:ak) (v0:Int) (s1155:aA) : Option (aA) := bK (fun v_=>(Dk R_ p_v v_).den) FU (v0,s1155)
def OI (R_:RB2) (p_b0:aA) (r0:ByteArray × Int) : Mo (aA) :=
 .iG 32005 (p_b0.AO) (.rt [0,5] 2 (aA.mk p_b0.fS true p_b0.pF)) <|
 .rt [0,5] 2 (aA.mk p_b0.fS (r0.2 != 0) p_b0.pF)
def aaS (R_:RB2) (p_b0:aA) (r0:ByteArray × Int) : Option (aA) := Mo.den (OI R_ p_b0 r0)
def wu (r0:ByteArray × Int) (r_:aA) : St := ⟨[(0,.ptr 0 0),(5,.lf (.str r0.1))],[.box 124 (.dat (aA.lf1 r_)),.dead]⟩
theorem aaT {R_:RB2} {p_b0:aA} {r0:ByteArray × Int} {r_:aA} (h:aaS R_ p_b0 r0 = some r_) : fQ Tryz.f167 1 [1,1,1,1,0] (.normal) (wu r0 r_) ⟨[(0,.ptr 0 0),(5,.lf (.str r0.1)),(6,.i_ r0.2)],[.box 124 (.dat (aA.lf1 p_b0)),.dead]⟩ :=
 jo dK (OI R_ p_b0 r0) (fun _=>.normal) (wu r0) (by kernel_rfl) h
def aaU (R_:RB2) (p_v:ak) (p_b0:aA) : Mo (aA) :=
 .iB (p_b0.pF) (.cH [0] (fC p_v.aU p_b0) fun r0 _ =>
 .cH [0] (fC p_v.jL r0) fun r1 _ =>
 .cH [0] (nY p_v.fText r1) fun r2 _ =>
 .ask (R_.m2 p_v.bV r2) fun r3 h0 =>
 .say [.jc [0] (.tup []) [.box 124 (.dat (aA.lf1 r3))],.num p_v.bU.length] (okc (R_.ok2 _ _ _ h0) (ok1 (ln_ p_v.bU aS.lf))) <|
 .cH [0] (fC (p_v.bU.length:Int) r3) fun r4 _ =>
 .lp Tryz.f167 1 [1,0,1,0,1,1,1,1,1,0,1,0] 0 [0,3,4] 2 (.exit 0) (fun r_=>⟨[],[.box 124 (.dat (aA.lf1 r_)),.dead]⟩) (Ul R_ p_v 0 r4) (lW (fun (v0,s1155)=>⟨[(0,.ptr 0 0),(3,.ptr 1 0),(4,.i_ v0)],[.box 124 (.dat (aA.lf1 s1155)),.box 29 (.dat (ak.lf1 p_v))]⟩) (by kernel_rfl) rfl fun v_=>by kernel_rfl) fun r5 _ =>
 .rt [] 1 (r5)) <|
 .cl (uh p_v) fun r6 _ =>
 .iB (r6) (.grd (p_b0.fS.size + (⟨#[0]⟩ : ByteArray).size ≤ 9223372036854775807) fun h1 =>
 .say [] (ok1 h1) <|
 .ret ⟨[.kill 1],[],[],1⟩ (aA.mk (p_b0.fS ++ ⟨#[0]⟩) p_b0.AO p_b0.pF)) <|
 .cl (WJ p_v) fun r7 _ =>
 .ask (aaS R_ p_b0 r7) fun r8 h2 =>
 .say [.part [.kill 1] 37 [0,5,6] 2 (.normal) (wu r7 r8).T (wu r7 r8).H] (ok1 (aaT h2)) <|
 .grd ((⟨#[1]⟩ : ByteArray).size + r7.1.size ≤ 9223372036854775807) fun h3 =>
 .say [] (ok1 h3) <|
 .grd (r8.fS.size + ((⟨#[1]⟩ : ByteArray) ++ r7.1).size ≤ 9223372036854775807) fun h4 =>
 .say [] (ok1 h4) <|
 .rt [] 1 (aA.mk (r8.fS ++ ((⟨#[1]⟩ : ByteArray) ++ r7.1)) r8.AO r8.pF)
theorem ae2 (R_:RB2) (p_v:ak) (p_b0:aA) : FH (Mo.den (aaU R_ p_v p_b0)) 167 [.ptr 0 0,.dat (ak.lf1 p_v)] [.box 124 (.dat (aA.lf1 p_b0))] (fun _=>.tup []) (fun r=>[.box 124 (.dat (aA.lf1 r))]) := gW Tryz.func167 (by kernel_rfl) (fun _=>rfl) (by kernel_rfl)
def Dl (R_:RB2) (p_l:List ak) : (Int × aA) → Mo ((Int × aA) ⊕ (aA)) := fun (v0,s2580) =>
 .say [.num p_l.length] (ok1 (ln_ p_l ak.lf)) <|
 .iB (decide ((v0:Int) < (p_l.length:Int))) (.ask (bM p_l v0) fun x0 h0 =>
 .say [.row (ak.lf1 x0)] (ok1 (aX ak.aV h0)) <|
 .cH [0] (R_.ok1 x0 s2580) fun r0 _ =>
 .rt [0,1,4] 1 (.inl (IntKind.wrap .i64 (v0 + 1),r0))) <|
 .rt [] 1 (.inr (s2580))
def Um (R_:RB2) (p_l:List ak) (v0:Int) (s2580:aA) : Option (aA) := bK (fun v_=>(Dl R_ p_l v_).den) FU (v0,s2580)
def aaV (R_:RB2) (p_l:List ak) (p_b0:aA) : Mo (aA) :=
 .say [.num p_l.length] (ok1 (ln_ p_l ak.lf)) <|
 .cH [0] (fC (p_l.length:Int) p_b0) fun r0 _ =>
 .lp Tryz.f213 1 [1,1,0] 0 [0,1,4] 1 (.exit 0) (fun r_=>⟨[],[.box 124 (.dat (aA.lf1 r_))]⟩) (Um R_ p_l 0 r0) (lW (fun (v0,s2580)=>⟨[(0,.ptr 0 0),(1,.lf (.rows 5 (p_l.map ak.lf))),(4,.i_ v0)],[.box 124 (.dat (aA.lf1 s2580))]⟩) (by kernel_rfl) rfl fun v_=>by kernel_rfl) fun r1 _ =>
 .rt [] 1 (r1)
theorem ae3 (R_:RB2) (p_l:List ak) (p_b0:aA) : FH (Mo.den (aaV R_ p_l p_b0)) 213 [.ptr 0 0,.lf (.rows 5 (p_l.map ak.lf))] [.box 124 (.dat (aA.lf1 p_b0))] (fun _=>.tup []) (fun r=>[.box 124 (.dat (aA.lf1 r))]) := gW Tryz.func213 (by kernel_rfl) (fun _=>rfl) (by kernel_rfl)
def lY:Nat → RB2
 | 0=>{ m1 := fun p_v p_b0=>none,ok1 := fun _ _ _ h=>(by cases h),m2 := fun p_l p_b0=>none,ok2 := fun _ _ _ h=>(by cases h) }
 | n_ + 1=>{ m1 := fun p_v p_b0=>Mo.den (aaU (lY n_) p_v p_b0),ok1 := fun p_v p_b0 r h=>ae2 (lY n_) p_v p_b0 r h,m2 := fun p_l p_b0=>Mo.den (aaV (lY n_) p_l p_b0),ok2 := ae3 (lY n_) }
def Q29 (p_v:ak) (p_b0:aA) : Option (aA) := (lY FU).m1 p_v p_b0
theorem uj (p_v:ak) (p_b0:aA) : FH (Q29 p_v p_b0) 167 [.ptr 0 0,.dat (ak.lf1 p_v)] [.box 124 (.dat (aA.lf1 p_b0))] (fun _=>.tup []) (fun r=>[.box 124 (.dat (aA.lf1 r))]) := (lY FU).ok1 p_v p_b0
def Q65 (p_l:List ak) (p_b0:aA) : Option (aA) := (lY FU).m2 p_l p_b0
theorem aaW (p_l:List ak) (p_b0:aA) : FH (Q65 p_l p_b0) 213 [.ptr 0 0,.lf (.rows 5 (p_l.map ak.lf))] [.box 124 (.dat (aA.lf1 p_b0))] (fun _=>.tup []) (fun r=>[.box 124 (.dat (aA.lf1 r))]) := (lY FU).ok2 p_l p_b0
def Dn (p_s:bZ) : (Int × aA) → Mo ((Int × aA) ⊕ (aA)) := fun (v0,s2663) =>
 .say [.num p_s.bW.length] (ok1 (ln_ p_s.bW dF.lf)) <|
 .iB (decide ((v0:Int) < (p_s.bW.length:Int))) (.ask (bM p_s.bW v0) fun x0 h0 =>
 .say [.row (dF.lf1 x0)] (ok1 (aX dF.aV h0)) <|
 .cH [0] (fC x0.fX s2663) fun r0 _ =>
 .ask (bM p_s.bW v0) fun x1 h1 =>
 .say [.row (dF.lf1 x1)] (ok1 (aX dF.aV h1)) <|
 .cH [0] (fC x1.fY r0) fun r1 _ =>
 .rt [0,3,4] 2 (.inl (IntKind.wrap .i64 (v0 + 1),r1))) <|
 .rt [0,3] 2 (.inr (s2663))
def Un (p_s:bZ) (v0:Int) (s2663:aA) : Option (aA) := bK (fun v_=>(Dn p_s v_).den) FU (v0,s2663)
def agZ (p_s:bZ) (p_b0:aA) : Mo (aA) :=
 .ask (Q19 p_s.aU p_b0) fun r0 h0 =>
 .say [.jc [0] (.tup []) [.box 124 (.dat (aA.lf1 r0))],.num p_s.bW.length] (okc (fC _ _ _ h0) (ok1 (ln_ p_s.bW dF.lf))) <|
 .cH [0] (fC (p_s.bW.length:Int) r0) fun r1 _ =>
 .lp Tryz.f261 1 [1,1,1,0,1,0] 0 [0,3,4] 2 (.exit 0) (fun r_=>⟨[(0,.ptr 0 0),(3,.ptr 1 0)],[.box 124 (.dat (aA.lf1 r_)),.box 41 (.dat (bZ.lf1 p_s))]⟩) (Un p_s 0 r1) (lW (fun (v0,s2663)=>⟨[(0,.ptr 0 0),(3,.ptr 1 0),(4,.i_ v0)],[.box 124 (.dat (aA.lf1 s2663)),.box 41 (.dat (bZ.lf1 p_s))]⟩) (by kernel_rfl) rfl fun v_=>by kernel_rfl) fun r2 _ =>
 .cH [0] (fC p_s.fR r2) fun r3 _ =>
 .ret ⟨[.kill 1],[],[],1⟩ (r3)
def Q77 (p_s:bZ) (p_b0:aA) : Option (aA) := Mo.den (agZ p_s p_b0)
theorem ais (p_s:bZ) (p_b0:aA) : FH (Q77 p_s p_b0) 261 [.ptr 0 0,.dat (bZ.lf1 p_s)] [.box 124 (.dat (aA.lf1 p_b0))] (fun _=>.tup []) (fun r=>[.box 124 (.dat (aA.lf1 r))]) := gW Tryz.func261 (by kernel_rfl) (fun _=>rfl) (by kernel_rfl)
end
end Go.Proofs.YtdnafbfmaphhhaaGreatDoor
set_option linter.unusedSimpArgs false
set_option linter.unusedVariables false
namespace Go.Proofs.YtdnafbfmaphhhaaGreatDoor
open Go.RowKit
set_option maxRecDepth 20000
set_option maxHeartbeats 4000000
noncomputable section
structure RB7 where
 m1:(p_e:aC) → (p_b0:aA) → Option (aA)
 ok1:∀ p_e p_b0,FH (m1 p_e p_b0) 262 [.ptr 0 0,.dat (aC.lf1 p_e)] [.box 124 (.dat (aA.lf1 p_b0))] (fun _=>.tup []) (fun r=>[.box 124 (.dat (aA.lf1 r))])
def Dp (R_:RB7) (p_e:aC) : (Int × aA) → Mo ((Int × aA) ⊕ (aA)) := fun (v0,s2725) =>
 .say [.num p_e.bg.length] (ok1 (ln_ p_e.bg aC.lf)) <|
 .iB (decide ((v0:Int) < (p_e.bg.length:Int))) (.ask (bM p_e.bg v0) fun x0 h0 =>
 .say [.row (aC.lf1 x0)] (ok1 (aX aC.aV h0)) <|
 .cH [0] (R_.ok1 x0 s2725) fun r0 _ =>
 .rt [0,3,4] 2 (.inl (IntKind.wrap .i64 (v0 + 1),r0))) <|
 .ret ⟨[.kill 1],[],[],2⟩ (.inr (s2725))
def Uo (R_:RB7) (p_e:aC) (v0:Int) (s2725:aA) : Option (aA) := bK (fun v_=>(Dp R_ p_e v_).den) FU (v0,s2725)
def aaX (R_:RB7) (p_e:aC) (p_b0:aA) : Mo (aA) :=
 .cH [0] (fC p_e.fOp p_b0) fun r0 _ =>
 .cH [0] (CV p_e.cZ r0) fun r1 _ =>
 .cH [0] (nY p_e.fName r1) fun r2 _ =>
 .cH [0] (CV p_e.bQ r2) fun r3 _ =>
 .cH [0] (uj p_e.fArg r3) fun r4 _ =>
 .ask (Q19 p_e.fN r4) fun r5 h0 =>
 .say [.jc [0] (.tup []) [.box 124 (.dat (aA.lf1 r5))],.num p_e.bg.length] (okc (fC _ _ _ h0) (ok1 (ln_ p_e.bg aC.lf))) <|
 .cH [0] (fC (p_e.bg.length:Int) r5) fun r6 _ =>
 .lp Tryz.f262 1 [1,1,1,1,1,1,1,1,1,0] 0 [0,3,4] 2 (.exit 0) (fun r_=>⟨[],[.box 124 (.dat (aA.lf1 r_)),.dead]⟩) (Uo R_ p_e 0 r6) (lW (fun (v0,s2725)=>⟨[(0,.ptr 0 0),(3,.ptr 1 0),(4,.i_ v0)],[.box 124 (.dat (aA.lf1 s2725)),.box 44 (.dat (aC.lf1 p_e))]⟩) (by kernel_rfl) rfl fun v_=>by kernel_rfl) fun r7 _ =>
 .rt [] 1 (r7)
theorem ae4 (R_:RB7) (p_e:aC) (p_b0:aA) : FH (Mo.den (aaX R_ p_e p_b0)) 262 [.ptr 0 0,.dat (aC.lf1 p_e)] [.box 124 (.dat (aA.lf1 p_b0))] (fun _=>.tup []) (fun r=>[.box 124 (.dat (aA.lf1 r))]) := gW Tryz.func262 (by kernel_rfl) (fun _=>rfl) (by kernel_rfl)
def Am:Nat → RB7
 | 0=>{ m1 := fun p_e p_b0=>none,ok1 := fun _ _ _ h=>(by cases h) }
 | n_ + 1=>{ m1 := fun p_e p_b0=>Mo.den (aaX (Am n_) p_e p_b0),ok1 := ae4 (Am n_) }
def Q72 (p_e:aC) (p_b0:aA) : Option (aA) := (Am FU).m1 p_e p_b0
theorem ait (p_e:aC) (p_b0:aA) : FH (Q72 p_e p_b0) 262 [.ptr 0 0,.dat (aC.lf1 p_e)] [.box 124 (.dat (aA.lf1 p_b0))] (fun _=>.tup []) (fun r=>[.box 124 (.dat (aA.lf1 r))]) := (Am FU).ok1 p_e p_b0
structure RB1 where
 m1:(p_p:aK) → (p_b0:aA) → Option (aA)
 ok1:∀ p_p p_b0,FH (m1 p_p p_b0) 217 [.ptr 0 0,.dat (aK.lf1 p_p)] [.box 124 (.dat (aA.lf1 p_b0))] (fun _=>.tup []) (fun r=>[.box 124 (.dat (aA.lf1 r))])
def Dq (R_:RB1) (p_p:aK) : (Int × aA) → Mo ((Int × aA) ⊕ (aA)) := fun (v0,s2758) =>
 .say [.num p_p.bg.length] (ok1 (ln_ p_p.bg aK.lf)) <|
 .iB (decide ((v0:Int) < (p_p.bg.length:Int))) (.ask (bM p_p.bg v0) fun x0 h0 =>
 .say [.row (aK.lf1 x0)] (ok1 (aX aK.aV h0)) <|
 .cH [0] (R_.ok1 x0 s2758) fun r0 _ =>
 .rt [0,3,4] 2 (.inl (IntKind.wrap .i64 (v0 + 1),r0))) <|
 .ret ⟨[.kill 1],[],[],2⟩ (.inr (s2758))
def Ur (R_:RB1) (p_p:aK) (v0:Int) (s2758:aA) : Option (aA) := bK (fun v_=>(Dq R_ p_p v_).den) FU (v0,s2758)
def aaY (R_:RB1) (p_p:aK) (p_b0:aA) : Mo (aA) :=
 .cH [0] (fC p_p.fOp p_b0) fun r0 _ =>
 .cH [0] (CV p_p.cZ r0) fun r1 _ =>
 .cH [0] (uj p_p.fArg r1) fun r2 _ =>
 .cH [0] (aaW p_p.fArgs r2) fun r3 _ =>
 .cH [0] (fC p_p.fN r3) fun r4 _ =>
 .cH [0] (fC p_p.fM r4) fun r5 _ =>
 .cH [0] (ais p_p.eF r5) fun r6 _ =>
 .ask (Q72 p_p.fExpr r6) fun r7 h0 =>
 .say [.jc [0] (.tup []) [.box 124 (.dat (aA.lf1 r7))],.num p_p.bg.length] (okc (ait _ _ _ h0) (ok1 (ln_ p_p.bg aK.lf))) <|
 .cH [0] (fC (p_p.bg.length:Int) r7) fun r8 _ =>
 .lp Tryz.f217 1 [1,1,1,1,1,1,1,1,1,1,1,0] 0 [0,3,4] 2 (.exit 0) (fun r_=>⟨[],[.box 124 (.dat (aA.lf1 r_)),.dead]⟩) (Ur R_ p_p 0 r8) (lW (fun (v0,s2758)=>⟨[(0,.ptr 0 0),(3,.ptr 1 0),(4,.i_ v0)],[.box 124 (.dat (aA.lf1 s2758)),.box 47 (.dat (aK.lf1 p_p))]⟩) (by kernel_rfl) rfl fun v_=>by kernel_rfl) fun r9 _ =>
 .rt [] 1 (r9)
theorem ae5 (R_:RB1) (p_p:aK) (p_b0:aA) : FH (Mo.den (aaY R_ p_p p_b0)) 217 [.ptr 0 0,.dat (aK.lf1 p_p)] [.box 124 (.dat (aA.lf1 p_b0))] (fun _=>.tup []) (fun r=>[.box 124 (.dat (aA.lf1 r))]) := gW Tryz.func217 (by kernel_rfl) (fun _=>rfl) (by kernel_rfl)
def Aq:Nat → RB1
 | 0=>{ m1 := fun p_p p_b0=>none,ok1 := fun _ _ _ h=>(by cases h) }
 | n_ + 1=>{ m1 := fun p_p p_b0=>Mo.den (aaY (Aq n_) p_p p_b0),ok1 := ae5 (Aq n_) }
def Q73 (p_p:aK) (p_b0:aA) : Option (aA) := (Aq FU).m1 p_p p_b0
theorem aiu (p_p:aK) (p_b0:aA) : FH (Q73 p_p p_b0) 217 [.ptr 0 0,.dat (aK.lf1 p_p)] [.box 124 (.dat (aA.lf1 p_b0))] (fun _=>.tup []) (fun r=>[.box 124 (.dat (aA.lf1 r))]) := (Aq FU).ok1 p_p p_b0
def Dt (p_x:aT) : (Int × aA) → Mo ((Int × aA) ⊕ (aA)) := fun (v0,s1015) =>
 .say [.num p_x.gu.length] (ok1 (ln_ p_x.gu bf.lf)) <|
 .iB (decide ((v0:Int) < (p_x.gu.length:Int))) (.ask (bM p_x.gu v0) fun x0 h0 =>
 .say [.row (bf.lf1 x0)] (ok1 (aX bf.aV h0)) <|
 .cH [0] (CV x0.cZ s1015) fun r0 _ =>
 .ask (bM p_x.gu v0) fun x1 h1 =>
 .say [.row (bf.lf1 x1)] (ok1 (aX bf.aV h1)) <|
 .cH [0] (oP x1.Gp r0) fun r1 _ =>
 .rt [0,3,4] 2 (.inl (IntKind.wrap .i64 (v0 + 1),r1))) <|
 .rt [0,3] 2 (.inr (s1015))
def Us (p_x:aT) (v0:Int) (s1015:aA) : Option (aA) := bK (fun v_=>(Dt p_x v_).den) FU (v0,s1015)
def ag0 (p_x:aT) (p_b0:aA) : Mo (aA) :=
 .cH [0] (nY p_x.fName p_b0) fun r0 _ =>
 .ask (Q19 p_x.aU r0) fun r1 h0 =>
 .say [.jc [0] (.tup []) [.box 124 (.dat (aA.lf1 r1))],.num p_x.gu.length] (okc (fC _ _ _ h0) (ok1 (ln_ p_x.gu bf.lf))) <|
 .cH [0] (fC (p_x.gu.length:Int) r1) fun r2 _ =>
 .lp Tryz.f169 1 [1,1,1,1,0,1,0] 0 [0,3,4] 2 (.exit 0) (fun r_=>⟨[(0,.ptr 0 0),(3,.ptr 1 0)],[.box 124 (.dat (aA.lf1 r_)),.box 49 (.dat (aT.lf1 p_x))]⟩) (Us p_x 0 r2) (lW (fun (v0,s1015)=>⟨[(0,.ptr 0 0),(3,.ptr 1 0),(4,.i_ v0)],[.box 124 (.dat (aA.lf1 s1015)),.box 49 (.dat (aT.lf1 p_x))]⟩) (by kernel_rfl) rfl fun v_=>by kernel_rfl) fun r3 _ =>
 .cH [0] (oP p_x.iR r3) fun r4 _ =>
 .cH [0] (oP p_x.nK r4) fun r5 _ =>
 .cH [0] (oP p_x.jV r5) fun r6 _ =>
 .cH [0] (aiu p_x.iV r6) fun r7 _ =>
 .ret ⟨[.kill 1],[],[],1⟩ (r7)
def Q60 (p_x:aT) (p_b0:aA) : Option (aA) := Mo.den (ag0 p_x p_b0)
theorem Ky (p_x:aT) (p_b0:aA) : FH (Q60 p_x p_b0) 169 [.ptr 0 0,.dat (aT.lf1 p_x)] [.box 124 (.dat (aA.lf1 p_b0))] (fun _=>.tup []) (fun r=>[.box 124 (.dat (aA.lf1 r))]) := gW Tryz.func169 (by kernel_rfl) (fun _=>rfl) (by kernel_rfl)
structure RB8 where
 m1:(p_s:aB) → (p_b0:aA) → Option (aA)
 ok1:∀ p_s p_b0,FH (m1 p_s p_b0) 215 [.ptr 0 0,.dat (aB.lf1 p_s)] [.box 124 (.dat (aA.lf1 p_b0))] (fun _=>.tup []) (fun r=>[.box 124 (.dat (aA.lf1 r))])
def Du (R_:RB8) (p_s:aB) : (Int × aA) → Mo ((Int × aA) ⊕ (aA)) := fun (v0,s2895) =>
 .say [.num p_s.dN.length] (ok1 (ln_ p_s.dN bH.lf)) <|
 .iB (decide ((v0:Int) < (p_s.dN.length:Int))) (.ask (bM p_s.dN v0) fun x0 h0 =>
 .say [.row (bH.lf1 x0)] (ok1 (aX bH.aV h0)) <|
 .cH [0] (nY x0.fName s2895) fun r0 _ =>
 .ask (bM p_s.dN v0) fun x1 h1 =>
 .say [.row (bH.lf1 x1)] (ok1 (aX bH.aV h1)) <|
 .cH [0] (R_.ok1 x1.fF r0) fun r1 _ =>
 .rt [0,3,4] 2 (.inl (IntKind.wrap .i64 (v0 + 1),r1))) <|
 .rt [0,3] 2 (.inr (s2895))
def Ut (R_:RB8) (p_s:aB) (v0:Int) (s2895:aA) : Option (aA) := bK (fun v_=>(Du R_ p_s v_).den) FU (v0,s2895)
def Dv (R_:RB8) (p_s:aB) : (Int × aA) → Mo ((Int × aA) ⊕ (aA)) := fun (v0,s2946) =>
 .say [.num p_s.fG.length] (ok1 (ln_ p_s.fG aB.lf)) <|
 .iB (decide ((v0:Int) < (p_s.fG.length:Int))) (.ask (bM p_s.fG v0) fun x0 h0 =>
 .say [.row (aB.lf1 x0)] (ok1 (aX aB.aV h0)) <|
 .cH [0] (R_.ok1 x0 s2946) fun r0 _ =>
 .rt [0,3,5] 2 (.inl (IntKind.wrap .i64 (v0 + 1),r0))) <|
 .rt [0,3] 2 (.inr (s2946))
def Uu (R_:RB8) (p_s:aB) (v0:Int) (s2946:aA) : Option (aA) := bK (fun v_=>(Dv R_ p_s v_).den) FU (v0,s2946)
def aaZ (R_:RB8) (p_s:aB) (p_b0:aA) : Mo (aA) :=
 .cH [0] (fC p_s.jX p_b0) fun r0 _ =>
 .cH [0] (oP p_s.kU r0) fun r1 _ =>
 .cH [0] (uj p_s.sH r1) fun r2 _ =>
 .cH [0] (oP p_s.kV r2) fun r3 _ =>
 .cH [0] (uj p_s.sJ r3) fun r4 _ =>
 .cH [0] (aaW p_s.jY r4) fun r5 _ =>
 .cH [0] (fC p_s.kW r5) fun r6 _ =>
 .cH [0] (fC p_s.kX r6) fun r7 _ =>
 .ask (Q59 p_s.gy r7) fun r8 h0 =>
 .say [.jc [0] (.tup []) [.box 124 (.dat (aA.lf1 r8))],.num p_s.dN.length] (okc (CV _ _ _ h0) (ok1 (ln_ p_s.dN bH.lf))) <|
 .cH [0] (fC (p_s.dN.length:Int) r8) fun r9 _ =>
 .lp Tryz.f215 1 [1,1,1,1,1,1,1,1,1,1,1,0,1,0] 0 [0,3,4] 2 (.exit 0) (fun r_=>⟨[(0,.ptr 0 0),(3,.ptr 1 0)],[.box 124 (.dat (aA.lf1 r_)),.box 35 (.dat (aB.lf1 p_s))]⟩) (Ut R_ p_s 0 r9) (lW (fun (v0,s2895)=>⟨[(0,.ptr 0 0),(3,.ptr 1 0),(4,.i_ v0)],[.box 124 (.dat (aA.lf1 s2895)),.box 35 (.dat (aB.lf1 p_s))]⟩) (by kernel_rfl) rfl fun v_=>by kernel_rfl) fun r10 _ =>
 .ask (Q74 p_s.nM r10) fun r11 h1 =>
 .say [.jc [0] (.tup []) [.box 124 (.dat (aA.lf1 r11))],.num p_s.fG.length] (okc (oP _ _ _ h1) (ok1 (ln_ p_s.fG aB.lf))) <|
 .cH [0] (fC (p_s.fG.length:Int) r11) fun r12 _ =>
 .lp Tryz.f215 1 [1,1,1,1,1,1,1,1,1,1,1,1,1,1,0,1,0] 0 [0,3,5] 2 (.exit 2) (fun r_=>⟨[(0,.ptr 0 0),(3,.ptr 1 0)],[.box 124 (.dat (aA.lf1 r_)),.box 35 (.dat (aB.lf1 p_s))]⟩) (Uu R_ p_s 0 r12) (lW (fun (v1,s2946)=>⟨[(0,.ptr 0 0),(3,.ptr 1 0),(5,.i_ v1)],[.box 124 (.dat (aA.lf1 s2946)),.box 35 (.dat (aB.lf1 p_s))]⟩) (by kernel_rfl) rfl fun v_=>by kernel_rfl) fun r13 _ =>
 .cH [0] (oP p_s.iR r13) fun r14 _ =>
 .ret ⟨[.kill 1],[],[],1⟩ (r14)
theorem ae6 (R_:RB8) (p_s:aB) (p_b0:aA) : FH (Mo.den (aaZ R_ p_s p_b0)) 215 [.ptr 0 0,.dat (aB.lf1 p_s)] [.box 124 (.dat (aA.lf1 p_b0))] (fun _=>.tup []) (fun r=>[.box 124 (.dat (aA.lf1 r))]) := gW Tryz.func215 (by kernel_rfl) (fun _=>rfl) (by kernel_rfl)
def sZ:Nat → RB8
 | 0=>{ m1 := fun p_s p_b0=>none,ok1 := fun _ _ _ h=>(by cases h) }
 | n_ + 1=>{ m1 := fun p_s p_b0=>Mo.den (aaZ (sZ n_) p_s p_b0),ok1 := ae6 (sZ n_) }
def Q51 (p_s:aB) (p_b0:aA) : Option (aA) := (sZ FU).m1 p_s p_b0
theorem aiv (p_s:aB) (p_b0:aA) : FH (Q51 p_s p_b0) 215 [.ptr 0 0,.dat (aB.lf1 p_s)] [.box 124 (.dat (aA.lf1 p_b0))] (fun _=>.tup []) (fun r=>[.box 124 (.dat (aA.lf1 r))]) := (sZ FU).ok1 p_s p_b0
def Dw (p_d:bP) : (Int × aA) → Mo ((Int × aA) ⊕ (aA)) := fun (v0,s2796) =>
 .say [.num p_d.dH.length] (ok1 (ln_ p_d.dH aT.lf)) <|
 .iB (decide ((v0:Int) < (p_d.dH.length:Int))) (.ask (bM p_d.dH v0) fun x0 h0 =>
 .say [.row (aT.lf1 x0)] (ok1 (aX aT.aV h0)) <|
 .cH [0] (Ky x0 s2796) fun r0 _ =>
 .rt [0,3,4] 2 (.inl (IntKind.wrap .i64 (v0 + 1),r0))) <|
 .rt [0,3] 2 (.inr (s2796))
def Uw (p_d:bP) (v0:Int) (s2796:aA) : Option (aA) := bK (fun v_=>(Dw p_d v_).den) FU (v0,s2796)
def ag1 (p_d:bP) (p_b0:aA) : Mo (aA) :=
 .ask (Q70 p_d.fName p_b0) fun r0 h0 =>
 .say [.jc [0] (.tup []) [.box 124 (.dat (aA.lf1 r0))],.num p_d.dH.length] (okc (nY _ _ _ h0) (ok1 (ln_ p_d.dH aT.lf))) <|
 .cH [0] (fC (p_d.dH.length:Int) r0) fun r1 _ =>
 .lp Tryz.f168 1 [1,1,1,0,1,0] 0 [0,3,4] 2 (.exit 0) (fun r_=>⟨[(0,.ptr 0 0),(3,.ptr 1 0)],[.box 124 (.dat (aA.lf1 r_)),.box 37 (.dat (bP.lf1 p_d))]⟩) (Uw p_d 0 r1) (lW (fun (v0,s2796)=>⟨[(0,.ptr 0 0),(3,.ptr 1 0),(4,.i_ v0)],[.box 124 (.dat (aA.lf1 s2796)),.box 37 (.dat (bP.lf1 p_d))]⟩) (by kernel_rfl) rfl fun v_=>by kernel_rfl) fun r2 _ =>
 .cH [0] (aiv p_d.fF r2) fun r3 _ =>
 .cH [0] (fC p_d.oM r3) fun r4 _ =>
 .cH [0] (fC p_d.l9 r4) fun r5 _ =>
 .ret ⟨[.kill 1],[],[],1⟩ (r5)
def Q68 (p_d:bP) (p_b0:aA) : Option (aA) := Mo.den (ag1 p_d p_b0)
theorem Ux (p_d:bP) (p_b0:aA) : FH (Q68 p_d p_b0) 168 [.ptr 0 0,.dat (bP.lf1 p_d)] [.box 124 (.dat (aA.lf1 p_b0))] (fun _=>.tup []) (fun r=>[.box 124 (.dat (aA.lf1 r))]) := gW Tryz.func168 (by kernel_rfl) (fun _=>rfl) (by kernel_rfl)
def He (p_d:bP) : Mo (Bool) :=
 .ite (!decide ((p_d.fName:ByteArray) = (⟨#[]⟩ : ByteArray))) (fun c0 =>
 .say [.gd 4003 true] (ok1 c0) <|
 .rt [1,13] 1 (true)) fun c0 =>
 .say [.gd 4003 false,.num p_d.dH.length] (okc c0 (ok1 (ln_ p_d.dH aT.lf))) <|
 .rt [1,13] 1 (decide ((0:Int) < (p_d.dH.length:Int)))
def aa0 (p_d:bP) : Mo (Bool) :=
 .jp Tryz.f151 0 [1,0,0] 9 [1] 1 (.normal) (fun r_=>⟨[(1,.ptr 0 0),(13,.b_ r_)],[.box 37 (.dat (bP.lf1 p_d))]⟩) ⟨[(1,.ptr 0 0)],[.box 37 (.dat (bP.lf1 p_d))]⟩ (He p_d).den (jW (by kernel_rfl)) fun r0 _ =>
 .ite (r0) (fun c0 =>
 .say [.br true] (ok1 c0) <|
 .ret (bC 1) (false)) fun c0 =>
 .say [.br false,.at_ 10 1,.norm 1] (ok1 c0) <|
 .ask (Q68 p_d (aA.mk ⟨#[]⟩ false true)) fun r1 h0 =>
 .say [.jc [1] (.tup []) [.box 124 (.dat (aA.lf1 r1))],.at_ 12 1,.tod 18,.norm 2] (ok1 (Ux _ _ _ h0)) <|
 .cH [2] (Ux (bP.mk ⟨#[]⟩ [] aB.z 0 0) (aA.mk ⟨#[]⟩ false true)) fun r2 _ =>
 .ret (bC 1) (decide ((r1.fS:ByteArray) = (r2.fS:ByteArray)))
def aiw (p_d:bP) : Option (Bool) := Mo.den (aa0 p_d)
theorem ae7 (p_d:bP) : FV (aiw p_d) 151 [.dat (bP.lf1 p_d)] (fun r=>.b_ r) := bY Tryz.func151 (by kernel_rfl) (fun _=>rfl) (by kernel_rfl)
def aa1 (p_x:aT) : Mo (Bool) :=
 .say [.at_ 6 1,.norm 1] ok0 <|
 .ask (Q60 p_x (aA.mk ⟨#[]⟩ false true)) fun r0 h0 =>
 .say [.jc [1] (.tup []) [.box 124 (.dat (aA.lf1 r0))],.at_ 8 1,.tod 9,.norm 2] (ok1 (Ky _ _ _ h0)) <|
 .cH [2] (Ky aT.z (aA.mk ⟨#[]⟩ false true)) fun r1 _ =>
 .ret (bC 1) (decide ((r0.fS:ByteArray) = (r1.fS:ByteArray)))
def aix (p_x:aT) : Option (Bool) := Mo.den (aa1 p_x)
theorem ae8 (p_x:aT) : FV (aix p_x) 152 [.dat (aT.lf1 p_x)] (fun r=>.b_ r) := bY Tryz.func152 (by kernel_rfl) (fun _=>rfl) (by kernel_rfl)
def aa2 (p_kind:Int) : Mo (Bool) :=
 .iG 4002 (decide ((9:Int) ≤ p_kind)) (.ret (bC 1) (decide ((p_kind:Int) ≤ 12))) <|
 .ret (bC 1) (false)
def aky (p_kind:Int) : Option (Bool) := Mo.den (aa2 p_kind)
theorem WL (p_kind:Int) : FV (aky p_kind) 110 [.i_ p_kind] (fun r=>.b_ r) := bY Tryz.func110 (by kernel_rfl) (fun _=>rfl) (by kernel_rfl)
def aa3 (p_kind:Int) : Mo (Bool) :=
 .iG 4002 (p_kind == 8) (.ret (bC 1) (true)) <|
 .ret (bC 1) (p_kind == 9)
def akz (p_kind:Int) : Option (Bool) := Mo.den (aa3 p_kind)
theorem WM (p_kind:Int) : FV (akz p_kind) 108 [.i_ p_kind] (fun r=>.b_ r) := bY Tryz.func108 (by kernel_rfl) (fun _=>rfl) (by kernel_rfl)
def OJ (p_w:aG) : Mo (aT) :=
 .iB (p_w.aU == 7) (.ret ⟨[.norm 1],[1,3,4],[],2⟩ (aT.aae p_w.aY ⟨#[]⟩)) <|
 .ret ⟨[.norm 1],[1,3,4],[],2⟩ (p_w.aY)
def OL (p_w:aG) (r0:aT) : Mo (Bool) :=
 .cl (WB p_w.aU) fun r1 _ =>
 .iG 12002 (r1) (.rt [1,3,4,18] 2 (true)) <|
 .rt [1,3,4,18] 2 (decide ((p_w.kM:ByteArray) = (⟨#[]⟩ : ByteArray)))
def Hf (p_w:aG) (r0:aT) (r1:Bool) : Mo (Bool) :=
 .iG 12007 (r1) (.cl (J5 p_w.aU) fun r2 _ =>
 .iG 12010 (r2) (.rt [1,3,4,37] 2 (true)) <|
 .cl (uh p_w.mg) fun r3 _ =>
 .iG 12014 (r3) (.cl (uh p_w.gY) fun r4 _ =>
 .iG 12019 (r4) (.rt [1,3,4,37] 2 (!p_w.kY)) <|
 .rt [1,3,4,37] 2 (false)) <|
 .rt [1,3,4,37] 2 (false)) <|
 .rt [1,3,4,37] 2 (false)
def Hg (p_w:aG) (r0:aT) (r1:Bool) : Mo (Bool) :=
 .iG 12026 (r1) (.iG 12029 (p_w.aU == 2) (.rt [1,3,4,46] 2 (true)) <|
 .cl (uh p_w.bU) fun r2 _ =>
 .rt [1,3,4,46] 2 (r2)) <|
 .rt [1,3,4,46] 2 (false)
def Ho (p_w:aG) (r0:aT) (r1:Bool) : Mo (Bool) :=
 .iG 12035 (r1) (.iG 12038 (p_w.aU == 4) (.rt [1,3,4,55] 2 (true)) <|
 .cl (ae7 p_w.ou) fun r2 _ =>
 .rt [1,3,4,55] 2 (r2)) <|
 .rt [1,3,4,55] 2 (false)
def Hq (p_w:aG) (r0:Bool) (r1:aT) : Mo (Bool) :=
 .iG 12044 (r0) (.iG 12047 (p_w.aU == 6) (.ret ⟨[.kill 1],[1,3,63],[],2⟩ (true)) <|
 .cl (ae8 r1) fun r2 _ =>
 .ret ⟨[.kill 1],[1,3,63],[],2⟩ (r2)) <|
 .ret ⟨[.kill 1],[1,3,63],[],2⟩ (false)
def Hr (p_w:aG) (r0:Bool) : Mo (Bool) :=
 .iG 12052 (r0) (.cl (WL p_w.aU) fun r1 _ =>
 .iG 12055 (r1) (.rt [1,3,72] 2 (true)) <|
 .rt [1,3,72] 2 (decide ((p_w.zq:ByteArray) = (⟨#[]⟩ : ByteArray)))) <|
 .rt [1,3,72] 2 (false)
def Ht (p_w:aG) (r0:Bool) : Mo (Bool) :=
 .iG 12061 (r0) (.iG 12064 (p_w.aU == 10) (.rt [1,3,85] 2 (true)) <|
 .iG 12068 (p_w.aU == 12) (.rt [1,3,85] 2 (true)) <|
 .rt [1,3,85] 2 (p_w.fB == 0)) <|
 .rt [1,3,85] 2 (false)
def Hu (p_w:aG) (r0:Bool) : Mo (Bool) :=
 .iG 12074 (r0) (.cl (WM p_w.aU) fun r1 _ =>
 .ite (r1) (fun c0 =>
 .say [.gd 12077 true] (ok1 c0) <|
 .rt [1,3,95] 2 (true)) fun c0 =>
 .say [.gd 12077 false,.num p_w.dL.length] (okc c0 (ok1 (ln_ p_w.dL aG.lf))) <|
 .rt [1,3,95] 2 ((p_w.dL.length:Int) == 0)) <|
 .rt [1,3,95] 2 (false)
def Hw (p_w:aG) (r0:Bool) : Mo (Bool) :=
 .iG 12084 (r0) (.ite (p_w.aU == 12) (fun c0 =>
 .say [.gd 12087 true] (ok1 c0) <|
 .ret ⟨[.kill 0],[105],[],2⟩ (true)) fun c0 =>
 .say [.gd 12087 false,.num p_w.eu.length] (okc c0 (ok1 (ln_ p_w.eu lfI))) <|
 .ret ⟨[.kill 0],[105],[],2⟩ ((p_w.eu.length:Int) == 0)) <|
 .ret ⟨[.kill 0],[105],[],2⟩ (false)
def Hy (r0:Bool) : Mo (Unit) :=
 .rt [2] 2 ()
def ag2 (p_w:aG) : Mo (Bool) :=
 .jp Tryz.f107 0 [1,1,1,0,1] 1 [1,3,4,10] 2 (.normal) (fun r_=>⟨[(1,.ptr 0 0),(3,.i_ p_w.aU),(4,.ptr 1 0)],[.box 52 (.dat (aG.lf1 p_w)),.box 49 (.dat (aT.lf1 r_))]⟩) ⟨[(1,.ptr 0 0),(3,.i_ p_w.aU),(4,.ptr 1 0),(10,.lf (.bool (p_w.aU == 7)))],[.box 52 (.dat (aG.lf1 p_w)),.box 49 (.agg ((aT.lf1 p_w.aY).map AV.lf))]⟩ (OJ p_w).den (jW (by kernel_rfl)) fun r0 _ =>
 .sj Tryz.f107 0 [1,1,1,1,0] [0,1,2,3,4,5,6] 5 7 [1,3,4] 2 (fun r_=>⟨[(1,.ptr 0 0),(3,.i_ p_w.aU),(4,.ptr 1 0),(18,.b_ r_)],[.box 52 (.dat (aG.lf1 p_w)),.box 49 (.dat (aT.lf1 r0))]⟩) ⟨[(1,.ptr 0 0),(3,.i_ p_w.aU),(4,.ptr 1 0)],[.box 52 (.dat (aG.lf1 p_w)),.box 49 (.dat (aT.lf1 r0))]⟩ (OL p_w r0).den (sW (by kernel_rfl)) fun r1 _ =>
 .sj Tryz.f107 0 [1,1,1,1,0] [7,8,9,10,11,12,13,14,15,16,17,18,19,20,21,22,23,24,25] 5 19 [1,3,4,18] 2 (fun r_=>⟨[(1,.ptr 0 0),(3,.i_ p_w.aU),(4,.ptr 1 0),(37,.b_ r_)],[.box 52 (.dat (aG.lf1 p_w)),.box 49 (.dat (aT.lf1 r0))]⟩) ⟨[(1,.ptr 0 0),(3,.i_ p_w.aU),(4,.ptr 1 0),(18,.b_ r1)],[.box 52 (.dat (aG.lf1 p_w)),.box 49 (.dat (aT.lf1 r0))]⟩ (Hf p_w r0 r1).den (sW (by kernel_rfl)) fun r2 _ =>
 .sj Tryz.f107 0 [1,1,1,1,0] [26,27,28,29,30,31,32,33,34] 5 9 [1,3,4,37] 2 (fun r_=>⟨[(1,.ptr 0 0),(3,.i_ p_w.aU),(4,.ptr 1 0),(46,.b_ r_)],[.box 52 (.dat (aG.lf1 p_w)),.box 49 (.dat (aT.lf1 r0))]⟩) ⟨[(1,.ptr 0 0),(3,.i_ p_w.aU),(4,.ptr 1 0),(37,.b_ r2)],[.box 52 (.dat (aG.lf1 p_w)),.box 49 (.dat (aT.lf1 r0))]⟩ (Hg p_w r0 r2).den (sW (by kernel_rfl)) fun r3 _ =>
 .sj Tryz.f107 0 [1,1,1,1,0] [35,36,37,38,39,40,41,42,43] 5 9 [1,3,4,46] 2 (fun r_=>⟨[(1,.ptr 0 0),(3,.i_ p_w.aU),(4,.ptr 1 0),(55,.b_ r_)],[.box 52 (.dat (aG.lf1 p_w)),.box 49 (.dat (aT.lf1 r0))]⟩) ⟨[(1,.ptr 0 0),(3,.i_ p_w.aU),(4,.ptr 1 0),(46,.b_ r3)],[.box 52 (.dat (aG.lf1 p_w)),.box 49 (.dat (aT.lf1 r0))]⟩ (Ho p_w r0 r3).den (sW (by kernel_rfl)) fun r4 _ =>
 .sj Tryz.f107 0 [1,1,1,1,0] [44,45,46,47,48,49,50,51] 5 8 [1,3,4,55] 2 (fun r_=>⟨[(1,.ptr 0 0),(3,.i_ p_w.aU),(63,.b_ r_)],[.box 52 (.dat (aG.lf1 p_w)),.dead]⟩) ⟨[(1,.ptr 0 0),(3,.i_ p_w.aU),(4,.ptr 1 0),(55,.b_ r4)],[.box 52 (.dat (aG.lf1 p_w)),.box 49 (.dat (aT.lf1 r0))]⟩ (Hq p_w r4 r0).den (sW (by kernel_rfl)) fun r5 _ =>
 .sj Tryz.f107 0 [1,1,1,1,0] [52,53,54,55,56,57,58,59,60] 5 9 [1,3,63] 2 (fun r_=>⟨[(1,.ptr 0 0),(3,.i_ p_w.aU),(72,.b_ r_)],[.box 52 (.dat (aG.lf1 p_w)),.dead]⟩) ⟨[(1,.ptr 0 0),(3,.i_ p_w.aU),(63,.b_ r5)],[.box 52 (.dat (aG.lf1 p_w)),.dead]⟩ (Hr p_w r5).den (sW (by kernel_rfl)) fun r6 _ =>
 .sj Tryz.f107 0 [1,1,1,1,0] [61,62,63,64,65,66,67,68,69,70,71,72,73] 5 13 [1,3,72] 2 (fun r_=>⟨[(1,.ptr 0 0),(3,.i_ p_w.aU),(85,.b_ r_)],[.box 52 (.dat (aG.lf1 p_w)),.dead]⟩) ⟨[(1,.ptr 0 0),(3,.i_ p_w.aU),(72,.b_ r6)],[.box 52 (.dat (aG.lf1 p_w)),.dead]⟩ (Ht p_w r6).den (sW (by kernel_rfl)) fun r7 _ =>
 .sj Tryz.f107 0 [1,1,1,1,0] [74,75,76,77,78,79,80,81,82,83] 5 10 [1,3,85] 2 (fun r_=>⟨[(1,.ptr 0 0),(3,.i_ p_w.aU),(95,.b_ r_)],[.box 52 (.dat (aG.lf1 p_w)),.dead]⟩) ⟨[(1,.ptr 0 0),(3,.i_ p_w.aU),(85,.b_ r7)],[.box 52 (.dat (aG.lf1 p_w)),.dead]⟩ (Hu p_w r7).den (sW (by kernel_rfl)) fun r8 _ =>
 .sj Tryz.f107 0 [1,1,1,1,0] [84,85,86,87,88,89,90,91,92,93] 5 10 [1,3,95] 2 (fun r_=>⟨[(105,.b_ r_)],[.dead,.dead]⟩) ⟨[(1,.ptr 0 0),(3,.i_ p_w.aU),(95,.b_ r8)],[.box 52 (.dat (aG.lf1 p_w)),.dead]⟩ (Hw p_w r8).den (sW (by kernel_rfl)) fun r9 _ =>
 .sj Tryz.f107 0 [1,1,1,1,0] [94] 5 1 [105] 2 (fun r_=>⟨[(2,.b_ r9)],[.dead,.dead]⟩) ⟨[(105,.b_ r9)],[.dead,.dead]⟩ (Hy r9).den (sW (by kernel_rfl)) fun r10 _ =>
 .ret (bC 1) (r9)
def Q26 (p_w:aG) : Option (Bool) := Mo.den (ag2 p_w)
theorem aiy (p_w:aG) : FV (Q26 p_w) 107 [.dat (aG.lf1 p_w)] (fun r=>.b_ r) := bY Tryz.func107 (by kernel_rfl) (fun _=>rfl) (by kernel_rfl)
def OM (p_l:List Int) (v0:Int) : Mo (Bool) :=
 .say [.order [(true,0),(true,1),(true,2),(true,3),(true,4),(true,5),(true,6),(true,7),(true,8),(true,9),(true,10),(true,11),(true,12),(true,13),(true,14),(true,15),(true,16),(true,17),(true,18),(true,19),(true,20),(true,21),(true,22),(true,23),(true,24),(true,25),(true,26),(true,27)] none []] ok0 <|
 .ask (bM p_l v0) fun x0 h0 =>
 .say [.row (lfI x0)] (ok1 (aX lI_ h0)) <|
 .iG 10005 (decide ((x0:Int) < 0)) (.rt [0,3,37] 0 (true)) <|
 .ask (bM p_l v0) fun x1 h1 =>
 .say [.row (lfI x1)] (ok1 (aX lI_ h1)) <|
 .iG 10012 (decide ((8:Int) ≤ x1)) (.rt [0,3,37] 0 (true)) <|
 .iG 10015 (decide ((0:Int) < v0)) (.ask (bM p_l (IntKind.wrap .i64 (v0 - 1))) fun x2 h2 =>
 .say [.row (lfI x2)] (ok1 (aX lI_ h2)) <|
 .ask (bM p_l v0) fun x3 h3 =>
 .say [.row (lfI x3)] (ok1 (aX lI_ h3)) <|
 .rt [0,3,37] 0 (decide ((x3:Int) ≤ x2))) <|
 .rt [0,3,37] 0 (false)
def Dx (p_l:List Int) : (Int) → Mo ((Int) ⊕ (Unit ⊕ Unit)) := fun (v0) =>
 .say [.num p_l.length] (ok1 (ln_ p_l lfI)) <|
 .iB (decide ((v0:Int) < (p_l.length:Int))) (.jp Tryz.f111 0 [1,0,1,0,0,1,0,0,0] 15 [0,3] 0 (.normal) (fun r_=>⟨[(0,.lf (.rows 1 (p_l.map lfI))),(3,.i_ v0),(37,.b_ r_)],[]⟩) ⟨[(0,.lf (.rows 1 (p_l.map lfI))),(3,.i_ v0)],[]⟩ (OM p_l v0).den (jW (by kernel_rfl)) fun r0 _ =>
 .iB (r0) (.rt [2] 0 (.inr (.inl ()))) <|
 .rt [0,3] 0 (.inl (IntKind.wrap .i64 (v0 + 1)))) <|
 .rt [0] 0 (.inr (.inr (())))
def aa4 (p_l:List Int) (v0:Int) : Option (Unit ⊕ Unit) := bK (fun v_=>(Dx p_l v_).den) FU (v0)
def OO (p_l:List Int) : (Int) → St := fun (v0)=>⟨[(0,.lf (.rows 1 (p_l.map lfI))),(3,.i_ v0)],[]⟩
def wz (r_:Unit ⊕ Unit) : Exit := match r_ with
 | .inl o_=>.ret
 | .inr (o_)=>.exit 0
def wB (p_l:List Int) (r_:Unit ⊕ Unit) : St := match r_ with
 | .inl o_=>⟨[(2,.b_ false)],[]⟩
 | .inr (o_)=>⟨[(0,.lf (.rows 1 (p_l.map lfI)))],[]⟩
theorem OQ {p_l:List Int} {v0:Int} {r_:Unit ⊕ Unit} (h:aa4 p_l v0 = some r_) : fQ Tryz.f111 0 [1,0,1,0] (wz r_) (wB p_l r_) (OO p_l (v0)) :=
 dO dK (body := (Code.sub (bodyC Tryz.f111) [1,0,1,0,0])) (by kernel_rfl) (Dx p_l) (OO p_l) wz (wB p_l) (fun r_=>by rcases r_ with _ | _ <;> rfl) (fun v_=>by kernel_rfl) h
def ag3 (p_l:List Int) : Mo (Bool) :=
 .eP (aa4 p_l 0) (fun o0 h0 =>
 .say [.pt_ 0 [0,3] 0 (wz (.inl o0)) (wB p_l (.inl o0))] (ok1 (OQ h0)) <|
 .ret (bC 1) (false)) fun o1 h0 =>
 .say [.pt_ 0 [0,3] 0 (wz (.inr (o1))) (wB p_l (.inr (o1))),.num p_l.length] (okc (OQ h0) (ok1 (ln_ p_l lfI))) <|
 .ret (bC 1) (decide ((0:Int) < (p_l.length:Int)))
def Q42 (p_l:List Int) : Option (Bool) := Mo.den (ag3 p_l)
theorem aiz (p_l:List Int) : FV (Q42 p_l) 111 [.lf (.rows 1 (p_l.map lfI))] (fun r=>.b_ r) := bY Tryz.func111 (by kernel_rfl) (fun _=>rfl) (by kernel_rfl)
def aa5 (p_v:ak) : Mo (Bool) :=
 .cl (qy p_v) fun r0 _ =>
 .iG 4002 (r0) (.rt [1,2,9] 1 (p_v.aU != 6)) <|
 .rt [1,2,9] 1 (false)
def aa6 (p_v:ak) (r0:Bool) : Mo (Bool) :=
 .iG 4007 (r0) (.rt [1,2,14] 1 (p_v.aU != 1)) <|
 .rt [1,2,14] 1 (false)
def X5 (p_v:ak) (r0:Bool) : Mo (Bool) :=
 .iG 4012 (r0) (.ret ⟨[.kill 0],[2,19],[],1⟩ (p_v.aU != 11)) <|
 .ret ⟨[.kill 0],[2,19],[],1⟩ (false)
def X6 (r0:Bool) : Mo (Unit) :=
 .rt [2] 1 ()
def ag4 (p_v:ak) : Mo (Bool) :=
 .sj Tryz.f113 0 [1,0] [0,1,2,3,4,5,6] 1 7 [1,2] 1 (fun r_=>⟨[(1,.ptr 0 0),(2,.b_ false),(9,.b_ r_)],[.box 29 (.dat (ak.lf1 p_v))]⟩) ⟨[(1,.ptr 0 0),(2,.b_ false)],[.box 29 (.dat (ak.lf1 p_v))]⟩ (aa5 p_v).den (sW (by kernel_rfl)) fun r0 _ =>
 .sj Tryz.f113 0 [1,0] [7,8,9,10,11] 1 5 [1,2,9] 1 (fun r_=>⟨[(1,.ptr 0 0),(2,.b_ false),(14,.b_ r_)],[.box 29 (.dat (ak.lf1 p_v))]⟩) ⟨[(1,.ptr 0 0),(2,.b_ false),(9,.b_ r0)],[.box 29 (.dat (ak.lf1 p_v))]⟩ (aa6 p_v r0).den (sW (by kernel_rfl)) fun r1 _ =>
 .sj Tryz.f113 0 [1,0] [12,13,14,15,16] 1 5 [1,2,14] 1 (fun r_=>⟨[(2,.b_ false),(19,.b_ r_)],[.dead]⟩) ⟨[(1,.ptr 0 0),(2,.b_ false),(14,.b_ r1)],[.box 29 (.dat (ak.lf1 p_v))]⟩ (X5 p_v r1).den (sW (by kernel_rfl)) fun r2 _ =>
 .sj Tryz.f113 0 [1,0] [17] 1 1 [2,19] 1 (fun r_=>⟨[(2,.b_ r2)],[.dead]⟩) ⟨[(2,.b_ false),(19,.b_ r2)],[.dead]⟩ (X6 r2).den (sW (by kernel_rfl)) fun r3 _ =>
 .ret (bC 1) (r2)
def Q76 (p_v:ak) : Option (Bool) := Mo.den (ag4 p_v)
theorem aiA (p_v:ak) : FV (Q76 p_v) 113 [.dat (ak.lf1 p_v)] (fun r=>.b_ r) := bY Tryz.func113 (by kernel_rfl) (fun _=>rfl) (by kernel_rfl)
def OT (p_doc:ak) : Mo (Bool) :=
 .cl (qy p_doc) fun r0 _ =>
 .ite (!r0) (fun c0 =>
 .say [.gd 4003 true] (ok1 c0) <|
 .rt [1,2,13] 2 (true)) fun c0 =>
 .say [.gd 4003 false,.num p_doc.bU.length] (okc c0 (ok1 (ln_ p_doc.bU aS.lf))) <|
 .rt [1,2,13] 2 ((p_doc.bU.length:Int) == 0)
def OU (p_doc:ak) (r0:Bool) : Mo (Bool) :=
 .iG 4009 (r0) (.rt [1,2,21] 2 (true)) <|
 .ask (bM p_doc.bU 0) fun x0 h0 =>
 .say [.row (aS.lf1 x0)] (ok1 (aX aS.aV h0)) <|
 .rt [1,2,21] 2 (!decide ((x0.fName:ByteArray) = (⟨#[95,105,100]⟩ : ByteArray)))
def zL (x0:aS) : Mo (Bool) :=
 .iG 10003 (x0.fValue.aU == 6) (.rt [2,4,35] 3 (true)) <|
 .rt [2,4,35] 3 (x0.fValue.aU == 1)
def Kz (x0:aS) : Option (Bool) := Mo.den (zL x0)
def rF (x0:aS) (r_:Bool) : St := ⟨[(2,.ptr 1 0),(4,.ptr 2 0),(35,.b_ r_)],[.dead,.box 29 (.agg [.i_ 0,.i_ 0,.lf (.str ⟨#[]⟩),.bI 5,.bI 6]),.box 29 (.agg [.i_ x0.fValue.aU,.i_ x0.fValue.jL,.lf (.str x0.fValue.fText),.lf (.rows 5 (x0.fValue.bV.map ak.lf)),.lf (.rows 6 (x0.fValue.bU.map aS.lf))])]⟩
theorem X7 {x0:aS} {r_:Bool} (h:Kz x0 = some r_) : MZ Tryz.f199 0 [1,1,1,0,0] [0,1,2,3,4,5,6,7] (rF x0 r_) ⟨[(2,.ptr 1 0),(4,.ptr 2 0)],[.dead,.box 29 (.agg [.i_ 0,.i_ 0,.lf (.str ⟨#[]⟩),.bI 5,.bI 6]),.box 29 (.agg [.i_ x0.fValue.aU,.i_ x0.fValue.jL,.lf (.str x0.fValue.fText),.lf (.rows 5 (x0.fValue.bV.map ak.lf)),.lf (.rows 6 (x0.fValue.bU.map aS.lf))])]⟩ :=
 Wn dK (zL x0) (rF x0) (by kernel_rfl) h
def Hz (r0:Bool) (x0:aS) : Mo (Bool) :=
 .iG 10008 (r0) (.rt [2,4,40] 3 (true)) <|
 .rt [2,4,40] 3 (x0.fValue.aU == 11)
def ag5 (p_doc:ak) : Mo (ak × Bool) :=
 .sj Tryz.f199 0 [1,0,0] [0,1,2,3,4,5,6,7,8] 1 9 [1,2] 2 (fun r_=>⟨[(1,.ptr 0 0),(2,.ptr 1 0),(13,.b_ r_)],[.box 29 (.dat (ak.lf1 p_doc)),.box 29 (.agg [.i_ 0,.i_ 0,.lf (.str ⟨#[]⟩),.bI 5,.bI 6])]⟩) ⟨[(1,.ptr 0 0),(2,.ptr 1 0)],[.box 29 (.dat (ak.lf1 p_doc)),.box 29 (.agg [.i_ 0,.i_ 0,.lf (.str ⟨#[]⟩),.bI 5,.bI 6])]⟩ (OT p_doc).den (sW (by kernel_rfl)) fun r0 _ =>
 .sj Tryz.f199 0 [1,0,0] [9,10,11,12,13,14,15,16] 1 8 [1,2,13] 2 (fun r_=>⟨[(1,.ptr 0 0),(2,.ptr 1 0),(21,.b_ r_)],[.box 29 (.dat (ak.lf1 p_doc)),.box 29 (.agg [.i_ 0,.i_ 0,.lf (.str ⟨#[]⟩),.bI 5,.bI 6])]⟩) ⟨[(1,.ptr 0 0),(2,.ptr 1 0),(13,.b_ r0)],[.box 29 (.dat (ak.lf1 p_doc)),.box 29 (.agg [.i_ 0,.i_ 0,.lf (.str ⟨#[]⟩),.bI 5,.bI 6])]⟩ (OU p_doc r0).den (sW (by kernel_rfl)) fun r1 _ =>
 .iB (r1) (.ret (bC 2) (ak.mk 0 0 ⟨#[]⟩ [] [],false)) <|
 .ask (bM p_doc.bU 0) fun x0 h0 =>
 .say [.row (aS.lf1 x0)] (ok1 (aX aS.aV h0)) <|
 .ask (Kz x0) fun r2 h1 =>
 .say [.seg 4 [.kill 0] 8 [2,4] 3 (rF x0 r2).T (rF x0 r2).H] (ok1 (X7 h1)) <|
 .sj Tryz.f199 0 [1,1,1,0,0] [8,9,10,11,12] 4 5 [2,4,35] 3 (fun r_=>⟨[(2,.ptr 1 0),(4,.ptr 2 0),(40,.b_ r_)],[.dead,.box 29 (.agg [.i_ 0,.i_ 0,.lf (.str ⟨#[]⟩),.bI 5,.bI 6]),.box 29 (.agg [.i_ x0.fValue.aU,.i_ x0.fValue.jL,.lf (.str x0.fValue.fText),.lf (.rows 5 (x0.fValue.bV.map ak.lf)),.lf (.rows 6 (x0.fValue.bU.map aS.lf))])]⟩) ⟨[(2,.ptr 1 0),(4,.ptr 2 0),(35,.b_ r2)],[.dead,.box 29 (.agg [.i_ 0,.i_ 0,.lf (.str ⟨#[]⟩),.bI 5,.bI 6]),.box 29 (.agg [.i_ x0.fValue.aU,.i_ x0.fValue.jL,.lf (.str x0.fValue.fText),.lf (.rows 5 (x0.fValue.bV.map ak.lf)),.lf (.rows 6 (x0.fValue.bU.map aS.lf))])]⟩ (Hz r2 x0).den (sW (by kernel_rfl)) fun r3 _ =>
 .iB (r3) (.ret (bC 2) (ak.mk 0 0 ⟨#[]⟩ [] [],false)) <|
 .ret (bC 2) (x0.fValue,true)
def Q54 (p_doc:ak) : Option (ak × Bool) := Mo.den (ag5 p_doc)
theorem aiB (p_doc:ak) : FV (Q54 p_doc) 199 [.dat (ak.lf1 p_doc)] (fun r=>.tup [.dat (ak.lf1 r.1),.b_ r.2]) := bY Tryz.func199 (by kernel_rfl) (fun _=>rfl) (by kernel_rfl)
def aa7 (p_v:ak) : Mo (Int × Int) :=
 .cl (WJ p_v) fun r0 _ =>
 .ret (bC 2) ((r0.1.size:Int),r0.2)
def aiC (p_v:ak) : Option (Int × Int) := Mo.den (aa7 p_v)
theorem ae9 (p_v:ak) : FV (aiC p_v) 200 [.dat (ak.lf1 p_v)] (fun r=>.tup [.i_ r.1,.i_ r.2]) := bY Tryz.func200 (by kernel_rfl) (fun _=>rfl) (by kernel_rfl)
def aa8 (p_doc:ak) : Mo (Int) :=
 .cl (aiB p_doc) fun r0 _ =>
 .iB (!r0.2) (.ret (bC 1) (8)) <|
 .cl (ae9 p_doc) fun r1 _ =>
 .iB (r1.2 != 0) (.ret (bC 1) (r1.2)) <|
 .iB (decide ((16384:Int) < r1.1)) (.ret (bC 1) (2)) <|
 .ret (bC 1) (0)
def afa (p_doc:ak) : Option (Int) := Mo.den (aa8 p_doc)
theorem WO (p_doc:ak) : FV (afa p_doc) 155 [.dat (ak.lf1 p_doc)] (fun r=>.i_ r) := bY Tryz.func155 (by kernel_rfl) (fun _=>rfl) (by kernel_rfl)
def aa9 (p_a:Int) (p_b:Int) : Mo (Int) :=
 .iB (decide ((p_a:Int) < p_b)) (.ret (bC 1) ((-1))) <|
 .iB (decide ((p_b:Int) < p_a)) (.ret (bC 1) (1)) <|
 .ret (bC 1) (0)
def afb (p_a:Int) (p_b:Int) : Option (Int) := Mo.den (aa9 p_a p_b)
theorem rG (p_a:Int) (p_b:Int) : FV (afb p_a p_b) 201 [.i_ p_a,.i_ p_b] (fun r=>.i_ r) := bY Tryz.func201 (by kernel_rfl) (fun _=>rfl) (by kernel_rfl)
def OV (p_a:ByteArray) (p_b:ByteArray) (v0:Int) : Mo (Bool) :=
 .iG 6004 (decide ((v0:Int) < (p_a.size:Int))) (.rt [0,1,5,15] 0 (decide ((v0:Int) < (p_b.size:Int)))) <|
 .rt [0,1,5,15] 0 (false)
def Dy (p_a:ByteArray) (p_b:ByteArray) : (Int) → Mo ((Int) ⊕ (Int) ⊕ Unit) := fun (v0) =>
 .jp Tryz.f202 0 [1,0,1,0,0,0,0] 11 [0,1,5] 0 (.normal) (fun r_=>⟨[(0,.lf (.str p_a)),(1,.lf (.str p_b)),(5,.i_ v0),(15,.b_ r_)],[]⟩) ⟨[(0,.lf (.str p_a)),(1,.lf (.str p_b)),(5,.i_ v0)],[]⟩ (OV p_a p_b v0).den (jW (by kernel_rfl)) fun r0 _ =>
 .ite (r0) (fun c0 =>
 .say [.br true,.order [(true,0),(true,1),(true,2),(true,3),(true,4),(true,5),(true,6)] none []] (ok1 c0) <|
 .ask (lM p_a v0) fun b0 h0 =>
 .say [.byt b0] (ok1 (iI h0)) <|
 .ask (lM p_b v0) fun b1 h1 =>
 .say [.byt b1] (ok1 (iI h1)) <|
 .iB ((b0.toNat:Int) != (b1.toNat:Int)) (.ask (lM p_a v0) fun b2 h2 =>
 .say [] (ok1 (iI h2)) <|
 .ask (lM p_b v0) fun b3 h3 =>
 .say [] (ok1 (iI h3)) <|
 .ask (afb (IntKind.wrap .i64 (b2.toNat:Int)) (IntKind.wrap .i64 (b3.toNat:Int))) fun r1 h4 =>
 .say [.dP (.q 0 (.q 1 (.q 2 (.q 3 (.q 4 (.q 5 (.q 6 (.q 7 (.l 8 (.q 9 .fin)))))))))) (some 8) [] [.byt b2,.byt b3,.res (.i_ r1)] [4] 0 [(4,.i_ r1)] []] (okc (rG _ _ _ h4) (ok1 (rf_ ⟨[(4,.i_ r1)],[]⟩))) <|
 .rt [4] 0 (.inr (.inl (r1)))) <|
 .rt [0,1,5] 0 (.inl (IntKind.wrap .i64 (v0 + 1)))) fun c0 =>
 .say [.br false] (ok1 c0) <|
 .rt [0,1] 0 (.inr (.inr (())))
def Uy (p_a:ByteArray) (p_b:ByteArray) (v0:Int) : Option ((Int) ⊕ Unit) := bK (fun v_=>(Dy p_a p_b v_).den) FU (v0)
def OW (p_a:ByteArray) (p_b:ByteArray) : (Int) → St := fun (v0)=>⟨[(0,.lf (.str p_a)),(1,.lf (.str p_b)),(5,.i_ v0)],[]⟩
def wC (r_:(Int) ⊕ Unit) : Exit := match r_ with
 | .inl o_=>.ret
 | .inr (o_)=>.exit 0
def wE (p_a:ByteArray) (p_b:ByteArray) (r_:(Int) ⊕ Unit) : St := match r_ with
 | .inl o_=>⟨[(4,.i_ o_)],[]⟩
 | .inr (o_)=>⟨[(0,.lf (.str p_a)),(1,.lf (.str p_b))],[]⟩
theorem OX {p_a:ByteArray} {p_b:ByteArray} {v0:Int} {r_:(Int) ⊕ Unit} (h:Uy p_a p_b v0 = some r_) : fQ Tryz.f202 0 [1,0,1,0] (wC r_) (wE p_a p_b r_) (OW p_a p_b (v0)) :=
 dO dK (body := (Code.sub (bodyC Tryz.f202) [1,0,1,0,0])) (by kernel_rfl) (Dy p_a p_b) (OW p_a p_b) wC (wE p_a p_b) (fun r_=>by rcases r_ with _ | _ <;> rfl) (fun v_=>by kernel_rfl) h
def ag6 (p_a:ByteArray) (p_b:ByteArray) : Mo (Int) :=
 .eP (Uy p_a p_b 0) (fun o0 h0 =>
 .say [.pt_ 0 [0,1,5] 0 (wC (.inl o0)) (wE p_a p_b (.inl o0))] (ok1 (OX h0)) <|
 .ret (bC 1) (o0)) fun o1 h0 =>
 .say [.pt_ 0 [0,1,5] 0 (wC (.inr (o1))) (wE p_a p_b (.inr (o1)))] (ok1 (OX h0)) <|
 .cl (rG (p_a.size:Int) (p_b.size:Int)) fun r0 _ =>
 .ret (bC 1) (r0)
def Q38 (p_a:ByteArray) (p_b:ByteArray) : Option (Int) := Mo.den (ag6 p_a p_b)
theorem abb (p_a:ByteArray) (p_b:ByteArray) : FV (Q38 p_a p_b) 202 [.lf (.str p_a),.lf (.str p_b)] (fun r=>.i_ r) := bY Tryz.func202 (by kernel_rfl) (fun _=>rfl) (by kernel_rfl)
structure RB9 where
 m1:(p_a:ak) → (p_b:ak) → Option (Int)
 ok1:∀ p_a p_b,FV (m1 p_a p_b) 156 [.dat (ak.lf1 p_a),.dat (ak.lf1 p_b)] (fun r=>.i_ r)
def WQ (R_:RB9) (p_a:ak) (p_b:ak) : Mo (Bool) :=
 .iB (p_a.aU == 3) (.rt [2,3,20,21] 2 (p_a.aU == 3)) <|
 .iB (p_a.aU == 9) (.rt [2,3,20,21] 2 (p_a.aU == 9)) <|
 .rt [2,3,20,21] 2 (p_a.aU == 10)
def WR (R_:RB9) (p_a:ak) (p_b:ak) : Mo (Bool) :=
 .iB (p_a.aU == 4) (.rt [2,3,20,30] 2 (p_a.aU == 4)) <|
 .iB (p_a.aU == 7) (.rt [2,3,20,30] 2 (p_a.aU == 7)) <|
 .rt [2,3,20,30] 2 (p_a.aU == 8)
def OY (R_:RB9) (p_a:ak) (p_b:ak) (v0:Int) : Mo (Bool) :=
 .say [.num p_a.bV.length] (ok1 (ln_ p_a.bV ak.lf)) <|
 .ite (decide ((v0:Int) < (p_a.bV.length:Int))) (fun c0 =>
 .say [.gd 30005 true,.num p_b.bV.length] (okc c0 (ok1 (ln_ p_b.bV ak.lf))) <|
 .rt [2,3,5,52] 2 (decide ((v0:Int) < (p_b.bV.length:Int)))) fun c0 =>
 .say [.gd 30005 false] (ok1 c0) <|
 .rt [2,3,5,52] 2 (false)
def Dz (R_:RB9) (p_a:ak) (p_b:ak) : (Int) → Mo ((Int) ⊕ (Int) ⊕ Unit) := fun (v0) =>
 .jp Tryz.f156 0 [1,1,0,1,0,1,1,1,1,1,0,0,1,0,0,0,0] 35 [2,3,5] 2 (.normal) (fun r_=>⟨[(2,.ptr 0 0),(3,.ptr 1 0),(5,.i_ v0),(52,.b_ r_)],[.box 29 (.dat (ak.lf1 p_a)),.box 29 (.dat (ak.lf1 p_b))]⟩) ⟨[(2,.ptr 0 0),(3,.ptr 1 0),(5,.i_ v0)],[.box 29 (.dat (ak.lf1 p_a)),.box 29 (.dat (ak.lf1 p_b))]⟩ (OY R_ p_a p_b v0).den (jW (by kernel_rfl)) fun r0 _ =>
 .iB (r0) (.ask (bM p_a.bV v0) fun x0 h0 =>
 .say [] (ok1 (aX ak.aV h0)) <|
 .ask (bM p_b.bV v0) fun x1 h1 =>
 .say [] (ok1 (aX ak.aV h1)) <|
 .ask (R_.m1 x0 x1) fun r1 h2 =>
 .say [.dP (.q 0 (.q 1 (.q 2 (.q 3 (.q 4 (.q 5 (.q 6 (.q 7 (.q 8 (.q 9 (.l 10 (.q 11 .fin)))))))))))) (some 10) [] [.row (ak.lf1 x0),.row (ak.lf1 x1),.res (.i_ r1)] [2,3,5,6] 2 [(2,.ptr 0 0),(3,.ptr 1 0),(5,.i_ v0),(6,.i_ r1)] [.box 29 (.dat (ak.lf1 p_a)),.box 29 (.dat (ak.lf1 p_b))]] (okc (R_.ok1 _ _ _ h2) (ok1 (rf_ ⟨[(2,.ptr 0 0),(3,.ptr 1 0),(5,.i_ v0),(6,.i_ r1)],[.box 29 (.dat (ak.lf1 p_a)),.box 29 (.dat (ak.lf1 p_b))]⟩))) <|
 .iB (r1 != 0) (.ret ⟨[.kill 0,.kill 1],[4],[],2⟩ (.inr (.inl (r1)))) <|
 .rt [2,3,5] 2 (.inl (IntKind.wrap .i64 (v0 + 1)))) <|
 .rt [2,3] 2 (.inr (.inr (())))
def Uz (R_:RB9) (p_a:ak) (p_b:ak) (v0:Int) : Option ((Int) ⊕ Unit) := bK (fun v_=>(Dz R_ p_a p_b v_).den) FU (v0)
def OZ (R_:RB9) (p_a:ak) (p_b:ak) : (Int) → St := fun (v0)=>⟨[(2,.ptr 0 0),(3,.ptr 1 0),(5,.i_ v0)],[.box 29 (.dat (ak.lf1 p_a)),.box 29 (.dat (ak.lf1 p_b))]⟩
def wF (r_:(Int) ⊕ Unit) : Exit := match r_ with
 | .inl o_=>.ret
 | .inr (o_)=>.exit 1
def wG (p_a:ak) (p_b:ak) (r_:(Int) ⊕ Unit) : St := match r_ with
 | .inl o_=>⟨[(4,.i_ o_)],[.dead,.dead]⟩
 | .inr (o_)=>⟨[(2,.ptr 0 0),(3,.ptr 1 0)],[.box 29 (.dat (ak.lf1 p_a)),.box 29 (.dat (ak.lf1 p_b))]⟩
theorem O1 {R_:RB9} {p_a:ak} {p_b:ak} {v0:Int} {r_:(Int) ⊕ Unit} (h:Uz R_ p_a p_b v0 = some r_) : fQ Tryz.f156 0 [1,1,0,1,0,1,1,1,1,1,0,0,1,0] (wF r_) (wG p_a p_b r_) (OZ R_ p_a p_b (v0)) :=
 dO dK (body := (Code.sub (bodyC Tryz.f156) [1,1,0,1,0,1,1,1,1,1,0,0,1,0,0])) (by kernel_rfl) (Dz R_ p_a p_b) (OZ R_ p_a p_b) wF (wG p_a p_b) (fun r_=>by rcases r_ with _ | _ <;> rfl) (fun v_=>by kernel_rfl) h
def O4 (R_:RB9) (p_a:ak) (p_b:ak) (v0:Int) : Mo (Bool) :=
 .say [.num p_a.bU.length] (ok1 (ln_ p_a.bU aS.lf)) <|
 .ite (decide ((v0:Int) < (p_a.bU.length:Int))) (fun c0 =>
 .say [.gd 46005 true,.num p_b.bU.length] (okc c0 (ok1 (ln_ p_b.bU aS.lf))) <|
 .rt [2,3,7,89] 2 (decide ((v0:Int) < (p_b.bU.length:Int)))) fun c0 =>
 .say [.gd 46005 false] (ok1 c0) <|
 .rt [2,3,7,89] 2 (false)
def O5 (R_:RB9) (p_a:ak) (p_b:ak) (r0:Int) (v0:Int) : Mo (Int) :=
 .iB (r0 == 0) (.ask (bM p_a.bU v0) fun x0 h0 =>
 .say [] (ok1 (aX aS.aV h0)) <|
 .ask (bM p_b.bU v0) fun x1 h1 =>
 .say [] (ok1 (aX aS.aV h1)) <|
 .ask (R_.m1 x0.fValue x1.fValue) fun r1 h2 =>
 .say [.dP (.q 0 (.q 1 (.q 2 (.q 3 (.q 4 (.q 5 (.q 6 (.q 7 (.q 8 (.q 9 (.q 10 (.q 11 (.l 12 (.q 13 .fin)))))))))))))) (some 12) [] [.row (aS.lf1 x0),.row (aS.lf1 x1),.res (.i_ r1)] [2,3,7,8] 2 [(2,.ptr 0 0),(3,.ptr 1 0),(7,.i_ v0),(8,.i_ r1)] [.box 29 (.dat (ak.lf1 p_a)),.box 29 (.dat (ak.lf1 p_b))]] (okc (R_.ok1 _ _ _ h2) (ok1 (rf_ ⟨[(2,.ptr 0 0),(3,.ptr 1 0),(7,.i_ v0),(8,.i_ r1)],[.box 29 (.dat (ak.lf1 p_a)),.box 29 (.dat (ak.lf1 p_b))]⟩))) <|
 .rt [2,3,7,8] 2 (r1)) <|
 .rt [2,3,7,8] 2 (r0)
def DC (R_:RB9) (p_a:ak) (p_b:ak) : (Int) → Mo ((Int) ⊕ (Int) ⊕ Unit) := fun (v0) =>
 .jp Tryz.f156 0 [1,1,0,1,0,1,1,1,1,1,1,1,0,0,1,0,0,0,0] 51 [2,3,7] 2 (.normal) (fun r_=>⟨[(2,.ptr 0 0),(3,.ptr 1 0),(7,.i_ v0),(89,.b_ r_)],[.box 29 (.dat (ak.lf1 p_a)),.box 29 (.dat (ak.lf1 p_b))]⟩) ⟨[(2,.ptr 0 0),(3,.ptr 1 0),(7,.i_ v0)],[.box 29 (.dat (ak.lf1 p_a)),.box 29 (.dat (ak.lf1 p_b))]⟩ (O4 R_ p_a p_b v0).den (jW (by kernel_rfl)) fun r0 _ =>
 .iB (r0) (.ask (bM p_a.bU v0) fun x0 h0 =>
 .say [] (ok1 (aX aS.aV h0)) <|
 .ask (bM p_b.bU v0) fun x1 h1 =>
 .say [] (ok1 (aX aS.aV h1)) <|
 .ask (Q38 x0.fName x1.fName) fun r1 h2 =>
 .say [.dP (.q 0 (.q 1 (.q 2 (.q 3 (.q 4 (.q 5 (.q 6 (.q 7 (.q 8 (.q 9 (.q 10 (.q 11 (.l 12 (.q 13 .fin)))))))))))))) (some 12) [] [.row (aS.lf1 x0),.row (aS.lf1 x1),.res (.i_ r1)] [2,3,7,8] 2 [(2,.ptr 0 0),(3,.ptr 1 0),(7,.i_ v0),(8,.i_ r1)] [.box 29 (.dat (ak.lf1 p_a)),.box 29 (.dat (ak.lf1 p_b))]] (okc (abb _ _ _ h2) (ok1 (rf_ ⟨[(2,.ptr 0 0),(3,.ptr 1 0),(7,.i_ v0),(8,.i_ r1)],[.box 29 (.dat (ak.lf1 p_a)),.box 29 (.dat (ak.lf1 p_b))]⟩))) <|
 .jp Tryz.f156 0 [1,1,0,1,0,1,1,1,1,1,1,1,0,0,1,0,0,1,0,0,1,0,1] 1 [2,3,7,8,106] 2 (.normal) (fun r_=>⟨[(2,.ptr 0 0),(3,.ptr 1 0),(7,.i_ v0),(8,.i_ r_)],[.box 29 (.dat (ak.lf1 p_a)),.box 29 (.dat (ak.lf1 p_b))]⟩) ⟨[(2,.ptr 0 0),(3,.ptr 1 0),(7,.i_ v0),(8,.i_ r1),(106,.lf (.bool (r1 == 0)))],[.box 29 (.dat (ak.lf1 p_a)),.box 29 (.dat (ak.lf1 p_b))]⟩ (O5 R_ p_a p_b r1 v0).den (jW (by kernel_rfl)) fun r2 _ =>
 .iB (r2 != 0) (.ret ⟨[.kill 0,.kill 1],[4],[],2⟩ (.inr (.inl (r2)))) <|
 .rt [2,3,7] 2 (.inl (IntKind.wrap .i64 (v0 + 1)))) <|
 .rt [2,3] 2 (.inr (.inr (())))
def UA (R_:RB9) (p_a:ak) (p_b:ak) (v0:Int) : Option ((Int) ⊕ Unit) := bK (fun v_=>(DC R_ p_a p_b v_).den) FU (v0)
def O6 (R_:RB9) (p_a:ak) (p_b:ak) : (Int) → St := fun (v0)=>⟨[(2,.ptr 0 0),(3,.ptr 1 0),(7,.i_ v0)],[.box 29 (.dat (ak.lf1 p_a)),.box 29 (.dat (ak.lf1 p_b))]⟩
def wH (r_:(Int) ⊕ Unit) : Exit := match r_ with
 | .inl o_=>.ret
 | .inr (o_)=>.exit 3
def wI (p_a:ak) (p_b:ak) (r_:(Int) ⊕ Unit) : St := match r_ with
 | .inl o_=>⟨[(4,.i_ o_)],[.dead,.dead]⟩
 | .inr (o_)=>⟨[(2,.ptr 0 0),(3,.ptr 1 0)],[.box 29 (.dat (ak.lf1 p_a)),.box 29 (.dat (ak.lf1 p_b))]⟩
theorem O7 {R_:RB9} {p_a:ak} {p_b:ak} {v0:Int} {r_:(Int) ⊕ Unit} (h:UA R_ p_a p_b v0 = some r_) : fQ Tryz.f156 0 [1,1,0,1,0,1,1,1,1,1,1,1,0,0,1,0] (wH r_) (wI p_a p_b r_) (O6 R_ p_a p_b (v0)) :=
 dO dK (body := (Code.sub (bodyC Tryz.f156) [1,1,0,1,0,1,1,1,1,1,1,1,0,0,1,0,0])) (by kernel_rfl) (DC R_ p_a p_b) (O6 R_ p_a p_b) wH (wI p_a p_b) (fun r_=>by rcases r_ with _ | _ <;> rfl) (fun v_=>by kernel_rfl) h
def aiD (R_:RB9) (p_a:ak) (p_b:ak) : Mo (Int) :=
 .iB (p_a.aU != p_b.aU) (.cl (rG p_a.aU p_b.aU) fun r0 _ =>
 .ret (bC 1) (r0)) <|
 .jp Tryz.f156 0 [1,1,0,1,0,0,1] 1 [2,3,20,21] 2 (.normal) (fun r_=>⟨[(2,.ptr 0 0),(3,.ptr 1 0),(20,.i_ p_a.aU),(21,.b_ r_)],[.box 29 (.dat (ak.lf1 p_a)),.box 29 (.dat (ak.lf1 p_b))]⟩) ⟨[(2,.ptr 0 0),(3,.ptr 1 0),(20,.i_ p_a.aU),(21,.lf (.bool (p_a.aU == 3)))],[.box 29 (.dat (ak.lf1 p_a)),.box 29 (.dat (ak.lf1 p_b))]⟩ (WQ R_ p_a p_b).den (jW (by kernel_rfl)) fun r1 _ =>
 .iB (r1) (.cl (rG p_a.jL p_b.jL) fun r2 _ =>
 .ret (bC 1) (r2)) <|
 .jp Tryz.f156 0 [1,1,0,1,0,1,1,0,1] 1 [2,3,20,30] 2 (.normal) (fun r_=>⟨[(2,.ptr 0 0),(3,.ptr 1 0),(20,.i_ p_a.aU),(30,.b_ r_)],[.box 29 (.dat (ak.lf1 p_a)),.box 29 (.dat (ak.lf1 p_b))]⟩) ⟨[(2,.ptr 0 0),(3,.ptr 1 0),(20,.i_ p_a.aU),(30,.lf (.bool (p_a.aU == 4)))],[.box 29 (.dat (ak.lf1 p_a)),.box 29 (.dat (ak.lf1 p_b))]⟩ (WR R_ p_a p_b).den (jW (by kernel_rfl)) fun r3 _ =>
 .iB (r3) (.cl (abb p_a.fText p_b.fText) fun r4 _ =>
 .ret (bC 1) (r4)) <|
 .iB (p_a.aU == 6) (.eP (Uz R_ p_a p_b 0) (fun o0 h0 =>
 .say [.pt_ 0 [2,3,5] 2 (wF (.inl o0)) (wG p_a p_b (.inl o0))] (ok1 (O1 h0)) <|
 .ret (bC 1) (o0)) fun o1 h0 =>
 .say [.pt_ 0 [2,3,5] 2 (wF (.inr (o1))) (wG p_a p_b (.inr (o1))),.num p_a.bV.length,.num p_b.bV.length] (okc (O1 h0) (okc (ln_ p_a.bV ak.lf) (ok1 (ln_ p_b.bV ak.lf)))) <|
 .cl (rG (p_a.bV.length:Int) (p_b.bV.length:Int)) fun r5 _ =>
 .ret (bC 1) (r5)) <|
 .iB (p_a.aU == 5) (.eP (UA R_ p_a p_b 0) (fun o2 h1 =>
 .say [.pt_ 0 [2,3,7] 2 (wH (.inl o2)) (wI p_a p_b (.inl o2))] (ok1 (O7 h1)) <|
 .ret (bC 1) (o2)) fun o3 h1 =>
 .say [.pt_ 0 [2,3,7] 2 (wH (.inr (o3))) (wI p_a p_b (.inr (o3))),.num p_a.bU.length,.num p_b.bU.length] (okc (O7 h1) (okc (ln_ p_a.bU aS.lf) (ok1 (ln_ p_b.bU aS.lf)))) <|
 .cl (rG (p_a.bU.length:Int) (p_b.bU.length:Int)) fun r6 _ =>
 .ret (bC 1) (r6)) <|
 .ret (bC 1) (0)
theorem aiE (R_:RB9) (p_a:ak) (p_b:ak) : FV (Mo.den (aiD R_ p_a p_b)) 156 [.dat (ak.lf1 p_a),.dat (ak.lf1 p_b)] (fun r=>.i_ r) := bY Tryz.func156 (by kernel_rfl) (fun _=>rfl) (by kernel_rfl)
def HY:Nat → RB9
 | 0=>{ m1 := fun p_a p_b=>none,ok1 := fun _ _ _ h=>(by cases h) }
 | n_ + 1=>{ m1 := fun p_a p_b=>Mo.den (aiD (HY n_) p_a p_b),ok1 := aiE (HY n_) }
def Q4 (p_a:ak) (p_b:ak) : Option (Int) := (HY FU).m1 p_a p_b
theorem akA (p_a:ak) (p_b:ak) : FV (Q4 p_a p_b) 156 [.dat (ak.lf1 p_a),.dat (ak.lf1 p_b)] (fun r=>.i_ r) := (HY FU).ok1 p_a p_b
def H6 (p_doc:ak) (p_key:ak) (r0:Int) : Mo (Bool) :=
 .iG 6002 (r0 != 0) (.rt [2,3,5,13] 2 (r0 != 2)) <|
 .rt [2,3,5,13] 2 (false)
def abd (p_doc:ak) (p_key:ak) : Mo (Int) :=
 .cl (WO p_doc) fun r0 _ =>
 .jp Tryz.f114 0 [1,0,1,0] 11 [2,3,5] 2 (.normal) (fun r_=>⟨[(2,.ptr 0 0),(3,.ptr 1 0),(5,.i_ r0),(13,.b_ r_)],[.box 29 (.dat (ak.lf1 p_doc)),.box 29 (.dat (ak.lf1 p_key))]⟩) ⟨[(2,.ptr 0 0),(3,.ptr 1 0),(5,.i_ r0)],[.box 29 (.dat (ak.lf1 p_doc)),.box 29 (.dat (ak.lf1 p_key))]⟩ (H6 p_doc p_key r0).den (jW (by kernel_rfl)) fun r1 _ =>
 .iB (r1) (.ret (bC 1) (r0)) <|
 .ask (bM p_doc.bU 0) fun x0 h0 =>
 .say [] (ok1 (aX aS.aV h0)) <|
 .ask (Q4 x0.fValue p_key) fun r2 h1 =>
 .say [.dP (.q 0 (.q 1 (.q 2 (.q 3 (.q 4 (.q 5 (.l 6 (.q 7 .fin)))))))) (some 6) [] [.row (aS.lf1 x0),.res (.i_ r2)] [2,22] 2 [(2,.ptr 0 0),(22,.lf (.bool (r2 != 0)))] [.box 29 (.dat (ak.lf1 p_doc)),.box 29 (.dat (ak.lf1 p_key))]] (okc (akA _ _ _ h1) (ok1 (rf_ ⟨[(2,.ptr 0 0),(22,.lf (.bool (r2 != 0)))],[.box 29 (.dat (ak.lf1 p_doc)),.box 29 (.dat (ak.lf1 p_key))]⟩))) <|
 .iB (r2 != 0) (.ret (bC 1) (8)) <|
 .cl (WO p_doc) fun r3 _ =>
 .ret (bC 1) (r3)
def aiF (p_doc:ak) (p_key:ak) : Option (Int) := Mo.den (abd p_doc p_key)
theorem WS (p_doc:ak) (p_key:ak) : FV (aiF p_doc p_key) 114 [.dat (ak.lf1 p_doc),.dat (ak.lf1 p_key)] (fun r=>.i_ r) := bY Tryz.func114 (by kernel_rfl) (fun _=>rfl) (by kernel_rfl)
def DF (p_a:List ByteArray) (p_b:List ByteArray) : (Int) → Mo ((Int) ⊕ (Unit ⊕ Unit)) := fun (v0) =>
 .say [.num p_a.length] (ok1 (ln_ p_a lfS)) <|
 .ite (decide ((v0:Int) < (p_a.length:Int))) (fun c0 =>
 .say [.br true,.order [(true,0),(true,1),(true,2),(true,3),(true,4),(true,5),(true,6),(true,7),(true,8)] none []] (ok1 c0) <|
 .ask (bM p_a v0) fun x0 h0 =>
 .say [.row (lfS x0)] (ok1 (aX lS_ h0)) <|
 .ask (bM p_b v0) fun x1 h1 =>
 .say [.row (lfS x1)] (ok1 (aX lS_ h1)) <|
 .iB (!decide ((x0:ByteArray) = (x1:ByteArray))) (.rt [4] 0 (.inr (.inl ()))) <|
 .rt [0,1,5] 0 (.inl (IntKind.wrap .i64 (v0 + 1)))) fun c0 =>
 .say [.br false] (ok1 c0) <|
 .rt [] 0 (.inr (.inr (())))
def abe (p_a:List ByteArray) (p_b:List ByteArray) (v0:Int) : Option (Unit ⊕ Unit) := bK (fun v_=>(DF p_a p_b v_).den) FU (v0)
def O8 (p_a:List ByteArray) (p_b:List ByteArray) : (Int) → St := fun (v0)=>⟨[(0,.lf (.rows 1 (p_a.map lfS))),(1,.lf (.rows 1 (p_b.map lfS))),(5,.i_ v0)],[]⟩
def wJ (r_:Unit ⊕ Unit) : Exit := match r_ with
 | .inl o_=>.ret
 | .inr (o_)=>.exit 0
def wK  (r_:Unit ⊕ Unit) : St := match r_ with
 | .inl o_=>⟨[(4,.b_ false)],[]⟩
 | .inr (o_)=>⟨[],[]⟩
theorem O9 {p_a:List ByteArray} {p_b:List ByteArray} {v0:Int} {r_:Unit ⊕ Unit} (h:abe p_a p_b v0 = some r_) : fQ Tryz.f204 0 [1,1,0,1,0] (wJ r_) (wK r_) (O8 p_a p_b (v0)) :=
 dO dK (body := (Code.sub (bodyC Tryz.f204) [1,1,0,1,0,0])) (by kernel_rfl) (DF p_a p_b) (O8 p_a p_b) wJ wK (fun r_=>by rcases r_ with _ | _ <;> rfl) (fun v_=>by kernel_rfl) h
def ag7 (p_a:List ByteArray) (p_b:List ByteArray) : Mo (Bool) :=
 .say [.num p_a.length,.num p_b.length] (okc (ln_ p_a lfS) (ok1 (ln_ p_b lfS))) <|
 .iB ((p_a.length:Int) != (p_b.length:Int)) (.ret (bC 1) (false)) <|
 .eP (abe p_a p_b 0) (fun o0 h0 =>
 .say [.pt_ 0 [0,1,5] 0 (wJ (.inl o0)) (wK (.inl o0))] (ok1 (O9 h0)) <|
 .ret (bC 1) (false)) fun o1 h0 =>
 .say [.pt_ 0 [0,1,5] 0 (wJ (.inr (o1))) (wK (.inr (o1)))] (ok1 (O9 h0)) <|
 .ret (bC 1) (true)
def Q52 (p_a:List ByteArray) (p_b:List ByteArray) : Option (Bool) := Mo.den (ag7 p_a p_b)
theorem aiG (p_a:List ByteArray) (p_b:List ByteArray) : FV (Q52 p_a p_b) 204 [.lf (.rows 1 (p_a.map lfS)),.lf (.rows 1 (p_b.map lfS))] (fun r=>.b_ r) := bY Tryz.func204 (by kernel_rfl) (fun _=>rfl) (by kernel_rfl)
def DI (p_l:List bf) (v0:Int) : (Int) → Mo ((Int) ⊕ (Unit ⊕ Unit)) := fun (v1) =>
 .ite (decide ((v1:Int) < v0)) (fun c0 =>
 .say [.br true,.order [(true,0),(true,1),(true,2),(true,3),(true,4),(true,5),(true,6),(true,7),(true,8),(true,9),(false,10)] (some 10) []] (ok1 c0) <|
 .ask (bM p_l v0) fun x0 h0 =>
 .say [.row (bf.lf1 x0)] (ok1 (aX bf.aV h0)) <|
 .ask (bM p_l v1) fun x1 h1 =>
 .say [.row (bf.lf1 x1)] (ok1 (aX bf.aV h1)) <|
 .cl (aiG x0.cZ x1.cZ) fun r0 _ =>
 .iB (r0) (.rt [2] 0 (.inr (.inl ()))) <|
 .rt [0,3,4] 0 (.inl (IntKind.wrap .i64 (v1 + 1)))) fun c0 =>
 .say [.br false] (ok1 c0) <|
 .rt [0,3] 0 (.inr (.inr (())))
def abf (p_l:List bf) (v0:Int) (v1:Int) : Option (Unit ⊕ Unit) := bK (fun v_=>(DI p_l v0 v_).den) FU (v1)
def Pe (p_l:List bf) (v0:Int) : (Int) → St := fun (v1)=>⟨[(0,.lf (.rows 2 (p_l.map bf.lf))),(3,.i_ v0),(4,.i_ v1)],[]⟩
def wL (r_:Unit ⊕ Unit) : Exit := match r_ with
 | .inl o_=>.ret
 | .inr (o_)=>.exit 2
def wM (p_l:List bf) (v0:Int) (r_:Unit ⊕ Unit) : St := match r_ with
 | .inl o_=>⟨[(2,.i_ 12)],[]⟩
 | .inr (o_)=>⟨[(0,.lf (.rows 2 (p_l.map bf.lf))),(3,.i_ v0)],[]⟩
theorem Pg {p_l:List bf} {v0:Int} {v1:Int} {r_:Unit ⊕ Unit} (h:abf p_l v0 v1 = some r_) : fQ Tryz.f159 0 [1,1,0,1,0,0,1,0,0,1,1,0] (wL r_) (wM p_l v0 r_) (Pe p_l v0 (v1)) :=
 dO dK (body := (Code.sub (bodyC Tryz.f159) [1,1,0,1,0,0,1,0,0,1,1,0,0])) (by kernel_rfl) (DI p_l v0) (Pe p_l v0) wL (wM p_l v0) (fun r_=>by rcases r_ with _ | _ <;> rfl) (fun v_=>by kernel_rfl) h
def DJ (p_l:List bf) : (Int) → Mo ((Int) ⊕ (Int) ⊕ Unit) := fun (v0) =>
 .say [.num p_l.length] (ok1 (ln_ p_l bf.lf)) <|
 .iB (decide ((v0:Int) < (p_l.length:Int))) (.ask (bM p_l v0) fun x0 h0 =>
 .say [.row (bf.lf1 x0)] (ok1 (aX bf.aV h0)) <|
 .cl (CS x0.cZ) fun r0 _ =>
 .iB (!r0) (.rt [2] 0 (.inr (.inl (10)))) <|
 .eP (abf p_l v0 0) (fun o0 h1 =>
 .say [.pt_ 0 [0,3,4] 0 (wL (.inl o0)) (wM p_l v0 (.inl o0))] (ok1 (Pg h1)) <|
 .rt [2] 0 (.inr (.inl (12)))) fun o1 h1 =>
 .say [.pt_ 0 [0,3,4] 0 (wL (.inr (o1))) (wM p_l v0 (.inr (o1)))] (ok1 (Pg h1)) <|
 .rt [0,3] 0 (.inl (IntKind.wrap .i64 (v0 + 1)))) <|
 .rt [] 0 (.inr (.inr (())))
def abg (p_l:List bf) (v0:Int) : Option ((Int) ⊕ Unit) := bK (fun v_=>(DJ p_l v_).den) FU (v0)
def Ph (p_l:List bf) : (Int) → St := fun (v0)=>⟨[(0,.lf (.rows 2 (p_l.map bf.lf))),(3,.i_ v0)],[]⟩
def wO (r_:(Int) ⊕ Unit) : Exit := match r_ with
 | .inl o_=>.ret
 | .inr (o_)=>.exit 0
def wP  (r_:(Int) ⊕ Unit) : St := match r_ with
 | .inl o_=>⟨[(2,.i_ o_)],[]⟩
 | .inr (o_)=>⟨[],[]⟩
theorem Pj {p_l:List bf} {v0:Int} {r_:(Int) ⊕ Unit} (h:abg p_l v0 = some r_) : fQ Tryz.f159 0 [1,1,0,1,0] (wO r_) (wP r_) (Ph p_l (v0)) :=
 dO dK (body := (Code.sub (bodyC Tryz.f159) [1,1,0,1,0,0])) (by kernel_rfl) (DJ p_l) (Ph p_l) wO wP (fun r_=>by rcases r_ with _ | _ <;> rfl) (fun v_=>by kernel_rfl) h
def ag8 (p_l:List bf) : Mo (Int) :=
 .say [.num p_l.length] (ok1 (ln_ p_l bf.lf)) <|
 .iB (decide ((8:Int) < (p_l.length:Int))) (.ret (bC 1) (2)) <|
 .eP (abg p_l 0) (fun o0 h0 =>
 .say [.pt_ 0 [0,3] 0 (wO (.inl o0)) (wP (.inl o0))] (ok1 (Pj h0)) <|
 .ret (bC 1) (o0)) fun o1 h0 =>
 .say [.pt_ 0 [0,3] 0 (wO (.inr (o1))) (wP (.inr (o1)))] (ok1 (Pj h0)) <|
 .ret (bC 1) (0)
def Q15 (p_l:List bf) : Option (Int) := Mo.den (ag8 p_l)
theorem aiH (p_l:List bf) : FV (Q15 p_l) 159 [.lf (.rows 2 (p_l.map bf.lf))] (fun r=>.i_ r) := bY Tryz.func159 (by kernel_rfl) (fun _=>rfl) (by kernel_rfl)
structure UC where
 m1:(p_p:aK) → (p_levels:Int) → (p_left:Int) → Option (Int)
 ok1:∀ p_p p_levels p_left,FV (m1 p_p p_levels p_left) 205 [.dat (aK.lf1 p_p),.i_ p_levels,.i_ p_left] (fun r=>.i_ r)
def Pm (R_:UC) (p_left:Int) (p_levels:Int) (p_p:aK) : Mo (Bool) :=
 .iG 4002 (p_levels == 0) (.rt [1,2,3,13] 1 (true)) <|
 .rt [1,2,3,13] 1 (decide ((p_left:Int) ≤ 0))
def Pn (R_:UC) (p_levels:Int) (p_p:aK) (v0:Int) (v1:Int) : Mo (Bool) :=
 .say [.num p_p.bg.length] (ok1 (ln_ p_p.bg aK.lf)) <|
 .iG 12005 (decide ((v1:Int) < (p_p.bg.length:Int))) (.rt [1,2,3,7,24] 1 (decide ((0:Int) ≤ v0))) <|
 .rt [1,2,3,7,24] 1 (false)
def H7 (R_:UC) (p_levels:Int) (p_p:aK) : (Int × Int) → Mo ((Int × Int) ⊕ (Int)) := fun (v0,v1) =>
 .jp Tryz.f205 0 [1,1,1,0,1,0,0,0,0] 17 [1,2,3,7] 1 (.normal) (fun r_=>⟨[(1,.i_ p_levels),(2,.i_ v0),(3,.ptr 0 0),(7,.i_ v1),(24,.b_ r_)],[.box 47 (.dat (aK.lf1 p_p))]⟩) ⟨[(1,.i_ p_levels),(2,.i_ v0),(3,.ptr 0 0),(7,.i_ v1)],[.box 47 (.dat (aK.lf1 p_p))]⟩ (Pn R_ p_levels p_p v0 v1).den (jW (by kernel_rfl)) fun r0 _ =>
 .iB (r0) (.ask (bM p_p.bg v1) fun x0 h0 =>
 .say [.row (aK.lf1 x0)] (ok1 (aX aK.aV h0)) <|
 .cl (R_.ok1 x0 (IntKind.wrap .i64 (p_levels - 1)) v0) fun r1 _ =>
 .rt [1,2,3,7] 1 (.inl (r1,IntKind.wrap .i64 (v1 + 1)))) <|
 .ret ⟨[.kill 0],[2],[],1⟩ (.inr (v0))
def afc (R_:UC) (p_levels:Int) (p_p:aK) (v0:Int) (v1:Int) : Option (Int) := bK (fun v_=>(H7 R_ p_levels p_p v_).den) FU (v0,v1)
def abh (R_:UC) (p_p:aK) (p_levels:Int) (p_left:Int) : Mo (Int) :=
 .jp Tryz.f205 0 [1,0,0] 9 [1,2,3] 1 (.normal) (fun r_=>⟨[(1,.i_ p_levels),(2,.i_ p_left),(3,.ptr 0 0),(13,.b_ r_)],[.box 47 (.dat (aK.lf1 p_p))]⟩) ⟨[(1,.i_ p_levels),(2,.i_ p_left),(3,.ptr 0 0)],[.box 47 (.dat (aK.lf1 p_p))]⟩ (Pm R_ p_left p_levels p_p).den (jW (by kernel_rfl)) fun r0 _ =>
 .iB (r0) (.ret (bC 1) ((-1))) <|
 .lp Tryz.f205 0 [1,1,1,0,1,0] 0 [1,2,3,7] 1 (.exit 0) (fun r_=>⟨[(2,.i_ r_)],[.dead]⟩) (afc R_ p_levels p_p (IntKind.wrap .i64 (p_left - 1)) 0) (lW (fun (v0,v1)=>⟨[(1,.i_ p_levels),(2,.i_ v0),(3,.ptr 0 0),(7,.i_ v1)],[.box 47 (.dat (aK.lf1 p_p))]⟩) (by kernel_rfl) rfl fun v_=>by kernel_rfl) fun r1 _ =>
 .ret (bC 1) (r1)
theorem afd (R_:UC) (p_p:aK) (p_levels:Int) (p_left:Int) : FV (Mo.den (abh R_ p_p p_levels p_left)) 205 [.dat (aK.lf1 p_p),.i_ p_levels,.i_ p_left] (fun r=>.i_ r) := bY Tryz.func205 (by kernel_rfl) (fun _=>rfl) (by kernel_rfl)
def oQ:Nat → UC
 | 0=>{ m1 := fun p_p p_levels p_left=>none,ok1 := fun _ _ _ _ h=>(by cases h) }
 | n_ + 1=>{ m1 := fun p_p p_levels p_left=>Mo.den (abh (oQ n_) p_p p_levels p_left),ok1 := afd (oQ n_) }
def Q71 (p_p:aK) (p_levels:Int) (p_left:Int) : Option (Int) := (oQ FU).m1 p_p p_levels p_left
theorem aiI (p_p:aK) (p_levels:Int) (p_left:Int) : FV (Q71 p_p p_levels p_left) 205 [.dat (aK.lf1 p_p),.i_ p_levels,.i_ p_left] (fun r=>.i_ r) := (oQ FU).ok1 p_p p_levels p_left
def X8 (p_p:aK) : Mo (Bool) :=
 .iB (p_p.fOp == 15) (.rt [1,4,5] 1 (p_p.fOp == 15)) <|
 .rt [1,4,5] 1 (p_p.fOp == 23)
def X9 (p_p:aK) : Mo (Bool) :=
 .iB (p_p.fOp == 20) (.rt [1,12] 1 (p_p.fOp == 20)) <|
 .iB (p_p.fOp == 21) (.rt [1,12] 1 (p_p.fOp == 21)) <|
 .rt [1,12] 1 (p_p.fOp == 22)
def abj (p_p:aK) : Mo (Bool) :=
 .jp Tryz.f242 0 [1,0,1,0,0,1] 1 [1,4,5] 1 (.normal) (fun r_=>⟨[(1,.ptr 0 0),(4,.i_ p_p.fOp),(5,.b_ r_)],[.box 47 (.dat (aK.lf1 p_p))]⟩) ⟨[(1,.ptr 0 0),(4,.i_ p_p.fOp),(5,.lf (.bool (p_p.fOp == 15)))],[.box 47 (.dat (aK.lf1 p_p))]⟩ (X8 p_p).den (jW (by kernel_rfl)) fun r0 _ =>
 .ite (r0) (fun c0 =>
 .say [.br true,.num p_p.bg.length] (okc c0 (ok1 (ln_ p_p.bg aK.lf))) <|
 .ret (bC 1) ((p_p.bg.length:Int) == 1)) fun c0 =>
 .say [.br false] (ok1 c0) <|
 .jp Tryz.f242 0 [1,0,1,0,1,1,0,1] 1 [1,4,12] 1 (.normal) (fun r_=>⟨[(1,.ptr 0 0),(12,.b_ r_)],[.box 47 (.dat (aK.lf1 p_p))]⟩) ⟨[(1,.ptr 0 0),(4,.i_ p_p.fOp),(12,.lf (.bool (p_p.fOp == 20)))],[.box 47 (.dat (aK.lf1 p_p))]⟩ (X9 p_p).den (jW (by kernel_rfl)) fun r1 _ =>
 .ite (r1) (fun c1 =>
 .say [.br true,.num p_p.bg.length] (okc c1 (ok1 (ln_ p_p.bg aK.lf))) <|
 .ret (bC 1) (decide ((0:Int) < (p_p.bg.length:Int)))) fun c1 =>
 .say [.br false,.num p_p.bg.length] (okc c1 (ok1 (ln_ p_p.bg aK.lf))) <|
 .ret (bC 1) ((p_p.bg.length:Int) == 0)
def akB (p_p:aK) : Option (Bool) := Mo.den (abj p_p)
theorem afe (p_p:aK) : FV (akB p_p) 242 [.dat (aK.lf1 p_p)] (fun r=>.b_ r) := bY Tryz.func242 (by kernel_rfl) (fun _=>rfl) (by kernel_rfl)
def abk (p_op:Int) : Mo (Bool) :=
 .iG 4002 (p_op == 8) (.ret (bC 1) (true)) <|
 .iG 4006 (p_op == 9) (.ret (bC 1) (true)) <|
 .ret (bC 1) (p_op == 14)
def akC (p_op:Int) : Option (Bool) := Mo.den (abk p_op)
theorem KA (p_op:Int) : FV (akC p_op) 243 [.i_ p_op] (fun r=>.b_ r) := bY Tryz.func243 (by kernel_rfl) (fun _=>rfl) (by kernel_rfl)
def abl (p_p:aK) : Mo (Bool) :=
 .iG 8003 (p_p.fN == 0) (.ret ⟨[.kill 0],[2],[],1⟩ (true)) <|
 .ret ⟨[.kill 0],[2],[],1⟩ (p_p.fN == 1)
def abm (p_p:aK) : Mo (Bool) :=
 .iG 12003 (decide ((1:Int) ≤ p_p.fN)) (.ret ⟨[.kill 0],[2],[],1⟩ (decide ((p_p.fN:Int) ≤ 11))) <|
 .ret ⟨[.kill 0],[2],[],1⟩ (false)
def Ya (p_p:aK) : Mo (Bool) :=
 .iG 16003 (decide ((1:Int) ≤ p_p.fN)) (.rt [1,2,34] 1 (decide ((0:Int) ≤ p_p.fM))) <|
 .rt [1,2,34] 1 (false)
def Yb (p_p:aK) (r0:Bool) : Mo (Bool) :=
 .iG 16008 (r0) (.ret ⟨[.kill 0],[2,41],[],1⟩ (decide ((p_p.fM:Int) < p_p.fN))) <|
 .ret ⟨[.kill 0],[2,41],[],1⟩ (false)
def Yc (r0:Bool) : Mo (Unit) :=
 .rt [2] 1 ()
def ag9 (p_p:aK) : Mo (Bool) :=
 .iB (p_p.fOp == 10) (.jp Tryz.f244 0 [1,0,1,0,1,0,0] 13 [1] 1 (.normal) (fun r_=>⟨[(2,.b_ r_)],[.dead]⟩) ⟨[(1,.ptr 0 0)],[.box 47 (.dat (aK.lf1 p_p))]⟩ (abl p_p).den (jW (by kernel_rfl)) fun r0 _ =>
 .ret (bC 1) (r0)) <|
 .iB (p_p.fOp == 11) (.jp Tryz.f244 0 [1,0,1,0,1,1,1,0,0] 17 [1] 1 (.normal) (fun r_=>⟨[(2,.b_ r_)],[.dead]⟩) ⟨[(1,.ptr 0 0)],[.box 47 (.dat (aK.lf1 p_p))]⟩ (abm p_p).den (jW (by kernel_rfl)) fun r1 _ =>
 .ret (bC 1) (r1)) <|
 .iB (p_p.fOp == 12) (.sj Tryz.f244 0 [1,0,1,0,1,1,1,1,1,0,0] [0,1,2,3,4,5,6,7] 7 8 [1,2] 1 (fun r_=>⟨[(1,.ptr 0 0),(2,.b_ false),(34,.b_ r_)],[.box 47 (.dat (aK.lf1 p_p))]⟩) ⟨[(1,.ptr 0 0),(2,.b_ false)],[.box 47 (.dat (aK.lf1 p_p))]⟩ (Ya p_p).den (sW (by kernel_rfl)) fun r2 _ =>
 .sj Tryz.f244 0 [1,0,1,0,1,1,1,1,1,0,0] [8,9,10,11,12,13,14] 7 7 [1,2,34] 1 (fun r_=>⟨[(2,.b_ false),(41,.b_ r_)],[.dead]⟩) ⟨[(1,.ptr 0 0),(2,.b_ false),(34,.b_ r2)],[.box 47 (.dat (aK.lf1 p_p))]⟩ (Yb p_p r2).den (sW (by kernel_rfl)) fun r3 _ =>
 .sj Tryz.f244 0 [1,0,1,0,1,1,1,1,1,0,0] [15] 7 1 [2,41] 1 (fun r_=>⟨[(2,.b_ r3)],[.dead]⟩) ⟨[(2,.b_ false),(41,.b_ r3)],[.dead]⟩ (Yc r3).den (sW (by kernel_rfl)) fun r4 _ =>
 .ret (bC 1) (r3)) <|
 .iB (p_p.fOp == 13) (.ret (bC 1) (decide ((0:Int) ≤ p_p.fN))) <|
 .ret (bC 1) (true)
def Q75 (p_p:aK) : Option (Bool) := Mo.den (ag9 p_p)
theorem aiJ (p_p:aK) : FV (Q75 p_p) 244 [.dat (aK.lf1 p_p)] (fun r=>.b_ r) := bY Tryz.func244 (by kernel_rfl) (fun _=>rfl) (by kernel_rfl)
def abn (p_op:Int) : Mo (Bool) :=
 .iG 4002 (decide ((2:Int) ≤ p_op)) (.ret (bC 1) (decide ((p_op:Int) ≤ 19))) <|
 .ret (bC 1) (false)
def akD (p_op:Int) : Option (Bool) := Mo.den (abn p_op)
theorem WT (p_op:Int) : FV (akD p_op) 245 [.i_ p_op] (fun r=>.b_ r) := bY Tryz.func245 (by kernel_rfl) (fun _=>rfl) (by kernel_rfl)
def abo (p_op:Int) : Mo (Bool) :=
 .iG 4002 (p_op == 16) (.ret (bC 1) (true)) <|
 .iG 4006 (p_op == 17) (.ret (bC 1) (true)) <|
 .ret (bC 1) (p_op == 19)
def akE (p_op:Int) : Option (Bool) := Mo.den (abo p_op)
theorem KC (p_op:Int) : FV (akE p_op) 247 [.i_ p_op] (fun r=>.b_ r) := bY Tryz.func247 (by kernel_rfl) (fun _=>rfl) (by kernel_rfl)
def abp (p_op:Int) : Mo (Bool) :=
 .iG 4002 (decide ((2:Int) ≤ p_op)) (.iG 4006 (decide ((p_op:Int) ≤ 7)) (.ret (bC 1) (true)) <|
 .cl (KC p_op) fun r0 _ =>
 .ret (bC 1) (r0)) <|
 .cl (KC p_op) fun r1 _ =>
 .ret (bC 1) (r1)
def akF (p_op:Int) : Option (Bool) := Mo.den (abp p_op)
theorem WU (p_op:Int) : FV (akF p_op) 246 [.i_ p_op] (fun r=>.b_ r) := bY Tryz.func246 (by kernel_rfl) (fun _=>rfl) (by kernel_rfl)
def abq (p_n:Int) : Mo (Bool) :=
 .iG 4002 (decide ((0:Int) ≤ p_n)) (.ret (bC 1) (decide ((p_n:Int) < 65536))) <|
 .ret (bC 1) (false)
def akG (p_n:Int) : Option (Bool) := Mo.den (abq p_n)
theorem KD (p_n:Int) : FV (akG p_n) 294 [.i_ p_n] (fun r=>.b_ r) := bY Tryz.func294 (by kernel_rfl) (fun _=>rfl) (by kernel_rfl)
def abr (p_p:dF) : Mo (Bool) :=
 .cl (KD p_p.fX) fun r0 _ =>
 .iG 4003 (r0) (.cl (KD p_p.fY) fun r1 _ =>
 .ret (bC 1) (r1)) <|
 .ret (bC 1) (false)
def akH (p_p:dF) : Option (Bool) := Mo.den (abr p_p)
theorem aff (p_p:dF) : FV (akH p_p) 293 [.dat (dF.lf1 p_p)] (fun r=>.b_ r) := bY Tryz.func293 (by kernel_rfl) (fun _=>rfl) (by kernel_rfl)
def DK (p_s:bZ) : (Int) → Mo ((Int) ⊕ (Unit ⊕ Unit)) := fun (v0) =>
 .iB (decide ((v0:Int) < (p_s.bW.length:Int))) (.ask (bM p_s.bW v0) fun x0 h0 =>
 .say [.row (dF.lf1 x0)] (ok1 (aX dF.aV h0)) <|
 .cl (aff x0) fun r0 _ =>
 .iB (!r0) (.ret ⟨[.kill 0],[2],[],1⟩ (.inr (.inl ()))) <|
 .rt [1,3,4] 1 (.inl (IntKind.wrap .i64 (v0 + 1)))) <|
 .rt [1,3] 1 (.inr (.inr (())))
def abt (p_s:bZ) (v0:Int) : Option (Unit ⊕ Unit) := bK (fun v_=>(DK p_s v_).den) FU (v0)
def Po (p_s:bZ) : (Int) → St := fun (v0)=>⟨[(1,.ptr 0 0),(3,.i_ (p_s.bW.length:Int)),(4,.i_ v0)],[.box 41 (.dat (bZ.lf1 p_s))]⟩
def wQ (r_:Unit ⊕ Unit) : Exit := match r_ with
 | .inl o_=>.ret
 | .inr (o_)=>.exit 0
def wR (p_s:bZ) (r_:Unit ⊕ Unit) : St := match r_ with
 | .inl o_=>⟨[(2,.i_ 18)],[.dead]⟩
 | .inr (o_)=>⟨[(1,.ptr 0 0),(3,.i_ (p_s.bW.length:Int))],[.box 41 (.dat (bZ.lf1 p_s))]⟩
theorem Pq {p_s:bZ} {v0:Int} {r_:Unit ⊕ Unit} (h:abt p_s v0 = some r_) : fQ Tryz.f248 0 [1,1,1,0,1,0] (wQ r_) (wR p_s r_) (Po p_s (v0)) :=
 dO dK (body := (Code.sub (bodyC Tryz.f248) [1,1,1,0,1,0,0])) (by kernel_rfl) (DK p_s) (Po p_s) wQ (wR p_s) (fun r_=>by rcases r_ with _ | _ <;> rfl) (fun v_=>by kernel_rfl) h
def Pv (p_s:bZ) : Mo (Bool) :=
 .iG 20003 (p_s.aU == 1) (.rt [1,3,28] 1 ((p_s.bW.length:Int) == 2)) <|
 .rt [1,3,28] 1 (false)
def H8 (p_s:bZ) (r0:Bool) : Mo (Bool) :=
 .iG 20007 (r0) (.rt [1,3,33] 1 (p_s.fR == 0)) <|
 .rt [1,3,33] 1 (false)
def H9 (p_s:bZ) (r0:Bool) : Mo (Bool) :=
 .iG 20012 (r0) (.rt [1,3,47] 1 (true)) <|
 .iG 20016 (p_s.aU == 2) (.iG 20020 ((p_s.bW.length:Int) == 1) (.cl (KD p_s.fR) fun r1 _ =>
 .rt [1,3,47] 1 (r1)) <|
 .rt [1,3,47] 1 (false)) <|
 .rt [1,3,47] 1 (false)
def Ia (p_s:bZ) (r0:Bool) : Mo (Bool) :=
 .iG 20026 (r0) (.ret ⟨[.kill 0],[61],[],1⟩ (true)) <|
 .iG 20030 (p_s.aU == 3) (.iG 20034 (decide ((3:Int) ≤ (p_s.bW.length:Int))) (.ret ⟨[.kill 0],[61],[],1⟩ (p_s.fR == 0)) <|
 .ret ⟨[.kill 0],[61],[],1⟩ (false)) <|
 .ret ⟨[.kill 0],[61],[],1⟩ (false)
def aha (p_s:bZ) : Mo (Int) :=
 .say [.num p_s.bW.length] (ok1 (ln_ p_s.bW dF.lf)) <|
 .iB (decide ((64:Int) < (p_s.bW.length:Int))) (.ret (bC 1) (18)) <|
 .eP (abt p_s 0) (fun o0 h0 =>
 .say [.pt_ 0 [1,3,4] 1 (wQ (.inl o0)) (wR p_s (.inl o0))] (ok1 (Pq h0)) <|
 .ret (bC 1) (18)) fun o1 h0 =>
 .say [.pt_ 0 [1,3,4] 1 (wQ (.inr (o1))) (wR p_s (.inr (o1)))] (ok1 (Pq h0)) <|
 .sj Tryz.f248 0 [1,1,1,1,0,0] [0,1,2,3,4,5,6] 9 7 [1,3] 1 (fun r_=>⟨[(1,.ptr 0 0),(3,.i_ (p_s.bW.length:Int)),(28,.b_ r_)],[.box 41 (.dat (bZ.lf1 p_s))]⟩) ⟨[(1,.ptr 0 0),(3,.i_ (p_s.bW.length:Int))],[.box 41 (.dat (bZ.lf1 p_s))]⟩ (Pv p_s).den (sW (by kernel_rfl)) fun r0 _ =>
 .sj Tryz.f248 0 [1,1,1,1,0,0] [7,8,9,10,11] 9 5 [1,3,28] 1 (fun r_=>⟨[(1,.ptr 0 0),(3,.i_ (p_s.bW.length:Int)),(33,.b_ r_)],[.box 41 (.dat (bZ.lf1 p_s))]⟩) ⟨[(1,.ptr 0 0),(3,.i_ (p_s.bW.length:Int)),(28,.b_ r0)],[.box 41 (.dat (bZ.lf1 p_s))]⟩ (H8 p_s r0).den (sW (by kernel_rfl)) fun r1 _ =>
 .sj Tryz.f248 0 [1,1,1,1,0,0] [12,13,14,15,16,17,18,19,20,21,22,23,24,25] 9 14 [1,3,33] 1 (fun r_=>⟨[(1,.ptr 0 0),(3,.i_ (p_s.bW.length:Int)),(47,.b_ r_)],[.box 41 (.dat (bZ.lf1 p_s))]⟩) ⟨[(1,.ptr 0 0),(3,.i_ (p_s.bW.length:Int)),(33,.b_ r1)],[.box 41 (.dat (bZ.lf1 p_s))]⟩ (H9 p_s r1).den (sW (by kernel_rfl)) fun r2 _ =>
 .sj Tryz.f248 0 [1,1,1,1,0,0] [26,27,28,29,30,31,32,33,34,35,36,37,38,39] 9 14 [1,3,47] 1 (fun r_=>⟨[(61,.b_ r_)],[.dead]⟩) ⟨[(1,.ptr 0 0),(3,.i_ (p_s.bW.length:Int)),(47,.b_ r2)],[.box 41 (.dat (bZ.lf1 p_s))]⟩ (Ia p_s r2).den (sW (by kernel_rfl)) fun r3 _ =>
 .iB (r3) (.ret (bC 1) (0)) <|
 .ret (bC 1) (18)
def Q27 (p_s:bZ) : Option (Int) := Mo.den (aha p_s)
theorem aiK (p_s:bZ) : FV (Q27 p_s) 248 [.dat (bZ.lf1 p_s)] (fun r=>.i_ r) := bY Tryz.func248 (by kernel_rfl) (fun _=>rfl) (by kernel_rfl)
def abu (p_s:bZ) : Mo (Bool) :=
 .ite (p_s.aU == 0) (fun c0 =>
 .say [.gd 4003 true,.num p_s.bW.length] (okc c0 (ok1 (ln_ p_s.bW dF.lf))) <|
 .rt [1,2,11] 1 ((p_s.bW.length:Int) == 0)) fun c0 =>
 .say [.gd 4003 false] (ok1 c0) <|
 .rt [1,2,11] 1 (false)
def abv (p_s:bZ) (r0:Bool) : Mo (Bool) :=
 .iG 4009 (r0) (.ret ⟨[.kill 0],[2,16],[],1⟩ (p_s.fR == 0)) <|
 .ret ⟨[.kill 0],[2,16],[],1⟩ (false)
def Yd (r0:Bool) : Mo (Unit) :=
 .rt [2] 1 ()
def ahb (p_s:bZ) : Mo (Bool) :=
 .sj Tryz.f295 0 [1,0] [0,1,2,3,4,5,6,7,8] 1 9 [1,2] 1 (fun r_=>⟨[(1,.ptr 0 0),(2,.b_ false),(11,.b_ r_)],[.box 41 (.dat (bZ.lf1 p_s))]⟩) ⟨[(1,.ptr 0 0),(2,.b_ false)],[.box 41 (.dat (bZ.lf1 p_s))]⟩ (abu p_s).den (sW (by kernel_rfl)) fun r0 _ =>
 .sj Tryz.f295 0 [1,0] [9,10,11,12,13] 1 5 [1,2,11] 1 (fun r_=>⟨[(2,.b_ false),(16,.b_ r_)],[.dead]⟩) ⟨[(1,.ptr 0 0),(2,.b_ false),(11,.b_ r0)],[.box 41 (.dat (bZ.lf1 p_s))]⟩ (abv p_s r0).den (sW (by kernel_rfl)) fun r1 _ =>
 .sj Tryz.f295 0 [1,0] [14] 1 1 [2,16] 1 (fun r_=>⟨[(2,.b_ r1)],[.dead]⟩) ⟨[(2,.b_ false),(16,.b_ r1)],[.dead]⟩ (Yd r1).den (sW (by kernel_rfl)) fun r2 _ =>
 .ret (bC 1) (r1)
def Q97 (p_s:bZ) : Option (Bool) := Mo.den (ahb p_s)
theorem aiL (p_s:bZ) : FV (Q97 p_s) 295 [.dat (bZ.lf1 p_s)] (fun r=>.b_ r) := bY Tryz.func295 (by kernel_rfl) (fun _=>rfl) (by kernel_rfl)
def abw (p_e:aC) : Mo (Bool) :=
 .ite (p_e.fOp == 0) (fun c0 =>
 .say [.gd 4003 true,.num p_e.cZ.length] (okc c0 (ok1 (ln_ p_e.cZ lfS))) <|
 .rt [1,2,11] 1 ((p_e.cZ.length:Int) == 0)) fun c0 =>
 .say [.gd 4003 false] (ok1 c0) <|
 .rt [1,2,11] 1 (false)
def abx (p_e:aC) (r0:Bool) : Mo (Bool) :=
 .iG 4009 (r0) (.rt [1,2,16] 1 (decide ((p_e.fName:ByteArray) = (⟨#[]⟩ : ByteArray)))) <|
 .rt [1,2,16] 1 (false)
def Ye (p_e:aC) (r0:Bool) : Mo (Bool) :=
 .ite (r0) (fun c0 =>
 .say [.gd 4014 true,.num p_e.bQ.length] (okc c0 (ok1 (ln_ p_e.bQ lfS))) <|
 .rt [1,2,22] 1 ((p_e.bQ.length:Int) == 0)) fun c0 =>
 .say [.gd 4014 false] (ok1 c0) <|
 .rt [1,2,22] 1 (false)
def Yf (p_e:aC) (r0:Bool) : Mo (Bool) :=
 .iG 4020 (r0) (.cl (uh p_e.fArg) fun r1 _ =>
 .rt [1,2,27] 1 (r1)) <|
 .rt [1,2,27] 1 (false)
def Yg (p_e:aC) (r0:Bool) : Mo (Bool) :=
 .iG 4025 (r0) (.rt [1,2,32] 1 (p_e.fN == 0)) <|
 .rt [1,2,32] 1 (false)
def Yh (p_e:aC) (r0:Bool) : Mo (Bool) :=
 .ite (r0) (fun c0 =>
 .say [.gd 4030 true,.num p_e.bg.length] (okc c0 (ok1 (ln_ p_e.bg aC.lf))) <|
 .ret ⟨[.kill 0],[2,38],[],1⟩ ((p_e.bg.length:Int) == 0)) fun c0 =>
 .say [.gd 4030 false] (ok1 c0) <|
 .ret ⟨[.kill 0],[2,38],[],1⟩ (false)
def Yi (r0:Bool) : Mo (Unit) :=
 .rt [2] 1 ()
def ahc (p_e:aC) : Mo (Bool) :=
 .sj Tryz.f296 0 [1,0] [0,1,2,3,4,5,6,7,8] 1 9 [1,2] 1 (fun r_=>⟨[(1,.ptr 0 0),(2,.b_ false),(11,.b_ r_)],[.box 44 (.dat (aC.lf1 p_e))]⟩) ⟨[(1,.ptr 0 0),(2,.b_ false)],[.box 44 (.dat (aC.lf1 p_e))]⟩ (abw p_e).den (sW (by kernel_rfl)) fun r0 _ =>
 .sj Tryz.f296 0 [1,0] [9,10,11,12,13] 1 5 [1,2,11] 1 (fun r_=>⟨[(1,.ptr 0 0),(2,.b_ false),(16,.b_ r_)],[.box 44 (.dat (aC.lf1 p_e))]⟩) ⟨[(1,.ptr 0 0),(2,.b_ false),(11,.b_ r0)],[.box 44 (.dat (aC.lf1 p_e))]⟩ (abx p_e r0).den (sW (by kernel_rfl)) fun r1 _ =>
 .sj Tryz.f296 0 [1,0] [14,15,16,17,18,19] 1 6 [1,2,16] 1 (fun r_=>⟨[(1,.ptr 0 0),(2,.b_ false),(22,.b_ r_)],[.box 44 (.dat (aC.lf1 p_e))]⟩) ⟨[(1,.ptr 0 0),(2,.b_ false),(16,.b_ r1)],[.box 44 (.dat (aC.lf1 p_e))]⟩ (Ye p_e r1).den (sW (by kernel_rfl)) fun r2 _ =>
 .sj Tryz.f296 0 [1,0] [20,21,22,23,24] 1 5 [1,2,22] 1 (fun r_=>⟨[(1,.ptr 0 0),(2,.b_ false),(27,.b_ r_)],[.box 44 (.dat (aC.lf1 p_e))]⟩) ⟨[(1,.ptr 0 0),(2,.b_ false),(22,.b_ r2)],[.box 44 (.dat (aC.lf1 p_e))]⟩ (Yf p_e r2).den (sW (by kernel_rfl)) fun r3 _ =>
 .sj Tryz.f296 0 [1,0] [25,26,27,28,29] 1 5 [1,2,27] 1 (fun r_=>⟨[(1,.ptr 0 0),(2,.b_ false),(32,.b_ r_)],[.box 44 (.dat (aC.lf1 p_e))]⟩) ⟨[(1,.ptr 0 0),(2,.b_ false),(27,.b_ r3)],[.box 44 (.dat (aC.lf1 p_e))]⟩ (Yg p_e r3).den (sW (by kernel_rfl)) fun r4 _ =>
 .sj Tryz.f296 0 [1,0] [30,31,32,33,34,35] 1 6 [1,2,32] 1 (fun r_=>⟨[(2,.b_ false),(38,.b_ r_)],[.dead]⟩) ⟨[(1,.ptr 0 0),(2,.b_ false),(32,.b_ r4)],[.box 44 (.dat (aC.lf1 p_e))]⟩ (Yh p_e r4).den (sW (by kernel_rfl)) fun r5 _ =>
 .sj Tryz.f296 0 [1,0] [36] 1 1 [2,38] 1 (fun r_=>⟨[(2,.b_ r5)],[.dead]⟩) ⟨[(2,.b_ false),(38,.b_ r5)],[.dead]⟩ (Yi r5).den (sW (by kernel_rfl)) fun r6 _ =>
 .ret (bC 1) (r5)
def Q66 (p_e:aC) : Option (Bool) := Mo.den (ahc p_e)
theorem aiM (p_e:aC) : FV (Q66 p_e) 296 [.dat (aC.lf1 p_e)] (fun r=>.b_ r) := bY Tryz.func296 (by kernel_rfl) (fun _=>rfl) (by kernel_rfl)
def aby (p_p:aK) : Mo (Bool) :=
 .cl (WT p_p.fOp) fun r0 _ =>
 .ite (!r0) (fun c0 =>
 .say [.gd 4004 true,.num p_p.cZ.length] (okc c0 (ok1 (ln_ p_p.cZ lfS))) <|
 .rt [1,12] 1 (decide ((0:Int) < (p_p.cZ.length:Int)))) fun c0 =>
 .say [.gd 4004 false] (ok1 c0) <|
 .rt [1,12] 1 (false)
def abz (p_p:aK) (r0:Bool) : Mo (Bool) :=
 .iG 4010 (r0) (.rt [1,24] 1 (true)) <|
 .cl (WU p_p.fOp) fun r1 _ =>
 .iG 4015 (!r1) (.cl (uh p_p.fArg) fun r2 _ =>
 .rt [1,24] 1 (!r2)) <|
 .rt [1,24] 1 (false)
def Yj (p_p:aK) (r0:Bool) : Mo (Bool) :=
 .iG 4022 (r0) (.rt [1,36] 1 (true)) <|
 .cl (KA p_p.fOp) fun r1 _ =>
 .ite (!r1) (fun c0 =>
 .say [.gd 4027 true,.num p_p.fArgs.length] (okc c0 (ok1 (ln_ p_p.fArgs ak.lf))) <|
 .rt [1,36] 1 (decide ((0:Int) < (p_p.fArgs.length:Int)))) fun c0 =>
 .say [.gd 4027 false] (ok1 c0) <|
 .rt [1,36] 1 (false)
def Yk (p_p:aK) : Mo (Bool) :=
 .iG 8003 (p_p.fOp != 10) (.rt [1,44] 1 (p_p.fOp != 11)) <|
 .rt [1,44] 1 (false)
def Yl (p_p:aK) (r0:Bool) : Mo (Bool) :=
 .iG 8008 (r0) (.rt [1,49] 1 (p_p.fOp != 12)) <|
 .rt [1,49] 1 (false)
def Ym (p_p:aK) (r0:Bool) : Mo (Bool) :=
 .iG 8013 (r0) (.rt [1,54] 1 (p_p.fOp != 13)) <|
 .rt [1,54] 1 (false)
def Yn (p_p:aK) (r0:Bool) : Mo (Bool) :=
 .iG 8018 (r0) (.rt [1,59] 1 (p_p.fN != 0)) <|
 .rt [1,59] 1 (false)
def Yo (p_p:aK) (r0:Bool) : Mo (Bool) :=
 .iG 8023 (r0) (.rt [1,69] 1 (true)) <|
 .iG 8027 (p_p.fOp != 12) (.rt [1,69] 1 (p_p.fM != 0)) <|
 .rt [1,69] 1 (false)
def Yp (p_p:aK) : Mo (Bool) :=
 .iG 12003 (p_p.fOp == 18) (.rt [1,77] 1 (true)) <|
 .cl (aiL p_p.eF) fun r0 _ =>
 .rt [1,77] 1 (r0)
def Yq (p_p:aK) (r0:Bool) : Mo (Bool) :=
 .iG 12008 (r0) (.iG 12012 (p_p.fOp == 24) (.ret ⟨[.kill 0],[87],[],1⟩ (true)) <|
 .cl (aiM p_p.fExpr) fun r1 _ =>
 .ret ⟨[.kill 0],[87],[],1⟩ (r1)) <|
 .ret ⟨[.kill 0],[87],[],1⟩ (false)
def Yr (r0:Bool) : Mo (Unit) :=
 .rt [2] 1 ()
def ahd (p_p:aK) : Mo (Bool) :=
 .sj Tryz.f249 0 [1,0,0] [0,1,2,3,4,5,6,7,8,9] 1 10 [1] 1 (fun r_=>⟨[(1,.ptr 0 0),(12,.b_ r_)],[.box 47 (.dat (aK.lf1 p_p))]⟩) ⟨[(1,.ptr 0 0)],[.box 47 (.dat (aK.lf1 p_p))]⟩ (aby p_p).den (sW (by kernel_rfl)) fun r0 _ =>
 .sj Tryz.f249 0 [1,0,0] [10,11,12,13,14,15,16,17,18,19,20,21] 1 12 [1,12] 1 (fun r_=>⟨[(1,.ptr 0 0),(24,.b_ r_)],[.box 47 (.dat (aK.lf1 p_p))]⟩) ⟨[(1,.ptr 0 0),(12,.b_ r0)],[.box 47 (.dat (aK.lf1 p_p))]⟩ (abz p_p r0).den (sW (by kernel_rfl)) fun r1 _ =>
 .sj Tryz.f249 0 [1,0,0] [22,23,24,25,26,27,28,29,30,31,32,33] 1 12 [1,24] 1 (fun r_=>⟨[(1,.ptr 0 0),(36,.b_ r_)],[.box 47 (.dat (aK.lf1 p_p))]⟩) ⟨[(1,.ptr 0 0),(24,.b_ r1)],[.box 47 (.dat (aK.lf1 p_p))]⟩ (Yj p_p r1).den (sW (by kernel_rfl)) fun r2 _ =>
 .iB (r2) (.ret (bC 1) (false)) <|
 .sj Tryz.f249 0 [1,1,0,0] [0,1,2,3,4,5,6,7] 3 8 [1] 1 (fun r_=>⟨[(1,.ptr 0 0),(44,.b_ r_)],[.box 47 (.dat (aK.lf1 p_p))]⟩) ⟨[(1,.ptr 0 0)],[.box 47 (.dat (aK.lf1 p_p))]⟩ (Yk p_p).den (sW (by kernel_rfl)) fun r3 _ =>
 .sj Tryz.f249 0 [1,1,0,0] [8,9,10,11,12] 3 5 [1,44] 1 (fun r_=>⟨[(1,.ptr 0 0),(49,.b_ r_)],[.box 47 (.dat (aK.lf1 p_p))]⟩) ⟨[(1,.ptr 0 0),(44,.b_ r3)],[.box 47 (.dat (aK.lf1 p_p))]⟩ (Yl p_p r3).den (sW (by kernel_rfl)) fun r4 _ =>
 .sj Tryz.f249 0 [1,1,0,0] [13,14,15,16,17] 3 5 [1,49] 1 (fun r_=>⟨[(1,.ptr 0 0),(54,.b_ r_)],[.box 47 (.dat (aK.lf1 p_p))]⟩) ⟨[(1,.ptr 0 0),(49,.b_ r4)],[.box 47 (.dat (aK.lf1 p_p))]⟩ (Ym p_p r4).den (sW (by kernel_rfl)) fun r5 _ =>
 .sj Tryz.f249 0 [1,1,0,0] [18,19,20,21,22] 3 5 [1,54] 1 (fun r_=>⟨[(1,.ptr 0 0),(59,.b_ r_)],[.box 47 (.dat (aK.lf1 p_p))]⟩) ⟨[(1,.ptr 0 0),(54,.b_ r5)],[.box 47 (.dat (aK.lf1 p_p))]⟩ (Yn p_p r5).den (sW (by kernel_rfl)) fun r6 _ =>
 .sj Tryz.f249 0 [1,1,0,0] [23,24,25,26,27,28,29,30,31,32] 3 10 [1,59] 1 (fun r_=>⟨[(1,.ptr 0 0),(69,.b_ r_)],[.box 47 (.dat (aK.lf1 p_p))]⟩) ⟨[(1,.ptr 0 0),(59,.b_ r6)],[.box 47 (.dat (aK.lf1 p_p))]⟩ (Yo p_p r6).den (sW (by kernel_rfl)) fun r7 _ =>
 .iB (r7) (.ret (bC 1) (false)) <|
 .sj Tryz.f249 0 [1,1,1,0] [0,1,2,3,4,5,6,7] 5 8 [1] 1 (fun r_=>⟨[(1,.ptr 0 0),(77,.b_ r_)],[.box 47 (.dat (aK.lf1 p_p))]⟩) ⟨[(1,.ptr 0 0)],[.box 47 (.dat (aK.lf1 p_p))]⟩ (Yp p_p).den (sW (by kernel_rfl)) fun r8 _ =>
 .sj Tryz.f249 0 [1,1,1,0] [8,9,10,11,12,13,14,15,16,17] 5 10 [1,77] 1 (fun r_=>⟨[(87,.b_ r_)],[.dead]⟩) ⟨[(1,.ptr 0 0),(77,.b_ r8)],[.box 47 (.dat (aK.lf1 p_p))]⟩ (Yq p_p r8).den (sW (by kernel_rfl)) fun r9 _ =>
 .sj Tryz.f249 0 [1,1,1,0] [18] 5 1 [87] 1 (fun r_=>⟨[(2,.b_ r9)],[.dead]⟩) ⟨[(87,.b_ r9)],[.dead]⟩ (Yr r9).den (sW (by kernel_rfl)) fun r10 _ =>
 .ret (bC 1) (r9)
def Q49 (p_p:aK) : Option (Bool) := Mo.den (ahd p_p)
theorem aiN (p_p:aK) : FV (Q49 p_p) 249 [.dat (aK.lf1 p_p)] (fun r=>.b_ r) := bY Tryz.func249 (by kernel_rfl) (fun _=>rfl) (by kernel_rfl)
def abA (p_op:Int) : Mo (Bool) :=
 .iB (p_op == 1) (.rt [3,4] 0 (p_op == 1)) <|
 .iB (p_op == 2) (.rt [3,4] 0 (p_op == 2)) <|
 .rt [3,4] 0 (p_op == 3)
def abB (p_op:Int) : Mo (Bool) :=
 .iB (p_op == 18) (.rt [3,8] 0 (p_op == 18)) <|
 .iB (p_op == 22) (.rt [3,8] 0 (p_op == 22)) <|
 .iB (p_op == 23) (.rt [3,8] 0 (p_op == 23)) <|
 .iB (p_op == 24) (.rt [3,8] 0 (p_op == 24)) <|
 .iB (p_op == 26) (.rt [3,8] 0 (p_op == 26)) <|
 .iB (p_op == 30) (.rt [3,8] 0 (p_op == 30)) <|
 .iB (p_op == 31) (.rt [3,8] 0 (p_op == 31)) <|
 .rt [3,8] 0 (p_op == 36)
def Yt (p_op:Int) : Mo (Bool) :=
 .iB (p_op == 19) (.rt [3,17] 0 (p_op == 19)) <|
 .rt [3,17] 0 (p_op == 25)
def Yu (p_op:Int) : Mo (Bool) :=
 .iB (p_op == 4) (.rt [20] 0 (p_op == 4)) <|
 .iB (p_op == 6) (.rt [20] 0 (p_op == 6)) <|
 .iB (p_op == 16) (.rt [20] 0 (p_op == 16)) <|
 .iB (p_op == 17) (.rt [20] 0 (p_op == 17)) <|
 .iB (p_op == 21) (.rt [20] 0 (p_op == 21)) <|
 .iB (p_op == 29) (.rt [20] 0 (p_op == 29)) <|
 .iB (p_op == 37) (.rt [20] 0 (p_op == 37)) <|
 .iB (p_op == 35) (.rt [20] 0 (p_op == 35)) <|
 .rt [20] 0 (p_op == 34)
def ahe (p_op:Int) : Mo (Int) :=
 .jp Tryz.f323 0 [1,0,1,0,0,1] 1 [3,4] 0 (.normal) (fun r_=>⟨[(3,.i_ p_op),(4,.b_ r_)],[]⟩) ⟨[(3,.i_ p_op),(4,.lf (.bool (p_op == 1)))],[]⟩ (abA p_op).den (jW (by kernel_rfl)) fun r0 _ =>
 .iB (r0) (.ret (bC 1) (0)) <|
 .jp Tryz.f323 0 [1,0,1,0,1,1,0,1] 1 [3,8] 0 (.normal) (fun r_=>⟨[(3,.i_ p_op),(8,.b_ r_)],[]⟩) ⟨[(3,.i_ p_op),(8,.lf (.bool (p_op == 18)))],[]⟩ (abB p_op).den (jW (by kernel_rfl)) fun r1 _ =>
 .iB (r1) (.ret (bC 1) (1)) <|
 .jp Tryz.f323 0 [1,0,1,0,1,1,1,1,0,1] 1 [3,17] 0 (.normal) (fun r_=>⟨[(3,.i_ p_op),(17,.b_ r_)],[]⟩) ⟨[(3,.i_ p_op),(17,.lf (.bool (p_op == 19)))],[]⟩ (Yt p_op).den (jW (by kernel_rfl)) fun r2 _ =>
 .iB (r2) (.ret (bC 1) (3)) <|
 .jp Tryz.f323 0 [1,0,1,0,1,1,1,1,1,1,0,1] 1 [3,20] 0 (.normal) (fun r_=>⟨[(20,.b_ r_)],[]⟩) ⟨[(3,.i_ p_op),(20,.lf (.bool (p_op == 4)))],[]⟩ (Yu p_op).den (jW (by kernel_rfl)) fun r3 _ =>
 .iB (r3) (.ret (bC 1) ((-1))) <|
 .ret (bC 1) (2)
def Q58 (p_op:Int) : Option (Int) := Mo.den (ahe p_op)
theorem nZ (p_op:Int) : FV (Q58 p_op) 323 [.i_ p_op] (fun r=>.i_ r) := bY Tryz.func323 (by kernel_rfl) (fun _=>rfl) (by kernel_rfl)
def DL (p_l:List ByteArray) (v0:Int) : (Int) → Mo ((Int) ⊕ (Unit ⊕ Unit)) := fun (v1) =>
 .ite (decide ((v1:Int) < v0)) (fun c0 =>
 .say [.br true,.order [(true,0),(true,1),(true,2),(true,3),(true,4),(true,5),(true,6),(true,7),(true,8)] none []] (ok1 c0) <|
 .ask (bM p_l v1) fun x0 h0 =>
 .say [.row (lfS x0)] (ok1 (aX lS_ h0)) <|
 .ask (bM p_l v0) fun x1 h1 =>
 .say [.row (lfS x1)] (ok1 (aX lS_ h1)) <|
 .iB (decide ((x0:ByteArray) = (x1:ByteArray))) (.rt [2] 0 (.inr (.inl ()))) <|
 .rt [0,3,4] 0 (.inl (IntKind.wrap .i64 (v1 + 1)))) fun c0 =>
 .say [.br false] (ok1 c0) <|
 .rt [0,3] 0 (.inr (.inr (())))
def abC (p_l:List ByteArray) (v0:Int) (v1:Int) : Option (Unit ⊕ Unit) := bK (fun v_=>(DL p_l v0 v_).den) FU (v1)
def Px (p_l:List ByteArray) (v0:Int) : (Int) → St := fun (v1)=>⟨[(0,.lf (.rows 1 (p_l.map lfS))),(3,.i_ v0),(4,.i_ v1)],[]⟩
def wS (r_:Unit ⊕ Unit) : Exit := match r_ with
 | .inl o_=>.ret
 | .inr (o_)=>.exit 2
def wU (p_l:List ByteArray) (v0:Int) (r_:Unit ⊕ Unit) : St := match r_ with
 | .inl o_=>⟨[(2,.b_ false)],[]⟩
 | .inr (o_)=>⟨[(0,.lf (.rows 1 (p_l.map lfS))),(3,.i_ v0)],[]⟩
theorem Py {p_l:List ByteArray} {v0:Int} {v1:Int} {r_:Unit ⊕ Unit} (h:abC p_l v0 v1 = some r_) : fQ Tryz.f324 0 [1,0,1,0,0,1,0,0,1,1,0] (wS r_) (wU p_l v0 r_) (Px p_l v0 (v1)) :=
 dO dK (body := (Code.sub (bodyC Tryz.f324) [1,0,1,0,0,1,0,0,1,1,0,0])) (by kernel_rfl) (DL p_l v0) (Px p_l v0) wS (wU p_l v0) (fun r_=>by rcases r_ with _ | _ <;> rfl) (fun v_=>by kernel_rfl) h
def DN (p_l:List ByteArray) : (Int) → Mo ((Int) ⊕ (Unit ⊕ Unit)) := fun (v0) =>
 .say [.num p_l.length] (ok1 (ln_ p_l lfS)) <|
 .iB (decide ((v0:Int) < (p_l.length:Int))) (.ask (bM p_l v0) fun x0 h0 =>
 .say [.row (lfS x0)] (ok1 (aX lS_ h0)) <|
 .cl (ug x0) fun r0 _ =>
 .iB (!r0) (.rt [2] 0 (.inr (.inl ()))) <|
 .eP (abC p_l v0 0) (fun o0 h1 =>
 .say [.pt_ 0 [0,3,4] 0 (wS (.inl o0)) (wU p_l v0 (.inl o0))] (ok1 (Py h1)) <|
 .rt [2] 0 (.inr (.inl ()))) fun o1 h1 =>
 .say [.pt_ 0 [0,3,4] 0 (wS (.inr (o1))) (wU p_l v0 (.inr (o1)))] (ok1 (Py h1)) <|
 .rt [0,3] 0 (.inl (IntKind.wrap .i64 (v0 + 1)))) <|
 .rt [] 0 (.inr (.inr (())))
def abD (p_l:List ByteArray) (v0:Int) : Option (Unit ⊕ Unit) := bK (fun v_=>(DN p_l v_).den) FU (v0)
def Pz (p_l:List ByteArray) : (Int) → St := fun (v0)=>⟨[(0,.lf (.rows 1 (p_l.map lfS))),(3,.i_ v0)],[]⟩
def wV (r_:Unit ⊕ Unit) : Exit := match r_ with
 | .inl o_=>.ret
 | .inr (o_)=>.exit 0
def wW  (r_:Unit ⊕ Unit) : St := match r_ with
 | .inl o_=>⟨[(2,.b_ false)],[]⟩
 | .inr (o_)=>⟨[],[]⟩
theorem PD {p_l:List ByteArray} {v0:Int} {r_:Unit ⊕ Unit} (h:abD p_l v0 = some r_) : fQ Tryz.f324 0 [1,0,1,0] (wV r_) (wW r_) (Pz p_l (v0)) :=
 dO dK (body := (Code.sub (bodyC Tryz.f324) [1,0,1,0,0])) (by kernel_rfl) (DN p_l) (Pz p_l) wV wW (fun r_=>by rcases r_ with _ | _ <;> rfl) (fun v_=>by kernel_rfl) h
def ahf (p_l:List ByteArray) : Mo (Bool) :=
 .eP (abD p_l 0) (fun o0 h0 =>
 .say [.pt_ 0 [0,3] 0 (wV (.inl o0)) (wW (.inl o0))] (ok1 (PD h0)) <|
 .ret (bC 1) (false)) fun o1 h0 =>
 .say [.pt_ 0 [0,3] 0 (wV (.inr (o1))) (wW (.inr (o1)))] (ok1 (PD h0)) <|
 .ret (bC 1) (true)
def Q16 (p_l:List ByteArray) : Option (Bool) := Mo.den (ahf p_l)
theorem aiO (p_l:List ByteArray) : FV (Q16 p_l) 324 [.lf (.rows 1 (p_l.map lfS))] (fun r=>.b_ r) := bY Tryz.func324 (by kernel_rfl) (fun _=>rfl) (by kernel_rfl)
structure sO where
 m1:(p_a:ak) → (p_b:ak) → Option (Bool)
 ok1:∀ p_a p_b,FV (m1 p_a p_b) 207 [.dat (ak.lf1 p_a),.dat (ak.lf1 p_b)] (fun r=>.b_ r)
def WV (R_:sO) (p_a:ak) (p_b:ak) : Mo (Bool) :=
 .iG 4005 (p_a.aU != p_b.aU) (.rt [2,3,18] 2 (true)) <|
 .rt [2,3,18] 2 (p_a.jL != p_b.jL)
def WW (R_:sO) (p_a:ak) (p_b:ak) (r0:Bool) : Mo (Bool) :=
 .iG 4012 (r0) (.rt [2,3,25] 2 (true)) <|
 .rt [2,3,25] 2 (!decide ((p_a.fText:ByteArray) = (p_b.fText:ByteArray)))
def PE (R_:sO) (p_a:ak) (p_b:ak) (r0:Bool) : Mo (Bool) :=
 .ite (r0) (fun c0 =>
 .say [.gd 4019 true] (ok1 c0) <|
 .rt [2,3,34] 2 (true)) fun c0 =>
 .say [.gd 4019 false,.num p_a.bV.length,.num p_b.bV.length] (okc c0 (okc (ln_ p_a.bV ak.lf) (ok1 (ln_ p_b.bV ak.lf)))) <|
 .rt [2,3,34] 2 ((p_a.bV.length:Int) != (p_b.bV.length:Int))
def PG (R_:sO) (p_a:ak) (p_b:ak) (r0:Bool) : Mo (Bool) :=
 .ite (r0) (fun c0 =>
 .say [.gd 4028 true] (ok1 c0) <|
 .rt [2,3,43] 2 (true)) fun c0 =>
 .say [.gd 4028 false,.num p_a.bU.length,.num p_b.bU.length] (okc c0 (okc (ln_ p_a.bU aS.lf) (ok1 (ln_ p_b.bU aS.lf)))) <|
 .rt [2,3,43] 2 ((p_a.bU.length:Int) != (p_b.bU.length:Int))
def DR (R_:sO) (p_a:ak) (p_b:ak) : (Int) → Mo ((Int) ⊕ (Unit ⊕ Unit)) := fun (v0) =>
 .say [.num p_a.bV.length] (ok1 (ln_ p_a.bV ak.lf)) <|
 .iB (decide ((v0:Int) < (p_a.bV.length:Int))) (.ask (bM p_a.bV v0) fun x0 h0 =>
 .say [] (ok1 (aX ak.aV h0)) <|
 .ask (bM p_b.bV v0) fun x1 h1 =>
 .say [] (ok1 (aX ak.aV h1)) <|
 .ask (R_.m1 x0 x1) fun r0 h2 =>
 .say [.dP (.q 0 (.q 1 (.q 2 (.q 3 (.q 4 (.q 5 (.q 6 (.q 7 (.q 8 (.q 9 (.l 10 (.q 11 .fin)))))))))))) (some 10) [] [.row (ak.lf1 x0),.row (ak.lf1 x1),.res (.b_ r0)] [2,3,5,62] 2 [(2,.ptr 0 0),(3,.ptr 1 0),(5,.i_ v0),(62,.lf (.bool (!r0)))] [.box 29 (.dat (ak.lf1 p_a)),.box 29 (.dat (ak.lf1 p_b))]] (okc (R_.ok1 _ _ _ h2) (ok1 (rf_ ⟨[(2,.ptr 0 0),(3,.ptr 1 0),(5,.i_ v0),(62,.lf (.bool (!r0)))],[.box 29 (.dat (ak.lf1 p_a)),.box 29 (.dat (ak.lf1 p_b))]⟩))) <|
 .iB (!r0) (.ret ⟨[.kill 0,.kill 1],[4],[],2⟩ (.inr (.inl ()))) <|
 .rt [2,3,5] 2 (.inl (IntKind.wrap .i64 (v0 + 1)))) <|
 .rt [2,3] 2 (.inr (.inr (())))
def abE (R_:sO) (p_a:ak) (p_b:ak) (v0:Int) : Option (Unit ⊕ Unit) := bK (fun v_=>(DR R_ p_a p_b v_).den) FU (v0)
def PI (R_:sO) (p_a:ak) (p_b:ak) : (Int) → St := fun (v0)=>⟨[(2,.ptr 0 0),(3,.ptr 1 0),(5,.i_ v0)],[.box 29 (.dat (ak.lf1 p_a)),.box 29 (.dat (ak.lf1 p_b))]⟩
def wX (r_:Unit ⊕ Unit) : Exit := match r_ with
 | .inl o_=>.ret
 | .inr (o_)=>.exit 0
def wY (p_a:ak) (p_b:ak) (r_:Unit ⊕ Unit) : St := match r_ with
 | .inl o_=>⟨[(4,.b_ false)],[.dead,.dead]⟩
 | .inr (o_)=>⟨[(2,.ptr 0 0),(3,.ptr 1 0)],[.box 29 (.dat (ak.lf1 p_a)),.box 29 (.dat (ak.lf1 p_b))]⟩
theorem PK {R_:sO} {p_a:ak} {p_b:ak} {v0:Int} {r_:Unit ⊕ Unit} (h:abE R_ p_a p_b v0 = some r_) : fQ Tryz.f207 0 [1,1,0,1,0] (wX r_) (wY p_a p_b r_) (PI R_ p_a p_b (v0)) :=
 dO dK (body := (Code.sub (bodyC Tryz.f207) [1,1,0,1,0,0])) (by kernel_rfl) (DR R_ p_a p_b) (PI R_ p_a p_b) wX (wY p_a p_b) (fun r_=>by rcases r_ with _ | _ <;> rfl) (fun v_=>by kernel_rfl) h
def PL (R_:sO) (p_a:ak) (p_b:ak) (v0:Int) : Mo (Bool) :=
 .ask (bM p_a.bU v0) fun x0 h0 =>
 .say [] (ok1 (aX aS.aV h0)) <|
 .ask (bM p_b.bU v0) fun x1 h1 =>
 .say [] (ok1 (aX aS.aV h1)) <|
 .ite (!decide ((x0.fName:ByteArray) = (x1.fName:ByteArray))) (fun c0 =>
 .say [.dP (.q 0 (.q 1 (.q 2 (.q 3 (.q 4 (.q 5 (.q 6 (.q 7 (.q 8 (.q 9 (.q 10 (.q 11 (.q 12 (.q 13 (.q 14 (.q 15 (.q 16 (.q 17 (.q 18 (.q 19 (.q 20 (.q 21 (.q 22 (.q 23 (.q 24 (.q 25 (.l 26 (.q 27 (.q 28 .fin))))))))))))))))))))))))))))) (some 26) [] [.row (aS.lf1 x0),.row (aS.lf1 x1),.gd 24013 true] [2,3,6,98] 2 [(2,.ptr 0 0),(3,.ptr 1 0),(6,.i_ v0),(98,.b_ true)] [.box 29 (.dat (ak.lf1 p_a)),.box 29 (.dat (ak.lf1 p_b))]] (okc c0 (ok1 (rf_ ⟨[(2,.ptr 0 0),(3,.ptr 1 0),(6,.i_ v0),(98,.b_ true)],[.box 29 (.dat (ak.lf1 p_a)),.box 29 (.dat (ak.lf1 p_b))]⟩))) <|
 .rt [2,3,6,98] 2 (true)) fun c0 =>
 .say [] (ok1 c0) <|
 .ask (bM p_a.bU v0) fun x2 h2 =>
 .say [] (ok1 (aX aS.aV h2)) <|
 .ask (bM p_b.bU v0) fun x3 h3 =>
 .say [] (ok1 (aX aS.aV h3)) <|
 .ask (R_.m1 x2.fValue x3.fValue) fun r0 h4 =>
 .say [.dP (.q 0 (.q 1 (.q 2 (.q 3 (.q 4 (.q 5 (.q 6 (.q 7 (.q 8 (.q 9 (.q 10 (.q 11 (.q 12 (.q 13 (.q 14 (.q 15 (.q 16 (.q 17 (.q 18 (.q 19 (.q 20 (.q 21 (.q 22 (.q 23 (.q 24 (.q 25 (.l 26 (.q 27 (.q 28 .fin))))))))))))))))))))))))))))) (some 26) [] [.row (aS.lf1 x0),.row (aS.lf1 x1),.gd 24013 false,.row (aS.lf1 x2),.row (aS.lf1 x3),.res (.b_ r0)] [2,3,6,98] 2 [(2,.ptr 0 0),(3,.ptr 1 0),(6,.i_ v0),(98,.lf (.bool (!r0)))] [.box 29 (.dat (ak.lf1 p_a)),.box 29 (.dat (ak.lf1 p_b))]] (okc (R_.ok1 _ _ _ h4) (ok1 (rf_ ⟨[(2,.ptr 0 0),(3,.ptr 1 0),(6,.i_ v0),(98,.lf (.bool (!r0)))],[.box 29 (.dat (ak.lf1 p_a)),.box 29 (.dat (ak.lf1 p_b))]⟩))) <|
 .rt [2,3,6,98] 2 (!r0)
def DT (R_:sO) (p_a:ak) (p_b:ak) : (Int) → Mo ((Int) ⊕ (Unit ⊕ Unit)) := fun (v0) =>
 .say [.num p_a.bU.length] (ok1 (ln_ p_a.bU aS.lf)) <|
 .iB (decide ((v0:Int) < (p_a.bU.length:Int))) (.jp Tryz.f207 0 [1,1,1,0,1,0,0,1,0,0,0] 29 [2,3,6] 2 (.normal) (fun r_=>⟨[(2,.ptr 0 0),(3,.ptr 1 0),(6,.i_ v0),(98,.b_ r_)],[.box 29 (.dat (ak.lf1 p_a)),.box 29 (.dat (ak.lf1 p_b))]⟩) ⟨[(2,.ptr 0 0),(3,.ptr 1 0),(6,.i_ v0)],[.box 29 (.dat (ak.lf1 p_a)),.box 29 (.dat (ak.lf1 p_b))]⟩ (PL R_ p_a p_b v0).den (jW (by kernel_rfl)) fun r0 _ =>
 .iB (r0) (.ret ⟨[.kill 0,.kill 1],[4],[],2⟩ (.inr (.inl ()))) <|
 .rt [2,3,6] 2 (.inl (IntKind.wrap .i64 (v0 + 1)))) <|
 .ret ⟨[.kill 0,.kill 1],[],[],2⟩ (.inr (.inr (())))
def abG (R_:sO) (p_a:ak) (p_b:ak) (v0:Int) : Option (Unit ⊕ Unit) := bK (fun v_=>(DT R_ p_a p_b v_).den) FU (v0)
def PN (R_:sO) (p_a:ak) (p_b:ak) : (Int) → St := fun (v0)=>⟨[(2,.ptr 0 0),(3,.ptr 1 0),(6,.i_ v0)],[.box 29 (.dat (ak.lf1 p_a)),.box 29 (.dat (ak.lf1 p_b))]⟩
def wZ (r_:Unit ⊕ Unit) : Exit := match r_ with
 | .inl o_=>.ret
 | .inr (o_)=>.exit 2
def xg  (r_:Unit ⊕ Unit) : St := match r_ with
 | .inl o_=>⟨[(4,.b_ false)],[.dead,.dead]⟩
 | .inr (o_)=>⟨[],[.dead,.dead]⟩
theorem PO {R_:sO} {p_a:ak} {p_b:ak} {v0:Int} {r_:Unit ⊕ Unit} (h:abG R_ p_a p_b v0 = some r_) : fQ Tryz.f207 0 [1,1,1,0,1,0] (wZ r_) (xg r_) (PN R_ p_a p_b (v0)) :=
 dO dK (body := (Code.sub (bodyC Tryz.f207) [1,1,1,0,1,0,0])) (by kernel_rfl) (DT R_ p_a p_b) (PN R_ p_a p_b) wZ xg (fun r_=>by rcases r_ with _ | _ <;> rfl) (fun v_=>by kernel_rfl) h
def aiP (R_:sO) (p_a:ak) (p_b:ak) : Mo (Bool) :=
 .sj Tryz.f207 0 [1,0,0] [0,1,2,3,4,5,6,7,8,9,10,11] 1 12 [2,3] 2 (fun r_=>⟨[(2,.ptr 0 0),(3,.ptr 1 0),(18,.b_ r_)],[.box 29 (.dat (ak.lf1 p_a)),.box 29 (.dat (ak.lf1 p_b))]⟩) ⟨[(2,.ptr 0 0),(3,.ptr 1 0)],[.box 29 (.dat (ak.lf1 p_a)),.box 29 (.dat (ak.lf1 p_b))]⟩ (WV R_ p_a p_b).den (sW (by kernel_rfl)) fun r0 _ =>
 .sj Tryz.f207 0 [1,0,0] [12,13,14,15,16,17,18] 1 7 [2,3,18] 2 (fun r_=>⟨[(2,.ptr 0 0),(3,.ptr 1 0),(25,.b_ r_)],[.box 29 (.dat (ak.lf1 p_a)),.box 29 (.dat (ak.lf1 p_b))]⟩) ⟨[(2,.ptr 0 0),(3,.ptr 1 0),(18,.b_ r0)],[.box 29 (.dat (ak.lf1 p_a)),.box 29 (.dat (ak.lf1 p_b))]⟩ (WW R_ p_a p_b r0).den (sW (by kernel_rfl)) fun r1 _ =>
 .sj Tryz.f207 0 [1,0,0] [19,20,21,22,23,24,25,26,27] 1 9 [2,3,25] 2 (fun r_=>⟨[(2,.ptr 0 0),(3,.ptr 1 0),(34,.b_ r_)],[.box 29 (.dat (ak.lf1 p_a)),.box 29 (.dat (ak.lf1 p_b))]⟩) ⟨[(2,.ptr 0 0),(3,.ptr 1 0),(25,.b_ r1)],[.box 29 (.dat (ak.lf1 p_a)),.box 29 (.dat (ak.lf1 p_b))]⟩ (PE R_ p_a p_b r1).den (sW (by kernel_rfl)) fun r2 _ =>
 .sj Tryz.f207 0 [1,0,0] [28,29,30,31,32,33,34,35,36] 1 9 [2,3,34] 2 (fun r_=>⟨[(2,.ptr 0 0),(3,.ptr 1 0),(43,.b_ r_)],[.box 29 (.dat (ak.lf1 p_a)),.box 29 (.dat (ak.lf1 p_b))]⟩) ⟨[(2,.ptr 0 0),(3,.ptr 1 0),(34,.b_ r2)],[.box 29 (.dat (ak.lf1 p_a)),.box 29 (.dat (ak.lf1 p_b))]⟩ (PG R_ p_a p_b r2).den (sW (by kernel_rfl)) fun r3 _ =>
 .iB (r3) (.ret (bC 1) (false)) <|
 .eP (abE R_ p_a p_b 0) (fun o0 h0 =>
 .say [.pt_ 0 [2,3,5] 2 (wX (.inl o0)) (wY p_a p_b (.inl o0))] (ok1 (PK h0)) <|
 .ret (bC 1) (false)) fun o1 h0 =>
 .say [.pt_ 0 [2,3,5] 2 (wX (.inr (o1))) (wY p_a p_b (.inr (o1)))] (ok1 (PK h0)) <|
 .eP (abG R_ p_a p_b 0) (fun o2 h1 =>
 .say [.pt_ 0 [2,3,6] 2 (wZ (.inl o2)) (xg (.inl o2))] (ok1 (PO h1)) <|
 .ret (bC 1) (false)) fun o3 h1 =>
 .say [.pt_ 0 [2,3,6] 2 (wZ (.inr (o3))) (xg (.inr (o3)))] (ok1 (PO h1)) <|
 .ret (bC 1) (true)
theorem aiQ (R_:sO) (p_a:ak) (p_b:ak) : FV (Mo.den (aiP R_ p_a p_b)) 207 [.dat (ak.lf1 p_a),.dat (ak.lf1 p_b)] (fun r=>.b_ r) := bY Tryz.func207 (by kernel_rfl) (fun _=>rfl) (by kernel_rfl)
def kN:Nat → sO
 | 0=>{ m1 := fun p_a p_b=>none,ok1 := fun _ _ _ h=>(by cases h) }
 | n_ + 1=>{ m1 := fun p_a p_b=>Mo.den (aiP (kN n_) p_a p_b),ok1 := aiQ (kN n_) }
def Q8 (p_a:ak) (p_b:ak) : Option (Bool) := (kN FU).m1 p_a p_b
theorem WX (p_a:ak) (p_b:ak) : FV (Q8 p_a p_b) 207 [.dat (ak.lf1 p_a),.dat (ak.lf1 p_b)] (fun r=>.b_ r) := (kN FU).ok1 p_a p_b
end
end Go.Proofs.YtdnafbfmaphhhaaGreatDoor
