/- Printed by dec.py. -/
import Derived.Test.YtdnafbfmaphhhaaGreatDoorQE6
import Derived.Test.YtdnafbfmaphhhaaGreatDoorQE4
import Derived.Test.YtdnafbfmaphhhaaGreatDoorQEName
import Derived.Test.YtdnafbfmaphhhaaGreatDoorQE3
set_option linter.unusedSimpArgs false
set_option linter.unusedVariables false
namespace Go.Proofs.YtdnafbfmaphhhaaGreatDoor
open Go.RowKit
set_option maxRecDepth 20000
set_option maxHeartbeats 4000000
noncomputable section
structure U6 where
 m1:(p_p:aK) → Option (aK)
 ok1:∀ p_p,FV (m1 p_p) 235 [.dat (aK.lf1 p_p)] (fun r=>.dat (aK.lf1 r))
 m2:(p_l:List aK) → Option (List aK)
 ok2:∀ p_l,FH (m2 p_l) 287 [.lf (.rows 25 (p_l.map aK.lf)),.raw (.func (.func 235) #[] #[])] [] (fun r=>.lf (.rows 25 (r.map aK.lf))) (fun _=>[])
def U7 (R_:U6) (p_p:aK) : Mo (aK) :=
 .cl (yw p_p.cZ) fun r0 _ =>
 .cl (uq p_p.fArg) fun r1 _ =>
 .ask (Q64 p_p.fArgs) fun r2 h0 =>
 .say [.jc [] (.lf (.rows 5 (r2.map ak.lf))) [],.rows (p_p.eF.bW.map dF.lf)] (okc (ac6 _ _ h0) (ok1 (by simp [dF.aV] : p_p.eF.bW.map dF.lf = [] ++ (p_p.eF.bW.map dF.lf)))) <|
 .grd ((([] : List dF).length + p_p.eF.bW.length) * 16 ≤ 140737488355328) fun h1 =>
 .say [] (ok1 (cq_ dF.lf h1)) <|
 .cl (afX p_p.fExpr) fun r3 _ =>
 .ask (R_.m2 p_p.bg) fun r4 h2 =>
 .say [.jc [] (.lf (.rows 25 (r4.map aK.lf))) [],.at_ 0 0,.frz 2] (ok1 (R_.ok2 _ _ h2)) <|
 .ret (bC 1) (aK.mk p_p.fOp r0 r1 r2 p_p.fN p_p.fM p_p.eF r3 r4)
theorem ade (R_:U6) (p_p:aK) : FV (Mo.den (U7 R_ p_p)) 235 [.dat (aK.lf1 p_p)] (fun r=>.dat (aK.lf1 r)) := bY Tryz.func235 (by kernel_rfl) (fun _=>rfl) (by kernel_rfl)
def I4 (R_:U6) (p_l:List aK) : (Int × (List aK)) → Mo ((Int × (List aK)) ⊕ ((List aK))) := fun (v0,l0) =>
 .iB (decide ((v0:Int) < (p_l.length:Int))) (.ask (bM p_l v0) fun x0 h0 =>
 .say [.row (aK.lf1 x0)] (ok1 (aX aK.aV h0)) <|
 .cl (R_.ok1 x0) fun r0 _ =>
 .ask (bM l0 v0) fun x1 h1 =>
 .say [.row (aK.lf1 x1),.rows ((l0.set v0.toNat r0).map aK.lf)] (okc (cu aK.aV h1) (okc (st_ aK.aV l0 v0.toNat r0) (ok1 ((aX aK.aV h1).2)))) <|
 .rt [1,5,14,15,16] 1 (.inl (IntKind.wrap .i64 (v0 + 1),l0.set v0.toNat r0))) <|
 .rt [5] 1 (.inr (l0))
def Xq (R_:U6) (p_l:List aK) (v0:Int) (l0:List aK) : Option (((List aK))) := bK (fun v_=>(I4 R_ p_l v_).den) FU (v0,l0)
def U8 (R_:U6) (p_l:List aK) : Mo (List aK) :=
 .say [.num p_l.length] (ok1 (ln_ p_l aK.lf)) <|
 .ite ((p_l.length:Int) == 0) (fun c0 =>
 .say [.br true] (ok1 c0) <|
 .ret ⟨[.nil 0 25,.tod 0],[0],[],0⟩ ([])) fun c0 =>
 .say [.br false,.num p_l.length,.rows ((List.replicate (p_l.length:Int).toNat aK.z).map aK.lf),.num p_l.length] (okc c0 (okc (ln_ p_l aK.lf) (ok1 (rp_ aK.aV (p_l.length:Int).toNat aK.z)))) <|
 .grd ((0:Int) ≤ (p_l.length:Int) ∧ 400 * (p_l.length:Int).toNat ≤ 281474976710656 ∧ (p_l.length:Int).toNat ≤ maxLen) fun h0 =>
 .say [] (okc (mk_ (p_l.length:Int) h0) (ok1 (ln_ p_l aK.lf))) <|
 .lp Tryz.f287 0 [1,1,1,0,1,0] 0 [1,5,14,15,16] 1 (.exit 0) (fun r_=>⟨[(5,.own 0)],[.row 47 25 (r_.map aK.lf)]⟩) (Xq R_ p_l 0 (List.replicate (p_l.length:Int).toNat aK.z)) (lW (fun (v0,l0)=>⟨[(1,.raw (.func (.func 235) #[] #[])),(5,.own 0),(14,.lf (.rows 25 (p_l.map aK.lf))),(15,.i_ (p_l.length:Int)),(16,.i_ v0)],[.row 47 25 (l0.map aK.lf)]⟩) (by kernel_rfl) rfl fun v_=>by kernel_rfl) fun r0 _ =>
 .ret ⟨[.frz 0],[0],[],0⟩ (r0)
theorem adf (R_:U6) (p_l:List aK) : FH (Mo.den (U8 R_ p_l)) 287 [.lf (.rows 25 (p_l.map aK.lf)),.raw (.func (.func 235) #[] #[])] [] (fun r=>.lf (.rows 25 (r.map aK.lf))) (fun _=>[]) := gW Tryz.func287 (by kernel_rfl) (fun _=>rfl) (by kernel_rfl)
def lU:Nat → U6
 | 0=>{ m1 := fun p_p=>none,ok1 := fun _ _ h=>(by cases h),m2 := fun p_l=>none,ok2 := fun _ _ h=>(by cases h) }
 | n_ + 1=>{ m1 := fun p_p=>Mo.den (U7 (lU n_) p_p),ok1 := fun p_p r h=>ade (lU n_) p_p r h,m2 := fun p_l=>Mo.den (U8 (lU n_) p_l),ok2 := adf (lU n_) }
def ajt (p_p:aK) : Option (aK) := (lU FU).m1 p_p
theorem afY (p_p:aK) : FV (ajt p_p) 235 [.dat (aK.lf1 p_p)] (fun r=>.dat (aK.lf1 r)) := (lU FU).ok1 p_p
def adg (p_x:aT) : Mo (aT) :=
 .cH [] (ajs p_x.gu) fun r0 _ =>
 .ask (ajt p_x.iV) fun r1 h0 =>
 .say [.res (.dat (aK.lf1 r1)),.at_ 0 0,.frz 2] (ok1 (afY _ _ h0)) <|
 .ret (bC 1) (aT.aaf (aT.agK p_x r0) r1)
def afZ (p_x:aT) : Option (aT) := Mo.den (adg p_x)
theorem Xr (p_x:aT) : FV (afZ p_x) 188 [.dat (aT.lf1 p_x)] (fun r=>.dat (aT.lf1 r)) := bY Tryz.func188 (by kernel_rfl) (fun _=>rfl) (by kernel_rfl)
def RD (p_l:List aT) : (Int × (List aT)) → Mo ((Int × (List aT)) ⊕ ((List aT))) := fun (v0,l0) =>
 .iB (decide ((v0:Int) < (p_l.length:Int))) (.ask (bM p_l v0) fun x0 h0 =>
 .say [.row (aT.lf1 x0)] (ok1 (aX aT.aV h0)) <|
 .cl (Xr x0) fun r0 _ =>
 .ask (bM l0 v0) fun x1 h1 =>
 .say [.row (aT.lf1 x1),.rows ((l0.set v0.toNat r0).map aT.lf)] (okc (cu aT.aV h1) (okc (st_ aT.aV l0 v0.toNat r0) (ok1 ((aX aT.aV h1).2)))) <|
 .rt [1,5,14,15,16] 1 (.inl (IntKind.wrap .i64 (v0 + 1),l0.set v0.toNat r0))) <|
 .rt [5] 1 (.inr (l0))
def adh (p_l:List aT) (v0:Int) (l0:List aT) : Option (((List aT))) := bK (fun v_=>(RD p_l v_).den) FU (v0,l0)
def ahw (p_l:List aT) : Mo (List aT) :=
 .say [.num p_l.length] (ok1 (ln_ p_l aT.lf)) <|
 .ite ((p_l.length:Int) == 0) (fun c0 =>
 .say [.br true] (okc c0 (ok1 (by simp [aT.aV] : (([] : List aT).map aT.lf) = []))) <|
 .ret ⟨[.Fb 0 49 31,.kJ 0 (([] : List aT).map aT.lf),.mvn 0],[0],[(1,0)],1⟩ (([] : List aT))) fun c0 =>
 .say [.br false,.num p_l.length,.rows ((List.replicate (p_l.length:Int).toNat aT.z).map aT.lf),.num p_l.length] (okc c0 (okc (ln_ p_l aT.lf) (ok1 (rp_ aT.aV (p_l.length:Int).toNat aT.z)))) <|
 .grd ((0:Int) ≤ (p_l.length:Int) ∧ 456 * (p_l.length:Int).toNat ≤ 281474976710656 ∧ (p_l.length:Int).toNat ≤ maxLen) fun h0 =>
 .say [] (okc (mk_ (p_l.length:Int) h0) (ok1 (ln_ p_l aT.lf))) <|
 .lp Tryz.f231 0 [1,1,1,0,1,0] 0 [1,5,14,15,16] 1 (.exit 0) (fun r_=>⟨[(5,.own 0)],[.row 49 31 (r_.map aT.lf)]⟩) (adh p_l 0 (List.replicate (p_l.length:Int).toNat aT.z)) (lW (fun (v0,l0)=>⟨[(1,.raw (.func (.func 188) #[] #[])),(5,.own 0),(14,.lf (.rows 31 (p_l.map aT.lf))),(15,.i_ (p_l.length:Int)),(16,.i_ v0)],[.row 49 31 (l0.map aT.lf)]⟩) (by kernel_rfl) rfl fun v_=>by kernel_rfl) fun r0 _ =>
 .ret ⟨[.mvn 0],[0],[(1,0)],1⟩ (r0)
def Q82 (p_l:List aT) : Option (List aT) := Mo.den (ahw p_l)
theorem aju (p_l:List aT) : FH (Q82 p_l) 231 [.lf (.rows 31 (p_l.map aT.lf)),.raw (.func (.func 188) #[] #[])] [] (fun _=>.own 0) (fun r=>[.row 49 31 (r.map aT.lf)]) := gW Tryz.func231 (by kernel_rfl) (fun _=>rfl) (by kernel_rfl)
structure zX where
 m1:(p_s:aB) → Option (aB)
 ok1:∀ p_s,FV (m1 p_s) 232 [.dat (aB.lf1 p_s)] (fun r=>.dat (aB.lf1 r))
 m2:(p_l:List bH) → Option (List bH)
 ok2:∀ p_l,FH (m2 p_l) 283 [.lf (.rows 22 (p_l.map bH.lf)),.raw (.func (.func 284) #[] #[])] [] (fun r=>.lf (.rows 22 (r.map bH.lf))) (fun _=>[])
 m3:(p_l:List aB) → Option (List aB)
 ok3:∀ p_l,FH (m3 p_l) 285 [.lf (.rows 21 (p_l.map aB.lf)),.raw (.func (.func 232) #[] #[])] [] (fun r=>.lf (.rows 21 (r.map aB.lf))) (fun _=>[])
 m4:(p_p:bH) → Option (bH)
 ok4:∀ p_p,FV (m4 p_p) 284 [.dat (bH.lf1 p_p)] (fun r=>.dat (bH.lf1 r))
def U9 (R_:zX) (p_s:aB) : Mo (aB) :=
 .cl (uq p_s.sH) fun r0 _ =>
 .cl (uq p_s.sJ) fun r1 _ =>
 .cH [] (ac6 p_s.jY) fun r2 _ =>
 .cl (yw p_s.gy) fun r3 _ =>
 .cH [] (R_.ok2 p_s.dN) fun r4 _ =>
 .cH [] (R_.ok3 p_s.fG) fun r5 _ =>
 .ret (bC 1) (aB.mk p_s.jX p_s.kU r0 p_s.kV r1 r2 p_s.kW p_s.kX r3 r4 p_s.nM r5 p_s.iR)
theorem adi (R_:zX) (p_s:aB) : FV (Mo.den (U9 R_ p_s)) 232 [.dat (aB.lf1 p_s)] (fun r=>.dat (aB.lf1 r)) := bY Tryz.func232 (by kernel_rfl) (fun _=>rfl) (by kernel_rfl)
def I5 (R_:zX) (p_l:List bH) : (Int × (List bH)) → Mo ((Int × (List bH)) ⊕ ((List bH))) := fun (v0,l0) =>
 .iB (decide ((v0:Int) < (p_l.length:Int))) (.ask (bM p_l v0) fun x0 h0 =>
 .say [.row (bH.lf1 x0)] (ok1 (aX bH.aV h0)) <|
 .cl (R_.ok4 x0) fun r0 _ =>
 .ask (bM l0 v0) fun x1 h1 =>
 .say [.row (bH.lf1 x1),.rows ((l0.set v0.toNat r0).map bH.lf)] (okc (cu bH.aV h1) (okc (st_ bH.aV l0 v0.toNat r0) (ok1 ((aX bH.aV h1).2)))) <|
 .rt [1,5,14,15,16] 1 (.inl (IntKind.wrap .i64 (v0 + 1),l0.set v0.toNat r0))) <|
 .rt [5] 1 (.inr (l0))
def Xt (R_:zX) (p_l:List bH) (v0:Int) (l0:List bH) : Option (((List bH))) := bK (fun v_=>(I5 R_ p_l v_).den) FU (v0,l0)
def Va (R_:zX) (p_l:List bH) : Mo (List bH) :=
 .say [.num p_l.length] (ok1 (ln_ p_l bH.lf)) <|
 .ite ((p_l.length:Int) == 0) (fun c0 =>
 .say [.br true] (ok1 c0) <|
 .ret ⟨[.nil 0 22,.tod 0],[0],[],0⟩ ([])) fun c0 =>
 .say [.br false,.num p_l.length,.rows ((List.replicate (p_l.length:Int).toNat (bH.mk ⟨#[]⟩ aB.z)).map bH.lf),.num p_l.length] (okc c0 (okc (ln_ p_l bH.lf) (ok1 (rp_ bH.aV (p_l.length:Int).toNat (bH.mk ⟨#[]⟩ aB.z))))) <|
 .grd ((0:Int) ≤ (p_l.length:Int) ∧ 328 * (p_l.length:Int).toNat ≤ 281474976710656 ∧ (p_l.length:Int).toNat ≤ maxLen) fun h0 =>
 .say [] (okc (mk_ (p_l.length:Int) h0) (ok1 (ln_ p_l bH.lf))) <|
 .lp Tryz.f283 0 [1,1,1,0,1,0] 0 [1,5,14,15,16] 1 (.exit 0) (fun r_=>⟨[(5,.own 0)],[.row 217 22 (r_.map bH.lf)]⟩) (Xt R_ p_l 0 (List.replicate (p_l.length:Int).toNat (bH.mk ⟨#[]⟩ aB.z))) (lW (fun (v0,l0)=>⟨[(1,.raw (.func (.func 284) #[] #[])),(5,.own 0),(14,.lf (.rows 22 (p_l.map bH.lf))),(15,.i_ (p_l.length:Int)),(16,.i_ v0)],[.row 217 22 (l0.map bH.lf)]⟩) (by kernel_rfl) rfl fun v_=>by kernel_rfl) fun r0 _ =>
 .ret ⟨[.frz 0],[0],[],0⟩ (r0)
theorem adk (R_:zX) (p_l:List bH) : FH (Mo.den (Va R_ p_l)) 283 [.lf (.rows 22 (p_l.map bH.lf)),.raw (.func (.func 284) #[] #[])] [] (fun r=>.lf (.rows 22 (r.map bH.lf))) (fun _=>[]) := gW Tryz.func283 (by kernel_rfl) (fun _=>rfl) (by kernel_rfl)
def RF (R_:zX) (p_l:List aB) : (Int × (List aB)) → Mo ((Int × (List aB)) ⊕ ((List aB))) := fun (v0,l0) =>
 .iB (decide ((v0:Int) < (p_l.length:Int))) (.ask (bM p_l v0) fun x0 h0 =>
 .say [.row (aB.lf1 x0)] (ok1 (aX aB.aV h0)) <|
 .cl (R_.ok1 x0) fun r0 _ =>
 .ask (bM l0 v0) fun x1 h1 =>
 .say [.row (aB.lf1 x1),.rows ((l0.set v0.toNat r0).map aB.lf)] (okc (cu aB.aV h1) (okc (st_ aB.aV l0 v0.toNat r0) (ok1 ((aX aB.aV h1).2)))) <|
 .rt [1,5,14,15,16] 1 (.inl (IntKind.wrap .i64 (v0 + 1),l0.set v0.toNat r0))) <|
 .rt [5] 1 (.inr (l0))
def adl (R_:zX) (p_l:List aB) (v0:Int) (l0:List aB) : Option (((List aB))) := bK (fun v_=>(RF R_ p_l v_).den) FU (v0,l0)
def adn (R_:zX) (p_l:List aB) : Mo (List aB) :=
 .say [.num p_l.length] (ok1 (ln_ p_l aB.lf)) <|
 .ite ((p_l.length:Int) == 0) (fun c0 =>
 .say [.br true] (ok1 c0) <|
 .ret ⟨[.nil 0 21,.tod 0],[0],[],0⟩ ([])) fun c0 =>
 .say [.br false,.num p_l.length,.rows ((List.replicate (p_l.length:Int).toNat aB.z).map aB.lf),.num p_l.length] (okc c0 (okc (ln_ p_l aB.lf) (ok1 (rp_ aB.aV (p_l.length:Int).toNat aB.z)))) <|
 .grd ((0:Int) ≤ (p_l.length:Int) ∧ 312 * (p_l.length:Int).toNat ≤ 281474976710656 ∧ (p_l.length:Int).toNat ≤ maxLen) fun h0 =>
 .say [] (okc (mk_ (p_l.length:Int) h0) (ok1 (ln_ p_l aB.lf))) <|
 .lp Tryz.f285 0 [1,1,1,0,1,0] 0 [1,5,14,15,16] 1 (.exit 0) (fun r_=>⟨[(5,.own 0)],[.row 35 21 (r_.map aB.lf)]⟩) (adl R_ p_l 0 (List.replicate (p_l.length:Int).toNat aB.z)) (lW (fun (v0,l0)=>⟨[(1,.raw (.func (.func 232) #[] #[])),(5,.own 0),(14,.lf (.rows 21 (p_l.map aB.lf))),(15,.i_ (p_l.length:Int)),(16,.i_ v0)],[.row 35 21 (l0.map aB.lf)]⟩) (by kernel_rfl) rfl fun v_=>by kernel_rfl) fun r0 _ =>
 .ret ⟨[.frz 0],[0],[],0⟩ (r0)
theorem af0 (R_:zX) (p_l:List aB) : FH (Mo.den (adn R_ p_l)) 285 [.lf (.rows 21 (p_l.map aB.lf)),.raw (.func (.func 232) #[] #[])] [] (fun r=>.lf (.rows 21 (r.map aB.lf))) (fun _=>[]) := gW Tryz.func285 (by kernel_rfl) (fun _=>rfl) (by kernel_rfl)
def Vb (R_:zX) (p_p:bH) : Mo (bH) :=
 .say [.order [(true,0),(true,1),(true,2),(true,3),(false,4),(true,5),(false,6)] (some 6) []] ok0 <|
 .cl (R_.ok1 p_p.fF) fun r0 _ =>
 .ret (bC 1) (bH.mk p_p.fName r0)
theorem ado (R_:zX) (p_p:bH) : FV (Mo.den (Vb R_ p_p)) 284 [.dat (bH.lf1 p_p)] (fun r=>.dat (bH.lf1 r)) := bY Tryz.func284 (by kernel_rfl) (fun _=>rfl) (by kernel_rfl)
def iL:Nat → zX
 | 0=>{ m1 := fun p_s=>none,ok1 := fun _ _ h=>(by cases h),m2 := fun p_l=>none,ok2 := fun _ _ h=>(by cases h),m3 := fun p_l=>none,ok3 := fun _ _ h=>(by cases h),m4 := fun p_p=>none,ok4 := fun _ _ h=>(by cases h) }
 | n_ + 1=>{ m1 := fun p_s=>Mo.den (U9 (iL n_) p_s),ok1 := fun p_s r h=>adi (iL n_) p_s r h,m2 := fun p_l=>Mo.den (Va (iL n_) p_l),ok2 := fun p_l r h=>adk (iL n_) p_l r h,m3 := fun p_l=>Mo.den (adn (iL n_) p_l),ok3 := fun p_l r h=>af0 (iL n_) p_l r h,m4 := fun p_p=>Mo.den (Vb (iL n_) p_p),ok4 := ado (iL n_) }
def ajv (p_s:aB) : Option (aB) := (iL FU).m1 p_s
theorem af2 (p_s:aB) : FV (ajv p_s) 232 [.dat (aB.lf1 p_s)] (fun r=>.dat (aB.lf1 r)) := (iL FU).ok1 p_s
def adp (p_d:bP) : Mo (bP) :=
 .cH [] (aju p_d.dH) fun r0 _ =>
 .ask (ajv p_d.fF) fun r1 h0 =>
 .say [.res (.dat (aB.lf1 r1)),.at_ 0 0,.frz 2] (ok1 (af2 _ _ h0)) <|
 .ret (bC 1) (bP.mk p_d.fName r0 r1 p_d.oM p_d.l9)
def ajw (p_d:bP) : Option (bP) := Mo.den (adp p_d)
theorem af4 (p_d:bP) : FV (ajw p_d) 187 [.dat (bP.lf1 p_d)] (fun r=>.dat (bP.lf1 r)) := bY Tryz.func187 (by kernel_rfl) (fun _=>rfl) (by kernel_rfl)
def adq (p_l:List Int) : Mo (List Int) :=
 .say [.rows (p_l.map lfI)] (ok1 (by simp [lfI,lfK] : p_l.map lfI = [] ++ (p_l.map lfI))) <|
 .grd ((([] : List Int).length + p_l.length) * 8 ≤ 140737488355328) fun h0 =>
 .say [] (ok1 (cq_ lfI h0)) <|
 .ret ⟨[.mvn 0],[0],[(1,0)],1⟩ (p_l)
def af5 (p_l:List Int) : Option (List Int) := Mo.den (adq p_l)
theorem KP (p_l:List Int) : FH (af5 p_l) 138 [.lf (.rows 1 (p_l.map lfI))] [] (fun _=>.own 0) (fun r=>[.row 3 1 (r.map lfI)]) := gW Tryz.func138 (by kernel_rfl) (fun _=>rfl) (by kernel_rfl)
structure Vd where
 m1:(p_w:aG) → Option (aG)
 ok1:∀ p_w,FV (m1 p_w) 137 [.dat (aG.lf1 p_w)] (fun r=>.dat (aG.lf1 r))
 m2:(p_l:List aG) → Option (List aG)
 ok2:∀ p_l,FH (m2 p_l) 189 [.lf (.rows 78 (p_l.map aG.lf)),.raw (.func (.func 137) #[] #[])] [] (fun r=>.lf (.rows 78 (r.map aG.lf))) (fun _=>[])
def Ve (R_:Vd) (p_w:aG) : Mo (aG) :=
 .cl (uq p_w.mg) fun r0 _ =>
 .cl (uq p_w.bU) fun r1 _ =>
 .cl (uq p_w.gY) fun r2 _ =>
 .cl (af4 p_w.ou) fun r3 _ =>
 .cl (Xr p_w.aY) fun r4 _ =>
 .cH [] (R_.ok2 p_w.dL) fun r5 _ =>
 .ask (af5 p_w.eu) fun r6 h0 =>
 .say [.jc [] (.own 0) [.row 3 1 (r6.map lfI)],.at_ 0 0,.frz 2] (ok1 (KP _ _ h0)) <|
 .ret (bC 1) (aG.mk p_w.aU p_w.kM r0 r1 r2 r3 r4 p_w.zq p_w.fB r5 r6 p_w.kY)
theorem adr (R_:Vd) (p_w:aG) : FV (Mo.den (Ve R_ p_w)) 137 [.dat (aG.lf1 p_w)] (fun r=>.dat (aG.lf1 r)) := bY Tryz.func137 (by kernel_rfl) (fun _=>rfl) (by kernel_rfl)
def RG (R_:Vd) (p_l:List aG) : (Int × (List aG)) → Mo ((Int × (List aG)) ⊕ ((List aG))) := fun (v0,l0) =>
 .iB (decide ((v0:Int) < (p_l.length:Int))) (.ask (bM p_l v0) fun x0 h0 =>
 .say [.row (aG.lf1 x0)] (ok1 (aX aG.aV h0)) <|
 .cl (R_.ok1 x0) fun r0 _ =>
 .ask (bM l0 v0) fun x1 h1 =>
 .say [.row (aG.lf1 x1),.rows ((l0.set v0.toNat r0).map aG.lf)] (okc (cu aG.aV h1) (okc (st_ aG.aV l0 v0.toNat r0) (ok1 ((aX aG.aV h1).2)))) <|
 .rt [1,5,14,15,16] 1 (.inl (IntKind.wrap .i64 (v0 + 1),l0.set v0.toNat r0))) <|
 .rt [5] 1 (.inr (l0))
def ads (R_:Vd) (p_l:List aG) (v0:Int) (l0:List aG) : Option (((List aG))) := bK (fun v_=>(RG R_ p_l v_).den) FU (v0,l0)
def adt (R_:Vd) (p_l:List aG) : Mo (List aG) :=
 .say [.num p_l.length] (ok1 (ln_ p_l aG.lf)) <|
 .ite ((p_l.length:Int) == 0) (fun c0 =>
 .say [.br true] (ok1 c0) <|
 .ret ⟨[.nil 0 78,.tod 0],[0],[],0⟩ ([])) fun c0 =>
 .say [.br false,.num p_l.length,.rows ((List.replicate (p_l.length:Int).toNat aG.z).map aG.lf),.num p_l.length] (okc c0 (okc (ln_ p_l aG.lf) (ok1 (rp_ aG.aV (p_l.length:Int).toNat aG.z)))) <|
 .grd ((0:Int) ≤ (p_l.length:Int) ∧ 1168 * (p_l.length:Int).toNat ≤ 281474976710656 ∧ (p_l.length:Int).toNat ≤ maxLen) fun h0 =>
 .say [] (okc (mk_ (p_l.length:Int) h0) (ok1 (ln_ p_l aG.lf))) <|
 .lp Tryz.f189 0 [1,1,1,0,1,0] 0 [1,5,14,15,16] 1 (.exit 0) (fun r_=>⟨[(5,.own 0)],[.row 52 78 (r_.map aG.lf)]⟩) (ads R_ p_l 0 (List.replicate (p_l.length:Int).toNat aG.z)) (lW (fun (v0,l0)=>⟨[(1,.raw (.func (.func 137) #[] #[])),(5,.own 0),(14,.lf (.rows 78 (p_l.map aG.lf))),(15,.i_ (p_l.length:Int)),(16,.i_ v0)],[.row 52 78 (l0.map aG.lf)]⟩) (by kernel_rfl) rfl fun v_=>by kernel_rfl) fun r0 _ =>
 .ret ⟨[.frz 0],[0],[],0⟩ (r0)
theorem af6 (R_:Vd) (p_l:List aG) : FH (Mo.den (adt R_ p_l)) 189 [.lf (.rows 78 (p_l.map aG.lf)),.raw (.func (.func 137) #[] #[])] [] (fun r=>.lf (.rows 78 (r.map aG.lf))) (fun _=>[]) := gW Tryz.func189 (by kernel_rfl) (fun _=>rfl) (by kernel_rfl)
def lV:Nat → Vd
 | 0=>{ m1 := fun p_w=>none,ok1 := fun _ _ h=>(by cases h),m2 := fun p_l=>none,ok2 := fun _ _ h=>(by cases h) }
 | n_ + 1=>{ m1 := fun p_w=>Mo.den (Ve (lV n_) p_w),ok1 := fun p_w r h=>adr (lV n_) p_w r h,m2 := fun p_l=>Mo.den (adt (lV n_) p_l),ok2 := af6 (lV n_) }
def ak3 (p_w:aG) : Option (aG) := (lV FU).m1 p_w
theorem af7 (p_w:aG) : FV (ak3 p_w) 137 [.dat (aG.lf1 p_w)] (fun r=>.dat (aG.lf1 r)) := (lV FU).ok1 p_w
def adu (p_e:ay) : Mo (ay) :=
 .cl (af7 p_e.iH) fun r0 _ =>
 .ret (bC 1) (ay.mk p_e.bD p_e.fB p_e.jZ p_e.oN r0)
def af8 (p_e:ay) : Option (ay) := Mo.den (adu p_e)
theorem af9 (p_e:ay) : FV (af8 p_e) 102 [.dat (ay.lf1 p_e)] (fun r=>.dat (ay.lf1 r)) := bY Tryz.func102 (by kernel_rfl) (fun _=>rfl) (by kernel_rfl)
def RH (p_l:List ay) : (Int × (List ay)) → Mo ((Int × (List ay)) ⊕ ((List ay))) := fun (v0,l0) =>
 .iB (decide ((v0:Int) < (p_l.length:Int))) (.ask (bM p_l v0) fun x0 h0 =>
 .say [.row (ay.lf1 x0)] (ok1 (aX ay.aV h0)) <|
 .cl (af9 x0) fun r0 _ =>
 .ask (bM l0 v0) fun x1 h1 =>
 .say [.row (ay.lf1 x1),.rows ((l0.set v0.toNat r0).map ay.lf)] (okc (cu ay.aV h1) (okc (st_ ay.aV l0 v0.toNat r0) (ok1 ((aX ay.aV h1).2)))) <|
 .rt [1,5,14,15,16] 1 (.inl (IntKind.wrap .i64 (v0 + 1),l0.set v0.toNat r0))) <|
 .rt [5] 1 (.inr (l0))
def adv (p_l:List ay) (v0:Int) (l0:List ay) : Option (((List ay))) := bK (fun v_=>(RH p_l v_).den) FU (v0,l0)
def ahx (p_l:List ay) : Mo (List ay) :=
 .say [.num p_l.length] (ok1 (ln_ p_l ay.lf)) <|
 .ite ((p_l.length:Int) == 0) (fun c0 =>
 .say [.br true] (okc c0 (ok1 (by simp [ay.aV] : (([] : List ay).map ay.lf) = []))) <|
 .ret ⟨[.Fb 0 54 82,.kJ 0 (([] : List ay).map ay.lf),.mvn 0],[0],[(1,0)],1⟩ (([] : List ay))) fun c0 =>
 .say [.br false,.num p_l.length,.rows ((List.replicate (p_l.length:Int).toNat (ay.mk 0 0 ⟨#[]⟩ 0 aG.z)).map ay.lf),.num p_l.length] (okc c0 (okc (ln_ p_l ay.lf) (ok1 (rp_ ay.aV (p_l.length:Int).toNat (ay.mk 0 0 ⟨#[]⟩ 0 aG.z))))) <|
 .grd ((0:Int) ≤ (p_l.length:Int) ∧ 1208 * (p_l.length:Int).toNat ≤ 281474976710656 ∧ (p_l.length:Int).toNat ≤ maxLen) fun h0 =>
 .say [] (okc (mk_ (p_l.length:Int) h0) (ok1 (ln_ p_l ay.lf))) <|
 .lp Tryz.f101 0 [1,1,1,0,1,0] 0 [1,5,14,15,16] 1 (.exit 0) (fun r_=>⟨[(5,.own 0)],[.row 54 82 (r_.map ay.lf)]⟩) (adv p_l 0 (List.replicate (p_l.length:Int).toNat (ay.mk 0 0 ⟨#[]⟩ 0 aG.z))) (lW (fun (v0,l0)=>⟨[(1,.raw (.func (.func 102) #[] #[])),(5,.own 0),(14,.lf (.rows 82 (p_l.map ay.lf))),(15,.i_ (p_l.length:Int)),(16,.i_ v0)],[.row 54 82 (l0.map ay.lf)]⟩) (by kernel_rfl) rfl fun v_=>by kernel_rfl) fun r0 _ =>
 .ret ⟨[.mvn 0],[0],[(1,0)],1⟩ (r0)
def Q69 (p_l:List ay) : Option (List ay) := Mo.den (ahx p_l)
theorem Vf (p_l:List ay) : FH (Q69 p_l) 101 [.lf (.rows 82 (p_l.map ay.lf)),.raw (.func (.func 102) #[] #[])] [] (fun _=>.own 0) (fun r=>[.row 54 82 (r.map ay.lf)]) := gW Tryz.func101 (by kernel_rfl) (fun _=>rfl) (by kernel_rfl)
def adw (p_m:aj) : Mo (aj) :=
 .cH [] (Vf p_m.aQ) fun r0 _ =>
 .cH [] (KP p_m.fNext) fun r1 _ =>
 .cH [] (KP p_m.bn) fun r2 _ =>
 .ret ⟨[.kill 0,.kill 1,.mvn 2,.mvn 3,.mvn 4],[0],[(5,0),(6,1),(7,2)],3⟩ (aj.JX (aj.Wj (aj.mW p_m r0) r1) r2)
def aga (p_m:aj) : Option (aj) := Mo.den (adw p_m)
theorem Xu (p_m:aj) : FH (aga p_m) 103 [.dat (aj.lf1 p_m)] [] (fun r=>uS (.agg ((aj.lf1 r).map AV.lf)) [(8,.own 0),(10,.own 1),(11,.own 2)]) (fun r=>[.row 54 82 (r.aQ.map ay.lf),.row 3 1 (r.fNext.map lfI),.row 3 1 (r.bn.map lfI)]) := gW Tryz.func103 (by kernel_rfl) (fun _=>rfl) (by kernel_rfl)
def Vg (p_m:aj) (p_at:Int) : Mo (aj × bF) :=
 .say [.num p_m.aQ.length] (okc (ln_ p_m.aQ ay.lf) (ok1 (mX _ _ _:(p_m.aQ.drop (if (p_m.aQ.length:Int) < (if 0 > (if p_m.au > p_at then p_m.au else p_at) then 0 else (if p_m.au > p_at then p_m.au else p_at)) then (p_m.aQ.length:Int) else (if 0 > (if p_m.au > p_at then p_m.au else p_at) then 0 else (if p_m.au > p_at then p_m.au else p_at))).toNat).map ay.lf = ((p_m.aQ.map ay.lf).take ((p_m.aQ.map ay.lf).length:Int).toNat).drop (if (p_m.aQ.length:Int) < (if 0 > (if p_m.au > p_at then p_m.au else p_at) then 0 else (if p_m.au > p_at then p_m.au else p_at)) then (p_m.aQ.length:Int) else (if 0 > (if p_m.au > p_at then p_m.au else p_at) then 0 else (if p_m.au > p_at then p_m.au else p_at))).toNat))) <|
 .grd ((0:Int) ≤ (if (p_m.aQ.length:Int) < (if 0 > (if p_m.au > p_at then p_m.au else p_at) then 0 else (if p_m.au > p_at then p_m.au else p_at)) then (p_m.aQ.length:Int) else (if 0 > (if p_m.au > p_at then p_m.au else p_at) then 0 else (if p_m.au > p_at then p_m.au else p_at))) ∧ (if (p_m.aQ.length:Int) < (if 0 > (if p_m.au > p_at then p_m.au else p_at) then 0 else (if p_m.au > p_at then p_m.au else p_at)) then (p_m.aQ.length:Int) else (if 0 > (if p_m.au > p_at then p_m.au else p_at) then 0 else (if p_m.au > p_at then p_m.au else p_at))) ≤ (p_m.aQ.length:Int) ∧ (p_m.aQ.length:Int) ≤ (p_m.aQ.length:Int)) fun h0 =>
 .say [] (ok1 (JY _ _ h0:(0:Int) ≤ (if (p_m.aQ.length:Int) < (if 0 > (if p_m.au > p_at then p_m.au else p_at) then 0 else (if p_m.au > p_at then p_m.au else p_at)) then (p_m.aQ.length:Int) else (if 0 > (if p_m.au > p_at then p_m.au else p_at) then 0 else (if p_m.au > p_at then p_m.au else p_at))) ∧ (if (p_m.aQ.length:Int) < (if 0 > (if p_m.au > p_at then p_m.au else p_at) then 0 else (if p_m.au > p_at then p_m.au else p_at)) then (p_m.aQ.length:Int) else (if 0 > (if p_m.au > p_at then p_m.au else p_at) then 0 else (if p_m.au > p_at then p_m.au else p_at))) ≤ ((p_m.aQ.map ay.lf).length:Int) ∧ ((p_m.aQ.map ay.lf).length:Int) ≤ ((p_m.aQ.map ay.lf).length:Int))) <|
 .ask (Q69 (p_m.aQ.drop (if (p_m.aQ.length:Int) < (if 0 > (if p_m.au > p_at then p_m.au else p_at) then 0 else (if p_m.au > p_at then p_m.au else p_at)) then (p_m.aQ.length:Int) else (if 0 > (if p_m.au > p_at then p_m.au else p_at) then 0 else (if p_m.au > p_at then p_m.au else p_at))).toNat)) fun r0 h1 =>
 .say [.dP (.q 0 (.q 1 (.q 2 (.q 3 (.q 4 (.q 5 (.q 6 (.q 7 (.q 8 (.alt 9 (.q 10 (.l 11 (.l 12 .fin))) (.l 11 (.l 9 (.q 10 (.l 12 .fin)))))))))))))) (some 12) [3] [.rows ((p_m.aQ.drop (if (p_m.aQ.length:Int) < (if 0 > (if p_m.au > p_at then p_m.au else p_at) then 0 else (if p_m.au > p_at then p_m.au else p_at)) then (p_m.aQ.length:Int) else (if 0 > (if p_m.au > p_at then p_m.au else p_at) then 0 else (if p_m.au > p_at then p_m.au else p_at))).toNat).map ay.lf),.both [.at_ 6 9,.resv 1,.jc [] (.own 0) [.row 54 82 (r0.map ay.lf)],.slot 3] [.at_ 6 11,.resv 1,.slot 3,.jc [] (.own 0) [.row 54 82 (r0.map ay.lf)]]] [2,4,5,6,7] 5 [(2,.ptr 0 0),(4,.ptr 1 0),(5,.ptr 2 0),(6,.i_ (if (p_m.aQ.length:Int) < (if 0 > (if p_m.au > p_at then p_m.au else p_at) then 0 else (if p_m.au > p_at then p_m.au else p_at)) then (p_m.aQ.length:Int) else (if 0 > (if p_m.au > p_at then p_m.au else p_at) then 0 else (if p_m.au > p_at then p_m.au else p_at)))),(7,.ptr 3 0)] [.box 25 (.dat (aj.lf1 p_m)),.box 25 (Z25),.box 67 (.agg [.i_ 0,.i_ 0,.i_ 0,.bI 82]),.box 67 (.agg [.i_ p_m.fID,.i_ p_m.bD,.i_ (if (p_m.aQ.length:Int) < (if 0 > (if p_m.au > p_at then p_m.au else p_at) then 0 else (if p_m.au > p_at then p_m.au else p_at)) then (p_m.aQ.length:Int) else (if 0 > (if p_m.au > p_at then p_m.au else p_at) then 0 else (if p_m.au > p_at then p_m.au else p_at))),.own 4]),.row 54 82 (r0.map ay.lf)],.rows ((p_m.aQ.take (if (p_m.aQ.length:Int) < (if 0 > (if p_m.au > p_at then p_m.au else p_at) then 0 else (if p_m.au > p_at then p_m.au else p_at)) then (p_m.aQ.length:Int) else (if 0 > (if p_m.au > p_at then p_m.au else p_at) then 0 else (if p_m.au > p_at then p_m.au else p_at))).toNat).map ay.lf)] (okc (Vf _ _ h1) (okc (rf_ ⟨[(2,.ptr 0 0),(4,.ptr 1 0),(5,.ptr 2 0),(6,.i_ (if (p_m.aQ.length:Int) < (if 0 > (if p_m.au > p_at then p_m.au else p_at) then 0 else (if p_m.au > p_at then p_m.au else p_at)) then (p_m.aQ.length:Int) else (if 0 > (if p_m.au > p_at then p_m.au else p_at) then 0 else (if p_m.au > p_at then p_m.au else p_at)))),(7,.ptr 3 0)],[.box 25 (.dat (aj.lf1 p_m)),.box 25 (Z25),.box 67 (.agg [.i_ 0,.i_ 0,.i_ 0,.bI 82]),.box 67 (.agg [.i_ p_m.fID,.i_ p_m.bD,.i_ (if (p_m.aQ.length:Int) < (if 0 > (if p_m.au > p_at then p_m.au else p_at) then 0 else (if p_m.au > p_at then p_m.au else p_at)) then (p_m.aQ.length:Int) else (if 0 > (if p_m.au > p_at then p_m.au else p_at) then 0 else (if p_m.au > p_at then p_m.au else p_at))),.own 4]),.row 54 82 (r0.map ay.lf)]⟩) (okc (Vf _ _ h1) (okc (rf_ ⟨[(2,.ptr 0 0),(4,.ptr 1 0),(5,.ptr 2 0),(6,.i_ (if (p_m.aQ.length:Int) < (if 0 > (if p_m.au > p_at then p_m.au else p_at) then 0 else (if p_m.au > p_at then p_m.au else p_at)) then (p_m.aQ.length:Int) else (if 0 > (if p_m.au > p_at then p_m.au else p_at) then 0 else (if p_m.au > p_at then p_m.au else p_at)))),(7,.ptr 3 0)],[.box 25 (.dat (aj.lf1 p_m)),.box 25 (Z25),.box 67 (.agg [.i_ 0,.i_ 0,.i_ 0,.bI 82]),.box 67 (.agg [.i_ p_m.fID,.i_ p_m.bD,.i_ (if (p_m.aQ.length:Int) < (if 0 > (if p_m.au > p_at then p_m.au else p_at) then 0 else (if p_m.au > p_at then p_m.au else p_at)) then (p_m.aQ.length:Int) else (if 0 > (if p_m.au > p_at then p_m.au else p_at) then 0 else (if p_m.au > p_at then p_m.au else p_at))),.own 4]),.row 54 82 (r0.map ay.lf)]⟩) (ok1 (by first | (simp [ay.aV]; done) | exact mX _ _ _:(p_m.aQ.take (if (p_m.aQ.length:Int) < (if 0 > (if p_m.au > p_at then p_m.au else p_at) then 0 else (if p_m.au > p_at then p_m.au else p_at)) then (p_m.aQ.length:Int) else (if 0 > (if p_m.au > p_at then p_m.au else p_at) then 0 else (if p_m.au > p_at then p_m.au else p_at))).toNat).map ay.lf = ((p_m.aQ.map ay.lf).take (if (p_m.aQ.length:Int) < (if 0 > (if p_m.au > p_at then p_m.au else p_at) then 0 else (if p_m.au > p_at then p_m.au else p_at)) then (p_m.aQ.length:Int) else (if 0 > (if p_m.au > p_at then p_m.au else p_at) then 0 else (if p_m.au > p_at then p_m.au else p_at))).toNat).drop (0:Int).toNat)))))) <|
 .grd ((0:Int) ≤ 0 ∧ 0 ≤ (if (p_m.aQ.length:Int) < (if 0 > (if p_m.au > p_at then p_m.au else p_at) then 0 else (if p_m.au > p_at then p_m.au else p_at)) then (p_m.aQ.length:Int) else (if 0 > (if p_m.au > p_at then p_m.au else p_at) then 0 else (if p_m.au > p_at then p_m.au else p_at))) ∧ (if (p_m.aQ.length:Int) < (if 0 > (if p_m.au > p_at then p_m.au else p_at) then 0 else (if p_m.au > p_at then p_m.au else p_at)) then (p_m.aQ.length:Int) else (if 0 > (if p_m.au > p_at then p_m.au else p_at) then 0 else (if p_m.au > p_at then p_m.au else p_at))) ≤ (p_m.aQ.length:Int)) fun h2 =>
 .say [] (ok1 (by simpa using h2:(0:Int) ≤ 0 ∧ 0 ≤ (if (p_m.aQ.length:Int) < (if 0 > (if p_m.au > p_at then p_m.au else p_at) then 0 else (if p_m.au > p_at then p_m.au else p_at)) then (p_m.aQ.length:Int) else (if 0 > (if p_m.au > p_at then p_m.au else p_at) then 0 else (if p_m.au > p_at then p_m.au else p_at))) ∧ (if (p_m.aQ.length:Int) < (if 0 > (if p_m.au > p_at then p_m.au else p_at) then 0 else (if p_m.au > p_at then p_m.au else p_at)) then (p_m.aQ.length:Int) else (if 0 > (if p_m.au > p_at then p_m.au else p_at) then 0 else (if p_m.au > p_at then p_m.au else p_at))) ≤ ((p_m.aQ.map ay.lf).length:Int))) <|
 .ask (aga (aj.mW p_m (p_m.aQ.take (if (p_m.aQ.length:Int) < (if 0 > (if p_m.au > p_at then p_m.au else p_at) then 0 else (if p_m.au > p_at then p_m.au else p_at)) then (p_m.aQ.length:Int) else (if 0 > (if p_m.au > p_at then p_m.au else p_at) then 0 else (if p_m.au > p_at then p_m.au else p_at))).toNat))) fun r1 h3 =>
 .say [.dP (.q 0 (.alt 1 (.alt 2 (.l 3 (.l 4 .fin)) (.l 3 (.l 2 (.l 4 .fin)))) (.l 2 (.l 1 (.l 3 (.l 4 .fin)))))) (some 4) [1] [.both [.jc [] (ag_ (aj.lf1 r1) [(8,.own 0),(10,.own 1),(11,.own 2)]) [.row 54 82 (r1.aQ.map ay.lf),.row 3 1 (r1.fNext.map lfI),.row 3 1 (r1.bn.map lfI)],.both [] []] [.jc [] (ag_ (aj.lf1 r1) [(8,.own 0),(10,.own 1),(11,.own 2)]) [.row 54 82 (r1.aQ.map ay.lf),.row 3 1 (r1.fNext.map lfI),.row 3 1 (r1.bn.map lfI)]]] [4,5] 8 [(4,.ptr 1 0),(5,.ptr 2 0)] [.box 25 (.dat (aj.lf1 (aj.mW p_m (p_m.aQ.take (if (p_m.aQ.length:Int) < (if 0 > (if p_m.au > p_at then p_m.au else p_at) then 0 else (if p_m.au > p_at then p_m.au else p_at)) then (p_m.aQ.length:Int) else (if 0 > (if p_m.au > p_at then p_m.au else p_at) then 0 else (if p_m.au > p_at then p_m.au else p_at))).toNat)))),.box 25 (ag_ (aj.lf1 r1) [(8,.own 5),(10,.own 6),(11,.own 7)]),.box 67 (.agg [.i_ p_m.fID,.i_ p_m.bD,.i_ (if (p_m.aQ.length:Int) < (if 0 > (if p_m.au > p_at then p_m.au else p_at) then 0 else (if p_m.au > p_at then p_m.au else p_at)) then (p_m.aQ.length:Int) else (if 0 > (if p_m.au > p_at then p_m.au else p_at) then 0 else (if p_m.au > p_at then p_m.au else p_at))),.own 4]),.box 67 (.agg [.i_ p_m.fID,.i_ p_m.bD,.i_ (if (p_m.aQ.length:Int) < (if 0 > (if p_m.au > p_at then p_m.au else p_at) then 0 else (if p_m.au > p_at then p_m.au else p_at)) then (p_m.aQ.length:Int) else (if 0 > (if p_m.au > p_at then p_m.au else p_at) then 0 else (if p_m.au > p_at then p_m.au else p_at))),.own 4]),.row 54 82 (r0.map ay.lf),.row 54 82 (r1.aQ.map ay.lf),.row 3 1 (r1.fNext.map lfI),.row 3 1 (r1.bn.map lfI)]] (okc (Xu _ _ h3) (okc (rf_ ⟨[(4,.ptr 1 0),(5,.ptr 2 0)],[.box 25 (.dat (aj.lf1 (aj.mW p_m (p_m.aQ.take (if (p_m.aQ.length:Int) < (if 0 > (if p_m.au > p_at then p_m.au else p_at) then 0 else (if p_m.au > p_at then p_m.au else p_at)) then (p_m.aQ.length:Int) else (if 0 > (if p_m.au > p_at then p_m.au else p_at) then 0 else (if p_m.au > p_at then p_m.au else p_at))).toNat)))),.box 25 (ag_ (aj.lf1 r1) [(8,.own 5),(10,.own 6),(11,.own 7)]),.box 67 (.agg [.i_ p_m.fID,.i_ p_m.bD,.i_ (if (p_m.aQ.length:Int) < (if 0 > (if p_m.au > p_at then p_m.au else p_at) then 0 else (if p_m.au > p_at then p_m.au else p_at)) then (p_m.aQ.length:Int) else (if 0 > (if p_m.au > p_at then p_m.au else p_at) then 0 else (if p_m.au > p_at then p_m.au else p_at))),.own 4]),.box 67 (.agg [.i_ p_m.fID,.i_ p_m.bD,.i_ (if (p_m.aQ.length:Int) < (if 0 > (if p_m.au > p_at then p_m.au else p_at) then 0 else (if p_m.au > p_at then p_m.au else p_at)) then (p_m.aQ.length:Int) else (if 0 > (if p_m.au > p_at then p_m.au else p_at) then 0 else (if p_m.au > p_at then p_m.au else p_at))),.own 4]),.row 54 82 (r0.map ay.lf),.row 54 82 (r1.aQ.map ay.lf),.row 3 1 (r1.fNext.map lfI),.row 3 1 (r1.bn.map lfI)]⟩) (okc (rf_ ⟨[(4,.ptr 1 0),(5,.ptr 2 0)],[.box 25 (.dat (aj.lf1 (aj.mW p_m (p_m.aQ.take (if (p_m.aQ.length:Int) < (if 0 > (if p_m.au > p_at then p_m.au else p_at) then 0 else (if p_m.au > p_at then p_m.au else p_at)) then (p_m.aQ.length:Int) else (if 0 > (if p_m.au > p_at then p_m.au else p_at) then 0 else (if p_m.au > p_at then p_m.au else p_at))).toNat)))),.box 25 (ag_ (aj.lf1 r1) [(8,.own 5),(10,.own 6),(11,.own 7)]),.box 67 (.agg [.i_ p_m.fID,.i_ p_m.bD,.i_ (if (p_m.aQ.length:Int) < (if 0 > (if p_m.au > p_at then p_m.au else p_at) then 0 else (if p_m.au > p_at then p_m.au else p_at)) then (p_m.aQ.length:Int) else (if 0 > (if p_m.au > p_at then p_m.au else p_at) then 0 else (if p_m.au > p_at then p_m.au else p_at))),.own 4]),.box 67 (.agg [.i_ p_m.fID,.i_ p_m.bD,.i_ (if (p_m.aQ.length:Int) < (if 0 > (if p_m.au > p_at then p_m.au else p_at) then 0 else (if p_m.au > p_at then p_m.au else p_at)) then (p_m.aQ.length:Int) else (if 0 > (if p_m.au > p_at then p_m.au else p_at) then 0 else (if p_m.au > p_at then p_m.au else p_at))),.own 4]),.row 54 82 (r0.map ay.lf),.row 54 82 (r1.aQ.map ay.lf),.row 3 1 (r1.fNext.map lfI),.row 3 1 (r1.bn.map lfI)]⟩) (okc (Xu _ _ h3) (ok1 (rf_ ⟨[(4,.ptr 1 0),(5,.ptr 2 0)],[.box 25 (.dat (aj.lf1 (aj.mW p_m (p_m.aQ.take (if (p_m.aQ.length:Int) < (if 0 > (if p_m.au > p_at then p_m.au else p_at) then 0 else (if p_m.au > p_at then p_m.au else p_at)) then (p_m.aQ.length:Int) else (if 0 > (if p_m.au > p_at then p_m.au else p_at) then 0 else (if p_m.au > p_at then p_m.au else p_at))).toNat)))),.box 25 (ag_ (aj.lf1 r1) [(8,.own 5),(10,.own 6),(11,.own 7)]),.box 67 (.agg [.i_ p_m.fID,.i_ p_m.bD,.i_ (if (p_m.aQ.length:Int) < (if 0 > (if p_m.au > p_at then p_m.au else p_at) then 0 else (if p_m.au > p_at then p_m.au else p_at)) then (p_m.aQ.length:Int) else (if 0 > (if p_m.au > p_at then p_m.au else p_at) then 0 else (if p_m.au > p_at then p_m.au else p_at))),.own 4]),.box 67 (.agg [.i_ p_m.fID,.i_ p_m.bD,.i_ (if (p_m.aQ.length:Int) < (if 0 > (if p_m.au > p_at then p_m.au else p_at) then 0 else (if p_m.au > p_at then p_m.au else p_at)) then (p_m.aQ.length:Int) else (if 0 > (if p_m.au > p_at then p_m.au else p_at) then 0 else (if p_m.au > p_at then p_m.au else p_at))),.own 4]),.row 54 82 (r0.map ay.lf),.row 54 82 (r1.aQ.map ay.lf),.row 3 1 (r1.fNext.map lfI),.row 3 1 (r1.bn.map lfI)]⟩)))))) <|
 .ret ⟨[.kill 0,.kill 1,.kill 2,.kill 3,.mvn 5,.mvn 6,.mvn 7,.mvn 4],[0,1],[(8,0),(9,1),(10,2),(11,3)],4⟩ (r1,bF.mk p_m.fID p_m.bD (if (p_m.aQ.length:Int) < (if 0 > (if p_m.au > p_at then p_m.au else p_at) then 0 else (if p_m.au > p_at then p_m.au else p_at)) then (p_m.aQ.length:Int) else (if 0 > (if p_m.au > p_at then p_m.au else p_at) then 0 else (if p_m.au > p_at then p_m.au else p_at))) r0)
def agb (p_m:aj) (p_at:Int) : Option (aj × bF) := Mo.den (Vg p_m p_at)
theorem Xv (p_m:aj) (p_at:Int) : FH (agb p_m p_at) 73 [.dat (aj.lf1 p_m),.i_ p_at] [] (fun r=>.tup [uS (.agg ((aj.lf1 r.1).map AV.lf)) [(8,.own 0),(10,.own 1),(11,.own 2)],.agg [.i_ r.2.dX,.i_ r.2.bD,.i_ r.2.fAt,.own 3]]) (fun r=>[.row 54 82 (r.1.aQ.map ay.lf),.row 3 1 (r.1.fNext.map lfI),.row 3 1 (r.1.bn.map lfI),.row 54 82 (r.2.aH.map ay.lf)]) := gW Tryz.func73 (by kernel_rfl) (fun _=>rfl) (by kernel_rfl)
def adx (p_l:List ay) : Mo (List ay) :=
 .say [.at_ 4 2,.tod 7] ok0 <|
 .cH [] (Xv (aj.mW aj.z p_l) 0) fun r0 _ =>
 .ret ⟨[.kill 0,.kill 1,.kill 2,.kill 4,.kill 5,.mvn 3],[0],[(6,0)],1⟩ (r0.2.aH)
def agc (p_l:List ay) : Option (List ay) := Mo.den (adx p_l)
theorem Xw (p_l:List ay) : FH (agc p_l) 37 [.lf (.rows 82 (p_l.map ay.lf))] [] (fun _=>.own 0) (fun r=>[.row 54 82 (r.map ay.lf)]) := gW Tryz.func37 (by kernel_rfl) (fun _=>rfl) (by kernel_rfl)
def Ed (p_b0:aF) (p_x:ah) (r0:Int) : Mo ((Int × Int × Int × Int × Int × Int × Int × Int × Int × Int × Int × Int × (List ay) × (List ay) × (List Int) × (List Int))) :=
 .ite (decide ((r0:Int) < (p_b0.aO.aQ.length:Int))) (fun c0 =>
 .say [.br true,.at_ 8 7,.frz 6,.frz 7,.frz 8,.tod 25] (ok1 c0) <|
 .cH [] (Xv p_b0.aO r0) fun r1 _ =>
 .ret ⟨[.frz 13],[0,3],[(10,6),(11,7),(12,8)],10⟩ (r1.1.fID,r1.1.dI,r1.1.bD,r1.1.je,r1.1.dM,r1.1.gJ,r1.1.gI,r1.1.fH,r1.1.au,r1.2.dX,r1.2.bD,r1.2.fAt,r1.2.aH,r1.1.aQ,r1.1.fNext,r1.1.bn)) fun c0 =>
 .say [.br false] (ok1 c0) <|
 .rt [0,3] 10 (p_b0.aO.fID,p_b0.aO.dI,p_b0.aO.bD,p_b0.aO.je,p_b0.aO.dM,p_b0.aO.gJ,p_b0.aO.gI,p_b0.aO.fH,p_b0.aO.au,p_b0.eG.dX,p_b0.eG.bD,p_b0.eG.fAt,p_b0.eG.aH,p_b0.aO.aQ,p_b0.aO.fNext,p_b0.aO.bn)
def KQ (p_b0:aF) (p_x:ah) (r0:Int) : Option ((Int × Int × Int × Int × Int × Int × Int × Int × Int × Int × Int × Int × (List ay) × (List ay) × (List Int) × (List Int))) := Mo.den (Ed p_b0 p_x r0)
def Ee (p_b0:aF) (p_x:ah) (r_:(Int × Int × Int × Int × Int × Int × Int × Int × Int × Int × Int × Int × (List ay) × (List ay) × (List Int) × (List Int))) : St := ⟨[(0,.ptr 0 0),(3,.ptr 5 0)],[.box 97 (.agg [.i_ r_.1,.i_ r_.2.1,.i_ r_.2.2.1,.i_ r_.2.2.2.1,.i_ r_.2.2.2.2.1,.i_ r_.2.2.2.2.2.1,.i_ r_.2.2.2.2.2.2.1,.i_ r_.2.2.2.2.2.2.2.1,.own 6,.i_ r_.2.2.2.2.2.2.2.2.1,.own 7,.own 8,.own 9,.i_ r_.2.2.2.2.2.2.2.2.2.1,.i_ r_.2.2.2.2.2.2.2.2.2.2.1,.i_ r_.2.2.2.2.2.2.2.2.2.2.2.1,.lf (.rows 82 (r_.2.2.2.2.2.2.2.2.2.2.2.2.1.map ay.lf))]),.dead,.dead,.dead,.dead,.box 63 (.dat (ah.lf1 p_x)),.row 54 82 (r_.2.2.2.2.2.2.2.2.2.2.2.2.2.1.map ay.lf),.row 3 1 (r_.2.2.2.2.2.2.2.2.2.2.2.2.2.2.1.map lfI),.row 3 1 (r_.2.2.2.2.2.2.2.2.2.2.2.2.2.2.2.map lfI),.row 63 9 (p_b0.dw.map ah.lf)]⟩
theorem ady {p_b0:aF} {p_x:ah} {r0:Int} {r_:(Int × Int × Int × Int × Int × Int × Int × Int × Int × Int × Int × Int × (List ay) × (List ay) × (List Int) × (List Int))} (h:KQ p_b0 p_x r0 = some r_) : fQ Tryz.f83 5 [1,0,1,1] (.normal) (Ee p_b0 p_x r_) ⟨[(0,.ptr 0 0),(3,.ptr 5 0),(4,.i_ r0),(18,.lf (.bool (decide ((r0:Int) < (p_b0.aO.aQ.length:Int)))))],[.box 97 (ag_ (aF.lf1 p_b0) [(8,.own 6),(10,.own 7),(11,.own 8),(12,.own 9)]),.dead,.dead,.dead,.dead,.box 63 (.dat (ah.lf1 p_x)),.row 54 82 (p_b0.aO.aQ.map ay.lf),.row 3 1 (p_b0.aO.fNext.map lfI),.row 3 1 (p_b0.aO.bn.map lfI),.row 63 9 (p_b0.dw.map ah.lf)]⟩ :=
 jo dK (Ed p_b0 p_x r0) (fun _=>.normal) (Ee p_b0 p_x) (by kernel_rfl) h
def Ef (p_b0:aF) (p_x:ah) (r0:(Int × Int × Int × Int × Int × Int × Int × Int × Int × Int × Int × Int × (List ay) × (List ay) × (List Int) × (List Int))) : Mo (((List ay))) :=
 .ite (decide ((IntKind.wrap .i64 ((r0.2.2.2.2.2.2.2.2.2.2.2.2.2.1.length:Int) - p_x.aY) : Int) < (p_x.aH.length:Int))) (fun c0 =>
 .say [.br true] (okc c0 (ok1 (mX _ _ _:(p_x.aH.drop (if (IntKind.wrap .i64 ((r0.2.2.2.2.2.2.2.2.2.2.2.2.2.1.length:Int) - p_x.aY)) > 0 then (IntKind.wrap .i64 ((r0.2.2.2.2.2.2.2.2.2.2.2.2.2.1.length:Int) - p_x.aY)) else 0).toNat).map ay.lf = ((p_x.aH.map ay.lf).take ((p_x.aH.map ay.lf).length:Int).toNat).drop (if (IntKind.wrap .i64 ((r0.2.2.2.2.2.2.2.2.2.2.2.2.2.1.length:Int) - p_x.aY)) > 0 then (IntKind.wrap .i64 ((r0.2.2.2.2.2.2.2.2.2.2.2.2.2.1.length:Int) - p_x.aY)) else 0).toNat))) <|
 .grd ((0:Int) ≤ (if (IntKind.wrap .i64 ((r0.2.2.2.2.2.2.2.2.2.2.2.2.2.1.length:Int) - p_x.aY)) > 0 then (IntKind.wrap .i64 ((r0.2.2.2.2.2.2.2.2.2.2.2.2.2.1.length:Int) - p_x.aY)) else 0) ∧ (if (IntKind.wrap .i64 ((r0.2.2.2.2.2.2.2.2.2.2.2.2.2.1.length:Int) - p_x.aY)) > 0 then (IntKind.wrap .i64 ((r0.2.2.2.2.2.2.2.2.2.2.2.2.2.1.length:Int) - p_x.aY)) else 0) ≤ (p_x.aH.length:Int) ∧ (p_x.aH.length:Int) ≤ (p_x.aH.length:Int)) fun h0 =>
 .say [] (ok1 (JY _ _ h0:(0:Int) ≤ (if (IntKind.wrap .i64 ((r0.2.2.2.2.2.2.2.2.2.2.2.2.2.1.length:Int) - p_x.aY)) > 0 then (IntKind.wrap .i64 ((r0.2.2.2.2.2.2.2.2.2.2.2.2.2.1.length:Int) - p_x.aY)) else 0) ∧ (if (IntKind.wrap .i64 ((r0.2.2.2.2.2.2.2.2.2.2.2.2.2.1.length:Int) - p_x.aY)) > 0 then (IntKind.wrap .i64 ((r0.2.2.2.2.2.2.2.2.2.2.2.2.2.1.length:Int) - p_x.aY)) else 0) ≤ ((p_x.aH.map ay.lf).length:Int) ∧ ((p_x.aH.map ay.lf).length:Int) ≤ ((p_x.aH.map ay.lf).length:Int))) <|
 .ask (agc (p_x.aH.drop (if (IntKind.wrap .i64 ((r0.2.2.2.2.2.2.2.2.2.2.2.2.2.1.length:Int) - p_x.aY)) > 0 then (IntKind.wrap .i64 ((r0.2.2.2.2.2.2.2.2.2.2.2.2.2.1.length:Int) - p_x.aY)) else 0).toNat)) fun r1 h1 =>
 .say [.dP (.q 0 (.q 1 (.q 2 (.q 3 (.q 5 (.q 6 (.q 7 (.q 8 (.q 9 (.alt 4 (.l 10 (.l 11 (.q 12 (.q 13 (.l 14 .fin))))) (.l 10 (.l 4 (.l 11 (.q 12 (.q 13 (.l 14 .fin)))))))))))))))) (some 14) [6,10] [.rows ((p_x.aH.drop (if (IntKind.wrap .i64 ((r0.2.2.2.2.2.2.2.2.2.2.2.2.2.1.length:Int) - p_x.aY)) > 0 then (IntKind.wrap .i64 ((r0.2.2.2.2.2.2.2.2.2.2.2.2.2.1.length:Int) - p_x.aY)) else 0).toNat).map ay.lf),.both [.at_ 16 4,.resv 1,.jc [] (.own 0) [.row 54 82 (r1.map ay.lf)],.rows ((r0.2.2.2.2.2.2.2.2.2.2.2.2.2.1 ++ r1).map ay.lf),.slot 10] [.at_ 16 10,.resv 1,.jc [] (.own 0) [.row 54 82 (r1.map ay.lf)],.rows ((r0.2.2.2.2.2.2.2.2.2.2.2.2.2.1 ++ r1).map ay.lf),.slot 10]] [0,3,5] 12 [(0,.ptr 0 0),(3,.ptr 5 0),(5,.ptr 0 0)] [.box 97 (.agg [.i_ r0.1,.i_ r0.2.1,.i_ r0.2.2.1,.i_ r0.2.2.2.1,.i_ r0.2.2.2.2.1,.i_ r0.2.2.2.2.2.1,.i_ r0.2.2.2.2.2.2.1,.i_ r0.2.2.2.2.2.2.2.1,.own 10,.i_ r0.2.2.2.2.2.2.2.2.1,.own 7,.own 8,.own 9,.i_ r0.2.2.2.2.2.2.2.2.2.1,.i_ r0.2.2.2.2.2.2.2.2.2.2.1,.i_ r0.2.2.2.2.2.2.2.2.2.2.2.1,.lf (.rows 82 (r0.2.2.2.2.2.2.2.2.2.2.2.2.1.map ay.lf))]),.dead,.dead,.dead,.dead,.box 63 (.dat (ah.lf1 p_x)),.dead,.row 3 1 (r0.2.2.2.2.2.2.2.2.2.2.2.2.2.2.1.map lfI),.row 3 1 (r0.2.2.2.2.2.2.2.2.2.2.2.2.2.2.2.map lfI),.row 63 9 (p_b0.dw.map ah.lf),.row 54 82 ((r0.2.2.2.2.2.2.2.2.2.2.2.2.2.1 ++ r1).map ay.lf),.row 54 82 (r1.map ay.lf)]] (okc (Xw _ _ h1) (ok1 (by simp [ay.aV] : (r0.2.2.2.2.2.2.2.2.2.2.2.2.2.1 ++ r1).map ay.lf = (r0.2.2.2.2.2.2.2.2.2.2.2.2.2.1.map ay.lf) ++ (r1.map ay.lf)))) <|
 .grd ((r0.2.2.2.2.2.2.2.2.2.2.2.2.2.1.length + r1.length) * 1208 ≤ 140737488355328) fun h2 =>
 .say [] (okc (by simpa using h2:((r0.2.2.2.2.2.2.2.2.2.2.2.2.2.1.map ay.lf).length + (r1.map ay.lf).length) * 1208 ≤ 140737488355328) (okc (rf_ ⟨[(0,.ptr 0 0),(3,.ptr 5 0),(5,.ptr 0 0)],[.box 97 (.agg [.i_ r0.1,.i_ r0.2.1,.i_ r0.2.2.1,.i_ r0.2.2.2.1,.i_ r0.2.2.2.2.1,.i_ r0.2.2.2.2.2.1,.i_ r0.2.2.2.2.2.2.1,.i_ r0.2.2.2.2.2.2.2.1,.own 10,.i_ r0.2.2.2.2.2.2.2.2.1,.own 7,.own 8,.own 9,.i_ r0.2.2.2.2.2.2.2.2.2.1,.i_ r0.2.2.2.2.2.2.2.2.2.2.1,.i_ r0.2.2.2.2.2.2.2.2.2.2.2.1,.lf (.rows 82 (r0.2.2.2.2.2.2.2.2.2.2.2.2.1.map ay.lf))]),.dead,.dead,.dead,.dead,.box 63 (.dat (ah.lf1 p_x)),.dead,.row 3 1 (r0.2.2.2.2.2.2.2.2.2.2.2.2.2.2.1.map lfI),.row 3 1 (r0.2.2.2.2.2.2.2.2.2.2.2.2.2.2.2.map lfI),.row 63 9 (p_b0.dw.map ah.lf),.row 54 82 ((r0.2.2.2.2.2.2.2.2.2.2.2.2.2.1 ++ r1).map ay.lf),.row 54 82 (r1.map ay.lf)]⟩) (okc (Xw _ _ h1) (okc (by simp [ay.aV] : (r0.2.2.2.2.2.2.2.2.2.2.2.2.2.1 ++ r1).map ay.lf = (r0.2.2.2.2.2.2.2.2.2.2.2.2.2.1.map ay.lf) ++ (r1.map ay.lf)) (okc (by simpa using h2:((r0.2.2.2.2.2.2.2.2.2.2.2.2.2.1.map ay.lf).length + (r1.map ay.lf).length) * 1208 ≤ 140737488355328) (ok1 (rf_ ⟨[(0,.ptr 0 0),(3,.ptr 5 0),(5,.ptr 0 0)],[.box 97 (.agg [.i_ r0.1,.i_ r0.2.1,.i_ r0.2.2.1,.i_ r0.2.2.2.1,.i_ r0.2.2.2.2.1,.i_ r0.2.2.2.2.2.1,.i_ r0.2.2.2.2.2.2.1,.i_ r0.2.2.2.2.2.2.2.1,.own 10,.i_ r0.2.2.2.2.2.2.2.2.1,.own 7,.own 8,.own 9,.i_ r0.2.2.2.2.2.2.2.2.2.1,.i_ r0.2.2.2.2.2.2.2.2.2.2.1,.i_ r0.2.2.2.2.2.2.2.2.2.2.2.1,.lf (.rows 82 (r0.2.2.2.2.2.2.2.2.2.2.2.2.1.map ay.lf))]),.dead,.dead,.dead,.dead,.box 63 (.dat (ah.lf1 p_x)),.dead,.row 3 1 (r0.2.2.2.2.2.2.2.2.2.2.2.2.2.2.1.map lfI),.row 3 1 (r0.2.2.2.2.2.2.2.2.2.2.2.2.2.2.2.map lfI),.row 63 9 (p_b0.dw.map ah.lf),.row 54 82 ((r0.2.2.2.2.2.2.2.2.2.2.2.2.2.1 ++ r1).map ay.lf),.row 54 82 (r1.map ay.lf)]⟩))))))) <|
 .ret ⟨[],[0,3,5],[(10,6)],10⟩ (r0.2.2.2.2.2.2.2.2.2.2.2.2.2.1 ++ r1)) fun c0 =>
 .say [.br false] (ok1 c0) <|
 .rt [0,3,5] 10 (r0.2.2.2.2.2.2.2.2.2.2.2.2.2.1)
def KR (p_b0:aF) (p_x:ah) (r0:(Int × Int × Int × Int × Int × Int × Int × Int × Int × Int × Int × Int × (List ay) × (List ay) × (List Int) × (List Int))) : Option (((List ay))) := Mo.den (Ef p_b0 p_x r0)
def Eh (p_b0:aF) (p_x:ah) (r0:(Int × Int × Int × Int × Int × Int × Int × Int × Int × Int × Int × Int × (List ay) × (List ay) × (List Int) × (List Int))) (r_:((List ay))) : St := ⟨[(0,.ptr 0 0),(3,.ptr 5 0),(5,.ptr 0 0)],[.box 97 (.agg [.i_ r0.1,.i_ r0.2.1,.i_ r0.2.2.1,.i_ r0.2.2.2.1,.i_ r0.2.2.2.2.1,.i_ r0.2.2.2.2.2.1,.i_ r0.2.2.2.2.2.2.1,.i_ r0.2.2.2.2.2.2.2.1,.own 6,.i_ r0.2.2.2.2.2.2.2.2.1,.own 7,.own 8,.own 9,.i_ r0.2.2.2.2.2.2.2.2.2.1,.i_ r0.2.2.2.2.2.2.2.2.2.2.1,.i_ r0.2.2.2.2.2.2.2.2.2.2.2.1,.lf (.rows 82 (r0.2.2.2.2.2.2.2.2.2.2.2.2.1.map ay.lf))]),.dead,.dead,.dead,.dead,.box 63 (.dat (ah.lf1 p_x)),.row 54 82 (r_.map ay.lf),.row 3 1 (r0.2.2.2.2.2.2.2.2.2.2.2.2.2.2.1.map lfI),.row 3 1 (r0.2.2.2.2.2.2.2.2.2.2.2.2.2.2.2.map lfI),.row 63 9 (p_b0.dw.map ah.lf)]⟩
theorem adz {p_b0:aF} {p_x:ah} {r0:(Int × Int × Int × Int × Int × Int × Int × Int × Int × Int × Int × Int × (List ay) × (List ay) × (List Int) × (List Int))} {r_:((List ay))} (h:KR p_b0 p_x r0 = some r_) : fQ Tryz.f83 5 [1,1,1,0,1,1] (.normal) (Eh p_b0 p_x r0 r_) ⟨[(0,.ptr 0 0),(3,.ptr 5 0),(5,.ptr 0 0),(6,.i_ (IntKind.wrap .i64 ((r0.2.2.2.2.2.2.2.2.2.2.2.2.2.1.length:Int) - p_x.aY))),(49,.lf (.bool (decide ((IntKind.wrap .i64 ((r0.2.2.2.2.2.2.2.2.2.2.2.2.2.1.length:Int) - p_x.aY) : Int) < (p_x.aH.length:Int)))))],[.box 97 (.agg [.i_ r0.1,.i_ r0.2.1,.i_ r0.2.2.1,.i_ r0.2.2.2.1,.i_ r0.2.2.2.2.1,.i_ r0.2.2.2.2.2.1,.i_ r0.2.2.2.2.2.2.1,.i_ r0.2.2.2.2.2.2.2.1,.own 6,.i_ r0.2.2.2.2.2.2.2.2.1,.own 7,.own 8,.own 9,.i_ r0.2.2.2.2.2.2.2.2.2.1,.i_ r0.2.2.2.2.2.2.2.2.2.2.1,.i_ r0.2.2.2.2.2.2.2.2.2.2.2.1,.lf (.rows 82 (r0.2.2.2.2.2.2.2.2.2.2.2.2.1.map ay.lf))]),.dead,.dead,.dead,.dead,.box 63 (.dat (ah.lf1 p_x)),.row 54 82 (r0.2.2.2.2.2.2.2.2.2.2.2.2.2.1.map ay.lf),.row 3 1 (r0.2.2.2.2.2.2.2.2.2.2.2.2.2.2.1.map lfI),.row 3 1 (r0.2.2.2.2.2.2.2.2.2.2.2.2.2.2.2.map lfI),.row 63 9 (p_b0.dw.map ah.lf)]⟩ :=
 jo dK (Ef p_b0 p_x r0) (fun _=>.normal) (Eh p_b0 p_x r0) (by kernel_rfl) h
def ahy (p_x:ah) (p_b0:aF) : Mo (aF) :=
 .ask (Q32 p_x p_b0) fun r0 h0 =>
 .say [.jc [0,1,2,3,4] (.i_ r0) [.box 97 (ag_ (aF.lf1 p_b0) [(8,.own 5),(10,.own 6),(11,.own 7),(12,.own 8)]),.dead,.dead,.dead,.dead,.row 54 82 (p_b0.aO.aQ.map ay.lf),.row 3 1 (p_b0.aO.fNext.map lfI),.row 3 1 (p_b0.aO.bn.map lfI),.row 63 9 (p_b0.dw.map ah.lf)],.num p_b0.aO.aQ.length] (okc (KO _ _ _ h0) (ok1 (ln_ p_b0.aO.aQ ay.lf))) <|
 .ask (KQ p_b0 p_x r0) fun r1 h1 =>
 .say [.pt_ 1 [0,3,4,18] 10 (.normal) (Ee p_b0 p_x r1),.order [(true,0),(true,1),(true,2),(true,3),(true,4),(true,5),(true,6),(true,7),(true,8)] none [],.num r1.2.2.2.2.2.2.2.2.2.2.2.2.2.1.length,.num p_x.aH.length] (okc (ady h1) (okc (ln_ r1.2.2.2.2.2.2.2.2.2.2.2.2.2.1 ay.lf) (ok1 (ln_ p_x.aH ay.lf)))) <|
 .ask (KR p_b0 p_x r1) fun r2 h2 =>
 .say [.pt_ 1 [0,3,5,6,49] 10 (.normal) (Eh p_b0 p_x r1 r2),.num p_x.aH.length,.order [(true,0),(true,1),(true,2),(true,3),(true,4),(true,5),(true,6),(true,7),(true,8),(true,9),(true,10),(true,11),(false,12)] (some 12) []] (okc (adz h2) (ok1 (ln_ p_x.aH ay.lf))) <|
 .cH [0,6,7,8,9] (KN p_x true (IntKind.wrap .i64 (p_x.aY + (p_x.aH.length:Int))) (aF.mk (aj.mk r1.1 r1.2.1 r1.2.2.1 r1.2.2.2.1 r1.2.2.2.2.1 r1.2.2.2.2.2.1 r1.2.2.2.2.2.2.1 r1.2.2.2.2.2.2.2.1 r2 (if (if (IntKind.wrap .i64 (p_x.aY + (p_x.aH.length:Int))) < p_x.au then (IntKind.wrap .i64 (p_x.aY + (p_x.aH.length:Int))) else p_x.au) > r1.2.2.2.2.2.2.2.2.1 then (if (IntKind.wrap .i64 (p_x.aY + (p_x.aH.length:Int))) < p_x.au then (IntKind.wrap .i64 (p_x.aY + (p_x.aH.length:Int))) else p_x.au) else r1.2.2.2.2.2.2.2.2.1) r1.2.2.2.2.2.2.2.2.2.2.2.2.2.2.1 r1.2.2.2.2.2.2.2.2.2.2.2.2.2.2.2) p_b0.dw (bF.mk r1.2.2.2.2.2.2.2.2.2.1 r1.2.2.2.2.2.2.2.2.2.2.1 r1.2.2.2.2.2.2.2.2.2.2.2.1 r1.2.2.2.2.2.2.2.2.2.2.2.2.1))) fun r3 _ =>
 .ret ⟨[.kill 5,.mvn 10,.mvn 11,.mvn 12,.mvn 13],[],[(14,5),(15,6),(16,7),(17,8)],9⟩ (r3)
def Q43 (p_x:ah) (p_b0:aF) : Option (aF) := Mo.den (ahy p_x p_b0)
theorem ajx (p_x:ah) (p_b0:aF) : FH (Q43 p_x p_b0) 83 [.ptr 0 0,.dat (ah.lf1 p_x)] [.box 97 (ag_ (aF.lf1 p_b0) [(8,.own 1),(10,.own 2),(11,.own 3),(12,.own 4)]),.row 54 82 (p_b0.aO.aQ.map ay.lf),.row 3 1 (p_b0.aO.fNext.map lfI),.row 3 1 (p_b0.aO.bn.map lfI),.row 63 9 (p_b0.dw.map ah.lf)] (fun _=>.tup []) (fun r=>[.box 97 (ag_ (aF.lf1 r) [(8,.own 5),(10,.own 6),(11,.own 7),(12,.own 8)]),.dead,.dead,.dead,.dead,.row 54 82 (r.aO.aQ.map ay.lf),.row 3 1 (r.aO.fNext.map lfI),.row 3 1 (r.aO.bn.map lfI),.row 63 9 (r.dw.map ah.lf)]) := gW Tryz.func83 (by kernel_rfl) (fun _=>rfl) (by kernel_rfl)
def RI (p_b0:aF) (p_x:ah) : Mo (Bool) :=
 .say [.order [(true,0),(true,1),(true,2),(true,3),(true,4),(true,5),(true,6),(true,7),(true,8),(true,9),(true,10),(true,11),(true,12),(true,13)] none []] ok0 <|
 .iG 10007 (p_x.bD == p_b0.aO.bD) (.rt [0,3,4,31] 6 (p_b0.aO.dM == 2)) <|
 .rt [0,3,4,31] 6 (false)
def Ei (p_b0:aF) (p_x:ah) : Mo ((Int × Int × Int × Int × Int × Int × Int × Int × Int × (List ay) × (List Int) × (List Int))) :=
 .ite (decide ((p_b0.aO.bD:Int) < p_x.bD)) (fun c0 =>
 .say [.br true,.order [(true,0),(true,1),(true,2),(true,4),(true,5),(false,3),(false,6),(true,7),(false,8)] (some 8) [0,6,7,8,9,10,11],.at_ 14 6,.frz 6,.frz 7,.frz 8,.tod 42] (ok1 c0) <|
 .cH [] (KL p_b0.aO p_x.bD) fun r0 _ =>
 .ret ⟨[],[0,3,4],[(9,6),(10,7),(11,8)],9⟩ (r0.fID,r0.dI,r0.bD,r0.je,r0.dM,r0.gJ,r0.gI,r0.fH,r0.au,r0.aQ,r0.fNext,r0.bn)) fun c0 =>
 .say [.br false] (ok1 c0) <|
 .rt [0,3,4] 9 (p_b0.aO.fID,p_b0.aO.dI,p_b0.aO.bD,p_b0.aO.je,p_b0.aO.dM,p_b0.aO.gJ,p_b0.aO.gI,p_b0.aO.fH,p_b0.aO.au,p_b0.aO.aQ,p_b0.aO.fNext,p_b0.aO.bn)
def KT (p_b0:aF) (p_x:ah) : Option ((Int × Int × Int × Int × Int × Int × Int × Int × Int × (List ay) × (List Int) × (List Int))) := Mo.den (Ei p_b0 p_x)
def yx (p_b0:aF) (p_x:ah) (r_:(Int × Int × Int × Int × Int × Int × Int × Int × Int × (List ay) × (List Int) × (List Int))) : St := ⟨[(0,.ptr 0 0),(3,.ptr 5 0),(4,.ptr 0 0)],[.box 97 (ag_ (aF.lf1 p_b0) [(0,.i_ r_.1),(1,.i_ r_.2.1),(2,.i_ r_.2.2.1),(3,.i_ r_.2.2.2.1),(4,.i_ r_.2.2.2.2.1),(5,.i_ r_.2.2.2.2.2.1),(6,.i_ r_.2.2.2.2.2.2.1),(7,.i_ r_.2.2.2.2.2.2.2.1),(8,.own 6),(9,.i_ r_.2.2.2.2.2.2.2.2.1),(10,.own 7),(11,.own 8),(12,.own 4)]),.dead,.dead,.dead,.row 63 9 (p_b0.dw.map ah.lf),.box 63 (.dat (ah.lf1 p_x)),.row 54 82 (r_.2.2.2.2.2.2.2.2.2.1.map ay.lf),.row 3 1 (r_.2.2.2.2.2.2.2.2.2.2.1.map lfI),.row 3 1 (r_.2.2.2.2.2.2.2.2.2.2.2.map lfI)]⟩
theorem adA {p_b0:aF} {p_x:ah} {r_:(Int × Int × Int × Int × Int × Int × Int × Int × Int × (List ay) × (List Int) × (List Int))} (h:KT p_b0 p_x = some r_) : fQ Tryz.f45 5 [1,1,1,1,0,1] (.normal) (yx p_b0 p_x r_) ⟨[(0,.ptr 0 0),(3,.ptr 5 0),(4,.ptr 0 0),(38,.lf (.bool (decide ((p_b0.aO.bD:Int) < p_x.bD))))],[.box 97 (ag_ (aF.lf1 p_b0) [(8,.own 6),(10,.own 7),(11,.own 8),(12,.own 4)]),.dead,.dead,.dead,.row 63 9 (p_b0.dw.map ah.lf),.box 63 (.dat (ah.lf1 p_x)),.row 54 82 (p_b0.aO.aQ.map ay.lf),.row 3 1 (p_b0.aO.fNext.map lfI),.row 3 1 (p_b0.aO.bn.map lfI)]⟩ :=
 jo dK (Ei p_b0 p_x) (fun _=>.normal) (yx p_b0 p_x) (by kernel_rfl) h
def I7 (p_b0:aF) (p_x:ah) (r0:(Int × Int × Int × Int × Int × Int × Int × Int × Int × (List ay) × (List Int) × (List Int))) : Mo ((Int × Int)) :=
 .iB (r0.2.2.2.2.1 == 1) (.rt [0,3,4] 9 (0,0)) <|
 .rt [0,3,4] 9 (r0.2.2.2.2.1,r0.2.2.2.2.2.2.2.1)
def KU (p_b0:aF) (p_x:ah) (r0:(Int × Int × Int × Int × Int × Int × Int × Int × Int × (List ay) × (List Int) × (List Int))) : Option ((Int × Int)) := Mo.den (I7 p_b0 p_x r0)
def ahz (p_x:ah) (p_b0:aF) : Mo (aF) :=
 .say [.order [(true,0),(true,1),(true,2),(true,3),(true,4),(true,5),(true,6)] none []] ok0 <|
 .iB (decide ((p_x.bD:Int) < p_b0.aO.bD)) (.cH [0,1,2,3,4] (KN p_x false 0 p_b0) fun r0 _ =>
 .ret ⟨[.kill 5,.mvn 6,.mvn 7,.mvn 8,.mvn 9],[],[(10,5),(11,6),(12,7),(13,8)],9⟩ (r0)) <|
 .jp Tryz.f45 5 [1,1,1,0,0] 15 [0,3,4] 6 (.normal) (fun r_=>⟨[(0,.ptr 0 0),(3,.ptr 5 0),(4,.ptr 0 0),(31,.b_ r_)],[.box 97 (ag_ (aF.lf1 p_b0) [(8,.own 1),(10,.own 2),(11,.own 3),(12,.own 4)]),.row 54 82 (p_b0.aO.aQ.map ay.lf),.row 3 1 (p_b0.aO.fNext.map lfI),.row 3 1 (p_b0.aO.bn.map lfI),.row 63 9 (p_b0.dw.map ah.lf),.box 63 (.dat (ah.lf1 p_x))]⟩) ⟨[(0,.ptr 0 0),(3,.ptr 5 0),(4,.ptr 0 0)],[.box 97 (ag_ (aF.lf1 p_b0) [(8,.own 1),(10,.own 2),(11,.own 3),(12,.own 4)]),.row 54 82 (p_b0.aO.aQ.map ay.lf),.row 3 1 (p_b0.aO.fNext.map lfI),.row 3 1 (p_b0.aO.bn.map lfI),.row 63 9 (p_b0.dw.map ah.lf),.box 63 (.dat (ah.lf1 p_x))]⟩ (RI p_b0 p_x).den (jW (by kernel_rfl)) fun r1 _ =>
 .ite (r1) (fun c0 =>
 .say [.br true] (ok1 c0) <|
 .ret ⟨[.kill 5,.mvn 1,.mvn 2,.mvn 3,.mvn 4],[],[(6,5),(7,6),(8,7),(9,8)],9⟩ (p_b0)) fun c0 =>
 .say [.br false,.order [(true,0),(true,1),(true,2),(true,3),(true,4),(true,5),(true,6)] none []] (ok1 c0) <|
 .ask (KT p_b0 p_x) fun r2 h0 =>
 .say [.part [.mvn 1,.mvn 2,.mvn 3] 1 [0,3,4,38] 9 (.normal) (yx p_b0 p_x r2).T (yx p_b0 p_x r2).H] (ok1 (adA h0)) <|
 .jp Tryz.f45 5 [1,1,1,1,1,0,1] 1 [0,3,4,51] 9 (.normal) (fun r_=>⟨[(0,.ptr 0 0),(3,.ptr 5 0),(4,.ptr 0 0)],[.box 97 (ag_ (aF.lf1 p_b0) [(0,.i_ r2.1),(1,.i_ r2.2.1),(2,.i_ r2.2.2.1),(3,.i_ r2.2.2.2.1),(4,.i_ r_.1),(5,.i_ r2.2.2.2.2.2.1),(6,.i_ r2.2.2.2.2.2.2.1),(7,.i_ r_.2),(8,.own 6),(9,.i_ r2.2.2.2.2.2.2.2.2.1),(10,.own 7),(11,.own 8),(12,.own 4)]),.dead,.dead,.dead,.row 63 9 (p_b0.dw.map ah.lf),.box 63 (.dat (ah.lf1 p_x)),.row 54 82 (r2.2.2.2.2.2.2.2.2.2.1.map ay.lf),.row 3 1 (r2.2.2.2.2.2.2.2.2.2.2.1.map lfI),.row 3 1 (r2.2.2.2.2.2.2.2.2.2.2.2.map lfI)]⟩) ⟨[(0,.ptr 0 0),(3,.ptr 5 0),(4,.ptr 0 0),(51,.lf (.bool (r2.2.2.2.2.1 == 1)))],[.box 97 (ag_ (aF.lf1 p_b0) [(0,.i_ r2.1),(1,.i_ r2.2.1),(2,.i_ r2.2.2.1),(3,.i_ r2.2.2.2.1),(4,.i_ r2.2.2.2.2.1),(5,.i_ r2.2.2.2.2.2.1),(6,.i_ r2.2.2.2.2.2.2.1),(7,.i_ r2.2.2.2.2.2.2.2.1),(8,.own 6),(9,.i_ r2.2.2.2.2.2.2.2.2.1),(10,.own 7),(11,.own 8),(12,.own 4)]),.dead,.dead,.dead,.row 63 9 (p_b0.dw.map ah.lf),.box 63 (.dat (ah.lf1 p_x)),.row 54 82 (r2.2.2.2.2.2.2.2.2.2.1.map ay.lf),.row 3 1 (r2.2.2.2.2.2.2.2.2.2.2.1.map lfI),.row 3 1 (r2.2.2.2.2.2.2.2.2.2.2.2.map lfI)]⟩ (KU p_b0 p_x r2) (jW (by kernel_rfl)) fun r3 _ =>
 .cH [0,6,7,8,4] (afR p_x (aF.mk (aj.mk r2.1 r2.2.1 r2.2.2.1 r2.2.2.2.1 r3.1 p_x.dh (IntKind.wrap .i64 (10 + (IntKind.wrap .i64 (3 * r2.1)))) r3.2 r2.2.2.2.2.2.2.2.2.2.1 r2.2.2.2.2.2.2.2.2.1 r2.2.2.2.2.2.2.2.2.2.2.1 r2.2.2.2.2.2.2.2.2.2.2.2) p_b0.dw p_b0.eG)) fun r4 _ =>
 .ite (r4) (fun c1 =>
 .say [.br true,.order [(true,0),(true,1),(true,2),(true,3),(true,4),(true,7),(true,8),(true,9),(false,5),(true,6),(true,10),(true,11),(false,12)] (some 12) [],.num (((aF.mk (aj.mk r2.1 r2.2.1 r2.2.2.1 r2.2.2.2.1 r3.1 p_x.dh (IntKind.wrap .i64 (10 + (IntKind.wrap .i64 (3 * r2.1)))) r3.2 r2.2.2.2.2.2.2.2.2.2.1 r2.2.2.2.2.2.2.2.2.1 r2.2.2.2.2.2.2.2.2.2.2.1 r2.2.2.2.2.2.2.2.2.2.2.2) p_b0.dw p_b0.eG).aO).aQ).length] (okc c1 (ok1 (ln_ (((aF.mk (aj.mk r2.1 r2.2.1 r2.2.2.1 r2.2.2.2.1 r3.1 p_x.dh (IntKind.wrap .i64 (10 + (IntKind.wrap .i64 (3 * r2.1)))) r3.2 r2.2.2.2.2.2.2.2.2.2.1 r2.2.2.2.2.2.2.2.2.1 r2.2.2.2.2.2.2.2.2.2.2.1 r2.2.2.2.2.2.2.2.2.2.2.2) p_b0.dw p_b0.eG).aO).aQ) ay.lf))) <|
 .cH [0,9,10,11,12] (KN p_x false (if (if (IntKind.wrap .i64 (p_x.aY - 1)) < ((((aF.mk (aj.mk r2.1 r2.2.1 r2.2.2.1 r2.2.2.2.1 r3.1 p_x.dh (IntKind.wrap .i64 (10 + (IntKind.wrap .i64 (3 * r2.1)))) r3.2 r2.2.2.2.2.2.2.2.2.2.1 r2.2.2.2.2.2.2.2.2.1 r2.2.2.2.2.2.2.2.2.2.2.1 r2.2.2.2.2.2.2.2.2.2.2.2) p_b0.dw p_b0.eG).aO).aQ).length:Int) then (IntKind.wrap .i64 (p_x.aY - 1)) else ((((aF.mk (aj.mk r2.1 r2.2.1 r2.2.2.1 r2.2.2.2.1 r3.1 p_x.dh (IntKind.wrap .i64 (10 + (IntKind.wrap .i64 (3 * r2.1)))) r3.2 r2.2.2.2.2.2.2.2.2.2.1 r2.2.2.2.2.2.2.2.2.1 r2.2.2.2.2.2.2.2.2.2.2.1 r2.2.2.2.2.2.2.2.2.2.2.2) p_b0.dw p_b0.eG).aO).aQ).length:Int)) > 0 then (if (IntKind.wrap .i64 (p_x.aY - 1)) < ((((aF.mk (aj.mk r2.1 r2.2.1 r2.2.2.1 r2.2.2.2.1 r3.1 p_x.dh (IntKind.wrap .i64 (10 + (IntKind.wrap .i64 (3 * r2.1)))) r3.2 r2.2.2.2.2.2.2.2.2.2.1 r2.2.2.2.2.2.2.2.2.1 r2.2.2.2.2.2.2.2.2.2.2.1 r2.2.2.2.2.2.2.2.2.2.2.2) p_b0.dw p_b0.eG).aO).aQ).length:Int) then (IntKind.wrap .i64 (p_x.aY - 1)) else ((((aF.mk (aj.mk r2.1 r2.2.1 r2.2.2.1 r2.2.2.2.1 r3.1 p_x.dh (IntKind.wrap .i64 (10 + (IntKind.wrap .i64 (3 * r2.1)))) r3.2 r2.2.2.2.2.2.2.2.2.2.1 r2.2.2.2.2.2.2.2.2.1 r2.2.2.2.2.2.2.2.2.2.2.1 r2.2.2.2.2.2.2.2.2.2.2.2) p_b0.dw p_b0.eG).aO).aQ).length:Int)) else 0) (aF.mk ((aF.mk (aj.mk r2.1 r2.2.1 r2.2.2.1 r2.2.2.2.1 r3.1 p_x.dh (IntKind.wrap .i64 (10 + (IntKind.wrap .i64 (3 * r2.1)))) r3.2 r2.2.2.2.2.2.2.2.2.2.1 r2.2.2.2.2.2.2.2.2.1 r2.2.2.2.2.2.2.2.2.2.2.1 r2.2.2.2.2.2.2.2.2.2.2.2) p_b0.dw p_b0.eG).aO) ((aF.mk (aj.mk r2.1 r2.2.1 r2.2.2.1 r2.2.2.2.1 r3.1 p_x.dh (IntKind.wrap .i64 (10 + (IntKind.wrap .i64 (3 * r2.1)))) r3.2 r2.2.2.2.2.2.2.2.2.2.1 r2.2.2.2.2.2.2.2.2.1 r2.2.2.2.2.2.2.2.2.2.2.1 r2.2.2.2.2.2.2.2.2.2.2.2) p_b0.dw p_b0.eG).dw) ((aF.mk (aj.mk r2.1 r2.2.1 r2.2.2.1 r2.2.2.2.1 r3.1 p_x.dh (IntKind.wrap .i64 (10 + (IntKind.wrap .i64 (3 * r2.1)))) r3.2 r2.2.2.2.2.2.2.2.2.2.1 r2.2.2.2.2.2.2.2.2.1 r2.2.2.2.2.2.2.2.2.2.2.1 r2.2.2.2.2.2.2.2.2.2.2.2) p_b0.dw p_b0.eG).eG))) fun r5 _ =>
 .ret ⟨[.kill 5,.mvn 13,.mvn 14,.mvn 15,.mvn 16],[],[(17,5),(18,6),(19,7),(20,8)],9⟩ (r5)) fun c1 =>
 .say [.br false] (ok1 c1) <|
 .cH [0,9,10,11,12] (ajx p_x (aF.mk ((aF.mk (aj.mk r2.1 r2.2.1 r2.2.2.1 r2.2.2.2.1 r3.1 p_x.dh (IntKind.wrap .i64 (10 + (IntKind.wrap .i64 (3 * r2.1)))) r3.2 r2.2.2.2.2.2.2.2.2.2.1 r2.2.2.2.2.2.2.2.2.1 r2.2.2.2.2.2.2.2.2.2.2.1 r2.2.2.2.2.2.2.2.2.2.2.2) p_b0.dw p_b0.eG).aO) ((aF.mk (aj.mk r2.1 r2.2.1 r2.2.2.1 r2.2.2.2.1 r3.1 p_x.dh (IntKind.wrap .i64 (10 + (IntKind.wrap .i64 (3 * r2.1)))) r3.2 r2.2.2.2.2.2.2.2.2.2.1 r2.2.2.2.2.2.2.2.2.1 r2.2.2.2.2.2.2.2.2.2.2.1 r2.2.2.2.2.2.2.2.2.2.2.2) p_b0.dw p_b0.eG).dw) ((aF.mk (aj.mk r2.1 r2.2.1 r2.2.2.1 r2.2.2.2.1 r3.1 p_x.dh (IntKind.wrap .i64 (10 + (IntKind.wrap .i64 (3 * r2.1)))) r3.2 r2.2.2.2.2.2.2.2.2.2.1 r2.2.2.2.2.2.2.2.2.1 r2.2.2.2.2.2.2.2.2.2.2.1 r2.2.2.2.2.2.2.2.2.2.2.2) p_b0.dw p_b0.eG).eG))) fun r6 _ =>
 .ret ⟨[.kill 5,.mvn 13,.mvn 14,.mvn 15,.mvn 16],[],[(17,5),(18,6),(19,7),(20,8)],9⟩ (r6)
def Q35 (p_x:ah) (p_b0:aF) : Option (aF) := Mo.den (ahz p_x p_b0)
theorem adB (p_x:ah) (p_b0:aF) : FH (Q35 p_x p_b0) 45 [.ptr 0 0,.dat (ah.lf1 p_x)] [.box 97 (ag_ (aF.lf1 p_b0) [(8,.own 1),(10,.own 2),(11,.own 3),(12,.own 4)]),.row 54 82 (p_b0.aO.aQ.map ay.lf),.row 3 1 (p_b0.aO.fNext.map lfI),.row 3 1 (p_b0.aO.bn.map lfI),.row 63 9 (p_b0.dw.map ah.lf)] (fun _=>.tup []) (fun r=>[.box 97 (ag_ (aF.lf1 r) [(8,.own 5),(10,.own 6),(11,.own 7),(12,.own 8)]),.dead,.dead,.dead,.dead,.row 54 82 (r.aO.aQ.map ay.lf),.row 3 1 (r.aO.fNext.map lfI),.row 3 1 (r.aO.bn.map lfI),.row 63 9 (r.dw.map ah.lf)]) := gW Tryz.func45 (by kernel_rfl) (fun _=>rfl) (by kernel_rfl)
def Y4 (p_m:aj) (p_x:ah) : Mo (Bool) :=
 .iG 8003 (p_m.dM != 2) (.rt [2,3,4,24] 6 (true)) <|
 .rt [2,3,4,24] 6 (decide ((p_x.bD:Int) < p_m.bD))
def Y5 (p_m:aj) (p_x:ah) (r0:Bool) : Mo (Bool) :=
 .iG 8010 (r0) (.rt [2,3,4,36] 6 (true)) <|
 .ite (p_x.fOK) (fun c0 =>
 .say [.gd 8013 true,.num p_m.aQ.length] (okc c0 (ok1 (ln_ p_m.aQ ay.lf))) <|
 .rt [2,3,4,36] 6 (decide (((p_m.aQ.length:Int) : Int) < p_x.aY))) fun c0 =>
 .say [.gd 8013 false] (ok1 c0) <|
 .rt [2,3,4,36] 6 (false)
def Vh (p_m:aj) (p_x:ah) : Mo (Bool) :=
 .ite (decide ((p_x.dh:Int) < 0)) (fun c0 =>
 .say [.gd 14002 true] (ok1 c0) <|
 .rt [2,3,4,5,48] 6 (true)) fun c0 =>
 .say [.gd 14002 false,.num p_m.fNext.length] (okc c0 (ok1 (ln_ p_m.fNext lfI))) <|
 .rt [2,3,4,5,48] 6 (decide (((p_m.fNext.length:Int) : Int) ≤ p_x.dh))
def Vj (p_m:aj) (p_x:ah) (r0:Bool) : Mo (Bool) :=
 .ite (r0) (fun c0 =>
 .say [.gd 14009 true] (ok1 c0) <|
 .rt [2,3,4,5,55] 6 (true)) fun c0 =>
 .say [.gd 14009 false,.num p_m.bn.length] (okc c0 (ok1 (ln_ p_m.bn lfI))) <|
 .rt [2,3,4,5,55] 6 (decide (((p_m.bn.length:Int) : Int) ≤ p_x.dh))
def Vk (p_m:aj) (p_x:ah) : Mo (((List Int) × (List Int))) :=
 .ite (p_x.fOK) (fun c0 =>
 .say [.br true,.order [(true,0),(true,1),(true,2),(true,3),(true,4),(true,5),(true,6),(true,7),(true,8),(true,9),(true,10),(true,11),(false,12)] (some 12) []] (ok1 c0) <|
 .ask (bM p_m.bn p_x.dh) fun x0 h0 =>
 .say [.row (lfI x0)] (okc (cu lI_ h0) (ok1 ((aX lI_ h0).2))) <|
 .ask (bM p_m.bn p_x.dh) fun x1 h1 =>
 .say [.row (lfI x1),.rows ((p_m.bn.set p_x.dh.toNat (if p_x.aY > x0 then p_x.aY else x0)).map lfI),.order [(true,0),(true,1),(true,2),(true,3),(true,4),(true,5),(true,6),(true,7),(true,8),(true,9),(true,10),(true,11),(true,12),(true,13),(true,14),(false,15)] (some 15) []] (okc (cu lI_ h1) (okc (st_ lI_ p_m.bn p_x.dh.toNat (if p_x.aY > x0 then p_x.aY else x0)) (ok1 ((aX lI_ h1).2)))) <|
 .ask (bM p_m.fNext p_x.dh) fun x2 h2 =>
 .say [.row (lfI x2)] (okc (cu lI_ h2) (ok1 ((aX lI_ h2).2))) <|
 .ask (bM (p_m.bn.set p_x.dh.toNat (if p_x.aY > x0 then p_x.aY else x0)) p_x.dh) fun x3 h3 =>
 .say [.row (lfI x3)] (okc (cu lI_ h3) (ok1 ((aX lI_ h3).2))) <|
 .ask (bM p_m.fNext p_x.dh) fun x4 h4 =>
 .say [.row (lfI x4),.rows ((p_m.fNext.set p_x.dh.toNat (if x3 > x2 then x3 else x2)).map lfI)] (okc (cu lI_ h4) (okc (st_ lI_ p_m.fNext p_x.dh.toNat (if x3 > x2 then x3 else x2)) (ok1 ((aX lI_ h4).2)))) <|
 .ret ⟨[.kill 4],[2,4],[],6⟩ (p_m.fNext.set p_x.dh.toNat (if x3 > x2 then x3 else x2),p_m.bn.set p_x.dh.toNat (if p_x.aY > x0 then p_x.aY else x0))) fun c0 =>
 .say [.br false,.order [(true,0),(true,1),(true,2),(true,3),(true,4),(true,5),(true,6),(true,7),(true,8),(true,9),(true,10),(true,11),(true,12),(true,13),(true,14),(true,15),(true,16),(true,17),(false,18)] (some 18) []] (ok1 c0) <|
 .ask (bM p_m.fNext p_x.dh) fun x5 h5 =>
 .say [.row (lfI x5)] (okc (cu lI_ h5) (ok1 ((aX lI_ h5).2))) <|
 .ask (bM p_m.bn p_x.dh) fun x6 h6 =>
 .say [.row (lfI x6)] (okc (cu lI_ h6) (ok1 ((aX lI_ h6).2))) <|
 .ask (bM p_m.fNext p_x.dh) fun x7 h7 =>
 .say [.row (lfI x7),.rows ((p_m.fNext.set p_x.dh.toNat (if x6 > (if p_x.aY < x5 then p_x.aY else x5) then x6 else (if p_x.aY < x5 then p_x.aY else x5))).map lfI)] (okc (cu lI_ h7) (okc (st_ lI_ p_m.fNext p_x.dh.toNat (if x6 > (if p_x.aY < x5 then p_x.aY else x5) then x6 else (if p_x.aY < x5 then p_x.aY else x5))) (ok1 ((aX lI_ h7).2)))) <|
 .ret ⟨[.kill 4],[2,4],[],6⟩ (p_m.fNext.set p_x.dh.toNat (if x6 > (if p_x.aY < x5 then p_x.aY else x5) then x6 else (if p_x.aY < x5 then p_x.aY else x5)),p_m.bn)
def ajy (p_m:aj) (p_x:ah) : Mo (aj) :=
 .ite (decide ((p_m.bD:Int) < p_x.bD)) (fun c0 =>
 .say [.br true,.at_ 6 3,.frz 0,.frz 1,.frz 2,.tod 11] (ok1 c0) <|
 .cH [] (KL p_m p_x.bD) fun r0 _ =>
 .ret ⟨[.kill 3,.kill 4,.kill 5,.mvn 6,.mvn 7,.mvn 8],[0],[(9,3),(10,4),(11,5)],6⟩ (r0)) fun c0 =>
 .say [.br false] (ok1 c0) <|
 .sj Tryz.f84 3 [1,1,0,0] [0,1,2,3,4,5,6,7,8,9] 3 10 [2,3,4] 6 (fun r_=>⟨[(2,.ptr 3 0),(3,.ptr 4 0),(4,.ptr 5 0),(24,.b_ r_)],[.row 54 82 (p_m.aQ.map ay.lf),.row 3 1 (p_m.fNext.map lfI),.row 3 1 (p_m.bn.map lfI),.box 25 (ag_ (aj.lf1 p_m) [(8,.own 0),(10,.own 1),(11,.own 2)]),.box 63 (.dat (ah.lf1 p_x)),.box 25 (Z25)]⟩) ⟨[(2,.ptr 3 0),(3,.ptr 4 0),(4,.ptr 5 0)],[.row 54 82 (p_m.aQ.map ay.lf),.row 3 1 (p_m.fNext.map lfI),.row 3 1 (p_m.bn.map lfI),.box 25 (ag_ (aj.lf1 p_m) [(8,.own 0),(10,.own 1),(11,.own 2)]),.box 63 (.dat (ah.lf1 p_x)),.box 25 (Z25)]⟩ (Y4 p_m p_x).den (sW (by kernel_rfl)) fun r1 _ =>
 .sj Tryz.f84 3 [1,1,0,0] [10,11,12,13,14,15,16,17,18,19,20,21] 3 12 [2,3,4,24] 6 (fun r_=>⟨[(2,.ptr 3 0),(3,.ptr 4 0),(4,.ptr 5 0),(36,.b_ r_)],[.row 54 82 (p_m.aQ.map ay.lf),.row 3 1 (p_m.fNext.map lfI),.row 3 1 (p_m.bn.map lfI),.box 25 (ag_ (aj.lf1 p_m) [(8,.own 0),(10,.own 1),(11,.own 2)]),.box 63 (.dat (ah.lf1 p_x)),.box 25 (Z25)]⟩) ⟨[(2,.ptr 3 0),(3,.ptr 4 0),(4,.ptr 5 0),(24,.b_ r1)],[.row 54 82 (p_m.aQ.map ay.lf),.row 3 1 (p_m.fNext.map lfI),.row 3 1 (p_m.bn.map lfI),.box 25 (ag_ (aj.lf1 p_m) [(8,.own 0),(10,.own 1),(11,.own 2)]),.box 63 (.dat (ah.lf1 p_x)),.box 25 (Z25)]⟩ (Y5 p_m p_x r1).den (sW (by kernel_rfl)) fun r2 _ =>
 .iB (r2) (.ret ⟨[.kill 3,.kill 4,.kill 5,.mvn 0,.mvn 1,.mvn 2],[0],[(6,3),(7,4),(8,5)],6⟩ (p_m)) <|
 .sj Tryz.f84 3 [1,1,1,1,0,0] [0,1,2,3,4,5,6,7,8] 6 9 [2,3,4,5] 6 (fun r_=>⟨[(2,.ptr 3 0),(3,.ptr 4 0),(4,.ptr 5 0),(5,.i_ p_x.dh),(48,.b_ r_)],[.row 54 82 (p_m.aQ.map ay.lf),.row 3 1 (p_m.fNext.map lfI),.row 3 1 (p_m.bn.map lfI),.box 25 (ag_ (aj.lf1 p_m) [(8,.own 0),(10,.own 1),(11,.own 2)]),.box 63 (.dat (ah.lf1 p_x)),.box 25 (Z25)]⟩) ⟨[(2,.ptr 3 0),(3,.ptr 4 0),(4,.ptr 5 0),(5,.i_ p_x.dh)],[.row 54 82 (p_m.aQ.map ay.lf),.row 3 1 (p_m.fNext.map lfI),.row 3 1 (p_m.bn.map lfI),.box 25 (ag_ (aj.lf1 p_m) [(8,.own 0),(10,.own 1),(11,.own 2)]),.box 63 (.dat (ah.lf1 p_x)),.box 25 (Z25)]⟩ (Vh p_m p_x).den (sW (by kernel_rfl)) fun r3 _ =>
 .sj Tryz.f84 3 [1,1,1,1,0,0] [9,10,11,12,13,14,15] 6 7 [2,3,4,5,48] 6 (fun r_=>⟨[(2,.ptr 3 0),(3,.ptr 4 0),(4,.ptr 5 0),(5,.i_ p_x.dh),(55,.b_ r_)],[.row 54 82 (p_m.aQ.map ay.lf),.row 3 1 (p_m.fNext.map lfI),.row 3 1 (p_m.bn.map lfI),.box 25 (ag_ (aj.lf1 p_m) [(8,.own 0),(10,.own 1),(11,.own 2)]),.box 63 (.dat (ah.lf1 p_x)),.box 25 (Z25)]⟩) ⟨[(2,.ptr 3 0),(3,.ptr 4 0),(4,.ptr 5 0),(5,.i_ p_x.dh),(48,.b_ r3)],[.row 54 82 (p_m.aQ.map ay.lf),.row 3 1 (p_m.fNext.map lfI),.row 3 1 (p_m.bn.map lfI),.box 25 (ag_ (aj.lf1 p_m) [(8,.own 0),(10,.own 1),(11,.own 2)]),.box 63 (.dat (ah.lf1 p_x)),.box 25 (Z25)]⟩ (Vj p_m p_x r3).den (sW (by kernel_rfl)) fun r4 _ =>
 .iB (r4) (.ret ⟨[.kill 3,.kill 4,.kill 5,.mvn 0,.mvn 1,.mvn 2],[0],[(6,3),(7,4),(8,5)],6⟩ (p_m)) <|
 .jp Tryz.f84 3 [1,1,1,1,1,0,1] 1 [2,3,4,5,58] 6 (.normal) (fun r_=>⟨[(2,.ptr 3 0),(4,.ptr 5 0)],[.row 54 82 (p_m.aQ.map ay.lf),.row 3 1 (r_.1.map lfI),.row 3 1 (r_.2.map lfI),.box 25 (ag_ (aj.lf1 p_m) [(8,.own 0),(10,.own 1),(11,.own 2)]),.dead,.box 25 (Z25)]⟩) ⟨[(2,.ptr 3 0),(3,.ptr 4 0),(4,.ptr 5 0),(5,.i_ p_x.dh),(58,.b_ p_x.fOK)],[.row 54 82 (p_m.aQ.map ay.lf),.row 3 1 (p_m.fNext.map lfI),.row 3 1 (p_m.bn.map lfI),.box 25 (ag_ (aj.lf1 p_m) [(8,.own 0),(10,.own 1),(11,.own 2)]),.box 63 (.dat (ah.lf1 p_x)),.box 25 (Z25)]⟩ (Vk p_m p_x).den (jW (by kernel_rfl)) fun r5 _ =>
 .ret ⟨[.kill 3,.kill 5,.mvn 0,.mvn 1,.mvn 2],[0],[(6,3),(7,4),(8,5)],6⟩ (aj.JX (aj.Wj p_m r5.1) r5.2)
def alH (p_m:aj) (p_x:ah) : Option (aj) := Mo.den (ajy p_m p_x)
theorem agd (p_m:aj) (p_x:ah) : FH (alH p_m p_x) 84 [uS (.agg ((aj.lf1 p_m).map AV.lf)) [(8,.own 0),(10,.own 1),(11,.own 2)],.dat (ah.lf1 p_x)] [.row 54 82 (p_m.aQ.map ay.lf),.row 3 1 (p_m.fNext.map lfI),.row 3 1 (p_m.bn.map lfI)] (fun r=>uS (.agg ((aj.lf1 r).map AV.lf)) [(8,.own 3),(10,.own 4),(11,.own 5)]) (fun r=>[.dead,.dead,.dead,.row 54 82 (r.aQ.map ay.lf),.row 3 1 (r.fNext.map lfI),.row 3 1 (r.bn.map lfI)]) := gW Tryz.func84 (by kernel_rfl) (fun _=>rfl) (by kernel_rfl)
def Y6 (p_x:Int) : Mo ((Int × Int)) :=
 .ite (decide ((4294967296:Int) ≤ p_x)) (fun c0 =>
 .say [.br true] (okc c0 (ok1 (by decide:(0:Int) ≤ 32))) <|
 .rt [0,2] 0 (fO .u64 p_x 32,32)) fun c0 =>
 .say [.br false] (ok1 c0) <|
 .rt [0,2] 0 (p_x,0)
def Y7 (r0:(Int × Int)) : Mo ((Int × Int)) :=
 .ite (decide ((65536:Int) ≤ r0.1)) (fun c0 =>
 .say [.br true] (okc c0 (ok1 (by decide:(0:Int) ≤ 16))) <|
 .rt [0,2] 0 (fO .u64 r0.1 16,IntKind.wrap .i64 (r0.2 + 16))) fun c0 =>
 .say [.br false] (ok1 c0) <|
 .rt [0,2] 0 (r0.1,r0.2)
def Vl (r0:(Int × Int)) : Mo ((Int × Int)) :=
 .ite (decide ((256:Int) ≤ r0.1)) (fun c0 =>
 .say [.br true] (okc c0 (ok1 (by decide:(0:Int) ≤ 8))) <|
 .rt [0,2] 0 (fO .u64 r0.1 8,IntKind.wrap .i64 (r0.2 + 8))) fun c0 =>
 .say [.br false] (ok1 c0) <|
 .rt [0,2] 0 (r0.1,r0.2)
def ajz (p_x:Int) : Mo (Int) :=
 .jp Tryz.f149 0 [1,0,1] 1 [0,2,4] 0 (.normal) (fun r_=>⟨[(0,.lf (.int .u64 r_.1)),(2,.i_ r_.2)],[]⟩) ⟨[(0,.lf (.int .u64 p_x)),(2,.i_ 0),(4,.lf (.bool (decide ((4294967296:Int) ≤ p_x))))],[]⟩ (Y6 p_x).den (jW (by kernel_rfl)) fun r0 _ =>
 .jp Tryz.f149 0 [1,1,0,1] 1 [0,2,8] 0 (.normal) (fun r_=>⟨[(0,.lf (.int .u64 r_.1)),(2,.i_ r_.2)],[]⟩) ⟨[(0,.lf (.int .u64 r0.1)),(2,.i_ r0.2),(8,.lf (.bool (decide ((65536:Int) ≤ r0.1))))],[]⟩ (Y7 r0).den (jW (by kernel_rfl)) fun r1 _ =>
 .jp Tryz.f149 0 [1,1,1,0,1] 1 [0,2,14] 0 (.normal) (fun r_=>⟨[(0,.lf (.int .u64 r_.1)),(2,.i_ r_.2)],[]⟩) ⟨[(0,.lf (.int .u64 r1.1)),(2,.i_ r1.2),(14,.lf (.bool (decide ((256:Int) ≤ r1.1))))],[]⟩ (Vl r1).den (jW (by kernel_rfl)) fun r2 _ =>
 .ask (lM ⟨#[0,1,2,2,3,3,3,3,4,4,4,4,4,4,4,4,5,5,5,5,5,5,5,5,5,5,5,5,5,5,5,5,6,6,6,6,6,6,6,6,6,6,6,6,6,6,6,6,6,6,6,6,6,6,6,6,6,6,6,6,6,6,6,6,7,7,7,7,7,7,7,7,7,7,7,7,7,7,7,7,7,7,7,7,7,7,7,7,7,7,7,7,7,7,7,7,7,7,7,7,7,7,7,7,7,7,7,7,7,7,7,7,7,7,7,7,7,7,7,7,7,7,7,7,7,7,7,7,8,8,8,8,8,8,8,8,8,8,8,8,8,8,8,8,8,8,8,8,8,8,8,8,8,8,8,8,8,8,8,8,8,8,8,8,8,8,8,8,8,8,8,8,8,8,8,8,8,8,8,8,8,8,8,8,8,8,8,8,8,8,8,8,8,8,8,8,8,8,8,8,8,8,8,8,8,8,8,8,8,8,8,8,8,8,8,8,8,8,8,8,8,8,8,8,8,8,8,8,8,8,8,8,8,8,8,8,8,8,8,8,8,8,8,8,8,8,8,8,8,8,8,8,8,8,8,8]⟩ (IntKind.wrap .u8 r2.1)) fun b0 h0 =>
 .say [.byt b0] (ok1 (iI h0)) <|
 .ret (bC 1) (IntKind.wrap .i64 (r2.2 + (IntKind.wrap .i64 (b0.toNat:Int))))
def alI (p_x:Int) : Option (Int) := Mo.den (ajz p_x)
theorem agf (p_x:Int) : FV (alI p_x) 149 [.lf (.int .u64 p_x)] (fun r=>.i_ r) := bY Tryz.func149 (by kernel_rfl) (fun _=>rfl) (by kernel_rfl)
def ajA (p_x:Int) : Mo (Int) :=
 .say [.br false] (ok1 (rfl:false = false)) <|
 .cl (agf p_x) fun r0 _ =>
 .ret (bC 1) (r0)
def alJ (p_x:Int) : Option (Int) := Mo.den (ajA p_x)
theorem agh (p_x:Int) : FV (alJ p_x) 105 [.lf (.int .u64 p_x)] (fun r=>.i_ r) := bY Tryz.func105 (by kernel_rfl) (fun _=>rfl) (by kernel_rfl)
def ajB (p_x:Int) : Mo (Bool) :=
 .ret (bC 1) (p_x != p_x)
def alK (p_x:Int) : Option (Bool) := Mo.den (ajB p_x)
theorem Xx (p_x:Int) : FV (alK p_x) 195 [.i_ p_x] (fun r=>.b_ r) := bY Tryz.func195 (by kernel_rfl) (fun _=>rfl) (by kernel_rfl)
def Y8 (p_x:Int) (p_y:Int) : Mo (Bool) :=
 .cl (Xx p_x) fun r0 _ =>
 .iG 4002 (r0) (.cl (Xx p_y) fun r1 _ =>
 .rt [0,1,4,11] 0 (!r1)) <|
 .rt [0,1,4,11] 0 (false)
def Y9 (p_x:Int) (p_y:Int) (r0:Bool) : Mo (Bool) :=
 .iG 4007 (r0) (.rt [4,16] 0 (true)) <|
 .rt [4,16] 0 (decide ((p_x:Int) < p_y))
def Vm (r0:Bool) : Mo (Unit) :=
 .rt [4] 0 ()
def ajC (p_x:Int) (p_y:Int) : Mo (Bool) :=
 .sj Tryz.f145 0 [1,0] [0,1,2,3,4,5,6] 1 7 [0,1,4] 0 (fun r_=>⟨[(0,.i_ p_x),(1,.i_ p_y),(4,.b_ false),(11,.b_ r_)],[]⟩) ⟨[(0,.i_ p_x),(1,.i_ p_y),(4,.b_ false)],[]⟩ (Y8 p_x p_y).den (sW (by kernel_rfl)) fun r0 _ =>
 .sj Tryz.f145 0 [1,0] [7,8,9,10,11] 1 5 [0,1,4,11] 0 (fun r_=>⟨[(4,.b_ false),(16,.b_ r_)],[]⟩) ⟨[(0,.i_ p_x),(1,.i_ p_y),(4,.b_ false),(11,.b_ r0)],[]⟩ (Y9 p_x p_y r0).den (sW (by kernel_rfl)) fun r1 _ =>
 .sj Tryz.f145 0 [1,0] [12] 1 1 [4,16] 0 (fun r_=>⟨[(4,.b_ r1)],[]⟩) ⟨[(4,.b_ false),(16,.b_ r1)],[]⟩ (Vm r1).den (sW (by kernel_rfl)) fun r2 _ =>
 .ret (bC 1) (r1)
def ak4 (p_x:Int) (p_y:Int) : Option (Bool) := Mo.den (ajC p_x p_y)
theorem agi (p_x:Int) (p_y:Int) : FV (ak4 p_x p_y) 145 [.i_ p_x,.i_ p_y] (fun r=>.b_ r) := bY Tryz.func145 (by kernel_rfl) (fun _=>rfl) (by kernel_rfl)
def adC (l0:List Int) (p_a:Int) (p_b:Int) (v0:Int) (v1:Int) : Mo (Bool) :=
 .ite (decide ((p_a:Int) < v1)) (fun c0 =>
 .say [] (ok1 c0) <|
 .ask (bM l0 v1) fun x0 h0 =>
 .say [] (okc (cu lI_ h0) (ok1 ((aX lI_ h0).2))) <|
 .ask (bM l0 (IntKind.wrap .i64 (v1 - 1))) fun x1 h1 =>
 .say [] (okc (cu lI_ h1) (ok1 ((aX lI_ h1).2))) <|
 .ask (ak4 x0 x1) fun r0 h2 =>
 .say [.dP (.q 0 (.q 1 (.q 2 (.q 3 (.q 4 (.q 5 (.q 6 (.q 7 (.q 8 (.q 9 (.q 10 (.q 11 (.q 12 (.l 13 (.q 14 .fin))))))))))))))) (some 13) [] [.gd 10003 true,.row (lfI x0),.row (lfI x1),.res (.b_ r0)] [0,1,2,6,7,30] 1 [(0,.own 0),(1,.i_ p_a),(2,.i_ p_b),(6,.i_ v0),(7,.i_ v1),(30,.b_ r0)] [.row 3 1 (l0.map lfI)]] (okc (agi _ _ _ h2) (ok1 (rf_ ⟨[(0,.own 0),(1,.i_ p_a),(2,.i_ p_b),(6,.i_ v0),(7,.i_ v1),(30,.b_ r0)],[.row 3 1 (l0.map lfI)]⟩))) <|
 .rt [0,1,2,6,7,30] 1 (r0)) fun c0 =>
 .say [.dP (.q 0 (.q 1 (.q 2 (.q 3 (.q 4 (.q 5 (.q 6 (.q 7 (.q 8 (.q 9 (.q 10 (.q 11 (.q 12 (.l 13 (.q 14 .fin))))))))))))))) (some 13) [] [.gd 10003 false] [0,1,2,6,7,30] 1 [(0,.own 0),(1,.i_ p_a),(2,.i_ p_b),(6,.i_ v0),(7,.i_ v1),(30,.b_ false)] [.row 3 1 (l0.map lfI)]] (okc c0 (ok1 (rf_ ⟨[(0,.own 0),(1,.i_ p_a),(2,.i_ p_b),(6,.i_ v0),(7,.i_ v1),(30,.b_ false)],[.row 3 1 (l0.map lfI)]⟩))) <|
 .rt [0,1,2,6,7,30] 1 (false)
def adD (p_a:Int) (p_b:Int) (v0:Int) : (Int × (List Int)) → Mo ((Int × (List Int)) ⊕ ((List Int))) := fun (v1,l0) =>
 .jp Tryz.f139 1 [1,0,0,1,0,0,1,0,0,0,0] 15 [0,1,2,6,7] 1 (.normal) (fun r_=>⟨[(0,.own 0),(1,.i_ p_a),(2,.i_ p_b),(6,.i_ v0),(7,.i_ v1),(30,.b_ r_)],[.row 3 1 (l0.map lfI)]⟩) ⟨[(0,.own 0),(1,.i_ p_a),(2,.i_ p_b),(6,.i_ v0),(7,.i_ v1)],[.row 3 1 (l0.map lfI)]⟩ (adC l0 p_a p_b v0 v1).den (jW (by kernel_rfl)) fun r0 _ =>
 .iB (r0) (.ask (bM l0 (IntKind.wrap .i64 (v1 - 1))) fun x0 h0 =>
 .say [] (okc (cu lI_ h0) (ok1 ((aX lI_ h0).2))) <|
 .ask (bM l0 v1) fun x1 h1 =>
 .say [] (okc (cu lI_ h1) (ok1 ((aX lI_ h1).2))) <|
 .ask (bM l0 v1) fun x2 h2 =>
 .say [] (okc (cu lI_ h2) (okc (st_ lI_ l0 v1.toNat x0) (ok1 ((aX lI_ h2).2)))) <|
 .ask (bM (l0.set v1.toNat x0) (IntKind.wrap .i64 (v1 - 1))) fun x3 h3 =>
 .say [.dP (.q 0 (.q 1 (.q 2 (.q 3 (.q 4 (.q 5 (.q 6 (.q 7 (.q 10 (.q 11 (.alt 8 (.alt 9 (.l 12 (.l 13 (.l 14 (.l 15 (.l 16 (.l 17 .fin)))))) (.l 12 (.alt 9 (.l 13 (.l 14 (.l 15 (.l 16 (.l 17 .fin))))) (.l 13 (.l 9 (.l 14 (.l 15 (.l 16 (.l 17 .fin))))))))) (.l 12 (.alt 8 (.alt 9 (.l 13 (.l 14 (.l 15 (.l 16 (.l 17 .fin))))) (.l 13 (.l 9 (.l 14 (.l 15 (.l 16 (.l 17 .fin))))))) (.l 13 (.l 8 (.l 9 (.l 14 (.l 15 (.l 16 (.l 17 .fin)))))))))))))))))))) (some 17) [0] [.both [.both [.row (lfI x0),.row (lfI x1),.row (lfI x2),.rows ((l0.set v1.toNat x0).map lfI),.row (lfI x3),.rows (((l0.set v1.toNat x0).set ((IntKind.wrap .i64 (v1 - 1)).toNat) x1).map lfI)] [.both [.row (lfI x0),.row (lfI x1),.row (lfI x2),.rows ((l0.set v1.toNat x0).map lfI),.row (lfI x3),.rows (((l0.set v1.toNat x0).set ((IntKind.wrap .i64 (v1 - 1)).toNat) x1).map lfI)] [.row (lfI x1),.row (lfI x0),.row (lfI x2),.rows ((l0.set v1.toNat x0).map lfI),.row (lfI x3),.rows (((l0.set v1.toNat x0).set ((IntKind.wrap .i64 (v1 - 1)).toNat) x1).map lfI)]]] [.both [.both [.row (lfI x0),.row (lfI x1),.row (lfI x2),.rows ((l0.set v1.toNat x0).map lfI),.row (lfI x3),.rows (((l0.set v1.toNat x0).set ((IntKind.wrap .i64 (v1 - 1)).toNat) x1).map lfI)] [.row (lfI x1),.row (lfI x0),.row (lfI x2),.rows ((l0.set v1.toNat x0).map lfI),.row (lfI x3),.rows (((l0.set v1.toNat x0).set ((IntKind.wrap .i64 (v1 - 1)).toNat) x1).map lfI)]] [.row (lfI x1),.row (lfI x0),.row (lfI x2),.rows ((l0.set v1.toNat x0).map lfI),.row (lfI x3),.rows (((l0.set v1.toNat x0).set ((IntKind.wrap .i64 (v1 - 1)).toNat) x1).map lfI)]]] [0,1,2,6,7] 1 [(0,.own 0),(1,.i_ p_a),(2,.i_ p_b),(6,.i_ v0),(7,.i_ v1)] [.row 3 1 (((l0.set v1.toNat x0).set ((IntKind.wrap .i64 (v1 - 1)).toNat) x1).map lfI)]] (okc (cu lI_ h3) (okc (st_ lI_ (l0.set v1.toNat x0) ((IntKind.wrap .i64 (v1 - 1)).toNat) x1) (okc ((aX lI_ h3).2) (okc (rf_ ⟨[(0,.own 0),(1,.i_ p_a),(2,.i_ p_b),(6,.i_ v0),(7,.i_ v1)],[.row 3 1 (((l0.set v1.toNat x0).set ((IntKind.wrap .i64 (v1 - 1)).toNat) x1).map lfI)]⟩) (okc (cu lI_ h1) (okc ((aX lI_ h0).2) (okc ((aX lI_ h1).2) (okc (cu lI_ h2) (okc (st_ lI_ l0 v1.toNat x0) (okc ((aX lI_ h2).2) (okc (cu lI_ h3) (okc (st_ lI_ (l0.set v1.toNat x0) ((IntKind.wrap .i64 (v1 - 1)).toNat) x1) (okc ((aX lI_ h3).2) (okc (rf_ ⟨[(0,.own 0),(1,.i_ p_a),(2,.i_ p_b),(6,.i_ v0),(7,.i_ v1)],[.row 3 1 (((l0.set v1.toNat x0).set ((IntKind.wrap .i64 (v1 - 1)).toNat) x1).map lfI)]⟩) (okc ((aX lI_ h1).2) (okc ((aX lI_ h0).2) (okc (cu lI_ h2) (okc (st_ lI_ l0 v1.toNat x0) (okc ((aX lI_ h2).2) (okc (cu lI_ h3) (okc (st_ lI_ (l0.set v1.toNat x0) ((IntKind.wrap .i64 (v1 - 1)).toNat) x1) (okc ((aX lI_ h3).2) (okc (rf_ ⟨[(0,.own 0),(1,.i_ p_a),(2,.i_ p_b),(6,.i_ v0),(7,.i_ v1)],[.row 3 1 (((l0.set v1.toNat x0).set ((IntKind.wrap .i64 (v1 - 1)).toNat) x1).map lfI)]⟩) (okc (cu lI_ h1) (okc (cu lI_ h0) (okc ((aX lI_ h0).2) (okc ((aX lI_ h1).2) (okc (cu lI_ h2) (okc (st_ lI_ l0 v1.toNat x0) (okc ((aX lI_ h2).2) (okc (cu lI_ h3) (okc (st_ lI_ (l0.set v1.toNat x0) ((IntKind.wrap .i64 (v1 - 1)).toNat) x1) (okc ((aX lI_ h3).2) (okc (rf_ ⟨[(0,.own 0),(1,.i_ p_a),(2,.i_ p_b),(6,.i_ v0),(7,.i_ v1)],[.row 3 1 (((l0.set v1.toNat x0).set ((IntKind.wrap .i64 (v1 - 1)).toNat) x1).map lfI)]⟩) (okc ((aX lI_ h1).2) (okc ((aX lI_ h0).2) (okc (cu lI_ h2) (okc (st_ lI_ l0 v1.toNat x0) (okc ((aX lI_ h2).2) (okc (cu lI_ h3) (okc (st_ lI_ (l0.set v1.toNat x0) ((IntKind.wrap .i64 (v1 - 1)).toNat) x1) (okc ((aX lI_ h3).2) (okc (rf_ ⟨[(0,.own 0),(1,.i_ p_a),(2,.i_ p_b),(6,.i_ v0),(7,.i_ v1)],[.row 3 1 (((l0.set v1.toNat x0).set ((IntKind.wrap .i64 (v1 - 1)).toNat) x1).map lfI)]⟩) (okc ((aX lI_ h1).2) (okc (cu lI_ h0) (okc ((aX lI_ h0).2) (okc (cu lI_ h2) (okc (st_ lI_ l0 v1.toNat x0) (okc ((aX lI_ h2).2) (okc (cu lI_ h3) (okc (st_ lI_ (l0.set v1.toNat x0) ((IntKind.wrap .i64 (v1 - 1)).toNat) x1) (okc ((aX lI_ h3).2) (ok1 (rf_ ⟨[(0,.own 0),(1,.i_ p_a),(2,.i_ p_b),(6,.i_ v0),(7,.i_ v1)],[.row 3 1 (((l0.set v1.toNat x0).set ((IntKind.wrap .i64 (v1 - 1)).toNat) x1).map lfI)]⟩)))))))))))))))))))))))))))))))))))))))))))))))))))))) <|
 .rt [0,1,2,6,7] 1 (.inl (IntKind.wrap .i64 (v1 - 1),(l0.set v1.toNat x0).set ((IntKind.wrap .i64 (v1 - 1)).toNat) x1))) <|
 .rt [0,1,2,6] 1 (.inr (l0))
def ajD (p_a:Int) (p_b:Int) (v0:Int) (v1:Int) (l0:List Int) : Option (((List Int))) := bK (fun v_=>(adD p_a p_b v0 v_).den) FU (v1,l0)
def Za (p_a:Int) (p_b:Int) : (Int × (List Int)) → Mo ((Int × (List Int)) ⊕ ((List Int))) := fun (v0,l0) =>
 .iB (decide ((v0:Int) < p_b)) (.lp Tryz.f139 1 [1,0,0,1,0,0,1,0] 0 [0,1,2,6,7] 1 (.exit 2) (fun r_=>⟨[(0,.own 0),(1,.i_ p_a),(2,.i_ p_b),(6,.i_ v0)],[.row 3 1 (r_.map lfI)]⟩) (ajD p_a p_b v0 v0 l0) (lW (fun (v1,l1)=>⟨[(0,.own 0),(1,.i_ p_a),(2,.i_ p_b),(6,.i_ v0),(7,.i_ v1)],[.row 3 1 (l1.map lfI)]⟩) (by kernel_rfl) rfl fun v_=>by kernel_rfl) fun r0 _ =>
 .rt [0,1,2,6] 1 (.inl (IntKind.wrap .i64 (v0 + 1),r0))) <|
 .rt [] 1 (.inr (l0))
def agj (p_a:Int) (p_b:Int) (v0:Int) (l0:List Int) : Option (((List Int))) := bK (fun v_=>(Za p_a p_b v_).den) FU (v0,l0)
def ak5 (p_a:Int) (p_b:Int) (p_s0:List Int) : Mo (List Int) :=
 .lp Tryz.f139 1 [1,0] 0 [0,1,2,6] 1 (.exit 0) (fun r_=>⟨[],[.row 3 1 (r_.map lfI)]⟩) (agj p_a p_b (IntKind.wrap .i64 (p_a + 1)) p_s0) (lW (fun (v0,l0)=>⟨[(0,.own 0),(1,.i_ p_a),(2,.i_ p_b),(6,.i_ v0)],[.row 3 1 (l0.map lfI)]⟩) (by kernel_rfl) rfl fun v_=>by kernel_rfl) fun r0 _ =>
 .rt [] 1 (r0)
def Q62 (p_a:Int) (p_b:Int) (p_s0:List Int) : Option (List Int) := Mo.den (ak5 p_a p_b p_s0)
theorem ajE (p_a:Int) (p_b:Int) (p_s0:List Int) : FH (Q62 p_a p_b p_s0) 139 [.own 0,.i_ p_a,.i_ p_b] [.row 3 1 (p_s0.map lfI)] (fun _=>.tup []) (fun r=>[.row 3 1 (r.map lfI)]) := gW Tryz.func139 (by kernel_rfl) (fun _=>rfl) (by kernel_rfl)
structure adE where
 m1:(p_a:Int) → (p_b:Int) → (p_limit:Int) → (p_s0:List Int) → Option (List Int)
 ok1:∀ p_a p_b p_limit p_s0,FH (m1 p_a p_b p_limit p_s0) 104 [.own 0,.i_ p_a,.i_ p_b,.i_ p_limit] [.row 3 1 (p_s0.map lfI)] (fun _=>.tup []) (fun r=>[.row 3 1 (r.map lfI)])
def adF (R_:adE) (p_a:Int) (p_b:Int) (p_limit:Int) (p_s0:List Int) : Unit → Mo (Unit ⊕ ((List Int))) := fun _ =>
 .say [.br true] ok0 <|
 .ite (decide ((IntKind.wrap .i64 (p_b - p_a) : Int) ≤ 12)) (fun c0 =>
 .say [] (ok1 c0) <|
 .cH [0] (ajE p_a p_b p_s0) fun r0 _ =>
 .rt [] 1 (.inr (r0))) fun c0 =>
 .stop
def ajF (R_:adE) (p_a:Int) (p_b:Int) (p_limit:Int) (p_s0:List Int) : Option (((List Int))) := bK (fun v_=>(adF R_ p_a p_b p_limit p_s0 v_).den) FU ()
def ahA (R_:adE) (p_a:Int) (p_b:Int) (p_limit:Int) (p_s0:List Int) : Mo (List Int) :=
 .lp Tryz.f104 1 [1,1,0] 0 [0,1,2,3,8,9] 1 (.ret) (fun r_=>⟨[],[.row 3 1 (r_.map lfI)]⟩) (ajF R_ p_a p_b p_limit p_s0) (lW (fun _=>⟨[(0,.own 0),(1,.i_ p_a),(2,.i_ p_b),(3,.i_ p_limit),(8,.b_ true),(9,.b_ true)],[.row 3 1 (p_s0.map lfI)]⟩) (by kernel_rfl) rfl fun v_=>by kernel_rfl) fun r0 _ =>
 .rt [] 1 (r0)
theorem agk (R_:adE) (p_a:Int) (p_b:Int) (p_limit:Int) (p_s0:List Int) : FH (Mo.den (ahA R_ p_a p_b p_limit p_s0)) 104 [.own 0,.i_ p_a,.i_ p_b,.i_ p_limit] [.row 3 1 (p_s0.map lfI)] (fun _=>.tup []) (fun r=>[.row 3 1 (r.map lfI)]) := gW Tryz.func104 (by kernel_rfl) (fun _=>rfl) (by kernel_rfl)
def KW:Nat → adE
 | 0=>{ m1 := fun p_a p_b p_limit p_s0=>none,ok1 := fun _ _ _ _ _ h=>(by cases h) }
 | n_ + 1=>{ m1 := fun p_a p_b p_limit p_s0=>Mo.den (ahA (KW n_) p_a p_b p_limit p_s0),ok1 := agk (KW n_) }
def Q86 (p_a:Int) (p_b:Int) (p_limit:Int) (p_s0:List Int) : Option (List Int) := (KW FU).m1 p_a p_b p_limit p_s0
theorem ajG (p_a:Int) (p_b:Int) (p_limit:Int) (p_s0:List Int) : FH (Q86 p_a p_b p_limit p_s0) 104 [.own 0,.i_ p_a,.i_ p_b,.i_ p_limit] [.row 3 1 (p_s0.map lfI)] (fun _=>.tup []) (fun r=>[.row 3 1 (r.map lfI)]) := (KW FU).ok1 p_a p_b p_limit p_s0
def ajH (p_s0:List Int) : Mo (List Int) :=
 .say [.num p_s0.length] (ok1 (ln_ p_s0 lfI)) <|
 .cl (agh (IntKind.wrap .u64 (p_s0.length:Int))) fun r0 _ =>
 .cH [0] (ajG 0 (p_s0.length:Int) r0 p_s0) fun r1 _ =>
 .rt [] 1 (r1)
def ak6 (p_s0:List Int) : Option (List Int) := Mo.den (ajH p_s0)
theorem agl (p_s0:List Int) : FH (ak6 p_s0) 76 [.own 0] [.row 3 1 (p_s0.map lfI)] (fun _=>.tup []) (fun r=>[.row 3 1 (r.map lfI)]) := gW Tryz.func76 (by kernel_rfl) (fun _=>rfl) (by kernel_rfl)
def adG (p_m:aj) (r0:Int) : Mo (Bool) :=
 .iG 6003 (p_m.dM != 2) (.rt [1,2,3,15] 5 (true)) <|
 .rt [1,2,3,15] 5 (r0 == 0)
def adH (p_m:aj) (r0:Int) (r1:Bool) : Mo (Bool) :=
 .ite (r1) (fun c0 =>
 .say [.gd 6007 true] (ok1 c0) <|
 .rt [1,2,3,22] 5 (true)) fun c0 =>
 .say [.gd 6007 false,.num p_m.bn.length] (okc c0 (ok1 (ln_ p_m.bn lfI))) <|
 .rt [1,2,3,22] 5 (decide (((p_m.bn.length:Int) : Int) < r0))
def Zb (p_m:aj) (v0:Int) : Mo (Bool) :=
 .say [.order [(true,0),(true,1),(true,2),(true,3),(true,4),(true,5),(true,6),(true,7),(true,8),(true,9),(true,10),(true,11),(true,12),(true,13),(true,14),(true,15),(true,16),(true,17),(true,18),(true,19)] none []] ok0 <|
 .iG 16004 (decide ((p_m.au:Int) < v0)) (.iG 16008 (decide ((0:Int) < v0)) (.ask (bM p_m.aQ (IntKind.wrap .i64 (v0 - 1))) fun x0 h0 =>
 .say [.row (ay.lf1 x0)] (okc (cu ay.aV h0) (ok1 ((aX ay.aV h0).2))) <|
 .rt [1,2,5,59] 6 (x0.bD != p_m.bD)) <|
 .rt [1,2,5,59] 6 (false)) <|
 .rt [1,2,5,59] 6 (false)
def I8 (p_m:aj) : (Int) → Mo ((Int) ⊕ (Int)) := fun (v0) =>
 .jp Tryz.f38 3 [1,1,1,1,1,1,0,0,0,0,0] 21 [1,2,5] 6 (.normal) (fun r_=>⟨[(1,.ptr 3 0),(2,.ptr 4 0),(5,.i_ v0),(59,.b_ r_)],[.row 54 82 (p_m.aQ.map ay.lf),.row 3 1 (p_m.fNext.map lfI),.dead,.box 25 (ag_ (aj.lf1 p_m) [(8,.own 0),(10,.own 1)]),.box 25 (Z25),.dead]⟩) ⟨[(1,.ptr 3 0),(2,.ptr 4 0),(5,.i_ v0)],[.row 54 82 (p_m.aQ.map ay.lf),.row 3 1 (p_m.fNext.map lfI),.dead,.box 25 (ag_ (aj.lf1 p_m) [(8,.own 0),(10,.own 1)]),.box 25 (Z25),.dead]⟩ (Zb p_m v0).den (jW (by kernel_rfl)) fun r0 _ =>
 .iB (r0) (.rt [1,2,5] 6 (.inl (IntKind.wrap .i64 (v0 - 1)))) <|
 .rt [1,2,5] 6 (.inr (v0))
def Xy (p_m:aj) (v0:Int) : Option (Int) := bK (fun v_=>(I8 p_m v_).den) FU (v0)
def I9 (p_m:aj) : (Int) → St := fun (v0)=>⟨[(1,.ptr 3 0),(2,.ptr 4 0),(5,.i_ v0)],[.row 54 82 (p_m.aQ.map ay.lf),.row 3 1 (p_m.fNext.map lfI),.dead,.box 25 (ag_ (aj.lf1 p_m) [(8,.own 0),(10,.own 1)]),.box 25 (Z25),.dead]⟩
def rW (p_m:aj) (r_:Int) : St := ⟨[(1,.ptr 3 0),(2,.ptr 4 0),(5,.i_ r_)],[.row 54 82 (p_m.aQ.map ay.lf),.row 3 1 (p_m.fNext.map lfI),.dead,.box 25 (ag_ (aj.lf1 p_m) [(8,.own 0),(10,.own 1)]),.box 25 (Z25),.dead]⟩
theorem Zc {p_m:aj} {v0:Int} {r_:Int} (h:Xy p_m v0 = some r_) : fQ Tryz.f38 3 [1,1,1,1,1,1,0,0] (.exit 0) (rW p_m r_) (I9 p_m (v0)) :=
 dO dK (body := (Code.sub (bodyC Tryz.f38) [1,1,1,1,1,1,0,0,0])) (by kernel_rfl) (I8 p_m) (I9 p_m) (fun _=>.exit 0) (rW p_m) (fun r_=>rfl) (fun v_=>by kernel_rfl) h
def ak7 (p_m:aj) : Mo (aj) :=
 .cl (Xo p_m.dI) fun r0 _ =>
 .sj Tryz.f38 3 [1,1,0,0] [0,1,2,3,4,5,6] 2 7 [1,2,3] 5 (fun r_=>⟨[(1,.ptr 3 0),(2,.ptr 4 0),(3,.i_ r0),(15,.b_ r_)],[.row 54 82 (p_m.aQ.map ay.lf),.row 3 1 (p_m.fNext.map lfI),.row 3 1 (p_m.bn.map lfI),.box 25 (ag_ (aj.lf1 p_m) [(8,.own 0),(10,.own 1),(11,.own 2)]),.box 25 (Z25)]⟩) ⟨[(1,.ptr 3 0),(2,.ptr 4 0),(3,.i_ r0)],[.row 54 82 (p_m.aQ.map ay.lf),.row 3 1 (p_m.fNext.map lfI),.row 3 1 (p_m.bn.map lfI),.box 25 (ag_ (aj.lf1 p_m) [(8,.own 0),(10,.own 1),(11,.own 2)]),.box 25 (Z25)]⟩ (adG p_m r0).den (sW (by kernel_rfl)) fun r1 _ =>
 .sj Tryz.f38 3 [1,1,0,0] [7,8,9,10,11,12,13] 2 7 [1,2,3,15] 5 (fun r_=>⟨[(1,.ptr 3 0),(2,.ptr 4 0),(3,.i_ r0),(22,.b_ r_)],[.row 54 82 (p_m.aQ.map ay.lf),.row 3 1 (p_m.fNext.map lfI),.row 3 1 (p_m.bn.map lfI),.box 25 (ag_ (aj.lf1 p_m) [(8,.own 0),(10,.own 1),(11,.own 2)]),.box 25 (Z25)]⟩) ⟨[(1,.ptr 3 0),(2,.ptr 4 0),(3,.i_ r0),(15,.b_ r1)],[.row 54 82 (p_m.aQ.map ay.lf),.row 3 1 (p_m.fNext.map lfI),.row 3 1 (p_m.bn.map lfI),.box 25 (ag_ (aj.lf1 p_m) [(8,.own 0),(10,.own 1),(11,.own 2)]),.box 25 (Z25)]⟩ (adH p_m r0 r1).den (sW (by kernel_rfl)) fun r2 _ =>
 .ite (r2) (fun c0 =>
 .say [.br true] (ok1 c0) <|
 .ret ⟨[.frz 2,.kill 3,.kill 4,.mvn 0,.mvn 1],[0],[(5,3),(6,4)],5⟩ (p_m)) fun c0 =>
 .say [.br false,.at_ 10 2,.frz 2] (ok1 c0) <|
 .cH [] (aeN p_m.bn) fun r3 _ =>
 .ask (ak6 r3) fun r4 h0 =>
 .say [.jc [5] (.tup []) [.row 3 1 (r4.map lfI)],.order [(true,0),(true,1),(true,2),(true,3),(true,4),(true,5),(true,6),(true,7),(true,8),(true,9),(true,10),(true,11)] none [],.num r4.length] (okc (agl _ _ h0) (ok1 (ln_ r4 lfI))) <|
 .ask (bM r4 (IntKind.wrap .i64 ((r4.length:Int) - r0))) fun x0 h1 =>
 .say [.row (lfI x0),.num p_m.aQ.length] (okc (cu lI_ h1) (okc ((aX lI_ h1).2) (ok1 (ln_ p_m.aQ ay.lf)))) <|
 .ask (Xy p_m (if (p_m.aQ.length:Int) < x0 then (p_m.aQ.length:Int) else x0)) fun r5 h2 =>
 .say [.part [.kill 5] 0 [1,2,5] 6 (.exit 0) (rW p_m r5).T (rW p_m r5).H] (ok1 (Zc h2)) <|
 .ret ⟨[.kill 3,.kill 4,.mvn 0,.mvn 1],[0],[(6,3),(7,4)],5⟩ (aj.oO p_m (if p_m.au > r5 then p_m.au else r5))
def Q57 (p_m:aj) : Option (aj) := Mo.den (ak7 p_m)
theorem ajI (p_m:aj) : FH (Q57 p_m) 38 [uS (.agg ((aj.lf1 p_m).map AV.lf)) [(8,.own 0),(10,.own 1),(11,.own 2)]] [.row 54 82 (p_m.aQ.map ay.lf),.row 3 1 (p_m.fNext.map lfI),.row 3 1 (p_m.bn.map lfI)] (fun r=>uS (.agg ((aj.lf1 r).map AV.lf)) [(8,.own 3),(10,.own 4)]) (fun r=>[.dead,.dead,.dead,.row 54 82 (r.aQ.map ay.lf),.row 3 1 (r.fNext.map lfI)]) := gW Tryz.func38 (by kernel_rfl) (fun _=>rfl) (by kernel_rfl)
def ajJ (p_x:ah) (p_b0:aF) : Mo (aF) :=
 .say [.order [(true,0),(true,1),(true,2),(true,3),(true,5),(false,4),(false,6),(false,7),(true,8),(true,9),(false,10)] (some 10) [1,2,3,6,7,8,9,10]] ok0 <|
 .cH [1,2,3] (agd p_b0.aO p_x) fun r0 _ =>
 .cH [6,7,8] (ajI r0) fun r1 _ =>
 .ret ⟨[.kill 5,.mvn 9,.mvn 10,.mvn 4],[],[(11,5),(12,6),(13,7)],8⟩ (aF.mk r1 p_b0.dw p_b0.eG)
def ak8 (p_x:ah) (p_b0:aF) : Option (aF) := Mo.den (ajJ p_x p_b0)
theorem agm (p_x:ah) (p_b0:aF) : FH (ak8 p_x p_b0) 46 [.ptr 0 0,.dat (ah.lf1 p_x)] [.box 97 (ag_ (aF.lf1 p_b0) [(8,.own 1),(10,.own 2),(11,.own 3),(12,.own 4)]),.row 54 82 (p_b0.aO.aQ.map ay.lf),.row 3 1 (p_b0.aO.fNext.map lfI),.row 3 1 (p_b0.aO.bn.map lfI),.row 63 9 (p_b0.dw.map ah.lf)] (fun _=>.tup []) (fun r=>[.box 97 (ag_ (aF.lf1 r) [(8,.own 5),(10,.own 6),(12,.own 7)]),.dead,.dead,.dead,.dead,.row 54 82 (r.aO.aQ.map ay.lf),.row 3 1 (r.aO.fNext.map lfI),.row 63 9 (r.dw.map ah.lf)]) := gW Tryz.func46 (by kernel_rfl) (fun _=>rfl) (by kernel_rfl)
def Zd (p_m:aj) (p_x:ah) : Mo (Bool) :=
 .iG 4005 (p_x.fTo != p_m.fID) (.rt [2,3,4,6,20] 4 (true)) <|
 .rt [2,3,4,6,20] 4 (p_x.dh == p_m.fID)
def Ze (p_m:aj) (p_x:ah) (r0:Bool) : Mo (Bool) :=
 .iG 4012 (r0) (.rt [2,3,4,6,25] 4 (true)) <|
 .rt [2,3,4,6,25] 4 (decide ((p_x.dh:Int) < 0))
def Vo (p_m:aj) (p_x:ah) (r0:Bool) : Mo (Bool) :=
 .iG 4017 (r0) (.rt [2,3,4,6,32] 4 (true)) <|
 .rt [2,3,4,6,32] 4 (decide ((p_m.dI:Int) ≤ p_x.dh))
def ajK (p_m:aj) (p_x:ah) : Mo (aj × (List ah) × bF) :=
 .sj Tryz.f16 0 [1,0,0] [0,1,2,3,4,5,6,7,8,9,10,11] 1 12 [2,3,4,6] 4 (fun r_=>⟨[(2,.ptr 0 0),(3,.ptr 1 0),(4,.ptr 2 0),(6,.ptr 3 0),(20,.b_ r_)],[.box 25 (.dat (aj.lf1 p_m)),.box 63 (.dat (ah.lf1 p_x)),.box 25 (Z25),.box 67 (.agg [.i_ 0,.i_ 0,.i_ 0,.bI 82])]⟩) ⟨[(2,.ptr 0 0),(3,.ptr 1 0),(4,.ptr 2 0),(6,.ptr 3 0)],[.box 25 (.dat (aj.lf1 p_m)),.box 63 (.dat (ah.lf1 p_x)),.box 25 (Z25),.box 67 (.agg [.i_ 0,.i_ 0,.i_ 0,.bI 82])]⟩ (Zd p_m p_x).den (sW (by kernel_rfl)) fun r0 _ =>
 .sj Tryz.f16 0 [1,0,0] [12,13,14,15,16] 1 5 [2,3,4,6,20] 4 (fun r_=>⟨[(2,.ptr 0 0),(3,.ptr 1 0),(4,.ptr 2 0),(6,.ptr 3 0),(25,.b_ r_)],[.box 25 (.dat (aj.lf1 p_m)),.box 63 (.dat (ah.lf1 p_x)),.box 25 (Z25),.box 67 (.agg [.i_ 0,.i_ 0,.i_ 0,.bI 82])]⟩) ⟨[(2,.ptr 0 0),(3,.ptr 1 0),(4,.ptr 2 0),(6,.ptr 3 0),(20,.b_ r0)],[.box 25 (.dat (aj.lf1 p_m)),.box 63 (.dat (ah.lf1 p_x)),.box 25 (Z25),.box 67 (.agg [.i_ 0,.i_ 0,.i_ 0,.bI 82])]⟩ (Ze p_m p_x r0).den (sW (by kernel_rfl)) fun r1 _ =>
 .sj Tryz.f16 0 [1,0,0] [17,18,19,20,21,22,23] 1 7 [2,3,4,6,25] 4 (fun r_=>⟨[(2,.ptr 0 0),(3,.ptr 1 0),(4,.ptr 2 0),(6,.ptr 3 0),(32,.b_ r_)],[.box 25 (.dat (aj.lf1 p_m)),.box 63 (.dat (ah.lf1 p_x)),.box 25 (Z25),.box 67 (.agg [.i_ 0,.i_ 0,.i_ 0,.bI 82])]⟩) ⟨[(2,.ptr 0 0),(3,.ptr 1 0),(4,.ptr 2 0),(6,.ptr 3 0),(25,.b_ r1)],[.box 25 (.dat (aj.lf1 p_m)),.box 63 (.dat (ah.lf1 p_x)),.box 25 (Z25),.box 67 (.agg [.i_ 0,.i_ 0,.i_ 0,.bI 82])]⟩ (Vo p_m p_x r1).den (sW (by kernel_rfl)) fun r2 _ =>
 .iB (r2) (.cH [] (qB p_m) fun r3 _ =>
 .ask (Q84) fun r4 h0 =>
 .say [.res (.dat (bF.lf1 r4)),.at_ 0 0,.frz 4,.frz 5,.frz 6] (ok1 (uo  _ h0)) <|
 .ret ⟨[.nil 1 9,.tod 1],[0,1,2],[],0⟩ (r3,[],r4)) <|
 .iB (p_x.aU == 1) (.cH [] (qB p_m) fun r5 _ =>
 .ask (Q84) fun r6 h1 =>
 .say [.res (.dat (bF.lf1 r6)),.at_ 32 3,.Tc 7 12 63,.kJ 8 (([] : List ah).map ah.lf)] (okc (uo  _ h1) (ok1 (by simp [ah.aV] : (([] : List ah).map ah.lf) = []))) <|
 .ask (akX p_x (aF.mk r5 ([] : List ah) r6)) fun r7 h2 =>
 .say [.jc [7,4,5,6,8] (.tup []) [.box 97 (.dat (aF.lf1 r7)),.dead,.dead,.dead,.dead],.order [(true,0),(true,1),(true,2),(true,3),(true,4),(true,5),(true,6),(true,7),(true,8),(true,9),(true,10),(true,11),(false,12),(true,13),(false,14)] (some 14) [2]] (ok1 (afI _ _ _ h2)) <|
 .ret (bC 3) (r7.aO,r7.dw,r7.eG)) <|
 .iB (p_x.aU == 2) (.cH [] (qB p_m) fun r8 _ =>
 .ask (Q84) fun r9 h3 =>
 .say [.res (.dat (bF.lf1 r9)),.at_ 32 3,.Tc 7 12 63,.kJ 8 (([] : List ah).map ah.lf)] (okc (uo  _ h3) (ok1 (by simp [ah.aV] : (([] : List ah).map ah.lf) = []))) <|
 .ask (ak1 p_x (aF.mk r8 ([] : List ah) r9)) fun r10 h4 =>
 .say [.jc [7,4,5,6,8] (.tup []) [.box 97 (ag_ (aF.lf1 r10) [(12,.own 5)]),.dead,.dead,.dead,.dead,.row 63 9 (r10.dw.map ah.lf)],.order [(true,0),(true,1),(true,2),(true,3),(true,4),(true,5),(true,6),(true,7),(true,8),(true,9),(true,10),(true,11),(false,12),(true,13),(false,14)] (some 14) [2],.at_ 0 0,.frz 9] (ok1 (afN _ _ _ h4)) <|
 .ret (bC 3) (r10.aO,r10.dw,r10.eG)) <|
 .iB (p_x.aU == 3) (.cH [] (qB p_m) fun r11 _ =>
 .ask (Q84) fun r12 h5 =>
 .say [.res (.dat (bF.lf1 r12)),.at_ 32 3,.Tc 7 12 63,.kJ 8 (([] : List ah).map ah.lf)] (okc (uo  _ h5) (ok1 (by simp [ah.aV] : (([] : List ah).map ah.lf) = []))) <|
 .ask (Q35 p_x (aF.mk r11 ([] : List ah) r12)) fun r13 h6 =>
 .say [.jc [7,4,5,6,8] (.tup []) [.box 97 (ag_ (aF.lf1 r13) [(8,.own 5),(10,.own 6),(11,.own 7),(12,.own 8)]),.dead,.dead,.dead,.dead,.row 54 82 (r13.aO.aQ.map ay.lf),.row 3 1 (r13.aO.fNext.map lfI),.row 3 1 (r13.aO.bn.map lfI),.row 63 9 (r13.dw.map ah.lf)],.order [(true,0),(true,1),(true,2),(true,3),(true,4),(true,5),(true,6),(true,7),(true,8),(true,9),(true,10),(true,11),(false,12),(true,13),(false,14)] (some 14) [2],.at_ 0 0,.frz 9,.frz 10,.frz 11,.frz 12] (ok1 (adB _ _ _ h6)) <|
 .ret (bC 3) (r13.aO,r13.dw,r13.eG)) <|
 .iB (p_x.aU == 4) (.cH [] (qB p_m) fun r14 _ =>
 .ask (Q84) fun r15 h7 =>
 .say [.res (.dat (bF.lf1 r15)),.at_ 32 3,.Tc 7 12 63,.kJ 8 (([] : List ah).map ah.lf)] (okc (uo  _ h7) (ok1 (by simp [ah.aV] : (([] : List ah).map ah.lf) = []))) <|
 .ask (ak8 p_x (aF.mk r14 ([] : List ah) r15)) fun r16 h8 =>
 .say [.jc [7,4,5,6,8] (.tup []) [.box 97 (ag_ (aF.lf1 r16) [(8,.own 5),(10,.own 6),(12,.own 7)]),.dead,.dead,.dead,.dead,.row 54 82 (r16.aO.aQ.map ay.lf),.row 3 1 (r16.aO.fNext.map lfI),.row 63 9 (r16.dw.map ah.lf)],.order [(true,0),(true,1),(true,2),(true,3),(true,4),(true,5),(true,6),(true,7),(true,8),(true,9),(true,10),(true,11),(false,12),(true,13),(false,14)] (some 14) [2],.at_ 0 0,.frz 9,.frz 10,.frz 11] (ok1 (agm _ _ _ h8)) <|
 .ret (bC 3) (r16.aO,r16.dw,r16.eG)) <|
 .cH [] (qB p_m) fun r17 _ =>
 .ask (Q84) fun r18 h9 =>
 .say [.res (.dat (bF.lf1 r18)),.at_ 0 0,.frz 4,.frz 5,.frz 6] (ok1 (uo  _ h9)) <|
 .ret ⟨[.nil 1 9,.tod 1],[0,1,2],[],0⟩ (r17,[],r18)
def alL (p_m:aj) (p_x:ah) : Option (aj × (List ah) × bF) := Mo.den (ajK p_m p_x)
theorem agn (p_m:aj) (p_x:ah) : FV (alL p_m p_x) 16 [.dat (aj.lf1 p_m),.dat (ah.lf1 p_x)] (fun r=>.tup [.dat (aj.lf1 r.1),.lf (.rows 9 (r.2.1.map ah.lf)),.dat (bF.lf1 r.2.2)]) := bY Tryz.func16 (by kernel_rfl) (fun _=>rfl) (by kernel_rfl)
def ajL (p_m:aj) (p_e:ay) : Mo (aj × Int) :=
 .say [.br true] ok0 <|
 .ite (p_m.dM != 2) (fun c0 =>
 .say [] (ok1 c0) <|
 .ret (bC 2) (aj.z,25)) fun c0 =>
 .stop
def ak9 (p_m:aj) (p_e:ay) : Option (aj × Int) := Mo.den (ajL p_m p_e)
theorem KX (p_m:aj) (p_e:ay) : FV (ak9 p_m p_e) 12 [.dat (aj.lf1 p_m),.dat (ay.lf1 p_e)] (fun r=>.tup [.dat (aj.lf1 r.1),.i_ r.2]) := bY Tryz.func12 (by kernel_rfl) (fun _=>rfl) (by kernel_rfl)
def ajM (p_m:aj) : Mo (aj × List ah) :=
 .say [.br true] ok0 <|
 .ite (decide ((1:Int) < p_m.gI)) (fun c0 =>
 .say [] (ok1 c0) <|
 .ask (Q94 p_m) fun r0 h0 =>
 .say [.jc [] (ag_ (aj.lf1 r0) [(8,.own 0),(10,.own 1),(11,.own 2)]) [.row 54 82 (r0.aQ.map ay.lf),.row 3 1 (r0.fNext.map lfI),.row 3 1 (r0.bn.map lfI)],.at_ 0 0,.frz 2,.frz 3,.frz 4] (ok1 (qB _ _ h0)) <|
 .ret ⟨[.nil 1 9,.tod 1],[0,1],[],0⟩ (aj.qo r0 (IntKind.wrap .i64 (r0.gI - 1)),[])) fun c0 =>
 .stop
def alM (p_m:aj) : Option (aj × List ah) := Mo.den (ajM p_m)
theorem agp (p_m:aj) : FV (alM p_m) 20 [.dat (aj.lf1 p_m)] (fun r=>.tup [.dat (aj.lf1 r.1),.lf (.rows 9 (r.2.map ah.lf))]) := bY Tryz.func20 (by kernel_rfl) (fun _=>rfl) (by kernel_rfl)
def RJ (r0:aj × (List ah) × bF) (r1:aj × Int) (r2:aj × List ah) : Mo (Bool) :=
 .say [.num r0.1.aQ.length] (ok1 (ln_ r0.1.aQ ay.lf)) <|
 .iG 18004 ((r0.1.aQ.length:Int) == 1) (.ret ⟨[.kill 3],[5,6,8,9,10,46],[],7⟩ (r0.1.au == 1)) <|
 .ret ⟨[.kill 3],[5,6,8,9,10,46],[],7⟩ (false)
def adI (r0:aj × (List ah) × bF) (r1:aj × Int) (r2:aj × List ah) : Option (Bool) := Mo.den (RJ r0 r1 r2)
def yA (r0:aj × (List ah) × bF) (r1:aj × Int) (r2:aj × List ah) (r_:Bool) : St := ⟨[(5,.lf (.rows 9 (r0.2.1.map ah.lf))),(6,.ptr 4 0),(8,.i_ r1.2),(9,.ptr 6 0),(10,.lf (.rows 9 (r2.2.map ah.lf))),(46,.b_ r_)],[.dead,.dead,.dead,.dead,.box 67 (.agg [.i_ r0.2.2.dX,.i_ r0.2.2.bD,.i_ r0.2.2.fAt,.lf (.rows 82 (r0.2.2.aH.map ay.lf))]),.dead,.box 25 (.agg ((aj.lf1 r2.1).map AV.lf))]⟩
theorem adJ {r0:aj × (List ah) × bF} {r1:aj × Int} {r2:aj × List ah} {r_:Bool} (h:adI r0 r1 r2 = some r_) : MZ Tryz.f11 0 [1,1,1,1,1,1,1,0] [0,1,2,3,4,5,6,7,8] (yA r0 r1 r2 r_) ⟨[(4,.ptr 3 0),(5,.lf (.rows 9 (r0.2.1.map ah.lf))),(6,.ptr 4 0),(8,.i_ r1.2),(9,.ptr 6 0),(10,.lf (.rows 9 (r2.2.map ah.lf)))],[.dead,.dead,.dead,.box 25 (.agg ((aj.lf1 r0.1).map AV.lf)),.box 67 (.agg [.i_ r0.2.2.dX,.i_ r0.2.2.bD,.i_ r0.2.2.fAt,.lf (.rows 82 (r0.2.2.aH.map ay.lf))]),.dead,.box 25 (.agg ((aj.lf1 r2.1).map AV.lf))]⟩ :=
 Wn dK (RJ r0 r1 r2) (yA r0 r1 r2) (by kernel_rfl) h
def adK (r0:aj × (List ah) × bF) (r1:aj × Int) (r2:aj × List ah) (r3:Bool) : Mo (Bool) :=
 .ite (r3) (fun c0 =>
 .say [.gd 18009 true,.num r0.2.1.length] (okc c0 (ok1 (ln_ r0.2.1 ah.lf))) <|
 .rt [5,6,8,9,10,51] 7 ((r0.2.1.length:Int) == 1)) fun c0 =>
 .say [.gd 18009 false] (ok1 c0) <|
 .rt [5,6,8,9,10,51] 7 (false)
def Zf (r0:aj × (List ah) × bF) (r1:aj × Int) (r2:aj × List ah) (r3:Bool) : Mo (Bool) :=
 .iG 18014 (r3) (.ask (bM r0.2.1 0) fun x0 h0 =>
 .say [.row (ah.lf1 x0)] (ok1 (aX ah.aV h0)) <|
 .rt [5,6,8,9,10,57] 7 (x0.fOK)) <|
 .rt [5,6,8,9,10,57] 7 (false)
def Zg (r0:aj × (List ah) × bF) (r1:aj × Int) (r2:aj × List ah) (r3:Bool) : Mo (Bool) :=
 .iG 18020 (r3) (.ask (bM r0.2.1 0) fun x0 h0 =>
 .say [.row (ah.lf1 x0)] (ok1 (aX ah.aV h0)) <|
 .rt [6,8,9,10,64] 7 (x0.aY == 1)) <|
 .rt [6,8,9,10,64] 7 (false)
def Zh (r0:aj × (List ah) × bF) (r1:aj × Int) (r2:aj × List ah) (r3:Bool) : Mo (Bool) :=
 .iG 18027 (r3) (.ret ⟨[.kill 4],[8,9,10,69],[],7⟩ (r0.2.2.dX == (-1))) <|
 .ret ⟨[.kill 4],[8,9,10,69],[],7⟩ (false)
def Zi (r0:aj × Int) (r1:aj × List ah) (r2:Bool) : Mo (Bool) :=
 .iG 18032 (r2) (.rt [9,10,73] 7 (r0.2 == 25)) <|
 .rt [9,10,73] 7 (false)
def Zj (r0:aj × List ah) (r1:Bool) : Mo (Bool) :=
 .iG 18036 (r1) (.ret ⟨[.kill 6],[10,78],[],7⟩ (r0.1.gI == 12)) <|
 .ret ⟨[.kill 6],[10,78],[],7⟩ (false)
def Zk (r0:aj × List ah) (r1:Bool) : Mo (Bool) :=
 .ite (r1) (fun c0 =>
 .say [.gd 18041 true,.num r0.2.length] (okc c0 (ok1 (ln_ r0.2 ah.lf))) <|
 .rt [83] 7 ((r0.2.length:Int) == 0)) fun c0 =>
 .say [.gd 18041 false] (ok1 c0) <|
 .rt [83] 7 (false)
def Zl (r0:Bool) : Mo (Unit) :=
 .rt [0] 7 ()
def ala  : Mo (Bool) :=
 .cl (afn 1 3) fun r0 _ =>
 .iB (r0.2 != 0) (.ret (bC 1) (false)) <|
 .ask (ai5 1 1) fun r1 h0 =>
 .say [.res (.dat (ay.lf1 r1)),.at_ 12 2,.XE 1 ([r1].map ay.lf)] (okc (KG _ _ _ h0) (ok1 (by simp [ay.aV] : [r1].map ay.lf = [(ay.lf1 r1)]))) <|
 .cl (agn r0.1 (ah.aai (ah.oO (ah.jP (ah.jG (ah.sTo ah.z 1) 3) 1) 1) [r1])) fun r2 _ =>
 .ask (ai5 0 1) fun r3 h1 =>
 .say [] (ok1 (KG _ _ _ h1)) <|
 .ask (ak9 r0.1 r3) fun r4 h2 =>
 .say [.dP (.q 0 (.alt 1 (.alt 2 (.q 3 (.q 4 (.q 5 (.l 6 (.l 7 (.q 8 .fin)))))) (.l 6 (.l 2 (.q 3 (.q 4 (.q 5 (.l 7 (.q 8 .fin)))))))) (.l 6 (.l 1 (.l 2 (.q 3 (.q 4 (.q 5 (.l 7 (.q 8 .fin)))))))))) none [5] [.both [.at_ 14 1,.resv 1,.res (.dat (ay.lf1 r3)),.both [.res (.tup [.dat (aj.lf1 r4.1),.i_ r4.2]),.slot 5] [.slot 5,.res (.tup [.dat (aj.lf1 r4.1),.i_ r4.2])]] [.at_ 14 6,.resv 1,.slot 5,.res (.dat (ay.lf1 r3)),.res (.tup [.dat (aj.lf1 r4.1),.i_ r4.2])]] [1,4,5,6,8] 6 [(1,.ptr 0 0),(4,.ptr 3 0),(5,.lf (.rows 9 (r2.2.1.map ah.lf))),(6,.ptr 4 0),(8,.i_ r4.2)] [.box 25 (.agg ((aj.lf1 r0.1).map AV.lf)),.dead,.box 63 (.agg [.i_ 0,.i_ 1,.i_ 3,.i_ 1,.i_ 0,.i_ 0,.i_ 1,.lf (.rows 82 ([r1].map ay.lf)),.b_ false]),.box 25 (.agg ((aj.lf1 r2.1).map AV.lf)),.box 67 (.agg [.i_ r2.2.2.dX,.i_ r2.2.2.bD,.i_ r2.2.2.fAt,.lf (.rows 82 (r2.2.2.aH.map ay.lf))]),.box 25 (.agg ((aj.lf1 r4.1).map AV.lf))]] (okc (KX _ _ _ h2) (okc (rf_ ⟨[(1,.ptr 0 0),(4,.ptr 3 0),(5,.lf (.rows 9 (r2.2.1.map ah.lf))),(6,.ptr 4 0),(8,.i_ r4.2)],[.box 25 (.agg ((aj.lf1 r0.1).map AV.lf)),.dead,.box 63 (.agg [.i_ 0,.i_ 1,.i_ 3,.i_ 1,.i_ 0,.i_ 0,.i_ 1,.lf (.rows 82 ([r1].map ay.lf)),.b_ false]),.box 25 (.agg ((aj.lf1 r2.1).map AV.lf)),.box 67 (.agg [.i_ r2.2.2.dX,.i_ r2.2.2.bD,.i_ r2.2.2.fAt,.lf (.rows 82 (r2.2.2.aH.map ay.lf))]),.box 25 (.agg ((aj.lf1 r4.1).map AV.lf))]⟩) (okc (KX _ _ _ h2) (okc (rf_ ⟨[(1,.ptr 0 0),(4,.ptr 3 0),(5,.lf (.rows 9 (r2.2.1.map ah.lf))),(6,.ptr 4 0),(8,.i_ r4.2)],[.box 25 (.agg ((aj.lf1 r0.1).map AV.lf)),.dead,.box 63 (.agg [.i_ 0,.i_ 1,.i_ 3,.i_ 1,.i_ 0,.i_ 0,.i_ 1,.lf (.rows 82 ([r1].map ay.lf)),.b_ false]),.box 25 (.agg ((aj.lf1 r2.1).map AV.lf)),.box 67 (.agg [.i_ r2.2.2.dX,.i_ r2.2.2.bD,.i_ r2.2.2.fAt,.lf (.rows 82 (r2.2.2.aH.map ay.lf))]),.box 25 (.agg ((aj.lf1 r4.1).map AV.lf))]⟩) (okc (KG _ _ _ h1) (okc (KX _ _ _ h2) (ok1 (rf_ ⟨[(1,.ptr 0 0),(4,.ptr 3 0),(5,.lf (.rows 9 (r2.2.1.map ah.lf))),(6,.ptr 4 0),(8,.i_ r4.2)],[.box 25 (.agg ((aj.lf1 r0.1).map AV.lf)),.dead,.box 63 (.agg [.i_ 0,.i_ 1,.i_ 3,.i_ 1,.i_ 0,.i_ 0,.i_ 1,.lf (.rows 82 ([r1].map ay.lf)),.b_ false]),.box 25 (.agg ((aj.lf1 r2.1).map AV.lf)),.box 67 (.agg [.i_ r2.2.2.dX,.i_ r2.2.2.bD,.i_ r2.2.2.fAt,.lf (.rows 82 (r2.2.2.aH.map ay.lf))]),.box 25 (.agg ((aj.lf1 r4.1).map AV.lf))]⟩)))))))) <|
 .cl (agp r0.1) fun r5 _ =>
 .ask (adI r2 r4 r5) fun r6 h3 =>
 .say [.seg 8 [.kill 0,.kill 2,.kill 5] 9 [4,5,6,8,9,10] 7 (yA r2 r4 r5 r6).T (yA r2 r4 r5 r6).H] (ok1 (adJ h3)) <|
 .sj Tryz.f11 0 [1,1,1,1,1,1,1,0] [9,10,11,12,13] 8 5 [5,6,8,9,10,46] 7 (fun r_=>⟨[(5,.lf (.rows 9 (r2.2.1.map ah.lf))),(6,.ptr 4 0),(8,.i_ r4.2),(9,.ptr 6 0),(10,.lf (.rows 9 (r5.2.map ah.lf))),(51,.b_ r_)],[.dead,.dead,.dead,.dead,.box 67 (.agg [.i_ r2.2.2.dX,.i_ r2.2.2.bD,.i_ r2.2.2.fAt,.lf (.rows 82 (r2.2.2.aH.map ay.lf))]),.dead,.box 25 (.agg ((aj.lf1 r5.1).map AV.lf))]⟩) ⟨[(5,.lf (.rows 9 (r2.2.1.map ah.lf))),(6,.ptr 4 0),(8,.i_ r4.2),(9,.ptr 6 0),(10,.lf (.rows 9 (r5.2.map ah.lf))),(46,.b_ r6)],[.dead,.dead,.dead,.dead,.box 67 (.agg [.i_ r2.2.2.dX,.i_ r2.2.2.bD,.i_ r2.2.2.fAt,.lf (.rows 82 (r2.2.2.aH.map ay.lf))]),.dead,.box 25 (.agg ((aj.lf1 r5.1).map AV.lf))]⟩ (adK r2 r4 r5 r6).den (sW (by kernel_rfl)) fun r7 _ =>
 .sj Tryz.f11 0 [1,1,1,1,1,1,1,0] [14,15,16,17,18,19] 8 6 [5,6,8,9,10,51] 7 (fun r_=>⟨[(5,.lf (.rows 9 (r2.2.1.map ah.lf))),(6,.ptr 4 0),(8,.i_ r4.2),(9,.ptr 6 0),(10,.lf (.rows 9 (r5.2.map ah.lf))),(57,.b_ r_)],[.dead,.dead,.dead,.dead,.box 67 (.agg [.i_ r2.2.2.dX,.i_ r2.2.2.bD,.i_ r2.2.2.fAt,.lf (.rows 82 (r2.2.2.aH.map ay.lf))]),.dead,.box 25 (.agg ((aj.lf1 r5.1).map AV.lf))]⟩) ⟨[(5,.lf (.rows 9 (r2.2.1.map ah.lf))),(6,.ptr 4 0),(8,.i_ r4.2),(9,.ptr 6 0),(10,.lf (.rows 9 (r5.2.map ah.lf))),(51,.b_ r7)],[.dead,.dead,.dead,.dead,.box 67 (.agg [.i_ r2.2.2.dX,.i_ r2.2.2.bD,.i_ r2.2.2.fAt,.lf (.rows 82 (r2.2.2.aH.map ay.lf))]),.dead,.box 25 (.agg ((aj.lf1 r5.1).map AV.lf))]⟩ (Zf r2 r4 r5 r7).den (sW (by kernel_rfl)) fun r8 _ =>
 .sj Tryz.f11 0 [1,1,1,1,1,1,1,0] [20,21,22,23,24,25,26] 8 7 [5,6,8,9,10,57] 7 (fun r_=>⟨[(6,.ptr 4 0),(8,.i_ r4.2),(9,.ptr 6 0),(10,.lf (.rows 9 (r5.2.map ah.lf))),(64,.b_ r_)],[.dead,.dead,.dead,.dead,.box 67 (.agg [.i_ r2.2.2.dX,.i_ r2.2.2.bD,.i_ r2.2.2.fAt,.lf (.rows 82 (r2.2.2.aH.map ay.lf))]),.dead,.box 25 (.agg ((aj.lf1 r5.1).map AV.lf))]⟩) ⟨[(5,.lf (.rows 9 (r2.2.1.map ah.lf))),(6,.ptr 4 0),(8,.i_ r4.2),(9,.ptr 6 0),(10,.lf (.rows 9 (r5.2.map ah.lf))),(57,.b_ r8)],[.dead,.dead,.dead,.dead,.box 67 (.agg [.i_ r2.2.2.dX,.i_ r2.2.2.bD,.i_ r2.2.2.fAt,.lf (.rows 82 (r2.2.2.aH.map ay.lf))]),.dead,.box 25 (.agg ((aj.lf1 r5.1).map AV.lf))]⟩ (Zg r2 r4 r5 r8).den (sW (by kernel_rfl)) fun r9 _ =>
 .sj Tryz.f11 0 [1,1,1,1,1,1,1,0] [27,28,29,30,31] 8 5 [6,8,9,10,64] 7 (fun r_=>⟨[(8,.i_ r4.2),(9,.ptr 6 0),(10,.lf (.rows 9 (r5.2.map ah.lf))),(69,.b_ r_)],[.dead,.dead,.dead,.dead,.dead,.dead,.box 25 (.agg ((aj.lf1 r5.1).map AV.lf))]⟩) ⟨[(6,.ptr 4 0),(8,.i_ r4.2),(9,.ptr 6 0),(10,.lf (.rows 9 (r5.2.map ah.lf))),(64,.b_ r9)],[.dead,.dead,.dead,.dead,.box 67 (.agg [.i_ r2.2.2.dX,.i_ r2.2.2.bD,.i_ r2.2.2.fAt,.lf (.rows 82 (r2.2.2.aH.map ay.lf))]),.dead,.box 25 (.agg ((aj.lf1 r5.1).map AV.lf))]⟩ (Zh r2 r4 r5 r9).den (sW (by kernel_rfl)) fun r10 _ =>
 .sj Tryz.f11 0 [1,1,1,1,1,1,1,0] [32,33,34,35] 8 4 [8,9,10,69] 7 (fun r_=>⟨[(9,.ptr 6 0),(10,.lf (.rows 9 (r5.2.map ah.lf))),(73,.b_ r_)],[.dead,.dead,.dead,.dead,.dead,.dead,.box 25 (.agg ((aj.lf1 r5.1).map AV.lf))]⟩) ⟨[(8,.i_ r4.2),(9,.ptr 6 0),(10,.lf (.rows 9 (r5.2.map ah.lf))),(69,.b_ r10)],[.dead,.dead,.dead,.dead,.dead,.dead,.box 25 (.agg ((aj.lf1 r5.1).map AV.lf))]⟩ (Zi r4 r5 r10).den (sW (by kernel_rfl)) fun r11 _ =>
 .sj Tryz.f11 0 [1,1,1,1,1,1,1,0] [36,37,38,39,40] 8 5 [9,10,73] 7 (fun r_=>⟨[(10,.lf (.rows 9 (r5.2.map ah.lf))),(78,.b_ r_)],[.dead,.dead,.dead,.dead,.dead,.dead,.dead]⟩) ⟨[(9,.ptr 6 0),(10,.lf (.rows 9 (r5.2.map ah.lf))),(73,.b_ r11)],[.dead,.dead,.dead,.dead,.dead,.dead,.box 25 (.agg ((aj.lf1 r5.1).map AV.lf))]⟩ (Zj r5 r11).den (sW (by kernel_rfl)) fun r12 _ =>
 .sj Tryz.f11 0 [1,1,1,1,1,1,1,0] [41,42,43,44,45] 8 5 [10,78] 7 (fun r_=>⟨[(83,.b_ r_)],[.dead,.dead,.dead,.dead,.dead,.dead,.dead]⟩) ⟨[(10,.lf (.rows 9 (r5.2.map ah.lf))),(78,.b_ r12)],[.dead,.dead,.dead,.dead,.dead,.dead,.dead]⟩ (Zk r5 r12).den (sW (by kernel_rfl)) fun r13 _ =>
 .sj Tryz.f11 0 [1,1,1,1,1,1,1,0] [46] 8 1 [83] 7 (fun r_=>⟨[(0,.b_ r13)],[.dead,.dead,.dead,.dead,.dead,.dead,.dead]⟩) ⟨[(83,.b_ r13)],[.dead,.dead,.dead,.dead,.dead,.dead,.dead]⟩ (Zl r13).den (sW (by kernel_rfl)) fun r14 _ =>
 .ret (bC 1) (r13)
def Q37  : Option (Bool) := Mo.den (ala )
theorem adL:FV (Q37 ) 11 [] (fun r=>.b_ r) := bY Tryz.func11 (by kernel_rfl) (fun _=>rfl) (by kernel_rfl)
def ajN  : Mo (bF) :=
 .ret (bC 1) (bF.mk (-1) 0 0 [])
def alb  : Option (bF) := Mo.den (ajN )
theorem Bv:FV (alb ) 47 [] (fun r=>.dat (bF.lf1 r)) := bY Tryz.func47 (by kernel_rfl) (fun _=>rfl) (by kernel_rfl)
def Ja (p_m:aj) (p_term:Int) : Mo (aj) :=
 .iB (p_m.dM == 2) (.cl (Xj p_m.fID) fun r0 _ =>
 .rt [1,2,4] 2 (aj.qo p_m r0)) <|
 .rt [1,2,4] 2 (p_m)
def adM (p_m:aj) (p_term:Int) : Mo (aj) :=
 .iB (decide ((p_term:Int) ≤ p_m.bD)) (.ret (bC 1) (p_m)) <|
 .jp Tryz.f85 0 [1,1,0,1] 1 [1,2,4,12] 2 (.normal) (fun r_=>⟨[(1,.i_ p_term),(2,.ptr 0 0),(4,.ptr 1 0)],[.box 25 (.dat (aj.lf1 r_)),.box 25 (Z25)]⟩) ⟨[(1,.i_ p_term),(2,.ptr 0 0),(4,.ptr 1 0),(12,.lf (.bool (p_m.dM == 2)))],[.box 25 (.dat (aj.lf1 p_m)),.box 25 (Z25)]⟩ (Ja p_m p_term).den (jW (by kernel_rfl)) fun r0 _ =>
 .ret (bC 1) (aj.oO (aj.mW (aj.qo (aj.uQ (aj.aag (aj.jP (aj.agL (aj.sID aj.z r0.fID) r0.dI) p_term) (-1)) (-1)) r0.gI) r0.aQ) r0.au)
def ajO (p_m:aj) (p_term:Int) : Option (aj) := Mo.den (adM p_m p_term)
theorem agq (p_m:aj) (p_term:Int) : FV (ajO p_m p_term) 85 [.dat (aj.lf1 p_m),.i_ p_term] (fun r=>.dat (aj.lf1 r)) := bY Tryz.func85 (by kernel_rfl) (fun _=>rfl) (by kernel_rfl)
end
end Go.Proofs.YtdnafbfmaphhhaaGreatDoor
set_option linter.unusedSimpArgs false
set_option linter.unusedVariables false
namespace Go.Proofs.YtdnafbfmaphhhaaGreatDoor
open Go.RowKit
set_option maxRecDepth 20000
set_option maxHeartbeats 4000000
noncomputable section
def adN (p_m:aj) (p_x:ah) (p_ok:Bool) (p_index:Int) : Mo (List ah) :=
 .say [.at_ 0 0,.XE 2 ([ah.sOK (ah.mV (ah.jP (ah.jG (ah.sTo (ah.lD ah.z p_m.fID) p_x.dh) 4) p_m.bD) p_index) p_ok].map ah.lf)] (ok1 (by simp [ah.aV] : [ah.sOK (ah.mV (ah.jP (ah.jG (ah.sTo (ah.lD ah.z p_m.fID) p_x.dh) 4) p_m.bD) p_index) p_ok].map ah.lf = [(ah.lf1 (ah.sOK (ah.mV (ah.jP (ah.jG (ah.sTo (ah.lD ah.z p_m.fID) p_x.dh) 4) p_m.bD) p_index) p_ok))])) <|
 .ret (bC 1) ([ah.sOK (ah.mV (ah.jP (ah.jG (ah.sTo (ah.lD ah.z p_m.fID) p_x.dh) 4) p_m.bD) p_index) p_ok])
def agr (p_m:aj) (p_x:ah) (p_ok:Bool) (p_index:Int) : Option (List ah) := Mo.den (adN p_m p_x p_ok p_index)
theorem yB (p_m:aj) (p_x:ah) (p_ok:Bool) (p_index:Int) : FV (agr p_m p_x p_ok p_index) 57 [.dat (aj.lf1 p_m),.dat (ah.lf1 p_x),.b_ p_ok,.i_ p_index] (fun r=>.lf (.rows 9 (r.map ah.lf))) := bY Tryz.func57 (by kernel_rfl) (fun _=>rfl) (by kernel_rfl)
def Jb (p_m:aj) (p_x:ah) : Mo (aj) :=
 .iB (decide ((p_m.bD:Int) < p_x.bD)) (.cl (agq p_m p_x.bD) fun r0 _ =>
 .rt [2,3,4] 3 (r0)) <|
 .iB (p_m.dM == 1) (.rt [2,3,4] 3 (aj.JW (aj.aah p_m 0) 0)) <|
 .rt [2,3,4] 3 (p_m)
def adO (p_m:aj) (p_x:ah) : Mo (aj) :=
 .jp Tryz.f58 0 [1,0,1] 1 [2,3,4,9] 3 (.normal) (fun r_=>⟨[(2,.ptr 0 0),(3,.ptr 1 0),(4,.ptr 2 0)],[.box 25 (.dat (aj.lf1 r_)),.box 63 (.dat (ah.lf1 p_x)),.box 25 (Z25)]⟩) ⟨[(2,.ptr 0 0),(3,.ptr 1 0),(4,.ptr 2 0),(9,.lf (.bool (decide ((p_m.bD:Int) < p_x.bD))))],[.box 25 (.dat (aj.lf1 p_m)),.box 63 (.dat (ah.lf1 p_x)),.box 25 (Z25)]⟩ (Jb p_m p_x).den (jW (by kernel_rfl)) fun r0 _ =>
 .ret (bC 1) (aj.qo (aj.uQ r0 p_x.dh) (IntKind.wrap .i64 (10 + (IntKind.wrap .i64 (3 * r0.fID)))))
def ags (p_m:aj) (p_x:ah) : Option (aj) := Mo.den (adO p_m p_x)
theorem agt (p_m:aj) (p_x:ah) : FV (ags p_m p_x) 58 [.dat (aj.lf1 p_m),.dat (ah.lf1 p_x)] (fun r=>.dat (aj.lf1 r)) := bY Tryz.func58 (by kernel_rfl) (fun _=>rfl) (by kernel_rfl)
def adP (p_a:ay) (p_b:ay) : Mo (Bool) :=
 .iG 4005 (p_a.bD == p_b.bD) (.ret (bC 1) (p_a.fB == p_b.fB)) <|
 .ret (bC 1) (false)
def agu (p_a:ay) (p_b:ay) : Option (Bool) := Mo.den (adP p_a p_b)
theorem agv (p_a:ay) (p_b:ay) : FV (agu p_a p_b) 65 [.dat (ay.lf1 p_a),.dat (ay.lf1 p_b)] (fun r=>.b_ r) := bY Tryz.func65 (by kernel_rfl) (fun _=>rfl) (by kernel_rfl)
def Ej (p_m:aj) (p_x:ah) (v0:Int) : Mo (Bool) :=
 .say [] (ok1 (ln_ p_m.aQ ay.lf)) <|
 .ite (decide ((IntKind.wrap .i64 (p_x.aY + v0) : Int) < (p_m.aQ.length:Int))) (fun c0 =>
 .say [] (ok1 c0) <|
 .ask (bM p_m.aQ (IntKind.wrap .i64 (p_x.aY + v0))) fun x0 h0 =>
 .say [] (ok1 (aX ay.aV h0)) <|
 .ask (bM p_x.aH v0) fun x1 h1 =>
 .say [] (ok1 (aX ay.aV h1)) <|
 .ask (agu x0 x1) fun r0 h2 =>
 .say [.dP (.q 0 (.q 1 (.q 2 (.q 3 (.q 4 (.q 5 (.q 6 (.q 7 (.q 8 (.q 9 (.q 10 (.q 11 (.q 12 (.q 13 (.q 14 (.q 15 (.l 16 (.q 17 (.q 18 .fin))))))))))))))))))) (some 16) [] [.num p_m.aQ.length,.gd 12005 true,.row (ay.lf1 x0),.row (ay.lf1 x1),.res (.b_ r0)] [2,3,5,6,36] 2 [(2,.ptr 0 0),(3,.ptr 1 0),(5,.i_ v0),(6,.i_ (IntKind.wrap .i64 (p_x.aY + v0))),(36,.lf (.bool (!r0)))] [.box 25 (.dat (aj.lf1 p_m)),.box 63 (.dat (ah.lf1 p_x))]] (okc (agv _ _ _ h2) (ok1 (rf_ ⟨[(2,.ptr 0 0),(3,.ptr 1 0),(5,.i_ v0),(6,.i_ (IntKind.wrap .i64 (p_x.aY + v0))),(36,.lf (.bool (!r0)))],[.box 25 (.dat (aj.lf1 p_m)),.box 63 (.dat (ah.lf1 p_x))]⟩))) <|
 .rt [2,3,5,6,36] 2 (!r0)) fun c0 =>
 .say [.dP (.q 0 (.q 1 (.q 2 (.q 3 (.q 4 (.q 5 (.q 6 (.q 7 (.q 8 (.q 9 (.q 10 (.q 11 (.q 12 (.q 13 (.q 14 (.q 15 (.l 16 (.q 17 (.q 18 .fin))))))))))))))))))) (some 16) [] [.num p_m.aQ.length,.gd 12005 false] [2,3,5,6,36] 2 [(2,.ptr 0 0),(3,.ptr 1 0),(5,.i_ v0),(6,.i_ (IntKind.wrap .i64 (p_x.aY + v0))),(36,.b_ false)] [.box 25 (.dat (aj.lf1 p_m)),.box 63 (.dat (ah.lf1 p_x))]] (okc c0 (ok1 (rf_ ⟨[(2,.ptr 0 0),(3,.ptr 1 0),(5,.i_ v0),(6,.i_ (IntKind.wrap .i64 (p_x.aY + v0))),(36,.b_ false)],[.box 25 (.dat (aj.lf1 p_m)),.box 63 (.dat (ah.lf1 p_x))]⟩))) <|
 .rt [2,3,5,6,36] 2 (false)
def yC (p_m:aj) (p_x:ah) : (Int) → Mo ((Int) ⊕ (Int) ⊕ Unit) := fun (v0) =>
 .say [.num p_x.aH.length] (ok1 (ln_ p_x.aH ay.lf)) <|
 .iB (decide ((v0:Int) < (p_x.aH.length:Int))) (.jp Tryz.f59 0 [1,0,1,0,0,1,0,0,1,0] 17 [2,3,5,6] 2 (.normal) (fun r_=>⟨[(2,.ptr 0 0),(3,.ptr 1 0),(5,.i_ v0),(6,.i_ (IntKind.wrap .i64 (p_x.aY + v0))),(36,.b_ r_)],[.box 25 (.dat (aj.lf1 p_m)),.box 63 (.dat (ah.lf1 p_x))]⟩) ⟨[(2,.ptr 0 0),(3,.ptr 1 0),(5,.i_ v0),(6,.i_ (IntKind.wrap .i64 (p_x.aY + v0)))],[.box 25 (.dat (aj.lf1 p_m)),.box 63 (.dat (ah.lf1 p_x))]⟩ (Ej p_m p_x v0).den (jW (by kernel_rfl)) fun r0 _ =>
 .iB (r0) (.ret ⟨[.kill 0,.kill 1],[4],[],2⟩ (.inr (.inl (IntKind.wrap .i64 (p_x.aY + v0))))) <|
 .rt [2,3,5] 2 (.inl (IntKind.wrap .i64 (v0 + 1)))) <|
 .ret ⟨[.kill 0,.kill 1],[],[],2⟩ (.inr (.inr (())))
def Em (p_m:aj) (p_x:ah) (v0:Int) : Option ((Int) ⊕ Unit) := bK (fun v_=>(yC p_m p_x v_).den) FU (v0)
def RN (p_m:aj) (p_x:ah) : (Int) → St := fun (v0)=>⟨[(2,.ptr 0 0),(3,.ptr 1 0),(5,.i_ v0)],[.box 25 (.dat (aj.lf1 p_m)),.box 63 (.dat (ah.lf1 p_x))]⟩
def yD (r_:(Int) ⊕ Unit) : Exit := match r_ with
 | .inl o_=>.ret
 | .inr (o_)=>.exit 0
def yE  (r_:(Int) ⊕ Unit) : St := match r_ with
 | .inl o_=>⟨[(4,.i_ o_)],[.dead,.dead]⟩
 | .inr (o_)=>⟨[],[.dead,.dead]⟩
theorem RP {p_m:aj} {p_x:ah} {v0:Int} {r_:(Int) ⊕ Unit} (h:Em p_m p_x v0 = some r_) : fQ Tryz.f59 0 [1,0,1,0] (yD r_) (yE r_) (RN p_m p_x (v0)) :=
 dO dK (body := (Code.sub (bodyC Tryz.f59) [1,0,1,0,0])) (by kernel_rfl) (yC p_m p_x) (RN p_m p_x) yD yE (fun r_=>by rcases r_ with _ | _ <;> rfl) (fun v_=>by kernel_rfl) h
def Xz (p_m:aj) (p_x:ah) : Mo (Int) :=
 .eP (Em p_m p_x 0) (fun o0 h0 =>
 .say [.pt_ 0 [2,3,5] 2 (yD (.inl o0)) (yE (.inl o0))] (ok1 (RP h0)) <|
 .ret (bC 1) (o0)) fun o1 h0 =>
 .say [.pt_ 0 [2,3,5] 2 (yD (.inr (o1))) (yE (.inr (o1)))] (ok1 (RP h0)) <|
 .ret (bC 1) ((-1))
def Q24 (p_m:aj) (p_x:ah) : Option (Int) := Mo.den (Xz p_m p_x)
theorem ajP (p_m:aj) (p_x:ah) : FV (Q24 p_m p_x) 59 [.dat (aj.lf1 p_m),.dat (ah.lf1 p_x)] (fun r=>.i_ r) := bY Tryz.func59 (by kernel_rfl) (fun _=>rfl) (by kernel_rfl)
def Jc (p_l:List ay) (p_n:Int) : Mo (Bool) :=
 .ite (decide ((p_n:Int) < 1)) (fun c0 =>
 .say [.gd 4002 true] (ok1 c0) <|
 .rt [0,1,12] 0 (true)) fun c0 =>
 .say [.gd 4002 false,.num p_l.length] (okc c0 (ok1 (ln_ p_l ay.lf))) <|
 .rt [0,1,12] 0 (decide (((p_l.length:Int) : Int) < p_n))
def adQ (p_l:List ay) (p_n:Int) : Mo (Int) :=
 .jp Tryz.f55 0 [1,0,0] 9 [0,1] 0 (.normal) (fun r_=>⟨[(0,.lf (.rows 82 (p_l.map ay.lf))),(1,.i_ p_n),(12,.b_ r_)],[]⟩) ⟨[(0,.lf (.rows 82 (p_l.map ay.lf))),(1,.i_ p_n)],[]⟩ (Jc p_l p_n).den (jW (by kernel_rfl)) fun r0 _ =>
 .iB (r0) (.ret (bC 1) (0)) <|
 .ask (bM p_l (IntKind.wrap .i64 (p_n - 1))) fun x0 h0 =>
 .say [.row (ay.lf1 x0)] (ok1 (aX ay.aV h0)) <|
 .ret (bC 1) (x0.bD)
def ajQ (p_l:List ay) (p_n:Int) : Option (Int) := Mo.den (adQ p_l p_n)
theorem agw (p_l:List ay) (p_n:Int) : FV (ajQ p_l p_n) 55 [.lf (.rows 82 (p_l.map ay.lf)),.i_ p_n] (fun r=>.i_ r) := bY Tryz.func55 (by kernel_rfl) (fun _=>rfl) (by kernel_rfl)
def adR (p_m:aj) (p_at:Int) : Mo (aj × bF) :=
 .say [.num p_m.aQ.length,.order [(true,0),(true,1),(true,2),(true,3),(true,4),(true,5),(false,6),(true,7),(false,8)] (some 8) [4],.rows ((p_m.aQ.drop (if (p_m.aQ.length:Int) < (if 0 > (if p_m.au > p_at then p_m.au else p_at) then 0 else (if p_m.au > p_at then p_m.au else p_at)) then (p_m.aQ.length:Int) else (if 0 > (if p_m.au > p_at then p_m.au else p_at) then 0 else (if p_m.au > p_at then p_m.au else p_at))).toNat).map ay.lf),.rows ((p_m.aQ.drop (if (p_m.aQ.length:Int) < (if 0 > (if p_m.au > p_at then p_m.au else p_at) then 0 else (if p_m.au > p_at then p_m.au else p_at)) then (p_m.aQ.length:Int) else (if 0 > (if p_m.au > p_at then p_m.au else p_at) then 0 else (if p_m.au > p_at then p_m.au else p_at))).toNat).map ay.lf),.rows ((p_m.aQ.take (if (p_m.aQ.length:Int) < (if 0 > (if p_m.au > p_at then p_m.au else p_at) then 0 else (if p_m.au > p_at then p_m.au else p_at)) then (p_m.aQ.length:Int) else (if 0 > (if p_m.au > p_at then p_m.au else p_at) then 0 else (if p_m.au > p_at then p_m.au else p_at))).toNat).map ay.lf),.rows ((p_m.aQ.take (if (p_m.aQ.length:Int) < (if 0 > (if p_m.au > p_at then p_m.au else p_at) then 0 else (if p_m.au > p_at then p_m.au else p_at)) then (p_m.aQ.length:Int) else (if 0 > (if p_m.au > p_at then p_m.au else p_at) then 0 else (if p_m.au > p_at then p_m.au else p_at))).toNat).map ay.lf),.order [(true,0),(true,1),(false,2),(false,3)] (some 3) [1]] (okc (ln_ p_m.aQ ay.lf) (ok1 (mX _ _ _:(p_m.aQ.drop (if (p_m.aQ.length:Int) < (if 0 > (if p_m.au > p_at then p_m.au else p_at) then 0 else (if p_m.au > p_at then p_m.au else p_at)) then (p_m.aQ.length:Int) else (if 0 > (if p_m.au > p_at then p_m.au else p_at) then 0 else (if p_m.au > p_at then p_m.au else p_at))).toNat).map ay.lf = ((p_m.aQ.map ay.lf).take ((p_m.aQ.map ay.lf).length:Int).toNat).drop (if (p_m.aQ.length:Int) < (if 0 > (if p_m.au > p_at then p_m.au else p_at) then 0 else (if p_m.au > p_at then p_m.au else p_at)) then (p_m.aQ.length:Int) else (if 0 > (if p_m.au > p_at then p_m.au else p_at) then 0 else (if p_m.au > p_at then p_m.au else p_at))).toNat))) <|
 .grd ((0:Int) ≤ (if (p_m.aQ.length:Int) < (if 0 > (if p_m.au > p_at then p_m.au else p_at) then 0 else (if p_m.au > p_at then p_m.au else p_at)) then (p_m.aQ.length:Int) else (if 0 > (if p_m.au > p_at then p_m.au else p_at) then 0 else (if p_m.au > p_at then p_m.au else p_at))) ∧ (if (p_m.aQ.length:Int) < (if 0 > (if p_m.au > p_at then p_m.au else p_at) then 0 else (if p_m.au > p_at then p_m.au else p_at)) then (p_m.aQ.length:Int) else (if 0 > (if p_m.au > p_at then p_m.au else p_at) then 0 else (if p_m.au > p_at then p_m.au else p_at))) ≤ (p_m.aQ.length:Int) ∧ (p_m.aQ.length:Int) ≤ (p_m.aQ.length:Int)) fun h0 =>
 .say [] (okc (JY _ _ h0:(0:Int) ≤ (if (p_m.aQ.length:Int) < (if 0 > (if p_m.au > p_at then p_m.au else p_at) then 0 else (if p_m.au > p_at then p_m.au else p_at)) then (p_m.aQ.length:Int) else (if 0 > (if p_m.au > p_at then p_m.au else p_at) then 0 else (if p_m.au > p_at then p_m.au else p_at))) ∧ (if (p_m.aQ.length:Int) < (if 0 > (if p_m.au > p_at then p_m.au else p_at) then 0 else (if p_m.au > p_at then p_m.au else p_at)) then (p_m.aQ.length:Int) else (if 0 > (if p_m.au > p_at then p_m.au else p_at) then 0 else (if p_m.au > p_at then p_m.au else p_at))) ≤ ((p_m.aQ.map ay.lf).length:Int) ∧ ((p_m.aQ.map ay.lf).length:Int) ≤ ((p_m.aQ.map ay.lf).length:Int)) (ok1 (by simp [ay.aV] : (p_m.aQ.drop (if (p_m.aQ.length:Int) < (if 0 > (if p_m.au > p_at then p_m.au else p_at) then 0 else (if p_m.au > p_at then p_m.au else p_at)) then (p_m.aQ.length:Int) else (if 0 > (if p_m.au > p_at then p_m.au else p_at) then 0 else (if p_m.au > p_at then p_m.au else p_at))).toNat).map ay.lf = [] ++ ((p_m.aQ.drop (if (p_m.aQ.length:Int) < (if 0 > (if p_m.au > p_at then p_m.au else p_at) then 0 else (if p_m.au > p_at then p_m.au else p_at)) then (p_m.aQ.length:Int) else (if 0 > (if p_m.au > p_at then p_m.au else p_at) then 0 else (if p_m.au > p_at then p_m.au else p_at))).toNat).map ay.lf)))) <|
 .grd ((([] : List ay).length + (p_m.aQ.drop (if (p_m.aQ.length:Int) < (if 0 > (if p_m.au > p_at then p_m.au else p_at) then 0 else (if p_m.au > p_at then p_m.au else p_at)) then (p_m.aQ.length:Int) else (if 0 > (if p_m.au > p_at then p_m.au else p_at) then 0 else (if p_m.au > p_at then p_m.au else p_at))).toNat).length) * 1208 ≤ 140737488355328) fun h1 =>
 .say [] (okc (cq_ ay.lf h1) (ok1 (by first | (simp [ay.aV]; done) | exact mX _ _ _:(p_m.aQ.take (if (p_m.aQ.length:Int) < (if 0 > (if p_m.au > p_at then p_m.au else p_at) then 0 else (if p_m.au > p_at then p_m.au else p_at)) then (p_m.aQ.length:Int) else (if 0 > (if p_m.au > p_at then p_m.au else p_at) then 0 else (if p_m.au > p_at then p_m.au else p_at))).toNat).map ay.lf = ((p_m.aQ.map ay.lf).take (if (p_m.aQ.length:Int) < (if 0 > (if p_m.au > p_at then p_m.au else p_at) then 0 else (if p_m.au > p_at then p_m.au else p_at)) then (p_m.aQ.length:Int) else (if 0 > (if p_m.au > p_at then p_m.au else p_at) then 0 else (if p_m.au > p_at then p_m.au else p_at))).toNat).drop (0:Int).toNat))) <|
 .grd ((0:Int) ≤ 0 ∧ 0 ≤ (if (p_m.aQ.length:Int) < (if 0 > (if p_m.au > p_at then p_m.au else p_at) then 0 else (if p_m.au > p_at then p_m.au else p_at)) then (p_m.aQ.length:Int) else (if 0 > (if p_m.au > p_at then p_m.au else p_at) then 0 else (if p_m.au > p_at then p_m.au else p_at))) ∧ (if (p_m.aQ.length:Int) < (if 0 > (if p_m.au > p_at then p_m.au else p_at) then 0 else (if p_m.au > p_at then p_m.au else p_at)) then (p_m.aQ.length:Int) else (if 0 > (if p_m.au > p_at then p_m.au else p_at) then 0 else (if p_m.au > p_at then p_m.au else p_at))) ≤ (p_m.aQ.length:Int)) fun h2 =>
 .say [] (okc (by simpa using h2:(0:Int) ≤ 0 ∧ 0 ≤ (if (p_m.aQ.length:Int) < (if 0 > (if p_m.au > p_at then p_m.au else p_at) then 0 else (if p_m.au > p_at then p_m.au else p_at)) then (p_m.aQ.length:Int) else (if 0 > (if p_m.au > p_at then p_m.au else p_at) then 0 else (if p_m.au > p_at then p_m.au else p_at))) ∧ (if (p_m.aQ.length:Int) < (if 0 > (if p_m.au > p_at then p_m.au else p_at) then 0 else (if p_m.au > p_at then p_m.au else p_at)) then (p_m.aQ.length:Int) else (if 0 > (if p_m.au > p_at then p_m.au else p_at) then 0 else (if p_m.au > p_at then p_m.au else p_at))) ≤ ((p_m.aQ.map ay.lf).length:Int)) (ok1 (by simp [ay.aV] : (p_m.aQ.take (if (p_m.aQ.length:Int) < (if 0 > (if p_m.au > p_at then p_m.au else p_at) then 0 else (if p_m.au > p_at then p_m.au else p_at)) then (p_m.aQ.length:Int) else (if 0 > (if p_m.au > p_at then p_m.au else p_at) then 0 else (if p_m.au > p_at then p_m.au else p_at))).toNat).map ay.lf = [] ++ ((p_m.aQ.take (if (p_m.aQ.length:Int) < (if 0 > (if p_m.au > p_at then p_m.au else p_at) then 0 else (if p_m.au > p_at then p_m.au else p_at)) then (p_m.aQ.length:Int) else (if 0 > (if p_m.au > p_at then p_m.au else p_at) then 0 else (if p_m.au > p_at then p_m.au else p_at))).toNat).map ay.lf)))) <|
 .grd ((([] : List ay).length + (p_m.aQ.take (if (p_m.aQ.length:Int) < (if 0 > (if p_m.au > p_at then p_m.au else p_at) then 0 else (if p_m.au > p_at then p_m.au else p_at)) then (p_m.aQ.length:Int) else (if 0 > (if p_m.au > p_at then p_m.au else p_at) then 0 else (if p_m.au > p_at then p_m.au else p_at))).toNat).length) * 1208 ≤ 140737488355328) fun h3 =>
 .say [] (ok1 (cq_ ay.lf h3)) <|
 .ret ⟨[.kill 0,.kill 1,.kill 2,.kill 3,.mvn 5,.mvn 4],[0,1],[(6,0),(7,1)],2⟩ (aj.mW p_m (p_m.aQ.take (if (p_m.aQ.length:Int) < (if 0 > (if p_m.au > p_at then p_m.au else p_at) then 0 else (if p_m.au > p_at then p_m.au else p_at)) then (p_m.aQ.length:Int) else (if 0 > (if p_m.au > p_at then p_m.au else p_at) then 0 else (if p_m.au > p_at then p_m.au else p_at))).toNat),bF.mk p_m.fID p_m.bD (if (p_m.aQ.length:Int) < (if 0 > (if p_m.au > p_at then p_m.au else p_at) then 0 else (if p_m.au > p_at then p_m.au else p_at)) then (p_m.aQ.length:Int) else (if 0 > (if p_m.au > p_at then p_m.au else p_at) then 0 else (if p_m.au > p_at then p_m.au else p_at))) (p_m.aQ.drop (if (p_m.aQ.length:Int) < (if 0 > (if p_m.au > p_at then p_m.au else p_at) then 0 else (if p_m.au > p_at then p_m.au else p_at)) then (p_m.aQ.length:Int) else (if 0 > (if p_m.au > p_at then p_m.au else p_at) then 0 else (if p_m.au > p_at then p_m.au else p_at))).toNat))
def ajR (p_m:aj) (p_at:Int) : Option (aj × bF) := Mo.den (adR p_m p_at)
theorem agx (p_m:aj) (p_at:Int) : FH (ajR p_m p_at) 60 [.dat (aj.lf1 p_m),.i_ p_at] [] (fun r=>.tup [uS (.agg ((aj.lf1 r.1).map AV.lf)) [(8,.own 0)],.agg [.i_ r.2.dX,.i_ r.2.bD,.i_ r.2.fAt,.own 1]]) (fun r=>[.row 54 82 (r.1.aQ.map ay.lf),.row 54 82 (r.2.aH.map ay.lf)]) := gW Tryz.func60 (by kernel_rfl) (fun _=>rfl) (by kernel_rfl)
def RQ (p_m:aj) (p_x:ah) : Mo (Bool) :=
 .iG 8005 (p_x.bD == p_m.bD) (.rt [2,3,4,6,31] 4 (p_m.dM == 2)) <|
 .rt [2,3,4,6,31] 4 (false)
def RS (p_x:ah) (r0:aj) (r1:Int) : Mo (Bool) :=
 .say [.order [(true,0),(true,1),(true,2),(true,3),(true,4),(true,5),(true,6),(true,7),(true,8),(true,9),(true,10),(true,12),(true,13),(false,11),(true,14),(true,15),(true,16),(true,17),(true,18),(true,19),(true,20),(true,21),(false,22),(true,23),(true,24),(true,25),(true,26),(true,27),(true,28),(true,29)] none [],.num r0.aQ.length] (ok1 (ln_ r0.aQ ay.lf)) <|
 .iG 18006 (decide (((r0.aQ.length:Int) : Int) < p_x.aY)) (.rt [2,3,4,6,7,8,75] 4 (true)) <|
 .cl (agw r0.aQ p_x.aY) fun r2 _ =>
 .iG 18016 (r2 != p_x.ku) (.rt [2,3,4,6,7,8,75] 4 (true)) <|
 .iG 18019 (decide ((0:Int) ≤ r1)) (.iG 18026 (decide ((r1:Int) < r0.au)) (.rt [2,3,4,6,7,8,75] 4 (true)) <|
 .rt [2,3,4,6,7,8,75] 4 (decide ((16384:Int) < (IntKind.wrap .i64 (p_x.aY + (p_x.aH.length:Int)))))) <|
 .rt [2,3,4,6,7,8,75] 4 (decide ((16384:Int) < (IntKind.wrap .i64 (p_x.aY + (p_x.aH.length:Int)))))
def Vp (p_x:ah) (r0:aj) (r1:Int) : Option (Bool) := Mo.den (RS p_x r0 r1)
def zY (p_x:ah) (r0:aj) (r1:Int) (r2:bF) : Mo ((aj × bF)) :=
 .iB (decide ((0:Int) ≤ r1)) (.cH [] (agx r0 r1) fun r3 _ =>
 .ret ⟨[.frz 5,.norm 0,.frz 6,.norm 4],[2,3,4,6,7,9],[],5⟩ (r3.1,r3.2)) <|
 .ret ⟨[.norm 4],[2,3,4,6,7,9],[],5⟩ (r0,r2)
def Bz (p_x:ah) (r0:aj) (r1:Int) (r2:bF) : Option ((aj × bF)) := Mo.den (zY p_x r0 r1 r2)
def zZ (p_x:ah) (r_:(aj × bF)) : St := ⟨[(2,.ptr 0 0),(3,.ptr 1 0),(4,.ptr 2 0),(6,.ptr 3 0),(7,.i_ (IntKind.wrap .i64 (p_x.aY + (p_x.aH.length:Int)))),(9,.ptr 4 0)],[.box 25 (.dat (aj.lf1 r_.1)),.box 63 (.dat (ah.lf1 p_x)),.box 25 (Z25),.box 67 (.agg [.i_ 0,.i_ 0,.i_ 0,.bI 82]),.box 67 (.dat (bF.lf1 r_.2))]⟩
theorem Zm {p_x:ah} {r0:aj} {r1:Int} {r2:bF} {r_:(aj × bF)} (h:Bz p_x r0 r1 r2 = some r_) : fQ Tryz.f27 0 [1,1,1,1,1,1,1,1,0,1] (.normal) (zZ p_x r_) ⟨[(2,.ptr 0 0),(3,.ptr 1 0),(4,.ptr 2 0),(6,.ptr 3 0),(7,.i_ (IntKind.wrap .i64 (p_x.aY + (p_x.aH.length:Int)))),(8,.i_ r1),(9,.ptr 4 0),(91,.lf (.bool (decide ((0:Int) ≤ r1))))],[.box 25 (.dat (aj.lf1 r0)),.box 63 (.dat (ah.lf1 p_x)),.box 25 (Z25),.box 67 (.agg [.i_ 0,.i_ 0,.i_ 0,.bI 82]),.box 67 (.agg [.i_ r2.dX,.i_ r2.bD,.i_ r2.fAt,.lf (.rows 82 (r2.aH.map ay.lf))])]⟩ :=
 jo dK (zY p_x r0 r1 r2) (fun _=>.normal) (zZ p_x) (by kernel_rfl) h
def Jd (l0:List ay) (p_x:ah) (r0:(aj × bF)) (v0:Int) : Mo (((List ay))) :=
 .say [.num r0.1.aQ.length] (ok1 (ln_ r0.1.aQ ay.lf)) <|
 .iB (decide (((r0.1.aQ.length:Int) : Int) ≤ (IntKind.wrap .i64 (p_x.aY + v0)))) (.ask (bM p_x.aH v0) fun x0 h0 =>
 .say [.row (ay.lf1 x0),.rows ((l0 ++ [x0]).map ay.lf)] (okc (aX ay.aV h0) (ok1 (ap_ ay.aV l0 x0))) <|
 .grd ((l0.length + [x0].length) * 1208 ≤ 140737488355328) fun h1 =>
 .say [] (ok1 (cp_ ay.lf h1)) <|
 .ret ⟨[],[2,3,4,6,7,9,10,11],[(7,5)],6⟩ (l0 ++ [x0])) <|
 .rt [2,3,4,6,7,9,10,11] 6 (l0)
def Aa (p_x:ah) (r0:(aj × bF)) : (Int × (List ay)) → Mo ((Int × (List ay)) ⊕ ((List ay))) := fun (v0,l0) =>
 .say [.num p_x.aH.length] (ok1 (ln_ p_x.aH ay.lf)) <|
 .iB (decide ((v0:Int) < (p_x.aH.length:Int))) (.jp Tryz.f27 0 [1,1,1,1,1,1,1,1,1,1,1,0,1,0,0,1,0] 8 [2,3,4,6,7,9,10,11] 6 (.normal) (fun r_=>⟨[(2,.ptr 0 0),(3,.ptr 1 0),(4,.ptr 2 0),(6,.ptr 3 0),(7,.i_ (IntKind.wrap .i64 (p_x.aY + (p_x.aH.length:Int)))),(9,.ptr 4 0),(10,.own 5),(11,.i_ v0)],[.box 25 (.dat (aj.lf1 r0.1)),.box 63 (.dat (ah.lf1 p_x)),.box 25 (Z25),.box 67 (.agg [.i_ 0,.i_ 0,.i_ 0,.bI 82]),.box 67 (.dat (bF.lf1 r0.2)),.row 54 82 (r_.map ay.lf)]⟩) ⟨[(2,.ptr 0 0),(3,.ptr 1 0),(4,.ptr 2 0),(6,.ptr 3 0),(7,.i_ (IntKind.wrap .i64 (p_x.aY + (p_x.aH.length:Int)))),(9,.ptr 4 0),(10,.own 5),(11,.i_ v0)],[.box 25 (.dat (aj.lf1 r0.1)),.box 63 (.dat (ah.lf1 p_x)),.box 25 (Z25),.box 67 (.agg [.i_ 0,.i_ 0,.i_ 0,.bI 82]),.box 67 (.dat (bF.lf1 r0.2)),.row 54 82 (l0.map ay.lf)]⟩ (Jd l0 p_x r0 v0).den (jW (by kernel_rfl)) fun r1 _ =>
 .rt [2,3,4,6,7,9,10,11] 6 (.inl (IntKind.wrap .i64 (v0 + 1),r1))) <|
 .rt [2,3,4,6,7,9,10] 6 (.inr (l0))
def BA (p_x:ah) (r0:(aj × bF)) (v0:Int) (l0:List ay) : Option (((List ay))) := bK (fun v_=>(Aa p_x r0 v_).den) FU (v0,l0)
def ahB (p_m:aj) (p_x:ah) : Mo (aj × (List ah) × bF) :=
 .ite (decide ((p_x.bD:Int) < p_m.bD)) (fun c0 =>
 .say [.br true,.order [(true,0),(true,1),(true,2),(false,3),(false,4),(false,5),(true,6),(false,7)] (some 7) [2]] (ok1 c0) <|
 .cl (yB p_m p_x false 0) fun r0 _ =>
 .cl (Bv) fun r1 _ =>
 .ret (bC 3) (p_m,r0,r1)) fun c0 =>
 .say [.br false] (ok1 c0) <|
 .jp Tryz.f27 0 [1,1,0,0] 13 [2,3,4,6] 4 (.normal) (fun r_=>⟨[(2,.ptr 0 0),(3,.ptr 1 0),(4,.ptr 2 0),(6,.ptr 3 0),(31,.b_ r_)],[.box 25 (.dat (aj.lf1 p_m)),.box 63 (.dat (ah.lf1 p_x)),.box 25 (Z25),.box 67 (.agg [.i_ 0,.i_ 0,.i_ 0,.bI 82])]⟩) ⟨[(2,.ptr 0 0),(3,.ptr 1 0),(4,.ptr 2 0),(6,.ptr 3 0)],[.box 25 (.dat (aj.lf1 p_m)),.box 63 (.dat (ah.lf1 p_x)),.box 25 (Z25),.box 67 (.agg [.i_ 0,.i_ 0,.i_ 0,.bI 82])]⟩ (RQ p_m p_x).den (jW (by kernel_rfl)) fun r2 _ =>
 .ite (r2) (fun c1 =>
 .say [.br true,.order [(true,0),(false,1),(false,2),(true,3),(false,4)] (some 4) [2]] (ok1 c1) <|
 .cl (Bv) fun r3 _ =>
 .ret ⟨[.nil 1 9,.tod 1],[0,1,2],[],0⟩ (p_m,[],r3)) fun c1 =>
 .say [.br false] (ok1 c1) <|
 .ask (ags p_m p_x) fun r4 h0 =>
 .say [.res (.dat (aj.lf1 r4)),.num p_x.aH.length] (okc (agt _ _ _ h0) (ok1 (ln_ p_x.aH ay.lf))) <|
 .cl (ajP r4 p_x) fun r5 _ =>
 .jp Tryz.f27 0 [1,1,1,1,1,1,0,0] 23 [2,3,4,6,7,8] 4 (.normal) (fun r_=>⟨[(2,.ptr 0 0),(3,.ptr 1 0),(4,.ptr 2 0),(6,.ptr 3 0),(7,.i_ (IntKind.wrap .i64 (p_x.aY + (p_x.aH.length:Int)))),(8,.i_ r5),(75,.b_ r_)],[.box 25 (.dat (aj.lf1 r4)),.box 63 (.dat (ah.lf1 p_x)),.box 25 (Z25),.box 67 (.agg [.i_ 0,.i_ 0,.i_ 0,.bI 82])]⟩) ⟨[(2,.ptr 0 0),(3,.ptr 1 0),(4,.ptr 2 0),(6,.ptr 3 0),(7,.i_ (IntKind.wrap .i64 (p_x.aY + (p_x.aH.length:Int)))),(8,.i_ r5)],[.box 25 (.dat (aj.lf1 r4)),.box 63 (.dat (ah.lf1 p_x)),.box 25 (Z25),.box 67 (.agg [.i_ 0,.i_ 0,.i_ 0,.bI 82])]⟩ (Vp p_x r4 r5) (jW (by kernel_rfl)) fun r6 _ =>
 .ite (r6) (fun c2 =>
 .say [.br true,.order [(true,0),(true,1),(true,2),(true,3),(true,4),(true,5),(true,6),(true,7),(true,8),(true,9),(true,10),(false,11),(false,12),(false,13),(true,14),(false,15)] (some 15) [2],.num r4.aQ.length] (okc c2 (ok1 (ln_ r4.aQ ay.lf))) <|
 .cl (yB r4 p_x false (if 0 > (if (IntKind.wrap .i64 (p_x.aY - 1)) < (r4.aQ.length:Int) then (IntKind.wrap .i64 (p_x.aY - 1)) else (r4.aQ.length:Int)) then 0 else (if (IntKind.wrap .i64 (p_x.aY - 1)) < (r4.aQ.length:Int) then (IntKind.wrap .i64 (p_x.aY - 1)) else (r4.aQ.length:Int)))) fun r7 _ =>
 .cl (Bv) fun r8 _ =>
 .ret (bC 3) (r4,r7,r8)) fun c2 =>
 .say [.br false] (ok1 c2) <|
 .cl (Bv) fun r9 _ =>
 .ask (Bz p_x r4 r5 r9) fun r10 h1 =>
 .say [.pt_ 1 [2,3,4,6,7,8,9,91] 5 (.normal) (zZ p_x r10),.rows (r10.1.aQ.map ay.lf)] (okc (Zm h1) (ok1 (by simp [ay.aV] : r10.1.aQ.map ay.lf = [] ++ (r10.1.aQ.map ay.lf)))) <|
 .grd ((([] : List ay).length + r10.1.aQ.length) * 1208 ≤ 140737488355328) fun h2 =>
 .say [] (ok1 (cq_ ay.lf h2)) <|
 .lp Tryz.f27 0 [1,1,1,1,1,1,1,1,1,1,1,0,1,0] 0 [2,3,4,6,7,9,10,11] 6 (.exit 0) (fun r_=>⟨[(2,.ptr 0 0),(3,.ptr 1 0),(4,.ptr 2 0),(6,.ptr 3 0),(7,.i_ (IntKind.wrap .i64 (p_x.aY + (p_x.aH.length:Int)))),(9,.ptr 4 0),(10,.own 5)],[.box 25 (.dat (aj.lf1 r10.1)),.box 63 (.dat (ah.lf1 p_x)),.box 25 (Z25),.box 67 (.agg [.i_ 0,.i_ 0,.i_ 0,.bI 82]),.box 67 (.dat (bF.lf1 r10.2)),.row 54 82 (r_.map ay.lf)]⟩) (BA p_x r10 0 r10.1.aQ) (lW (fun (v0,l0)=>⟨[(2,.ptr 0 0),(3,.ptr 1 0),(4,.ptr 2 0),(6,.ptr 3 0),(7,.i_ (IntKind.wrap .i64 (p_x.aY + (p_x.aH.length:Int)))),(9,.ptr 4 0),(10,.own 5),(11,.i_ v0)],[.box 25 (.dat (aj.lf1 r10.1)),.box 63 (.dat (ah.lf1 p_x)),.box 25 (Z25),.box 67 (.agg [.i_ 0,.i_ 0,.i_ 0,.bI 82]),.box 67 (.dat (bF.lf1 r10.2)),.row 54 82 (l0.map ay.lf)]⟩) (by kernel_rfl) rfl fun v_=>by kernel_rfl) fun r11 _ =>
 .ask (agr (aj.oO (aj.mW r10.1 r11) (if (if (IntKind.wrap .i64 (p_x.aY + (p_x.aH.length:Int))) < p_x.au then (IntKind.wrap .i64 (p_x.aY + (p_x.aH.length:Int))) else p_x.au) > r10.1.au then (if (IntKind.wrap .i64 (p_x.aY + (p_x.aH.length:Int))) < p_x.au then (IntKind.wrap .i64 (p_x.aY + (p_x.aH.length:Int))) else p_x.au) else r10.1.au)) p_x true (IntKind.wrap .i64 (p_x.aY + (p_x.aH.length:Int)))) fun r12 h3 =>
 .say [.dP (.q 2 (.q 3 (.q 5 (.alt 0 (.l 1 (.l 4 (.l 6 (.q 7 (.l 8 .fin))))) (.l 1 (.alt 0 (.l 4 (.l 6 (.q 7 (.l 8 .fin)))) (.l 4 (.l 0 (.l 6 (.q 7 (.l 8 .fin))))))))))) (some 8) [0,2,5] [.both [.at_ 46 4,.frz 5,.res (.lf (.rows 9 (r12.map ah.lf)))] [.both [.at_ 46 4,.frz 5,.res (.lf (.rows 9 (r12.map ah.lf)))] [.at_ 46 4,.frz 5,.res (.lf (.rows 9 (r12.map ah.lf)))]]] [4,5,6] 6 [(4,.ptr 2 0),(5,.lf (.rows 9 (r12.map ah.lf))),(6,.ptr 3 0)] [.box 25 (ag_ (aj.lf1 r10.1) [(8,.lf (.rows 82 (r11.map ay.lf))),(9,.i_ (if (if (IntKind.wrap .i64 (p_x.aY + (p_x.aH.length:Int))) < p_x.au then (IntKind.wrap .i64 (p_x.aY + (p_x.aH.length:Int))) else p_x.au) > r10.1.au then (if (IntKind.wrap .i64 (p_x.aY + (p_x.aH.length:Int))) < p_x.au then (IntKind.wrap .i64 (p_x.aY + (p_x.aH.length:Int))) else p_x.au) else r10.1.au))]),.box 63 (.dat (ah.lf1 p_x)),.box 25 (ag_ (aj.lf1 r10.1) [(8,.lf (.rows 82 (r11.map ay.lf))),(9,.i_ (if (if (IntKind.wrap .i64 (p_x.aY + (p_x.aH.length:Int))) < p_x.au then (IntKind.wrap .i64 (p_x.aY + (p_x.aH.length:Int))) else p_x.au) > r10.1.au then (if (IntKind.wrap .i64 (p_x.aY + (p_x.aH.length:Int))) < p_x.au then (IntKind.wrap .i64 (p_x.aY + (p_x.aH.length:Int))) else p_x.au) else r10.1.au))]),.box 67 (.agg [.i_ r10.2.dX,.i_ r10.2.bD,.i_ r10.2.fAt,.lf (.rows 82 (r10.2.aH.map ay.lf))]),.box 67 (.dat (bF.lf1 r10.2)),.dead]] (okc (yB _ _ _ _ _ h3) (okc (rf_ ⟨[(4,.ptr 2 0),(5,.lf (.rows 9 (r12.map ah.lf))),(6,.ptr 3 0)],[.box 25 (ag_ (aj.lf1 r10.1) [(8,.lf (.rows 82 (r11.map ay.lf))),(9,.i_ (if (if (IntKind.wrap .i64 (p_x.aY + (p_x.aH.length:Int))) < p_x.au then (IntKind.wrap .i64 (p_x.aY + (p_x.aH.length:Int))) else p_x.au) > r10.1.au then (if (IntKind.wrap .i64 (p_x.aY + (p_x.aH.length:Int))) < p_x.au then (IntKind.wrap .i64 (p_x.aY + (p_x.aH.length:Int))) else p_x.au) else r10.1.au))]),.box 63 (.dat (ah.lf1 p_x)),.box 25 (ag_ (aj.lf1 r10.1) [(8,.lf (.rows 82 (r11.map ay.lf))),(9,.i_ (if (if (IntKind.wrap .i64 (p_x.aY + (p_x.aH.length:Int))) < p_x.au then (IntKind.wrap .i64 (p_x.aY + (p_x.aH.length:Int))) else p_x.au) > r10.1.au then (if (IntKind.wrap .i64 (p_x.aY + (p_x.aH.length:Int))) < p_x.au then (IntKind.wrap .i64 (p_x.aY + (p_x.aH.length:Int))) else p_x.au) else r10.1.au))]),.box 67 (.agg [.i_ r10.2.dX,.i_ r10.2.bD,.i_ r10.2.fAt,.lf (.rows 82 (r10.2.aH.map ay.lf))]),.box 67 (.dat (bF.lf1 r10.2)),.dead]⟩) (okc (yB _ _ _ _ _ h3) (okc (rf_ ⟨[(4,.ptr 2 0),(5,.lf (.rows 9 (r12.map ah.lf))),(6,.ptr 3 0)],[.box 25 (ag_ (aj.lf1 r10.1) [(8,.lf (.rows 82 (r11.map ay.lf))),(9,.i_ (if (if (IntKind.wrap .i64 (p_x.aY + (p_x.aH.length:Int))) < p_x.au then (IntKind.wrap .i64 (p_x.aY + (p_x.aH.length:Int))) else p_x.au) > r10.1.au then (if (IntKind.wrap .i64 (p_x.aY + (p_x.aH.length:Int))) < p_x.au then (IntKind.wrap .i64 (p_x.aY + (p_x.aH.length:Int))) else p_x.au) else r10.1.au))]),.box 63 (.dat (ah.lf1 p_x)),.box 25 (ag_ (aj.lf1 r10.1) [(8,.lf (.rows 82 (r11.map ay.lf))),(9,.i_ (if (if (IntKind.wrap .i64 (p_x.aY + (p_x.aH.length:Int))) < p_x.au then (IntKind.wrap .i64 (p_x.aY + (p_x.aH.length:Int))) else p_x.au) > r10.1.au then (if (IntKind.wrap .i64 (p_x.aY + (p_x.aH.length:Int))) < p_x.au then (IntKind.wrap .i64 (p_x.aY + (p_x.aH.length:Int))) else p_x.au) else r10.1.au))]),.box 67 (.agg [.i_ r10.2.dX,.i_ r10.2.bD,.i_ r10.2.fAt,.lf (.rows 82 (r10.2.aH.map ay.lf))]),.box 67 (.dat (bF.lf1 r10.2)),.dead]⟩) (okc (yB _ _ _ _ _ h3) (ok1 (rf_ ⟨[(4,.ptr 2 0),(5,.lf (.rows 9 (r12.map ah.lf))),(6,.ptr 3 0)],[.box 25 (ag_ (aj.lf1 r10.1) [(8,.lf (.rows 82 (r11.map ay.lf))),(9,.i_ (if (if (IntKind.wrap .i64 (p_x.aY + (p_x.aH.length:Int))) < p_x.au then (IntKind.wrap .i64 (p_x.aY + (p_x.aH.length:Int))) else p_x.au) > r10.1.au then (if (IntKind.wrap .i64 (p_x.aY + (p_x.aH.length:Int))) < p_x.au then (IntKind.wrap .i64 (p_x.aY + (p_x.aH.length:Int))) else p_x.au) else r10.1.au))]),.box 63 (.dat (ah.lf1 p_x)),.box 25 (ag_ (aj.lf1 r10.1) [(8,.lf (.rows 82 (r11.map ay.lf))),(9,.i_ (if (if (IntKind.wrap .i64 (p_x.aY + (p_x.aH.length:Int))) < p_x.au then (IntKind.wrap .i64 (p_x.aY + (p_x.aH.length:Int))) else p_x.au) > r10.1.au then (if (IntKind.wrap .i64 (p_x.aY + (p_x.aH.length:Int))) < p_x.au then (IntKind.wrap .i64 (p_x.aY + (p_x.aH.length:Int))) else p_x.au) else r10.1.au))]),.box 67 (.agg [.i_ r10.2.dX,.i_ r10.2.bD,.i_ r10.2.fAt,.lf (.rows 82 (r10.2.aH.map ay.lf))]),.box 67 (.dat (bF.lf1 r10.2)),.dead]⟩))))))) <|
 .ret (bC 3) (aj.oO (aj.mW r10.1 r11) (if (if (IntKind.wrap .i64 (p_x.aY + (p_x.aH.length:Int))) < p_x.au then (IntKind.wrap .i64 (p_x.aY + (p_x.aH.length:Int))) else p_x.au) > r10.1.au then (if (IntKind.wrap .i64 (p_x.aY + (p_x.aH.length:Int))) < p_x.au then (IntKind.wrap .i64 (p_x.aY + (p_x.aH.length:Int))) else p_x.au) else r10.1.au),r12,r10.2)
def Q20 (p_m:aj) (p_x:ah) : Option (aj × (List ah) × bF) := Mo.den (ahB p_m p_x)
theorem ajS (p_m:aj) (p_x:ah) : FV (Q20 p_m p_x) 27 [.dat (aj.lf1 p_m),.dat (ah.lf1 p_x)] (fun r=>.tup [.dat (aj.lf1 r.1),.lf (.rows 9 (r.2.1.map ah.lf)),.dat (bF.lf1 r.2.2)]) := bY Tryz.func27 (by kernel_rfl) (fun _=>rfl) (by kernel_rfl)
def yF (p_a:List Int) (p_b:List Int) : (Int) → Mo ((Int) ⊕ (Unit ⊕ Unit)) := fun (v0) =>
 .say [.num p_a.length] (ok1 (ln_ p_a lfI)) <|
 .ite (decide ((v0:Int) < (p_a.length:Int))) (fun c0 =>
 .say [.br true,.order [(true,0),(true,1),(true,2),(true,3),(true,4),(true,5),(true,6),(true,7),(true,8)] none []] (ok1 c0) <|
 .ask (bM p_a v0) fun x0 h0 =>
 .say [.row (lfI x0)] (ok1 (aX lI_ h0)) <|
 .ask (bM p_b v0) fun x1 h1 =>
 .say [.row (lfI x1)] (ok1 (aX lI_ h1)) <|
 .iB (x0 != x1) (.rt [4] 0 (.inr (.inl ()))) <|
 .rt [0,1,5] 0 (.inl (IntKind.wrap .i64 (v0 + 1)))) fun c0 =>
 .say [.br false] (ok1 c0) <|
 .rt [] 0 (.inr (.inr (())))
def Vq (p_a:List Int) (p_b:List Int) (v0:Int) : Option (Unit ⊕ Unit) := bK (fun v_=>(yF p_a p_b v_).den) FU (v0)
def RU (p_a:List Int) (p_b:List Int) : (Int) → St := fun (v0)=>⟨[(0,.lf (.rows 1 (p_a.map lfI))),(1,.lf (.rows 1 (p_b.map lfI))),(5,.i_ v0)],[]⟩
def yG (r_:Unit ⊕ Unit) : Exit := match r_ with
 | .inl o_=>.ret
 | .inr (o_)=>.exit 0
def yH  (r_:Unit ⊕ Unit) : St := match r_ with
 | .inl o_=>⟨[(4,.b_ false)],[]⟩
 | .inr (o_)=>⟨[],[]⟩
theorem RV {p_a:List Int} {p_b:List Int} {v0:Int} {r_:Unit ⊕ Unit} (h:Vq p_a p_b v0 = some r_) : fQ Tryz.f41 0 [1,1,0,1,0] (yG r_) (yH r_) (RU p_a p_b (v0)) :=
 dO dK (body := (Code.sub (bodyC Tryz.f41) [1,1,0,1,0,0])) (by kernel_rfl) (yF p_a p_b) (RU p_a p_b) yG yH (fun r_=>by rcases r_ with _ | _ <;> rfl) (fun v_=>by kernel_rfl) h
def ahC (p_a:List Int) (p_b:List Int) : Mo (Bool) :=
 .say [.num p_a.length,.num p_b.length] (okc (ln_ p_a lfI) (ok1 (ln_ p_b lfI))) <|
 .iB ((p_a.length:Int) != (p_b.length:Int)) (.ret (bC 1) (false)) <|
 .eP (Vq p_a p_b 0) (fun o0 h0 =>
 .say [.pt_ 0 [0,1,5] 0 (yG (.inl o0)) (yH (.inl o0))] (ok1 (RV h0)) <|
 .ret (bC 1) (false)) fun o1 h0 =>
 .say [.pt_ 0 [0,1,5] 0 (yG (.inr (o1))) (yH (.inr (o1)))] (ok1 (RV h0)) <|
 .ret (bC 1) (true)
def Q30 (p_a:List Int) (p_b:List Int) : Option (Bool) := Mo.den (ahC p_a p_b)
theorem adS (p_a:List Int) (p_b:List Int) : FV (Q30 p_a p_b) 41 [.lf (.rows 1 (p_a.map lfI)),.lf (.rows 1 (p_b.map lfI))] (fun r=>.b_ r) := bY Tryz.func41 (by kernel_rfl) (fun _=>rfl) (by kernel_rfl)
structure KY where
 m1:(p_x:aG) → (p_b0:aA) → Option (aA)
 ok1:∀ p_x p_b0,FH (m1 p_x p_b0) 125 [.ptr 0 0,.dat (aG.lf1 p_x)] [.box 124 (.dat (aA.lf1 p_b0))] (fun _=>.tup []) (fun r=>[.box 124 (.dat (aA.lf1 r))])
def yI (R_:KY) (p_x:aG) : (Int × aA) → Mo ((Int × aA) ⊕ (aA)) := fun (v0,s11024) =>
 .say [.num p_x.dL.length] (ok1 (ln_ p_x.dL aG.lf)) <|
 .iB (decide ((v0:Int) < (p_x.dL.length:Int))) (.ask (bM p_x.dL v0) fun x0 h0 =>
 .say [.row (aG.lf1 x0)] (ok1 (aX aG.aV h0)) <|
 .cH [0] (R_.ok1 x0 s11024) fun r0 _ =>
 .rt [0,3,4] 2 (.inl (IntKind.wrap .i64 (v0 + 1),r0))) <|
 .rt [0,3] 2 (.inr (s11024))
def KZ (R_:KY) (p_x:aG) (v0:Int) (s11024:aA) : Option (aA) := bK (fun v_=>(yI R_ p_x v_).den) FU (v0,s11024)
def RX (R_:KY) (p_x:aG) : (Int × aA) → St := fun (v0,s11024)=>⟨[(0,.ptr 0 0),(3,.ptr 1 0),(4,.i_ v0)],[.box 124 (.dat (aA.lf1 s11024)),.box 52 (.dat (aG.lf1 p_x))]⟩
def En (p_x:aG) (r_:aA) : St := ⟨[(0,.ptr 0 0),(3,.ptr 1 0)],[.box 124 (.dat (aA.lf1 r_)),.box 52 (.dat (aG.lf1 p_x))]⟩
theorem adT {R_:KY} {p_x:aG} {v0:Int} {s11024:aA} {r_:aA} (h:KZ R_ p_x v0 s11024 = some r_) : fQ Tryz.f125 1 [1,1,1,1,1,1,1,1,1,1,1,0,1,0] (.exit 0) (En p_x r_) (RX R_ p_x (v0,s11024)) :=
 dO dK (body := (Code.sub (bodyC Tryz.f125) [1,1,1,1,1,1,1,1,1,1,1,0,1,0,0])) (by kernel_rfl) (yI R_ p_x) (RX R_ p_x) (fun _=>.exit 0) (En p_x) (fun r_=>rfl) (fun v_=>by kernel_rfl) h
def Eo (R_:KY) (p_x:aG) : (Int × aA) → Mo ((Int × aA) ⊕ (aA)) := fun (v0,s11067) =>
 .say [.num p_x.eu.length] (ok1 (ln_ p_x.eu lfI)) <|
 .iB (decide ((v0:Int) < (p_x.eu.length:Int))) (.ask (bM p_x.eu v0) fun x0 h0 =>
 .say [.row (lfI x0)] (ok1 (aX lI_ h0)) <|
 .cH [0] (fC x0 s11067) fun r0 _ =>
 .rt [0,3,5] 2 (.inl (IntKind.wrap .i64 (v0 + 1),r0))) <|
 .rt [0,3] 2 (.inr (s11067))
def Vr (R_:KY) (p_x:aG) (v0:Int) (s11067:aA) : Option (aA) := bK (fun v_=>(Eo R_ p_x v_).den) FU (v0,s11067)
def adU (R_:KY) (p_x:aG) (p_b0:aA) : Mo (aA) :=
 .cH [0] (fC p_x.aU p_b0) fun r0 _ =>
 .cH [0] (nY p_x.kM r0) fun r1 _ =>
 .cH [0] (uj p_x.mg r1) fun r2 _ =>
 .cH [0] (uj p_x.bU r2) fun r3 _ =>
 .cH [0] (uj p_x.gY r3) fun r4 _ =>
 .cH [0] (Ux p_x.ou r4) fun r5 _ =>
 .cH [0] (Ky p_x.aY r5) fun r6 _ =>
 .cH [0] (nY p_x.zq r6) fun r7 _ =>
 .ask (Q19 p_x.fB r7) fun r8 h0 =>
 .say [.jc [0] (.tup []) [.box 124 (.dat (aA.lf1 r8))],.num p_x.dL.length] (okc (fC _ _ _ h0) (ok1 (ln_ p_x.dL aG.lf))) <|
 .cH [0] (fC (p_x.dL.length:Int) r8) fun r9 _ =>
 .ask (KZ R_ p_x 0 r9) fun r10 h1 =>
 .say [.pt_ 0 [0,3,4] 2 (.exit 0) (En p_x r10),.num p_x.eu.length] (okc (adT h1) (ok1 (ln_ p_x.eu lfI))) <|
 .cH [0] (fC (p_x.eu.length:Int) r10) fun r11 _ =>
 .lp Tryz.f125 1 [1,1,1,1,1,1,1,1,1,1,1,1,1,0,1,0] 0 [0,3,5] 2 (.exit 2) (fun r_=>⟨[(0,.ptr 0 0),(3,.ptr 1 0)],[.box 124 (.dat (aA.lf1 r_)),.box 52 (.dat (aG.lf1 p_x))]⟩) (Vr R_ p_x 0 r11) (lW (fun (v0,s11067)=>⟨[(0,.ptr 0 0),(3,.ptr 1 0),(5,.i_ v0)],[.box 124 (.dat (aA.lf1 s11067)),.box 52 (.dat (aG.lf1 p_x))]⟩) (by kernel_rfl) rfl fun v_=>by kernel_rfl) fun r12 _ =>
 .cH [0] (oP p_x.kY r12) fun r13 _ =>
 .ret ⟨[.kill 1],[],[],1⟩ (r13)
theorem agy (R_:KY) (p_x:aG) (p_b0:aA) : FH (Mo.den (adU R_ p_x p_b0)) 125 [.ptr 0 0,.dat (aG.lf1 p_x)] [.box 124 (.dat (aA.lf1 p_b0))] (fun _=>.tup []) (fun r=>[.box 124 (.dat (aA.lf1 r))]) := gW Tryz.func125 (by kernel_rfl) (fun _=>rfl) (by kernel_rfl)
def oV:Nat → KY
 | 0=>{ m1 := fun p_x p_b0=>none,ok1 := fun _ _ _ h=>(by cases h) }
 | n_ + 1=>{ m1 := fun p_x p_b0=>Mo.den (adU (oV n_) p_x p_b0),ok1 := agy (oV n_) }
def Q28 (p_x:aG) (p_b0:aA) : Option (aA) := (oV FU).m1 p_x p_b0
theorem ajT (p_x:aG) (p_b0:aA) : FH (Q28 p_x p_b0) 125 [.ptr 0 0,.dat (aG.lf1 p_x)] [.box 124 (.dat (aA.lf1 p_b0))] (fun _=>.tup []) (fun r=>[.box 124 (.dat (aA.lf1 r))]) := (oV FU).ok1 p_x p_b0
def adV (p_e:ay) (p_b0:aA) : Mo (aA) :=
 .cH [0] (fC p_e.bD p_b0) fun r0 _ =>
 .cH [0] (fC p_e.fB r0) fun r1 _ =>
 .cH [0] (nY p_e.jZ r1) fun r2 _ =>
 .cH [0] (fC p_e.oN r2) fun r3 _ =>
 .cH [0] (ajT p_e.iH r3) fun r4 _ =>
 .ret ⟨[.kill 1],[],[],1⟩ (r4)
def ajU (p_e:ay) (p_b0:aA) : Option (aA) := Mo.den (adV p_e p_b0)
theorem agz (p_e:ay) (p_b0:aA) : FH (ajU p_e p_b0) 92 [.ptr 0 0,.dat (ay.lf1 p_e)] [.box 124 (.dat (aA.lf1 p_b0))] (fun _=>.tup []) (fun r=>[.box 124 (.dat (aA.lf1 r))]) := gW Tryz.func92 (by kernel_rfl) (fun _=>rfl) (by kernel_rfl)
def adW (p_e:ay) : Mo (ByteArray) :=
 .say [.at_ 6 1,.norm 1] ok0 <|
 .cH [1] (agz p_e (aA.mk ⟨#[]⟩ false true)) fun r0 _ =>
 .ret (bC 1) (r0.fS)
def adX (p_e:ay) : Option (ByteArray) := Mo.den (adW p_e)
theorem XA (p_e:ay) : FV (adX p_e) 61 [.dat (ay.lf1 p_e)] (fun r=>.lf (.str r)) := bY Tryz.func61 (by kernel_rfl) (fun _=>rfl) (by kernel_rfl)
def yJ (p_a:List ay) (p_b:List ay) : (Int) → Mo ((Int) ⊕ (Unit ⊕ Unit)) := fun (v0) =>
 .say [.num p_a.length] (ok1 (ln_ p_a ay.lf)) <|
 .iB (decide ((v0:Int) < (p_a.length:Int))) (.ask (bM p_a v0) fun x0 h0 =>
 .say [] (ok1 (aX ay.aV h0)) <|
 .ask (bM p_b v0) fun x1 h1 =>
 .say [] (ok1 (aX ay.aV h1)) <|
 .ask (adX x0) fun r0 h2 =>
 .say [] (ok1 (XA _ _ h2)) <|
 .ask (adX x1) fun r1 h3 =>
 .say [.dP (.q 0 (.q 1 (.q 2 (.q 3 (.q 5 (.q 6 (.q 7 (.q 8 (.l 4 (.l 9 (.q 10 .fin))))))))))) (some 9) [] [.row (ay.lf1 x0),.row (ay.lf1 x1),.res (.lf (.str r0)),.res (.lf (.str r1))] [0,1,5,27] 0 [(0,.lf (.rows 82 (p_a.map ay.lf))),(1,.lf (.rows 82 (p_b.map ay.lf))),(5,.i_ v0),(27,.lf (.bool (!decide ((r0:ByteArray) = (r1:ByteArray)))))] []] (okc (XA _ _ h3) (ok1 (rf_ ⟨[(0,.lf (.rows 82 (p_a.map ay.lf))),(1,.lf (.rows 82 (p_b.map ay.lf))),(5,.i_ v0),(27,.lf (.bool (!decide ((r0:ByteArray) = (r1:ByteArray)))))],[]⟩))) <|
 .iB (!decide ((r0:ByteArray) = (r1:ByteArray))) (.rt [4] 0 (.inr (.inl ()))) <|
 .rt [0,1,5] 0 (.inl (IntKind.wrap .i64 (v0 + 1)))) <|
 .rt [] 0 (.inr (.inr (())))
def Vs (p_a:List ay) (p_b:List ay) (v0:Int) : Option (Unit ⊕ Unit) := bK (fun v_=>(yJ p_a p_b v_).den) FU (v0)
def RY (p_a:List ay) (p_b:List ay) : (Int) → St := fun (v0)=>⟨[(0,.lf (.rows 82 (p_a.map ay.lf))),(1,.lf (.rows 82 (p_b.map ay.lf))),(5,.i_ v0)],[]⟩
def yK (r_:Unit ⊕ Unit) : Exit := match r_ with
 | .inl o_=>.ret
 | .inr (o_)=>.exit 0
def yL  (r_:Unit ⊕ Unit) : St := match r_ with
 | .inl o_=>⟨[(4,.b_ false)],[]⟩
 | .inr (o_)=>⟨[],[]⟩
theorem RZ {p_a:List ay} {p_b:List ay} {v0:Int} {r_:Unit ⊕ Unit} (h:Vs p_a p_b v0 = some r_) : fQ Tryz.f28 0 [1,1,0,1,0] (yK r_) (yL r_) (RY p_a p_b (v0)) :=
 dO dK (body := (Code.sub (bodyC Tryz.f28) [1,1,0,1,0,0])) (by kernel_rfl) (yJ p_a p_b) (RY p_a p_b) yK yL (fun r_=>by rcases r_ with _ | _ <;> rfl) (fun v_=>by kernel_rfl) h
def ahD (p_a:List ay) (p_b:List ay) : Mo (Bool) :=
 .say [.num p_a.length,.num p_b.length] (okc (ln_ p_a ay.lf) (ok1 (ln_ p_b ay.lf))) <|
 .iB ((p_a.length:Int) != (p_b.length:Int)) (.ret (bC 1) (false)) <|
 .eP (Vs p_a p_b 0) (fun o0 h0 =>
 .say [.pt_ 0 [0,1,5] 0 (yK (.inl o0)) (yL (.inl o0))] (ok1 (RZ h0)) <|
 .ret (bC 1) (false)) fun o1 h0 =>
 .say [.pt_ 0 [0,1,5] 0 (yK (.inr (o1))) (yL (.inr (o1)))] (ok1 (RZ h0)) <|
 .ret (bC 1) (true)
def Q25 (p_a:List ay) (p_b:List ay) : Option (Bool) := Mo.den (ahD p_a p_b)
theorem Vt (p_a:List ay) (p_b:List ay) : FV (Q25 p_a p_b) 28 [.lf (.rows 82 (p_a.map ay.lf)),.lf (.rows 82 (p_b.map ay.lf))] (fun r=>.b_ r) := bY Tryz.func28 (by kernel_rfl) (fun _=>rfl) (by kernel_rfl)
def Si (p_a:aj) (p_b:aj) : Mo (Bool) :=
 .iG 4005 (p_a.fID == p_b.fID) (.rt [2,3,4,16] 2 (p_a.dI == p_b.dI)) <|
 .rt [2,3,4,16] 2 (false)
def Sj (p_a:aj) (p_b:aj) (r0:Bool) : Mo (Bool) :=
 .iG 4012 (r0) (.rt [2,3,4,23] 2 (p_a.bD == p_b.bD)) <|
 .rt [2,3,4,23] 2 (false)
def Je (p_a:aj) (p_b:aj) (r0:Bool) : Mo (Bool) :=
 .iG 4019 (r0) (.rt [2,3,4,30] 2 (p_a.je == p_b.je)) <|
 .rt [2,3,4,30] 2 (false)
def Jf (p_a:aj) (p_b:aj) (r0:Bool) : Mo (Bool) :=
 .iG 4026 (r0) (.rt [2,3,4,37] 2 (p_a.dM == p_b.dM)) <|
 .rt [2,3,4,37] 2 (false)
def Jg (p_a:aj) (p_b:aj) (r0:Bool) : Mo (Bool) :=
 .iG 4033 (r0) (.rt [2,3,4,44] 2 (p_a.gJ == p_b.gJ)) <|
 .rt [2,3,4,44] 2 (false)
def Jh (p_a:aj) (p_b:aj) (r0:Bool) : Mo (Bool) :=
 .iG 4040 (r0) (.rt [2,3,4,51] 2 (p_a.gI == p_b.gI)) <|
 .rt [2,3,4,51] 2 (false)
def Ji (p_a:aj) (p_b:aj) (r0:Bool) : Mo (Bool) :=
 .iG 4047 (r0) (.rt [2,3,4,58] 2 (p_a.fH == p_b.fH)) <|
 .rt [2,3,4,58] 2 (false)
def Jj (p_a:aj) (p_b:aj) (r0:Bool) : Mo (Bool) :=
 .iG 4054 (r0) (.rt [2,3,4,65] 2 (p_a.au == p_b.au)) <|
 .rt [2,3,4,65] 2 (false)
def Jk (p_a:aj) (p_b:aj) (r0:Bool) : Mo (Bool) :=
 .iG 4061 (r0) (.cl (adS p_a.fNext p_b.fNext) fun r1 _ =>
 .rt [2,3,4,72] 2 (r1)) <|
 .rt [2,3,4,72] 2 (false)
def Jl (p_a:aj) (p_b:aj) (r0:Bool) : Mo (Bool) :=
 .iG 4068 (r0) (.cl (adS p_a.bn p_b.bn) fun r1 _ =>
 .rt [2,3,4,79] 2 (r1)) <|
 .rt [2,3,4,79] 2 (false)
def Jm (p_a:aj) (p_b:aj) (r0:Bool) : Mo (Bool) :=
 .iG 4075 (r0) (.cl (Vt p_a.aQ p_b.aQ) fun r1 _ =>
 .ret ⟨[.kill 0,.kill 1],[4,86],[],2⟩ (r1)) <|
 .ret ⟨[.kill 0,.kill 1],[4,86],[],2⟩ (false)
def Jo (r0:Bool) : Mo (Unit) :=
 .rt [4] 2 ()
def ahE (p_a:aj) (p_b:aj) : Mo (Bool) :=
 .sj Tryz.f14 0 [1,0] [0,1,2,3,4,5,6,7,8,9,10,11] 1 12 [2,3,4] 2 (fun r_=>⟨[(2,.ptr 0 0),(3,.ptr 1 0),(4,.b_ false),(16,.b_ r_)],[.box 25 (.dat (aj.lf1 p_a)),.box 25 (.dat (aj.lf1 p_b))]⟩) ⟨[(2,.ptr 0 0),(3,.ptr 1 0),(4,.b_ false)],[.box 25 (.dat (aj.lf1 p_a)),.box 25 (.dat (aj.lf1 p_b))]⟩ (Si p_a p_b).den (sW (by kernel_rfl)) fun r0 _ =>
 .sj Tryz.f14 0 [1,0] [12,13,14,15,16,17,18] 1 7 [2,3,4,16] 2 (fun r_=>⟨[(2,.ptr 0 0),(3,.ptr 1 0),(4,.b_ false),(23,.b_ r_)],[.box 25 (.dat (aj.lf1 p_a)),.box 25 (.dat (aj.lf1 p_b))]⟩) ⟨[(2,.ptr 0 0),(3,.ptr 1 0),(4,.b_ false),(16,.b_ r0)],[.box 25 (.dat (aj.lf1 p_a)),.box 25 (.dat (aj.lf1 p_b))]⟩ (Sj p_a p_b r0).den (sW (by kernel_rfl)) fun r1 _ =>
 .sj Tryz.f14 0 [1,0] [19,20,21,22,23,24,25] 1 7 [2,3,4,23] 2 (fun r_=>⟨[(2,.ptr 0 0),(3,.ptr 1 0),(4,.b_ false),(30,.b_ r_)],[.box 25 (.dat (aj.lf1 p_a)),.box 25 (.dat (aj.lf1 p_b))]⟩) ⟨[(2,.ptr 0 0),(3,.ptr 1 0),(4,.b_ false),(23,.b_ r1)],[.box 25 (.dat (aj.lf1 p_a)),.box 25 (.dat (aj.lf1 p_b))]⟩ (Je p_a p_b r1).den (sW (by kernel_rfl)) fun r2 _ =>
 .sj Tryz.f14 0 [1,0] [26,27,28,29,30,31,32] 1 7 [2,3,4,30] 2 (fun r_=>⟨[(2,.ptr 0 0),(3,.ptr 1 0),(4,.b_ false),(37,.b_ r_)],[.box 25 (.dat (aj.lf1 p_a)),.box 25 (.dat (aj.lf1 p_b))]⟩) ⟨[(2,.ptr 0 0),(3,.ptr 1 0),(4,.b_ false),(30,.b_ r2)],[.box 25 (.dat (aj.lf1 p_a)),.box 25 (.dat (aj.lf1 p_b))]⟩ (Jf p_a p_b r2).den (sW (by kernel_rfl)) fun r3 _ =>
 .sj Tryz.f14 0 [1,0] [33,34,35,36,37,38,39] 1 7 [2,3,4,37] 2 (fun r_=>⟨[(2,.ptr 0 0),(3,.ptr 1 0),(4,.b_ false),(44,.b_ r_)],[.box 25 (.dat (aj.lf1 p_a)),.box 25 (.dat (aj.lf1 p_b))]⟩) ⟨[(2,.ptr 0 0),(3,.ptr 1 0),(4,.b_ false),(37,.b_ r3)],[.box 25 (.dat (aj.lf1 p_a)),.box 25 (.dat (aj.lf1 p_b))]⟩ (Jg p_a p_b r3).den (sW (by kernel_rfl)) fun r4 _ =>
 .sj Tryz.f14 0 [1,0] [40,41,42,43,44,45,46] 1 7 [2,3,4,44] 2 (fun r_=>⟨[(2,.ptr 0 0),(3,.ptr 1 0),(4,.b_ false),(51,.b_ r_)],[.box 25 (.dat (aj.lf1 p_a)),.box 25 (.dat (aj.lf1 p_b))]⟩) ⟨[(2,.ptr 0 0),(3,.ptr 1 0),(4,.b_ false),(44,.b_ r4)],[.box 25 (.dat (aj.lf1 p_a)),.box 25 (.dat (aj.lf1 p_b))]⟩ (Jh p_a p_b r4).den (sW (by kernel_rfl)) fun r5 _ =>
 .sj Tryz.f14 0 [1,0] [47,48,49,50,51,52,53] 1 7 [2,3,4,51] 2 (fun r_=>⟨[(2,.ptr 0 0),(3,.ptr 1 0),(4,.b_ false),(58,.b_ r_)],[.box 25 (.dat (aj.lf1 p_a)),.box 25 (.dat (aj.lf1 p_b))]⟩) ⟨[(2,.ptr 0 0),(3,.ptr 1 0),(4,.b_ false),(51,.b_ r5)],[.box 25 (.dat (aj.lf1 p_a)),.box 25 (.dat (aj.lf1 p_b))]⟩ (Ji p_a p_b r5).den (sW (by kernel_rfl)) fun r6 _ =>
 .sj Tryz.f14 0 [1,0] [54,55,56,57,58,59,60] 1 7 [2,3,4,58] 2 (fun r_=>⟨[(2,.ptr 0 0),(3,.ptr 1 0),(4,.b_ false),(65,.b_ r_)],[.box 25 (.dat (aj.lf1 p_a)),.box 25 (.dat (aj.lf1 p_b))]⟩) ⟨[(2,.ptr 0 0),(3,.ptr 1 0),(4,.b_ false),(58,.b_ r6)],[.box 25 (.dat (aj.lf1 p_a)),.box 25 (.dat (aj.lf1 p_b))]⟩ (Jj p_a p_b r6).den (sW (by kernel_rfl)) fun r7 _ =>
 .sj Tryz.f14 0 [1,0] [61,62,63,64,65,66,67] 1 7 [2,3,4,65] 2 (fun r_=>⟨[(2,.ptr 0 0),(3,.ptr 1 0),(4,.b_ false),(72,.b_ r_)],[.box 25 (.dat (aj.lf1 p_a)),.box 25 (.dat (aj.lf1 p_b))]⟩) ⟨[(2,.ptr 0 0),(3,.ptr 1 0),(4,.b_ false),(65,.b_ r7)],[.box 25 (.dat (aj.lf1 p_a)),.box 25 (.dat (aj.lf1 p_b))]⟩ (Jk p_a p_b r7).den (sW (by kernel_rfl)) fun r8 _ =>
 .sj Tryz.f14 0 [1,0] [68,69,70,71,72,73,74] 1 7 [2,3,4,72] 2 (fun r_=>⟨[(2,.ptr 0 0),(3,.ptr 1 0),(4,.b_ false),(79,.b_ r_)],[.box 25 (.dat (aj.lf1 p_a)),.box 25 (.dat (aj.lf1 p_b))]⟩) ⟨[(2,.ptr 0 0),(3,.ptr 1 0),(4,.b_ false),(72,.b_ r8)],[.box 25 (.dat (aj.lf1 p_a)),.box 25 (.dat (aj.lf1 p_b))]⟩ (Jl p_a p_b r8).den (sW (by kernel_rfl)) fun r9 _ =>
 .sj Tryz.f14 0 [1,0] [75,76,77,78,79,80,81] 1 7 [2,3,4,79] 2 (fun r_=>⟨[(4,.b_ false),(86,.b_ r_)],[.dead,.dead]⟩) ⟨[(2,.ptr 0 0),(3,.ptr 1 0),(4,.b_ false),(79,.b_ r9)],[.box 25 (.dat (aj.lf1 p_a)),.box 25 (.dat (aj.lf1 p_b))]⟩ (Jm p_a p_b r9).den (sW (by kernel_rfl)) fun r10 _ =>
 .sj Tryz.f14 0 [1,0] [82] 1 1 [4,86] 2 (fun r_=>⟨[(4,.b_ r10)],[.dead,.dead]⟩) ⟨[(4,.b_ false),(86,.b_ r10)],[.dead,.dead]⟩ (Jo r10).den (sW (by kernel_rfl)) fun r11 _ =>
 .ret (bC 1) (r10)
def Q14 (p_a:aj) (p_b:aj) : Option (Bool) := Mo.den (ahE p_a p_b)
theorem ajV (p_a:aj) (p_b:aj) : FV (Q14 p_a p_b) 14 [.dat (aj.lf1 p_a),.dat (aj.lf1 p_b)] (fun r=>.b_ r) := bY Tryz.func14 (by kernel_rfl) (fun _=>rfl) (by kernel_rfl)
def La (p_a:List ah) (p_b:List ah) (v0:Int) (x0:ah) (x1:ah) : Mo (Bool) :=
 .iG 16005 (x0.dh != x1.dh) (.rt [0,1,5,6,7,38] 2 (true)) <|
 .rt [0,1,5,6,7,38] 2 (x0.fTo != x1.fTo)
def Lc (p_a:List ah) (p_b:List ah) (r0:Bool) (v0:Int) (x0:ah) (x1:ah) : Mo (Bool) :=
 .iG 16012 (r0) (.rt [0,1,5,6,7,45] 2 (true)) <|
 .rt [0,1,5,6,7,45] 2 (x0.aU != x1.aU)
def Ep (p_a:List ah) (p_b:List ah) (r0:Bool) (v0:Int) (x0:ah) (x1:ah) : Mo (Bool) :=
 .iG 16019 (r0) (.rt [0,1,5,6,7,52] 2 (true)) <|
 .rt [0,1,5,6,7,52] 2 (x0.bD != x1.bD)
def Es (p_a:List ah) (p_b:List ah) (r0:Bool) (v0:Int) (x0:ah) (x1:ah) : Mo (Bool) :=
 .iG 16026 (r0) (.rt [0,1,5,6,7,59] 2 (true)) <|
 .rt [0,1,5,6,7,59] 2 (x0.aY != x1.aY)
def Et (p_a:List ah) (p_b:List ah) (r0:Bool) (v0:Int) (x0:ah) (x1:ah) : Mo (Bool) :=
 .iG 16033 (r0) (.rt [0,1,5,6,7,66] 2 (true)) <|
 .rt [0,1,5,6,7,66] 2 (x0.ku != x1.ku)
def Eu (p_a:List ah) (p_b:List ah) (r0:Bool) (v0:Int) (x0:ah) (x1:ah) : Mo (Bool) :=
 .iG 16040 (r0) (.rt [0,1,5,6,7,73] 2 (true)) <|
 .rt [0,1,5,6,7,73] 2 (x0.au != x1.au)
def Ew (p_a:List ah) (p_b:List ah) (r0:Bool) (v0:Int) (x0:ah) (x1:ah) : Mo (Bool) :=
 .iG 16047 (r0) (.rt [0,1,5,6,7,80] 2 (true)) <|
 .rt [0,1,5,6,7,80] 2 (!(x0.fOK == x1.fOK))
def Ey (p_a:List ah) (p_b:List ah) (r0:Bool) (v0:Int) (x0:ah) (x1:ah) : Mo (Bool) :=
 .iG 16054 (r0) (.ret ⟨[.kill 0,.kill 1],[0,1,5,88],[],2⟩ (true)) <|
 .cl (Vt x0.aH x1.aH) fun r1 _ =>
 .ret ⟨[.kill 0,.kill 1],[0,1,5,88],[],2⟩ (!r1)
def yM (p_a:List ah) (p_b:List ah) : (Int) → Mo ((Int) ⊕ (Unit ⊕ Unit)) := fun (v0) =>
 .say [.num p_a.length] (ok1 (ln_ p_a ah.lf)) <|
 .iB (decide ((v0:Int) < (p_a.length:Int))) (.ask (bM p_a v0) fun x0 h0 =>
 .say [] (ok1 (aX ah.aV h0)) <|
 .ask (bM p_b v0) fun x1 h1 =>
 .say [.dP (.q 0 (.q 1 (.q 2 (.q 3 (.q 4 (.q 5 (.q 6 (.q 7 (.alt 8 (.l 9 (.l 10 (.l 11 .fin))) (.l 9 (.l 8 (.l 10 (.l 11 .fin))))))))))))) (some 11) [0,1] [.row (ah.lf1 x0),.row (ah.lf1 x1),.both [.at_ 14 8,.resv 2,.slot 0,.slot 1] [.at_ 14 9,.resv 2,.slot 1,.slot 0]] [0,1,5,6,7] 2 [(0,.lf (.rows 9 (p_a.map ah.lf))),(1,.lf (.rows 9 (p_b.map ah.lf))),(5,.i_ v0),(6,.ptr 0 0),(7,.ptr 1 0)] [.box 63 (.agg ((ah.lf1 x0).map AV.lf)),.box 63 (.agg ((ah.lf1 x1).map AV.lf))]] (okc (aX ah.aV h1) (okc (rf_ ⟨[(0,.lf (.rows 9 (p_a.map ah.lf))),(1,.lf (.rows 9 (p_b.map ah.lf))),(5,.i_ v0),(6,.ptr 0 0),(7,.ptr 1 0)],[.box 63 (.agg ((ah.lf1 x0).map AV.lf)),.box 63 (.agg ((ah.lf1 x1).map AV.lf))]⟩) (ok1 (rf_ ⟨[(0,.lf (.rows 9 (p_a.map ah.lf))),(1,.lf (.rows 9 (p_b.map ah.lf))),(5,.i_ v0),(6,.ptr 0 0),(7,.ptr 1 0)],[.box 63 (.agg ((ah.lf1 x0).map AV.lf)),.box 63 (.agg ((ah.lf1 x1).map AV.lf))]⟩)))) <|
 .sj Tryz.f18 0 [1,1,0,1,0,0,1,0,0,1,0] [0,1,2,3,4,5,6,7,8,9,10,11] 7 12 [0,1,5,6,7] 2 (fun r_=>⟨[(0,.lf (.rows 9 (p_a.map ah.lf))),(1,.lf (.rows 9 (p_b.map ah.lf))),(5,.i_ v0),(6,.ptr 0 0),(7,.ptr 1 0),(38,.b_ r_)],[.box 63 (.agg ((ah.lf1 x0).map AV.lf)),.box 63 (.agg ((ah.lf1 x1).map AV.lf))]⟩) ⟨[(0,.lf (.rows 9 (p_a.map ah.lf))),(1,.lf (.rows 9 (p_b.map ah.lf))),(5,.i_ v0),(6,.ptr 0 0),(7,.ptr 1 0)],[.box 63 (.agg ((ah.lf1 x0).map AV.lf)),.box 63 (.agg ((ah.lf1 x1).map AV.lf))]⟩ (La p_a p_b v0 x0 x1).den (sW (by kernel_rfl)) fun r0 _ =>
 .sj Tryz.f18 0 [1,1,0,1,0,0,1,0,0,1,0] [12,13,14,15,16,17,18] 7 7 [0,1,5,6,7,38] 2 (fun r_=>⟨[(0,.lf (.rows 9 (p_a.map ah.lf))),(1,.lf (.rows 9 (p_b.map ah.lf))),(5,.i_ v0),(6,.ptr 0 0),(7,.ptr 1 0),(45,.b_ r_)],[.box 63 (.agg ((ah.lf1 x0).map AV.lf)),.box 63 (.agg ((ah.lf1 x1).map AV.lf))]⟩) ⟨[(0,.lf (.rows 9 (p_a.map ah.lf))),(1,.lf (.rows 9 (p_b.map ah.lf))),(5,.i_ v0),(6,.ptr 0 0),(7,.ptr 1 0),(38,.b_ r0)],[.box 63 (.agg ((ah.lf1 x0).map AV.lf)),.box 63 (.agg ((ah.lf1 x1).map AV.lf))]⟩ (Lc p_a p_b r0 v0 x0 x1).den (sW (by kernel_rfl)) fun r1 _ =>
 .sj Tryz.f18 0 [1,1,0,1,0,0,1,0,0,1,0] [19,20,21,22,23,24,25] 7 7 [0,1,5,6,7,45] 2 (fun r_=>⟨[(0,.lf (.rows 9 (p_a.map ah.lf))),(1,.lf (.rows 9 (p_b.map ah.lf))),(5,.i_ v0),(6,.ptr 0 0),(7,.ptr 1 0),(52,.b_ r_)],[.box 63 (.agg ((ah.lf1 x0).map AV.lf)),.box 63 (.agg ((ah.lf1 x1).map AV.lf))]⟩) ⟨[(0,.lf (.rows 9 (p_a.map ah.lf))),(1,.lf (.rows 9 (p_b.map ah.lf))),(5,.i_ v0),(6,.ptr 0 0),(7,.ptr 1 0),(45,.b_ r1)],[.box 63 (.agg ((ah.lf1 x0).map AV.lf)),.box 63 (.agg ((ah.lf1 x1).map AV.lf))]⟩ (Ep p_a p_b r1 v0 x0 x1).den (sW (by kernel_rfl)) fun r2 _ =>
 .sj Tryz.f18 0 [1,1,0,1,0,0,1,0,0,1,0] [26,27,28,29,30,31,32] 7 7 [0,1,5,6,7,52] 2 (fun r_=>⟨[(0,.lf (.rows 9 (p_a.map ah.lf))),(1,.lf (.rows 9 (p_b.map ah.lf))),(5,.i_ v0),(6,.ptr 0 0),(7,.ptr 1 0),(59,.b_ r_)],[.box 63 (.agg ((ah.lf1 x0).map AV.lf)),.box 63 (.agg ((ah.lf1 x1).map AV.lf))]⟩) ⟨[(0,.lf (.rows 9 (p_a.map ah.lf))),(1,.lf (.rows 9 (p_b.map ah.lf))),(5,.i_ v0),(6,.ptr 0 0),(7,.ptr 1 0),(52,.b_ r2)],[.box 63 (.agg ((ah.lf1 x0).map AV.lf)),.box 63 (.agg ((ah.lf1 x1).map AV.lf))]⟩ (Es p_a p_b r2 v0 x0 x1).den (sW (by kernel_rfl)) fun r3 _ =>
 .sj Tryz.f18 0 [1,1,0,1,0,0,1,0,0,1,0] [33,34,35,36,37,38,39] 7 7 [0,1,5,6,7,59] 2 (fun r_=>⟨[(0,.lf (.rows 9 (p_a.map ah.lf))),(1,.lf (.rows 9 (p_b.map ah.lf))),(5,.i_ v0),(6,.ptr 0 0),(7,.ptr 1 0),(66,.b_ r_)],[.box 63 (.agg ((ah.lf1 x0).map AV.lf)),.box 63 (.agg ((ah.lf1 x1).map AV.lf))]⟩) ⟨[(0,.lf (.rows 9 (p_a.map ah.lf))),(1,.lf (.rows 9 (p_b.map ah.lf))),(5,.i_ v0),(6,.ptr 0 0),(7,.ptr 1 0),(59,.b_ r3)],[.box 63 (.agg ((ah.lf1 x0).map AV.lf)),.box 63 (.agg ((ah.lf1 x1).map AV.lf))]⟩ (Et p_a p_b r3 v0 x0 x1).den (sW (by kernel_rfl)) fun r4 _ =>
 .sj Tryz.f18 0 [1,1,0,1,0,0,1,0,0,1,0] [40,41,42,43,44,45,46] 7 7 [0,1,5,6,7,66] 2 (fun r_=>⟨[(0,.lf (.rows 9 (p_a.map ah.lf))),(1,.lf (.rows 9 (p_b.map ah.lf))),(5,.i_ v0),(6,.ptr 0 0),(7,.ptr 1 0),(73,.b_ r_)],[.box 63 (.agg ((ah.lf1 x0).map AV.lf)),.box 63 (.agg ((ah.lf1 x1).map AV.lf))]⟩) ⟨[(0,.lf (.rows 9 (p_a.map ah.lf))),(1,.lf (.rows 9 (p_b.map ah.lf))),(5,.i_ v0),(6,.ptr 0 0),(7,.ptr 1 0),(66,.b_ r4)],[.box 63 (.agg ((ah.lf1 x0).map AV.lf)),.box 63 (.agg ((ah.lf1 x1).map AV.lf))]⟩ (Eu p_a p_b r4 v0 x0 x1).den (sW (by kernel_rfl)) fun r5 _ =>
 .sj Tryz.f18 0 [1,1,0,1,0,0,1,0,0,1,0] [47,48,49,50,51,52,53] 7 7 [0,1,5,6,7,73] 2 (fun r_=>⟨[(0,.lf (.rows 9 (p_a.map ah.lf))),(1,.lf (.rows 9 (p_b.map ah.lf))),(5,.i_ v0),(6,.ptr 0 0),(7,.ptr 1 0),(80,.b_ r_)],[.box 63 (.agg ((ah.lf1 x0).map AV.lf)),.box 63 (.agg ((ah.lf1 x1).map AV.lf))]⟩) ⟨[(0,.lf (.rows 9 (p_a.map ah.lf))),(1,.lf (.rows 9 (p_b.map ah.lf))),(5,.i_ v0),(6,.ptr 0 0),(7,.ptr 1 0),(73,.b_ r5)],[.box 63 (.agg ((ah.lf1 x0).map AV.lf)),.box 63 (.agg ((ah.lf1 x1).map AV.lf))]⟩ (Ew p_a p_b r5 v0 x0 x1).den (sW (by kernel_rfl)) fun r6 _ =>
 .sj Tryz.f18 0 [1,1,0,1,0,0,1,0,0,1,0] [54,55,56,57,58,59,60,61] 7 8 [0,1,5,6,7,80] 2 (fun r_=>⟨[(0,.lf (.rows 9 (p_a.map ah.lf))),(1,.lf (.rows 9 (p_b.map ah.lf))),(5,.i_ v0),(88,.b_ r_)],[.dead,.dead]⟩) ⟨[(0,.lf (.rows 9 (p_a.map ah.lf))),(1,.lf (.rows 9 (p_b.map ah.lf))),(5,.i_ v0),(6,.ptr 0 0),(7,.ptr 1 0),(80,.b_ r6)],[.box 63 (.agg ((ah.lf1 x0).map AV.lf)),.box 63 (.agg ((ah.lf1 x1).map AV.lf))]⟩ (Ey p_a p_b r6 v0 x0 x1).den (sW (by kernel_rfl)) fun r7 _ =>
 .iB (r7) (.rt [4] 0 (.inr (.inl ()))) <|
 .rt [0,1,5] 0 (.inl (IntKind.wrap .i64 (v0 + 1)))) <|
 .rt [] 0 (.inr (.inr (())))
def Ez (p_a:List ah) (p_b:List ah) (v0:Int) : Option (Unit ⊕ Unit) := bK (fun v_=>(yM p_a p_b v_).den) FU (v0)
def Sm (p_a:List ah) (p_b:List ah) : (Int) → St := fun (v0)=>⟨[(0,.lf (.rows 9 (p_a.map ah.lf))),(1,.lf (.rows 9 (p_b.map ah.lf))),(5,.i_ v0)],[]⟩
def yN (r_:Unit ⊕ Unit) : Exit := match r_ with
 | .inl o_=>.ret
 | .inr (o_)=>.exit 0
def yO  (r_:Unit ⊕ Unit) : St := match r_ with
 | .inl o_=>⟨[(4,.b_ false)],[]⟩
 | .inr (o_)=>⟨[],[]⟩
theorem Sr {p_a:List ah} {p_b:List ah} {v0:Int} {r_:Unit ⊕ Unit} (h:Ez p_a p_b v0 = some r_) : fQ Tryz.f18 0 [1,1,0,1,0] (yN r_) (yO r_) (Sm p_a p_b (v0)) :=
 dO dK (body := (Code.sub (bodyC Tryz.f18) [1,1,0,1,0,0])) (by kernel_rfl) (yM p_a p_b) (Sm p_a p_b) yN yO (fun r_=>by rcases r_ with _ | _ <;> rfl) (fun v_=>by kernel_rfl) h
def agA (p_a:List ah) (p_b:List ah) : Mo (Bool) :=
 .say [.num p_a.length,.num p_b.length] (okc (ln_ p_a ah.lf) (ok1 (ln_ p_b ah.lf))) <|
 .iB ((p_a.length:Int) != (p_b.length:Int)) (.ret (bC 1) (false)) <|
 .eP (Ez p_a p_b 0) (fun o0 h0 =>
 .say [.pt_ 0 [0,1,5] 0 (yN (.inl o0)) (yO (.inl o0))] (ok1 (Sr h0)) <|
 .ret (bC 1) (false)) fun o1 h0 =>
 .say [.pt_ 0 [0,1,5] 0 (yN (.inr (o1))) (yO (.inr (o1)))] (ok1 (Sr h0)) <|
 .ret (bC 1) (true)
def Q1 (p_a:List ah) (p_b:List ah) : Option (Bool) := Mo.den (agA p_a p_b)
theorem alc (p_a:List ah) (p_b:List ah) : FV (Q1 p_a p_b) 18 [.lf (.rows 9 (p_a.map ah.lf)),.lf (.rows 9 (p_b.map ah.lf))] (fun r=>.b_ r) := bY Tryz.func18 (by kernel_rfl) (fun _=>rfl) (by kernel_rfl)
def Sv (p_a:bF) (p_b:bF) : Mo (Bool) :=
 .iG 4005 (p_a.dX == p_b.dX) (.rt [2,3,4,16] 2 (p_a.bD == p_b.bD)) <|
 .rt [2,3,4,16] 2 (false)
def Sz (p_a:bF) (p_b:bF) (r0:Bool) : Mo (Bool) :=
 .iG 4012 (r0) (.rt [2,3,4,23] 2 (p_a.fAt == p_b.fAt)) <|
 .rt [2,3,4,23] 2 (false)
def Jp (p_a:bF) (p_b:bF) (r0:Bool) : Mo (Bool) :=
 .iG 4019 (r0) (.cl (Vt p_a.aH p_b.aH) fun r1 _ =>
 .ret ⟨[.kill 0,.kill 1],[4,30],[],2⟩ (r1)) <|
 .ret ⟨[.kill 0,.kill 1],[4,30],[],2⟩ (false)
def Jq (r0:Bool) : Mo (Unit) :=
 .rt [4] 2 ()
def ahF (p_a:bF) (p_b:bF) : Mo (Bool) :=
 .sj Tryz.f19 0 [1,0] [0,1,2,3,4,5,6,7,8,9,10,11] 1 12 [2,3,4] 2 (fun r_=>⟨[(2,.ptr 0 0),(3,.ptr 1 0),(4,.b_ false),(16,.b_ r_)],[.box 67 (.dat (bF.lf1 p_a)),.box 67 (.dat (bF.lf1 p_b))]⟩) ⟨[(2,.ptr 0 0),(3,.ptr 1 0),(4,.b_ false)],[.box 67 (.dat (bF.lf1 p_a)),.box 67 (.dat (bF.lf1 p_b))]⟩ (Sv p_a p_b).den (sW (by kernel_rfl)) fun r0 _ =>
 .sj Tryz.f19 0 [1,0] [12,13,14,15,16,17,18] 1 7 [2,3,4,16] 2 (fun r_=>⟨[(2,.ptr 0 0),(3,.ptr 1 0),(4,.b_ false),(23,.b_ r_)],[.box 67 (.dat (bF.lf1 p_a)),.box 67 (.dat (bF.lf1 p_b))]⟩) ⟨[(2,.ptr 0 0),(3,.ptr 1 0),(4,.b_ false),(16,.b_ r0)],[.box 67 (.dat (bF.lf1 p_a)),.box 67 (.dat (bF.lf1 p_b))]⟩ (Sz p_a p_b r0).den (sW (by kernel_rfl)) fun r1 _ =>
 .sj Tryz.f19 0 [1,0] [19,20,21,22,23,24,25] 1 7 [2,3,4,23] 2 (fun r_=>⟨[(4,.b_ false),(30,.b_ r_)],[.dead,.dead]⟩) ⟨[(2,.ptr 0 0),(3,.ptr 1 0),(4,.b_ false),(23,.b_ r1)],[.box 67 (.dat (bF.lf1 p_a)),.box 67 (.dat (bF.lf1 p_b))]⟩ (Jp p_a p_b r1).den (sW (by kernel_rfl)) fun r2 _ =>
 .sj Tryz.f19 0 [1,0] [26] 1 1 [4,30] 2 (fun r_=>⟨[(4,.b_ r2)],[.dead,.dead]⟩) ⟨[(4,.b_ false),(30,.b_ r2)],[.dead,.dead]⟩ (Jq r2).den (sW (by kernel_rfl)) fun r3 _ =>
 .ret (bC 1) (r2)
def Q56 (p_a:bF) (p_b:bF) : Option (Bool) := Mo.den (ahF p_a p_b)
theorem ajW (p_a:bF) (p_b:bF) : FV (Q56 p_a p_b) 19 [.dat (bF.lf1 p_a),.dat (bF.lf1 p_b)] (fun r=>.b_ r) := bY Tryz.func19 (by kernel_rfl) (fun _=>rfl) (by kernel_rfl)
def adY (p_m:aj) (p_x:ah) : Mo (aj × (List ah) × bF) :=
 .cH [] (qB p_m) fun r0 _ =>
 .ask (Q84) fun r1 h0 =>
 .say [.res (.dat (bF.lf1 r1)),.at_ 6 2,.Tc 7 12 63,.kJ 8 (([] : List ah).map ah.lf)] (okc (uo  _ h0) (ok1 (by simp [ah.aV] : (([] : List ah).map ah.lf) = []))) <|
 .ask (Q35 p_x (aF.mk r0 ([] : List ah) r1)) fun r2 h1 =>
 .say [.jc [7,4,5,6,8] (.tup []) [.box 97 (ag_ (aF.lf1 r2) [(8,.own 5),(10,.own 6),(11,.own 7),(12,.own 8)]),.dead,.dead,.dead,.dead,.row 54 82 (r2.aO.aQ.map ay.lf),.row 3 1 (r2.aO.fNext.map lfI),.row 3 1 (r2.aO.bn.map lfI),.row 63 9 (r2.dw.map ah.lf)],.order [(true,0),(true,1),(true,2),(true,3),(true,4),(true,5),(true,6),(true,7),(true,8),(true,9),(true,10),(true,11),(false,12),(true,13),(false,14)] (some 14) [2],.at_ 0 0,.frz 9,.frz 10,.frz 11,.frz 12] (ok1 (adB _ _ _ h1)) <|
 .ret (bC 3) (r2.aO,r2.dw,r2.eG)
def ajX (p_m:aj) (p_x:ah) : Option (aj × (List ah) × bF) := Mo.den (adY p_m p_x)
theorem agB (p_m:aj) (p_x:ah) : FV (ajX p_m p_x) 26 [.dat (aj.lf1 p_m),.dat (ah.lf1 p_x)] (fun r=>.tup [.dat (aj.lf1 r.1),.lf (.rows 9 (r.2.1.map ah.lf)),.dat (bF.lf1 r.2.2)]) := bY Tryz.func26 (by kernel_rfl) (fun _=>rfl) (by kernel_rfl)
end
end Go.Proofs.YtdnafbfmaphhhaaGreatDoor
set_option linter.unusedSimpArgs false
set_option linter.unusedVariables false
namespace Go.Proofs.YtdnafbfmaphhhaaGreatDoor
open Go.RowKit
set_option maxRecDepth 20000
set_option maxHeartbeats 4000000
noncomputable section
def SA (p_m:aj) (p_x:ah) : Mo (Bool) :=
 .cl (aeT p_m) fun r0 _ =>
 .iG 4003 (!r0) (.rt [2,3,19] 2 (true)) <|
 .cl (ai2 p_m p_x) fun r1 _ =>
 .rt [2,3,19] 2 (!r1)
def SB (p_m:aj) (p_x:ah) (r0:Bool) : Mo (Bool) :=
 .iG 4009 (r0) (.rt [2,3,24] 2 (true)) <|
 .rt [2,3,24] 2 (p_x.aU != 3)
def Ac (r0:aj × (List ah) × bF) (r1:aj × (List ah) × bF) : Mo (Bool) :=
 .cl (ajV r0.1 r1.1) fun r2 _ =>
 .iG 12003 (r2) (.cl (alc r0.2.1 r1.2.1) fun r3 _ =>
 .ret ⟨[.kill 2,.kill 4],[7,10,47],[],6⟩ (r3)) <|
 .ret ⟨[.kill 2,.kill 4],[7,10,47],[],6⟩ (false)
def Ld (r0:aj × (List ah) × bF) (r1:aj × (List ah) × bF) : Option (Bool) := Mo.den (Ac r0 r1)
def rX (r0:aj × (List ah) × bF) (r1:aj × (List ah) × bF) (r_:Bool) : St := ⟨[(7,.ptr 3 0),(10,.ptr 5 0),(47,.b_ r_)],[.dead,.dead,.dead,.box 67 (.agg [.i_ r0.2.2.dX,.i_ r0.2.2.bD,.i_ r0.2.2.fAt,.lf (.rows 82 (r0.2.2.aH.map ay.lf))]),.dead,.box 67 (.agg [.i_ r1.2.2.dX,.i_ r1.2.2.bD,.i_ r1.2.2.fAt,.lf (.rows 82 (r1.2.2.aH.map ay.lf))])]⟩
theorem Zn {r0:aj × (List ah) × bF} {r1:aj × (List ah) × bF} {r_:Bool} (h:Ld r0 r1 = some r_) : MZ Tryz.f7 0 [1,1,1,1,0] [0,1,2,3,4,5,6,7] (rX r0 r1 r_) ⟨[(5,.ptr 2 0),(6,.lf (.rows 9 (r0.2.1.map ah.lf))),(7,.ptr 3 0),(8,.ptr 4 0),(9,.lf (.rows 9 (r1.2.1.map ah.lf))),(10,.ptr 5 0)],[.dead,.dead,.box 25 (.agg ((aj.lf1 r0.1).map AV.lf)),.box 67 (.agg [.i_ r0.2.2.dX,.i_ r0.2.2.bD,.i_ r0.2.2.fAt,.lf (.rows 82 (r0.2.2.aH.map ay.lf))]),.box 25 (.agg ((aj.lf1 r1.1).map AV.lf)),.box 67 (.agg [.i_ r1.2.2.dX,.i_ r1.2.2.bD,.i_ r1.2.2.fAt,.lf (.rows 82 (r1.2.2.aH.map ay.lf))])]⟩ :=
 Wn dK (Ac r0 r1) (rX r0 r1) (by kernel_rfl) h
def Jr (r0:aj × (List ah) × bF) (r1:aj × (List ah) × bF) (r2:Bool) : Mo (Bool) :=
 .iG 12008 (r2) (.cl (ajW r0.2.2 r1.2.2) fun r3 _ =>
 .ret ⟨[.kill 3,.kill 5],[52],[],6⟩ (r3)) <|
 .ret ⟨[.kill 3,.kill 5],[52],[],6⟩ (false)
def Js (r0:Bool) : Mo (Bool) :=
 .iG 12013 (r0) (.cl (adL) fun r1 _ =>
 .rt [55] 6 (r1)) <|
 .rt [55] 6 (false)
def Jt (r0:Bool) : Mo (Unit) :=
 .rt [4] 6 ()
def ahG (p_m:aj) (p_x:ah) : Mo (Bool) :=
 .sj Tryz.f7 0 [1,0,0] [0,1,2,3,4,5,6,7,8] 1 9 [2,3] 2 (fun r_=>⟨[(2,.ptr 0 0),(3,.ptr 1 0),(19,.b_ r_)],[.box 25 (.dat (aj.lf1 p_m)),.box 63 (.dat (ah.lf1 p_x))]⟩) ⟨[(2,.ptr 0 0),(3,.ptr 1 0)],[.box 25 (.dat (aj.lf1 p_m)),.box 63 (.dat (ah.lf1 p_x))]⟩ (SA p_m p_x).den (sW (by kernel_rfl)) fun r0 _ =>
 .sj Tryz.f7 0 [1,0,0] [9,10,11,12,13] 1 5 [2,3,19] 2 (fun r_=>⟨[(2,.ptr 0 0),(3,.ptr 1 0),(24,.b_ r_)],[.box 25 (.dat (aj.lf1 p_m)),.box 63 (.dat (ah.lf1 p_x))]⟩) ⟨[(2,.ptr 0 0),(3,.ptr 1 0),(19,.b_ r0)],[.box 25 (.dat (aj.lf1 p_m)),.box 63 (.dat (ah.lf1 p_x))]⟩ (SB p_m p_x r0).den (sW (by kernel_rfl)) fun r1 _ =>
 .iB (r1) (.cl (adL) fun r2 _ =>
 .ret (bC 1) (r2)) <|
 .cl (agB p_m p_x) fun r3 _ =>
 .cl (ajS p_m p_x) fun r4 _ =>
 .ask (Ld r3 r4) fun r5 h0 =>
 .say [.seg 5 [.kill 0,.kill 1] 8 [5,6,7,8,9,10] 6 (rX r3 r4 r5).T (rX r3 r4 r5).H] (ok1 (Zn h0)) <|
 .sj Tryz.f7 0 [1,1,1,1,0] [8,9,10,11,12] 5 5 [7,10,47] 6 (fun r_=>⟨[(52,.b_ r_)],[.dead,.dead,.dead,.dead,.dead,.dead]⟩) ⟨[(7,.ptr 3 0),(10,.ptr 5 0),(47,.b_ r5)],[.dead,.dead,.dead,.box 67 (.agg [.i_ r3.2.2.dX,.i_ r3.2.2.bD,.i_ r3.2.2.fAt,.lf (.rows 82 (r3.2.2.aH.map ay.lf))]),.dead,.box 67 (.agg [.i_ r4.2.2.dX,.i_ r4.2.2.bD,.i_ r4.2.2.fAt,.lf (.rows 82 (r4.2.2.aH.map ay.lf))])]⟩ (Jr r3 r4 r5).den (sW (by kernel_rfl)) fun r6 _ =>
 .sj Tryz.f7 0 [1,1,1,1,0] [13,14,15] 5 3 [52] 6 (fun r_=>⟨[(55,.b_ r_)],[.dead,.dead,.dead,.dead,.dead,.dead]⟩) ⟨[(52,.b_ r6)],[.dead,.dead,.dead,.dead,.dead,.dead]⟩ (Js r6).den (sW (by kernel_rfl)) fun r7 _ =>
 .sj Tryz.f7 0 [1,1,1,1,0] [16] 5 1 [55] 6 (fun r_=>⟨[(4,.b_ r7)],[.dead,.dead,.dead,.dead,.dead,.dead]⟩) ⟨[(55,.b_ r7)],[.dead,.dead,.dead,.dead,.dead,.dead]⟩ (Jt r7).den (sW (by kernel_rfl)) fun r8 _ =>
 .ret (bC 1) (r7)
def Q17 (p_m:aj) (p_x:ah) : Option (Bool) := Mo.den (ahG p_m p_x)
theorem ajY (p_m:aj) (p_x:ah) : FV (Q17 p_m p_x) 7 [.dat (aj.lf1 p_m),.dat (ah.lf1 p_x)] (fun r=>.b_ r) := bY Tryz.func7 (by kernel_rfl) (fun _=>rfl) (by kernel_rfl)
end
end Go.Proofs.YtdnafbfmaphhhaaGreatDoor
set_option linter.unusedSimpArgs false
set_option linter.unusedVariables false
namespace Go.Proofs.YtdnafbfmaphhhaaGreatDoor
open Go.RowKit
theorem oW (s:ByteArray) (k:Nat) (h:k < s.size) : lM s (k:Int) = some s[k] := by
  unfold lM; rw [if_pos (by omega),Int.toNat_natCast]; exact getElem?_pos s k h
theorem agC {α:Type} (l:List α) (k:Nat) (h:k < l.length) : bM l (k:Int) = some l[k] := by
  rw [Cc,List.getElem?_eq_getElem h]
theorem iM {α:Type} (f : α → List Lf) {x : α} : ∀ {l:List α},x ∈ l → aW (f x) ≤ bG (l.map f)
  | y :: r,h=>by
    simp only [List.map_cons,bG]
    rcases List.mem_cons.1 h with rfl | h
    · omega
    · have := iM f h; omega
theorem gK {α:Type} (f : α → List Lf) (hf:∀ x,1 ≤ aW (f x)) : ∀ l:List α,l.length ≤ bG (l.map f)
  | []=>by simp
  | x :: r=>by have := gK f hf r; have := hf x; simp only [List.map_cons,List.length_cons,bG]; omega
theorem bT (v:ak) : aW v.lf1 = 5 + v.fText.size + bG (v.bV.map ak.lf) + bG (v.bU.map aS.lf) := by simp only [ak.lf1,aW,Lf.bulk]; omega
theorem gZ (v:aS) : aW v.lf1 = 1 + v.fName.size + aW v.fValue.lf1 := by simp only [aS.lf1,dY,aW,Lf.bulk]; omega
theorem jq (v:bf) : aW v.lf1 = 2 + bG (v.cZ.map lfS) := by simp only [bf.lf1,aW,Lf.bulk]; omega
theorem uw (v:dF) : aW v.lf1 = 2 := by simp only [dF.lf1,aW,Lf.bulk]
theorem jr (v:bZ) : aW v.lf1 = 3 + bG (v.bW.map dF.lf) := by simp only [bZ.lf1,aW,Lf.bulk]; omega
theorem fV (v:aC) : aW v.lf1 = 6 + bG (v.cZ.map lfS) + v.fName.size + bG (v.bQ.map lfS) + aW v.fArg.lf1 + bG (v.bg.map aC.lf) := by simp only [aC.lf1,dY,aW,Lf.bulk]; omega
theorem gV (v:aK) : aW v.lf1 = 6 + bG (v.cZ.map lfS) + aW v.fArg.lf1 + bG (v.fArgs.map ak.lf) + aW v.eF.lf1 + aW v.fExpr.lf1 + bG (v.bg.map aK.lf) := by simp only [aK.lf1,dY,aW,Lf.bulk]; omega
theorem gQ (v:aT) : aW v.lf1 = 6 + v.fName.size + bG (v.gu.map bf.lf) + aW v.iV.lf1 := by simp only [aT.lf1,dY,aW,Lf.bulk]; omega
theorem mJ (v:bH) : aW v.lf1 = 1 + v.fName.size + aW v.fF.lf1 := by simp only [bH.lf1,dY,aW,Lf.bulk]; omega
theorem fK (v:aB) : aW v.lf1 = 11 + aW v.sH.lf1 + aW v.sJ.lf1 + bG (v.jY.map ak.lf) + bG (v.gy.map lfS) + bG (v.dN.map bH.lf) + bG (v.fG.map aB.lf) := by simp only [aB.lf1,dY,aW,Lf.bulk]; omega
theorem jv (v:bP) : aW v.lf1 = 4 + v.fName.size + bG (v.dH.map aT.lf) + aW v.fF.lf1 := by simp only [bP.lf1,dY,aW,Lf.bulk]; omega
theorem iQ (v:aG) : aW v.lf1 = 7 + v.kM.size + aW v.mg.lf1 + aW v.bU.lf1 + aW v.gY.lf1 + aW v.ou.lf1 + aW v.aY.lf1 + v.zq.size + bG (v.dL.map aG.lf) + bG (v.eu.map lfI) := by simp only [aG.lf1,dY,aW,Lf.bulk]; omega
theorem ng (v:ay) : aW v.lf1 = 4 + v.jZ.size + aW v.iH.lf1 := by simp only [ay.lf1,dY,aW,Lf.bulk]; omega
theorem Vu (s:ByteArray) : aW (lfS s) = s.size + 1 := by simp only [lfS,aW,Lf.bulk,Nat.add_zero]
theorem ajZ (n:Int) : aW (lfI n) = 1 := by simp only [lfI,aW,Lf.bulk]
theorem fZ (l:List ak) : l.length ≤ bG (l.map ak.lf) := gK _ (fun x=>by rw [ak.aV,bT]; omega) l
theorem ig (l:List aS) : l.length ≤ bG (l.map aS.lf) := gK _ (fun x=>by rw [aS.aV,gZ]; omega) l
theorem jM (l:List bf) : l.length ≤ bG (l.map bf.lf) := gK _ (fun x=>by rw [bf.aV,jq]; omega) l
theorem jw (l:List dF) : l.length ≤ bG (l.map dF.lf) := gK _ (fun x=>by have := uw x; rw [dF.aV]; omega) l
theorem jf (l:List aC) : l.length ≤ bG (l.map aC.lf) := gK _ (fun x=>by rw [aC.aV,fV]; omega) l
theorem jE (l:List aK) : l.length ≤ bG (l.map aK.lf) := gK _ (fun x=>by rw [aK.aV,gV]; omega) l
theorem jy (l:List aT) : l.length ≤ bG (l.map aT.lf) := gK _ (fun x=>by rw [aT.aV,gQ]; omega) l
theorem jR (l:List bH) : l.length ≤ bG (l.map bH.lf) := gK _ (fun x=>by rw [bH.aV,mJ]; omega) l
theorem jA (l:List aB) : l.length ≤ bG (l.map aB.lf) := gK _ (fun x=>by rw [aB.aV,fK]; omega) l
theorem jB (l:List aG) : l.length ≤ bG (l.map aG.lf) := gK _ (fun x=>by rw [aG.aV,iQ]; omega) l
theorem jS (l:List ay) : l.length ≤ bG (l.map ay.lf) := gK _ (fun x=>by rw [ay.aV,ng]; omega) l
theorem dD (l:List ByteArray) : l.length ≤ bG (l.map lfS) := gK _ (fun x=>by rw [Vu]; omega) l
theorem iy (l:List Int) : l.length ≤ bG (l.map lfI) := gK _ (fun x=>by rw [ajZ]; omega) l
theorem ji {x:ak} {l:List ak} (h:x ∈ l) : aW x.lf1 ≤ bG (l.map ak.lf) := by rw [← ak.aV]; exact iM _ h
theorem iq {x:aS} {l:List aS} (h:x ∈ l) : aW x.lf1 ≤ bG (l.map aS.lf) := by rw [← aS.aV]; exact iM _ h
theorem kQ {x:bf} {l:List bf} (h:x ∈ l) : aW x.lf1 ≤ bG (l.map bf.lf) := iM _ h
theorem lF {x:aC} {l:List aC} (h:x ∈ l) : aW x.lf1 ≤ bG (l.map aC.lf) := by rw [← aC.aV]; exact iM _ h
theorem ni {x:aK} {l:List aK} (h:x ∈ l) : aW x.lf1 ≤ bG (l.map aK.lf) := by rw [← aK.aV]; exact iM _ h
theorem mM {x:aT} {l:List aT} (h:x ∈ l) : aW x.lf1 ≤ bG (l.map aT.lf) := iM _ h
theorem oz {x:bH} {l:List bH} (h:x ∈ l) : aW x.lf1 ≤ bG (l.map bH.lf) := by rw [← bH.aV]; exact iM _ h
theorem kR {x:aB} {l:List aB} (h:x ∈ l) : aW x.lf1 ≤ bG (l.map aB.lf) := by rw [← aB.aV]; exact iM _ h
theorem mO {x:aG} {l:List aG} (h:x ∈ l) : aW x.lf1 ≤ bG (l.map aG.lf) := by rw [← aG.aV]; exact iM _ h
theorem rY {x:ay} {l:List ay} (h:x ∈ l) : aW x.lf1 ≤ bG (l.map ay.lf) := iM _ h
theorem kZ {x:ByteArray} {l:List ByteArray} (h:x ∈ l) : x.size + 1 ≤ bG (l.map lfS) := by rw [← Vu]; exact iM _ h
/-- numbers -/
theorem gU (x:Int) : (strOfNums [x]).size = 1 := by rw [yZ]; rfl
theorem XB (n:Int) : ∃ r,Q41 n = some r ∧ r.size ≤ 11 := by
  unfold Q41 agR NZ J6 zy N7
  simp only [Mo.den,aN,aJ,aI,aP]
  have key:∀ a:Int,∃ r,((bK (fun v_:Int × ByteArray × Int=>(bif decide ((v_.2.2:Int) < 10) then some (decide ((128:Int) ≤ v_.1)) else some false).bind fun a_1=>bif a_1 then if v_.2.1.size + (strOfNums [bJ .or .u8 (IntKind.wrap .u8 (Int.tmod v_.1 128)) 128]).size ≤ 9223372036854775807 then some (.inl (IntKind.wrap .u64 (Int.tdiv v_.1 128),v_.2.1 ++ strOfNums [bJ .or .u8 (IntKind.wrap .u8 (Int.tmod v_.1 128)) 128],IntKind.wrap .i64 (v_.2.2 + 1))) else none else some (.inr (v_.1,v_.2.1))) FU (a,⟨#[]⟩,0)) = some r) ∧ (r:Int × ByteArray).2.size ≤ 10 := by
    intro a
    refine Ce 10 (by omega) (fun (k:Nat) (v:Int × ByteArray × Int)=>v.2.2 = (k:Int) ∧ v.2.1.size = k) (fun (r:Int × ByteArray)=>r.2.size ≤ 10) ⟨rfl,rfl⟩ ?_ ?_
    · rintro k ⟨u,s,i⟩ hk ⟨h1,h2⟩
      simp only at h1 h2
      subst h1
      simp only [decide_eq_true (show (k:Int) < 10 by omega),cond_true,Option.bind_some]
      cases decide ((128:Int) ≤ u) with
      | true =>
        left
        simp only [cond_true,gU,h2]
        rw [if_pos (by omega)]
        exact ⟨_,rfl,inc k (by omega),by rw [ByteArray.size_append,gU,h2]⟩
      | false=>right; exact ⟨_,rfl,by simp only; omega⟩
    · rintro ⟨u,s,i⟩ ⟨h1,h2⟩
      simp only at h1 h2
      subst h1
      exact ⟨_,rfl,by simp only; omega⟩
  have fin:∀ a:Int,∃ r,(Option.bind (bK (fun v_:Int × ByteArray × Int=>(bif decide ((v_.2.2:Int) < 10) then some (decide ((128:Int) ≤ v_.1)) else some false).bind fun a_1=>bif a_1 then if v_.2.1.size + (strOfNums [bJ .or .u8 (IntKind.wrap .u8 (Int.tmod v_.1 128)) 128]).size ≤ 9223372036854775807 then some (.inl (IntKind.wrap .u64 (Int.tdiv v_.1 128),v_.2.1 ++ strOfNums [bJ .or .u8 (IntKind.wrap .u8 (Int.tmod v_.1 128)) 128],IntKind.wrap .i64 (v_.2.2 + 1))) else none else some (.inr (v_.1,v_.2.1))) FU (a,⟨#[]⟩,0)) (fun r:Int × ByteArray=>if r.2.size + (strOfNums [IntKind.wrap .u8 r.1]).size ≤ 9223372036854775807 then some (r.2 ++ strOfNums [IntKind.wrap .u8 r.1]) else none)) = some r ∧ r.size ≤ 11 := by
    intro a
    obtain ⟨r,h1,h2⟩ := key a
    rw [h1]
    simp only [Option.bind_some,gU]
    rw [if_pos (by omega)]
    exact ⟨_,rfl,by rw [ByteArray.size_append,gU]; omega⟩
  cases decide (n < 0)
  · exact fin _
  · exact fin _
noncomputable def EC (n:Int) : ByteArray := (Q41 n).getD ⟨#[]⟩
theorem Lh (n:Int) : Q41 n = some (EC n) := by
  obtain ⟨r,h,_⟩ := XB n
  unfold EC; rw [h]; rfl
theorem rZ (n:Int) : (EC n).size ≤ 11 := by
  obtain ⟨r,h,h2⟩ := XB n
  unfold EC; rw [h]; exact h2
end Go.Proofs.YtdnafbfmaphhhaaGreatDoor
set_option linter.unusedSimpArgs false
set_option linter.unusedVariables false
namespace Go.Proofs.YtdnafbfmaphhhaaGreatDoor
open Go.RowKit
theorem kS : 1152921504606846975 < FU := by unfold FU; omega
def Tot {ρ:Type} (m:Option ρ) (Q : ρ → Prop) : Prop := ∃ r,m = some r ∧ Q r
def LP {σ ρ:Type} (P : σ → Prop) (Q : ρ → Prop) : σ ⊕ ρ → Prop
  | .inl s=>P s
  | .inr r=>Q r
def Any {ρ:Type} : ρ → Prop := fun _=>True
namespace T
variable {ρ α σ:Type}
theorem ret {Q : ρ → Prop} {r : ρ} (h:Q r) : Tot (some r) Q := ⟨r,rfl,h⟩
theorem any {r : ρ} : Tot (some r) Any := ⟨r,rfl,trivial⟩
theorem bind {m:Option α} {R : α → Prop} {k : α → Option ρ} {Q : ρ → Prop} (h:Tot m R) (h2:∀ a,R a → Tot (k a) Q) : Tot (m.bind k) Q := by
  obtain ⟨a,rfl,ha⟩ := h
  exact h2 a ha
theorem ite {b:Bool} {x y:Option ρ} {Q : ρ → Prop} (h1:b = true → Tot x Q) (h2:b = false → Tot y Q) : Tot (bif b then x else y) Q := by
  cases b
  · exact h2 rfl
  · exact h1 rfl
theorem grd {p:Prop} [Decidable p] {x:Option ρ} {Q : ρ → Prop} (h:p) (h2:Tot x Q) : Tot (if p then x else none) Q := by
  rw [if_pos h]; exact h2
theorem mono {m:Option ρ} {Q R : ρ → Prop} (h:Tot m Q) (h2:∀ r,Q r → R r) : Tot m R := by
  obtain ⟨r,h1,h3⟩ := h; exact ⟨r,h1,h2 r h3⟩
theorem wk {m:Option ρ} {Q : ρ → Prop} (h:Tot m Q) : Tot m Any := mono h fun _ _=>trivial
theorem val {m:Option ρ} {r : ρ} (h:m = some r) : Tot m (fun x=>x = r) := ⟨r,h,rfl⟩
theorem yP {T : σ → Option (σ ⊕ ρ)} {s0 : σ} (n:Nat) (hn:n ≤ 1000000000) (P:Nat → σ → Prop) (Q : ρ → Prop) (h0:P 0 s0) (step:∀ k s,k < n → P k s → Tot (T s) (LP (P (k + 1)) Q)) (fin:∀ s,P n s → Tot (T s) (LP (fun _=>False) Q)) : Tot (bK T FU s0) Q := by
  refine Ce n hn P Q h0 ?_ ?_
  · intro k s hk hP
    obtain ⟨r,h1,h2⟩ := step k s hk hP
    rcases r with v | r
    · exact .inl ⟨v,h1,h2⟩
    · exact .inr ⟨r,h1,h2⟩
  · intro s hP
    obtain ⟨r,h1,h2⟩ := fin s hP
    rcases r with v | r
    · exact h2.elim
    · exact ⟨r,h1,h2⟩
/-- a loop that counts and nothing else -/
theorem Zo {T:Int → Option (Int ⊕ ρ)} (n:Nat) (hn:n ≤ 1000000000) (Q : ρ → Prop) (step:∀ k:Nat,k < n → Tot (T (k:Int)) (LP (fun v=>v = IntKind.wrap .i64 ((k:Int) + 1)) Q)) (fin:Tot (T (n:Int)) (LP (fun _=>False) Q)) : Tot (bK T FU 0) Q :=
  yP n hn (fun k v=>v = (k:Int)) Q rfl (fun k s hk hs=>by
    obtain rfl:s = (k:Int) := hs
    refine mono (step k hk) ?_
    rintro (v | r) h
    · exact (show v = _ from h).trans (inc k (by omega))
    · exact h) (fun s hs=>by
    obtain rfl:s = (n:Int) := hs
    exact fin)
/-- the same, over a list of which each element ends -/
theorem Zp {T:Int → Option (Int ⊕ ρ)} (l:List α) (hn:l.length ≤ 1000000000) (Q : ρ → Prop) (step:∀ (k:Nat) x,l[k]? = some x → Tot (T (k:Int)) (LP (fun v=>v = IntKind.wrap .i64 ((k:Int) + 1)) Q)) (fin:Tot (T (l.length:Int)) (LP (fun _=>False) Q)) : Tot (bK T FU 0) Q :=
  Zo l.length hn Q (fun k hk=>step k _ (List.getElem?_eq_getElem hk)) fin
end T
theorem ltt {α:Type} {l:List α} {k:Nat} {x : α} (h:l[k]? = some x) : decide ((k:Int) < (l.length:Int)) = true := iLt (List.getElem?_eq_some_iff.1 h).1
theorem ltn (n:Nat) : decide ((n:Int) < (n:Int)) = false := XY (Nat.lt_irrefl _)
theorem gid {α:Type} {l:List α} {k:Nat} {x : α} (h:l[k]? = some x) : bM l (k:Int) = some x := by rw [Cc,h]
theorem jO {α:Type} {l:List α} {k:Nat} {x : α} (h:l[k]? = some x) : x ∈ l := List.mem_of_getElem? h
theorem Vw {α:Type} {l:List α} {k:Nat} {x : α} (h:l[k]? = some x) : k < l.length := (List.getElem?_eq_some_iff.1 h).1
theorem su (l m:List (List Lf)) : bG (l ++ m) = bG l + bG m := by
  induction l with
  | nil=>simp [bG]
  | cons x l ih=>simp only [List.cons_append,bG,ih]; omega
theorem ED {α:Type} (f : α → List Lf) {l:List α} {k:Nat} {x : α} (h:l[k]? = some x) : bG ((l.take (k + 1)).map f) = bG ((l.take k).map f) + aW (f x) := by
  have hk := Vw h
  rw [List.take_succ_eq_append_getElem hk,List.map_append,su]
  have:l[k] = x := by rw [List.getElem?_eq_getElem hk] at h; injection h
  simp only [this,List.map_cons,List.map_nil,bG]; omega
theorem lq {α:Type} (f : α → List Lf) (l:List α) (k:Nat) : bG ((l.take k).map f) ≤ bG (l.map f) := by
  have := su ((l.take k).map f) ((l.drop k).map f)
  rw [← List.map_append,List.take_append_drop] at this; omega
/-- for the printed proofs -/
def MT {ρ:Type} (t:Mo ρ) (Q : ρ → Prop) : Prop := Tot t.den Q
namespace MT
variable {ρ α β γ:Type}
theorem ret {f:Fit} {r : ρ} {Q : ρ → Prop} (h:Q r) : MT (.ret f r) Q := ⟨r,rfl,h⟩
theorem any {f:Fit} {r : ρ} : MT (.ret f r) Any := ⟨r,rfl,trivial⟩
theorem say {qs:List Ans} {Φ:List Prop} {ok:dQ Φ} {k:Mo ρ} {Q : ρ → Prop} (h:MT k Q) : MT (.say qs ok k) Q := h
theorem ite {b:Bool} {t:b = true → Mo ρ} {e:b = false → Mo ρ} {Q : ρ → Prop} (h1:∀ h,MT (t h) Q) (h2:∀ h,MT (e h) Q) : MT (.ite b t e) Q := by
  cases b
  · exact h2 rfl
  · exact h1 rfl
theorem grd {p:Prop} [d:Decidable p] {k:p → Mo ρ} {Q : ρ → Prop} (h:p) (h2:∀ h,MT (k h) Q) : MT (.grd p k) Q := by
  unfold MT Tot
  show ∃ r,Gq p _ = some r ∧ Q r
  unfold Gq
  cases d with
  | isTrue hh=>exact h2 hh
  | isFalse hh=>exact absurd h hh
theorem ask {m:Option α} {k:(a : α) → m = some a → Mo ρ} {R : α → Prop} {Q : ρ → Prop} (h:Tot m R) (h2:∀ a h,R a → MT (k a h) Q) : MT (.ask m k) Q := by
  obtain ⟨a,rfl,ha⟩ := h
  exact h2 a rfl ha
theorem eP {m:Option (α ⊕ β)} {k1:(a : α) → m = some (.inl a) → Mo ρ} {k2:(b : β) → m = some (.inr b) → Mo ρ} {R : α ⊕ β → Prop} {Q : ρ → Prop} (h:Tot m R) (h1:∀ a h,R (.inl a) → MT (k1 a h) Q) (h2:∀ b h,R (.inr b) → MT (k2 b h) Q) : MT (.eP m k1 k2) Q := by
  obtain ⟨a,rfl,ha⟩ := h
  rcases a with a | a
  · exact h1 a rfl ha
  · exact h2 a rfl ha
theorem XU {m:Option (α ⊕ β ⊕ γ)} {k1:(a : α) → m = some (.inl a) → Mo ρ} {k2:(b : β) → m = some (.inr (.inl b)) → Mo ρ} {k3:(c : γ) → m = some (.inr (.inr c)) → Mo ρ} {R : α ⊕ β ⊕ γ → Prop} {Q : ρ → Prop} (h:Tot m R) (h1:∀ a h,R (.inl a) → MT (k1 a h) Q) (h2:∀ b h,R (.inr (.inl b)) → MT (k2 b h) Q) (h3:∀ b h,R (.inr (.inr b)) → MT (k3 b h) Q) : MT (.XU m k1 k2 k3) Q := by
  obtain ⟨a,rfl,ha⟩ := h
  rcases a with a | a | a
  · exact h1 a rfl ha
  · exact h2 a rfl ha
  · exact h3 a rfl ha
end MT
/-- a call, shut -/
structure Clo {ρ:Type} (m:Option ρ) : Prop where
  h:Tot m Any
namespace MT
variable {ρ α β γ:Type}
theorem qC {m:Option α} {k:(a : α) → m = some a → Mo ρ} {Q : ρ → Prop} (h:Clo m) (h2:∀ a h,MT (k a h) Q) : MT (.ask m k) Q := ask h.h fun a h _=>h2 a h
end MT
theorem dG {α:Type} (l:List α) (i:Int) (h0 : 0 ≤ i) (h1:i < l.length) : Tot (bM l i) (fun x=>x ∈ l) := by
  obtain ⟨x,h2,h3⟩ := JZ h0 h1
  exact ⟨x,h2,List.mem_of_getElem? h3⟩
namespace T
variable {ρ σ:Type}
theorem aj0 {T : σ → Option (σ ⊕ ρ)} {s0 : σ} (c : σ → Int) (P : σ → Prop) (Q : ρ → Prop) (h0:c s0 = 0) (hP:P s0) (step:∀ (k:Nat) s,k ≤ 100000000 → c s = k → P s → Tot (T s) (LP (fun v=>c v = IntKind.wrap .i64 ((k:Int) + 1) ∧ P v ∧ k < 100000000) Q)) : Tot (bK T FU s0) Q := by
  refine uf (fun s=>0 ≤ c s ∧ c s ≤ 100000000 ∧ P s) (fun s=>100000000 - (c s).toNat) Q ?_ FU s0 ⟨by omega,by omega,hP⟩ (by have := kS; omega)
  rintro s ⟨h1,h2,h3⟩
  obtain ⟨r,h4,h5⟩ := step (c s).toNat s (by omega) (by omega) h3
  rcases r with v | r
  · have h5:c v = IntKind.wrap .i64 (((c s).toNat:Int) + 1) ∧ P v ∧ (c s).toNat < 100000000 := h5
    have h6 := h5.1
    rw [inc _ (by omega)] at h6
    exact .inl ⟨v,h4,⟨by omega,by omega,h5.2.1⟩,by omega⟩
  · exact .inr ⟨r,h4,h5⟩
theorem cnt {T:Int → Option (Int ⊕ ρ)} (Q : ρ → Prop) (step:∀ k:Nat,k ≤ 100000000 → Tot (T (k:Int)) (LP (fun v=>v = IntKind.wrap .i64 ((k:Int) + 1) ∧ k < 100000000) Q)) : Tot (bK T FU 0) Q :=
  aj0 (fun v=>v) (fun _=>True) Q rfl trivial fun k s hk hs _=>by
    obtain rfl:s = (k:Int) := hs
    refine mono (step k hk) ?_
    rintro (v | r) h
    · exact ⟨h.1,trivial,h.2⟩
    · exact h
theorem agD {α:Type} {T : α × Int → Option ((α × Int) ⊕ ρ)} {a : α} (Q : ρ → Prop) (step:∀ (a : α) (k:Nat),k ≤ 100000000 → Tot (T (a,(k:Int))) (LP (fun v=>v.2 = IntKind.wrap .i64 ((k:Int) + 1) ∧ k < 100000000) Q)) : Tot (bK T FU (a,0)) Q :=
  aj0 (fun v=>v.2) (fun _=>True) Q rfl trivial fun k s hk hs _=>by
    obtain ⟨a,i⟩ := s
    obtain rfl:i = (k:Int) := hs
    refine mono (step a k hk) ?_
    rintro (v | r) h
    · exact ⟨h.1,trivial,h.2⟩
    · exact h
theorem aeJ {α:Type} {T:Int × α → Option ((Int × α) ⊕ ρ)} {a : α} (Q : ρ → Prop) (step:∀ (k:Nat) (a : α),k ≤ 100000000 → Tot (T ((k:Int),a)) (LP (fun v=>v.1 = IntKind.wrap .i64 ((k:Int) + 1) ∧ k < 100000000) Q)) : Tot (bK T FU (0,a)) Q :=
  aj0 (fun v=>v.1) (fun _=>True) Q rfl trivial fun k s hk hs _=>by
    obtain ⟨i,a⟩ := s
    obtain rfl:i = (k:Int) := hs
    refine mono (step k a hk) ?_
    rintro (v | r) h
    · exact ⟨h.1,trivial,h.2⟩
    · exact h
end T
end Go.Proofs.YtdnafbfmaphhhaaGreatDoor
set_option linter.unusedSimpArgs false
set_option linter.unusedVariables false
namespace Go.Proofs.YtdnafbfmaphhhaaGreatDoor
open Go.RowKit
theorem gX (v:aj) : aW v.lf1 = 12 + bG (v.aQ.map ay.lf) + bG (v.fNext.map lfI) + bG (v.bn.map lfI) := by simp only [aj.lf1,dY,aW,Lf.bulk]; omega
theorem fE {α:Type} (l:List α) (c : α → Option α) (z:List α) (T0:Int × List α → Option ((Int × List α) ⊕ List α)) (hz:z.length = l.length) (hl:l.length ≤ 1000000000) (hc:∀ x ∈ l,c x = some x)
    (hT:∀ (k:Nat) (s:List α),T0 ((k:Int),s) = bif decide ((k:Int) < (l.length:Int)) then (bM l (k:Int)).bind fun x=>(c x).bind fun r=>(bM s (k:Int)).bind fun _=>some (.inl (IntKind.wrap .i64 ((k:Int) + 1),s.set (k:Int).toNat r)) else some (.inr s)) :
    bK T0 FU (0,z) = some l := by
  have:Tot (bK T0 FU (0,z)) (fun r=>r = l) := by
    refine T.yP l.length hl (fun k s=>s.1 = (k:Int) ∧ s.2.length = l.length ∧ ∀ j,j < k → s.2[j]? = l[j]?) _ ⟨rfl,hz,fun j h=>by omega⟩ ?_ ?_
    · rintro k ⟨i,s⟩ hk ⟨h1,h2,h3⟩
      obtain rfl:i = (k:Int) := h1
      have h2:s.length = l.length := h2
      have hx := List.getElem?_eq_getElem hk
      have hy := List.getElem?_eq_getElem (show k < s.length by omega)
      rw [hT]
      simp only [ltt hx,gid hx,gid hy,cond_true,Option.bind_some,hc _ (jO hx),Int.toNat_natCast]
      refine T.ret ⟨inc k (by omega),by simp [h2],fun j hj=>?_⟩
      show (s.set k l[k])[j]? = l[j]?
      rcases Nat.lt_succ_iff_lt_or_eq.1 hj with h | rfl
      · rw [List.getElem?_set_ne (by omega)]; exact h3 j h
      · rw [List.getElem?_set_self (by omega),hx]
    · rintro ⟨i,s⟩ ⟨h1,h2,h3⟩
      obtain rfl:i = (l.length:Int) := h1
      have h2:s.length = l.length := h2
      rw [hT]
      simp only [ltn,cond_false]
      refine T.ret (show s = l from List.ext_getElem? fun j=>?_)
      by_cases hj:j < l.length
      · exact h3 j hj
      · rw [List.getElem?_eq_none (by omega),List.getElem?_eq_none (by omega)]
  obtain ⟨r,h,rfl⟩ := this
  exact h
theorem dR {α:Type} (l:List α) (p:Prop) [Decidable p] (hp:p) : (bif ((l.length:Int) == 0) then some [] else if p then (some l).bind (fun a=>some a) else none) = some l := by
  rw [if_pos hp]
  cases l with
  | nil=>rfl
  | cons x r =>
    rw [show (((x :: r).length:Int) == 0) = false by simp; omega]
    rfl
end Go.Proofs.YtdnafbfmaphhhaaGreatDoor
set_option linter.unusedSimpArgs false
set_option linter.unusedVariables false
namespace Go.Proofs.YtdnafbfmaphhhaaGreatDoor
open Go.RowKit
theorem kE (n_:Nat) : (∀ p_v:ak,4 * aW p_v.lf1 + 0 < n_ → aW p_v.lf1 ≤ 100000000 → (iD n_).m1 p_v = some p_v) ∧ (∀ p_l:List ak,4 * bG (p_l.map ak.lf) + 1 < n_ → bG (p_l.map ak.lf) ≤ 100000000 → (iD n_).m2 p_l = some p_l) ∧ (∀ p_l:List aS,4 * bG (p_l.map aS.lf) + 2 < n_ → bG (p_l.map aS.lf) ≤ 100000000 → (iD n_).m3 p_l = some p_l) ∧ (∀ p_f:aS,4 * aW p_f.lf1 + 1 < n_ → aW p_f.lf1 ≤ 100000000 → (iD n_).m4 p_f = some p_f) := by
  induction n_ with
  | zero=>exact ⟨fun _ h=>by omega,fun _ h=>by omega,fun _ h=>by omega,fun _ h=>by omega⟩
  | succ n_ ih =>
    refine ⟨?_,?_,?_,?_⟩
    · intro p_v h_ h2_
      have hbv := bT p_v
      have := ig p_v.bU
      have := fZ p_v.bV
      have e0 := (ih.2.1 p_v.bV (by omega) (by omega))
      have e1 := (ih.2.2.1 p_v.bU (by omega) (by omega))
      simp only [iD,ace,Mo.den,aI,aN,aJ,aP,e0,e1,Option.bind_some,List.length_nil]
      all_goals (cases p_v; rfl)
    · intro p_l h_ h2_
      have hl := fZ p_l
      have h1:acf (iD n_) p_l 0 (List.replicate (p_l.length:Int).toNat (ak.mk 0 0 ⟨#[]⟩ [] [])) = some p_l := fE p_l (fun x=>(iD n_).m1 x) _ _ (by simp) (by omega) (fun x hx=>ih.1 x (by have := ji hx; omega) (by have := ji hx; omega)) (fun k s=>by simp only [QZ,Mo.den,aI,aN,aJ,aP])
      simp only [iD,acg,Mo.den,aI,aN,aJ,aP,h1]
      exact dR p_l _ ⟨by omega,by omega,by unfold maxLen; omega⟩
    · intro p_l h_ h2_
      have hl := ig p_l
      have h1:ach (iD n_) p_l 0 (List.replicate (p_l.length:Int).toNat (aS.mk ⟨#[]⟩ (ak.mk 0 0 ⟨#[]⟩ [] []))) = some p_l := fE p_l (fun x=>(iD n_).m4 x) _ _ (by simp) (by omega) (fun x hx=>ih.2.2.2 x (by have := iq hx; omega) (by have := iq hx; omega)) (fun k s=>by simp only [Rf,Mo.den,aI,aN,aJ,aP])
      simp only [iD,aci,Mo.den,aI,aN,aJ,aP,h1]
      exact dR p_l _ ⟨by omega,by omega,by unfold maxLen; omega⟩
    · intro p_f h_ h2_
      have hbv := gZ p_f
      have := bT p_f.fValue
      have e0 := (ih.1 p_f.fValue (by omega) (by omega))
      simp only [iD,UE,Mo.den,aI,aN,aJ,aP,e0,Option.bind_some,List.length_nil]
      all_goals (cases p_f; rfl)
theorem eU (p_v:ak) (h_:aW p_v.lf1 ≤ 100000000) : Q87 p_v = some p_v := (kE FU).1 p_v (jQ (by omega)) h_
theorem iY (p_l:List ak) (h_:bG (p_l.map ak.lf) ≤ 100000000) : Q63 p_l = some p_l := (kE FU).2.1 p_l (jQ (by omega)) h_
theorem gB (p_l:List ByteArray) (h_:bG (p_l.map lfS) ≤ 100000000) : ai6 p_l = some p_l := by
  have hl := dD p_l
  simp only [ai6,aco,Mo.den,aI,aN,aJ,aP,Option.bind_some,List.length_nil]
  rw [if_pos (by omega)]
  try rfl
theorem pG (p_o:bf) (h_:aW p_o.lf1 ≤ 100000000) : afr p_o = some p_o := by
  have hbv := jq p_o
  have := dD p_o.cZ
  have e0 := (gB p_o.cZ (by omega))
  simp only [afr,acp,Mo.den,aI,aN,aJ,aP,e0,Option.bind_some,List.length_nil]
  all_goals (cases p_o; rfl)
theorem lG (p_l:List bf) (h_:bG (p_l.map bf.lf) ≤ 100000000) : Q78 p_l = some p_l := by
  have hl := jM p_l
  have h1:acr p_l 0 (List.replicate (p_l.length:Int).toNat (bf.mk [] false)) = some p_l := fE p_l (fun x=>afr x) _ _ (by simp) (by omega) (fun x hx=>pG x (by have := kQ hx; omega)) (fun k s=>by simp only [Rh,Mo.den,aI,aN,aJ,aP])
  simp only [Q78,ahq,Mo.den,aI,aN,aJ,aP,h1]
  exact dR p_l _ ⟨by omega,by omega,by unfold maxLen; omega⟩
theorem pI (n_:Nat) : (∀ p_e:aC,4 * aW p_e.lf1 + 0 < n_ → aW p_e.lf1 ≤ 100000000 → (lN n_).m1 p_e = some p_e) ∧ (∀ p_l:List aC,4 * bG (p_l.map aC.lf) + 1 < n_ → bG (p_l.map aC.lf) ≤ 100000000 → (lN n_).m2 p_l = some p_l) := by
  induction n_ with
  | zero=>exact ⟨fun _ h=>by omega,fun _ h=>by omega⟩
  | succ n_ ih =>
    refine ⟨?_,?_⟩
    · intro p_e h_ h2_
      have hbv := fV p_e
      have := bT p_e.fArg
      have := jf p_e.bg
      have := dD p_e.bQ
      have := dD p_e.cZ
      have e0 := (gB p_e.cZ (by omega))
      have e1 := (gB p_e.bQ (by omega))
      have e2 := (eU p_e.fArg (by omega))
      have e3 := (ih.2 p_e.bg (by omega) (by omega))
      simp only [lN,UG,Mo.den,aI,aN,aJ,aP,e0,e1,e2,e3,Option.bind_some,List.length_nil]
      all_goals (cases p_e; rfl)
    · intro p_l h_ h2_
      have hl := jf p_l
      have h1:acu (lN n_) p_l 0 (List.replicate (p_l.length:Int).toNat aC.z) = some p_l := fE p_l (fun x=>(lN n_).m1 x) _ _ (by simp) (by omega) (fun x hx=>ih.1 x (by have := lF hx; omega) (by have := lF hx; omega)) (fun k s=>by simp only [Ri,Mo.den,aI,aN,aJ,aP])
      simp only [lN,acv,Mo.den,aI,aN,aJ,aP,h1]
      exact dR p_l _ ⟨by omega,by omega,by unfold maxLen; omega⟩
theorem qE (p_e:aC) (h_:aW p_e.lf1 ≤ 100000000) : akS p_e = some p_e := (pI FU).1 p_e (jQ (by omega)) h_
theorem pJ (n_:Nat) : (∀ p_p:aK,4 * aW p_p.lf1 + 0 < n_ → aW p_p.lf1 ≤ 100000000 → (lQ n_).m1 p_p = some p_p) ∧ (∀ p_l:List aK,4 * bG (p_l.map aK.lf) + 1 < n_ → bG (p_l.map aK.lf) ≤ 100000000 → (lQ n_).m2 p_l = some p_l) := by
  induction n_ with
  | zero=>exact ⟨fun _ h=>by omega,fun _ h=>by omega⟩
  | succ n_ ih =>
    refine ⟨?_,?_⟩
    · intro p_p h_ h2_
      have hbv := gV p_p
      have := bT p_p.fArg
      have := fZ p_p.fArgs
      have := fV p_p.fExpr
      have := jE p_p.bg
      have := dD p_p.cZ
      have := jr p_p.eF
      have := jw p_p.eF.bW
      have := jw p_p.eF.bW
      have e0 := (gB p_p.cZ (by omega))
      have e1 := (eU p_p.fArg (by omega))
      have e2 := (iY p_p.fArgs (by omega))
      have e3 := (qE p_p.fExpr (by omega))
      have e4 := (ih.2 p_p.bg (by omega) (by omega))
      simp only [lQ,UJ,Mo.den,aI,aN,aJ,aP,e0,e1,e2,e3,e4,Option.bind_some,List.length_nil]
      rw [if_pos (by omega)]
      all_goals (cases p_p; rfl)
    · intro p_l h_ h2_
      have hl := jE p_l
      have h1:acy (lQ n_) p_l 0 (List.replicate (p_l.length:Int).toNat aK.z) = some p_l := fE p_l (fun x=>(lQ n_).m1 x) _ _ (by simp) (by omega) (fun x hx=>ih.1 x (by have := ni hx; omega) (by have := ni hx; omega)) (fun k s=>by simp only [Rj,Mo.den,aI,aN,aJ,aP])
      simp only [lQ,acz,Mo.den,aI,aN,aJ,aP,h1]
      exact dR p_l _ ⟨by omega,by omega,by unfold maxLen; omega⟩
theorem qF (p_p:aK) (h_:aW p_p.lf1 ≤ 100000000) : ai8 p_p = some p_p := (pJ FU).1 p_p (jQ (by omega)) h_
theorem kK (p_x:aT) (h_:aW p_x.lf1 ≤ 100000000) : afx p_x = some p_x := by
  have hbv := gQ p_x
  have := jM p_x.gu
  have := gV p_x.iV
  have e0 := (lG p_x.gu (by omega))
  have e1 := (qF p_x.iV (by omega))
  simp only [afx,acA,Mo.den,aI,aN,aJ,aP,e0,e1,Option.bind_some,List.length_nil]
  all_goals (cases p_x; rfl)
theorem lH (p_l:List aT) (h_:bG (p_l.map aT.lf) ≤ 100000000) : Q79 p_l = some p_l := by
  have hl := jy p_l
  have h1:acB p_l 0 (List.replicate (p_l.length:Int).toNat aT.z) = some p_l := fE p_l (fun x=>afx x) _ _ (by simp) (by omega) (fun x hx=>kK x (by have := mM hx; omega)) (fun k s=>by simp only [Rk,Mo.den,aI,aN,aJ,aP])
  simp only [Q79,ahr,Mo.den,aI,aN,aJ,aP,h1]
  exact dR p_l _ ⟨by omega,by omega,by unfold maxLen; omega⟩
theorem oC (n_:Nat) : (∀ p_s:aB,4 * aW p_s.lf1 + 0 < n_ → aW p_s.lf1 ≤ 100000000 → (iK n_).m1 p_s = some p_s) ∧ (∀ p_l:List bH,4 * bG (p_l.map bH.lf) + 2 < n_ → bG (p_l.map bH.lf) ≤ 100000000 → (iK n_).m2 p_l = some p_l) ∧ (∀ p_l:List aB,4 * bG (p_l.map aB.lf) + 1 < n_ → bG (p_l.map aB.lf) ≤ 100000000 → (iK n_).m3 p_l = some p_l) ∧ (∀ p_p:bH,4 * aW p_p.lf1 + 1 < n_ → aW p_p.lf1 ≤ 100000000 → (iK n_).m4 p_p = some p_p) := by
  induction n_ with
  | zero=>exact ⟨fun _ h=>by omega,fun _ h=>by omega,fun _ h=>by omega,fun _ h=>by omega⟩
  | succ n_ ih =>
    refine ⟨?_,?_,?_,?_⟩
    · intro p_s h_ h2_
      have hbv := fK p_s
      have := fZ p_s.jY
      have := jA p_s.fG
      have := bT p_s.sJ
      have := bT p_s.sH
      have := jR p_s.dN
      have := dD p_s.gy
      have e0 := (eU p_s.sH (by omega))
      have e1 := (eU p_s.sJ (by omega))
      have e2 := (iY p_s.jY (by omega))
      have e3 := (gB p_s.gy (by omega))
      have e4 := (ih.2.1 p_s.dN (by omega) (by omega))
      have e5 := (ih.2.2.1 p_s.fG (by omega) (by omega))
      simp only [iK,UK,Mo.den,aI,aN,aJ,aP,e0,e1,e2,e3,e4,e5,Option.bind_some,List.length_nil]
      all_goals (cases p_s; rfl)
    · intro p_l h_ h2_
      have hl := jR p_l
      have h1:Xl (iK n_) p_l 0 (List.replicate (p_l.length:Int).toNat (bH.mk ⟨#[]⟩ aB.z)) = some p_l := fE p_l (fun x=>(iK n_).m4 x) _ _ (by simp) (by omega) (fun x hx=>ih.2.2.2 x (by have := oz hx; omega) (by have := oz hx; omega)) (fun k s=>by simp only [IV,Mo.den,aI,aN,aJ,aP])
      simp only [iK,UL,Mo.den,aI,aN,aJ,aP,h1]
      exact dR p_l _ ⟨by omega,by omega,by unfold maxLen; omega⟩
    · intro p_l h_ h2_
      have hl := jA p_l
      have h1:acE (iK n_) p_l 0 (List.replicate (p_l.length:Int).toNat aB.z) = some p_l := fE p_l (fun x=>(iK n_).m1 x) _ _ (by simp) (by omega) (fun x hx=>ih.1 x (by have := kR hx; omega) (by have := kR hx; omega)) (fun k s=>by simp only [Rl,Mo.den,aI,aN,aJ,aP])
      simp only [iK,acF,Mo.den,aI,aN,aJ,aP,h1]
      exact dR p_l _ ⟨by omega,by omega,by unfold maxLen; omega⟩
    · intro p_p h_ h2_
      have hbv := mJ p_p
      have := fK p_p.fF
      have e0 := (ih.1 p_p.fF (by omega) (by omega))
      simp only [iK,UM,Mo.den,aI,aN,aJ,aP,e0,Option.bind_some,List.length_nil]
      all_goals (cases p_p; rfl)
theorem oZ (p_s:aB) (h_:aW p_s.lf1 ≤ 100000000) : aja p_s = some p_s := (oC FU).1 p_s (jQ (by omega)) h_
theorem pK (p_d:bP) (h_:aW p_d.lf1 ≤ 100000000) : ajb p_d = some p_d := by
  have hbv := jv p_d
  have := jy p_d.dH
  have := fK p_d.fF
  have e0 := (lH p_d.dH (by omega))
  have e1 := (oZ p_d.fF (by omega))
  simp only [ajb,acH,Mo.den,aI,aN,aJ,aP,e0,e1,Option.bind_some,List.length_nil]
  all_goals (cases p_d; rfl)
theorem jC (p_l:List Int) (h_:bG (p_l.map lfI) ≤ 100000000) : afB p_l = some p_l := by
  have hl := iy p_l
  simp only [afB,acI,Mo.den,aI,aN,aJ,aP,Option.bind_some,List.length_nil]
  rw [if_pos (by omega)]
  try rfl
theorem o7 (n_:Nat) : (∀ p_w:aG,4 * aW p_w.lf1 + 0 < n_ → aW p_w.lf1 ≤ 100000000 → (lS n_).m1 p_w = some p_w) ∧ (∀ p_l:List aG,4 * bG (p_l.map aG.lf) + 1 < n_ → bG (p_l.map aG.lf) ≤ 100000000 → (lS n_).m2 p_l = some p_l) := by
  induction n_ with
  | zero=>exact ⟨fun _ h=>by omega,fun _ h=>by omega⟩
  | succ n_ ih =>
    refine ⟨?_,?_⟩
    · intro p_w h_ h2_
      have hbv := iQ p_w
      have := bT p_w.gY
      have := jv p_w.ou
      have := bT p_w.bU
      have := gQ p_w.aY
      have := bT p_w.mg
      have := iy p_w.eu
      have := jB p_w.dL
      have e0 := (eU p_w.mg (by omega))
      have e1 := (eU p_w.bU (by omega))
      have e2 := (eU p_w.gY (by omega))
      have e3 := (pK p_w.ou (by omega))
      have e4 := (kK p_w.aY (by omega))
      have e5 := (ih.2 p_w.dL (by omega) (by omega))
      have e6 := (jC p_w.eu (by omega))
      simp only [lS,UO,Mo.den,aI,aN,aJ,aP,e0,e1,e2,e3,e4,e5,e6,Option.bind_some,List.length_nil]
      all_goals (cases p_w; rfl)
    · intro p_l h_ h2_
      have hl := jB p_l
      have h1:acK (lS n_) p_l 0 (List.replicate (p_l.length:Int).toNat aG.z) = some p_l := fE p_l (fun x=>(lS n_).m1 x) _ _ (by simp) (by omega) (fun x hx=>ih.1 x (by have := mO hx; omega) (by have := mO hx; omega)) (fun k s=>by simp only [Rn,Mo.den,aI,aN,aJ,aP])
      simp only [lS,acL,Mo.den,aI,aN,aJ,aP,h1]
      exact dR p_l _ ⟨by omega,by omega,by unfold maxLen; omega⟩
theorem pO (p_w:aG) (h_:aW p_w.lf1 ≤ 100000000) : akT p_w = some p_w := (o7 FU).1 p_w (jQ (by omega)) h_
theorem pR (p_e:ay) (h_:aW p_e.lf1 ≤ 100000000) : afE p_e = some p_e := by
  have hbv := ng p_e
  have := iQ p_e.iH
  have e0 := (pO p_e.iH (by omega))
  simp only [afE,acM,Mo.den,aI,aN,aJ,aP,e0,Option.bind_some,List.length_nil]
  all_goals (cases p_e; rfl)
theorem lI (p_l:List ay) (h_:bG (p_l.map ay.lf) ≤ 100000000) : Q80 p_l = some p_l := by
  have hl := jS p_l
  have h1:acN p_l 0 (List.replicate (p_l.length:Int).toNat (ay.mk 0 0 ⟨#[]⟩ 0 aG.z)) = some p_l := fE p_l (fun x=>afE x) _ _ (by simp) (by omega) (fun x hx=>pR x (by have := rY hx; omega)) (fun k s=>by simp only [Ro,Mo.den,aI,aN,aJ,aP])
  simp only [Q80,ahs,Mo.den,aI,aN,aJ,aP,h1]
  exact dR p_l _ ⟨by omega,by omega,by unfold maxLen; omega⟩
theorem kF (p_m:aj) (h_:aW p_m.lf1 ≤ 100000000) : ajd p_m = some p_m := by
  have hbv := gX p_m
  have := jS p_m.aQ
  have := iy p_m.bn
  have := iy p_m.fNext
  have e0 := (lI p_m.aQ (by omega))
  have e1 := (jC p_m.fNext (by omega))
  have e2 := (jC p_m.bn (by omega))
  simp only [ajd,acO,Mo.den,aI,aN,aJ,aP,e0,e1,e2,Option.bind_some,List.length_nil]
  all_goals (cases p_m; rfl)
theorem kG (n_:Nat) : (∀ p_v:ak,4 * aW p_v.lf1 + 0 < n_ → aW p_v.lf1 ≤ 100000000 → (iE n_).m1 p_v = some p_v) ∧ (∀ p_l:List ak,4 * bG (p_l.map ak.lf) + 1 < n_ → bG (p_l.map ak.lf) ≤ 100000000 → (iE n_).m2 p_l = some p_l) ∧ (∀ p_l:List aS,4 * bG (p_l.map aS.lf) + 2 < n_ → bG (p_l.map aS.lf) ≤ 100000000 → (iE n_).m3 p_l = some p_l) ∧ (∀ p_f:aS,4 * aW p_f.lf1 + 1 < n_ → aW p_f.lf1 ≤ 100000000 → (iE n_).m4 p_f = some p_f) := by
  induction n_ with
  | zero=>exact ⟨fun _ h=>by omega,fun _ h=>by omega,fun _ h=>by omega,fun _ h=>by omega⟩
  | succ n_ ih =>
    refine ⟨?_,?_,?_,?_⟩
    · intro p_v h_ h2_
      have hbv := bT p_v
      have := ig p_v.bU
      have := fZ p_v.bV
      have e0 := (ih.2.1 p_v.bV (by omega) (by omega))
      have e1 := (ih.2.2.1 p_v.bU (by omega) (by omega))
      simp only [iE,ac0,Mo.den,aI,aN,aJ,aP,e0,e1,Option.bind_some,List.length_nil]
      all_goals (cases p_v; rfl)
    · intro p_l h_ h2_
      have hl := fZ p_l
      have h1:ac1 (iE n_) p_l 0 (List.replicate (p_l.length:Int).toNat (ak.mk 0 0 ⟨#[]⟩ [] [])) = some p_l := fE p_l (fun x=>(iE n_).m1 x) _ _ (by simp) (by omega) (fun x hx=>ih.1 x (by have := ji hx; omega) (by have := ji hx; omega)) (fun k s=>by simp only [Rx,Mo.den,aI,aN,aJ,aP])
      simp only [iE,ac2,Mo.den,aI,aN,aJ,aP,h1]
      exact dR p_l _ ⟨by omega,by omega,by unfold maxLen; omega⟩
    · intro p_l h_ h2_
      have hl := ig p_l
      have h1:ac3 (iE n_) p_l 0 (List.replicate (p_l.length:Int).toNat (aS.mk ⟨#[]⟩ (ak.mk 0 0 ⟨#[]⟩ [] []))) = some p_l := fE p_l (fun x=>(iE n_).m4 x) _ _ (by simp) (by omega) (fun x hx=>ih.2.2.2 x (by have := iq hx; omega) (by have := iq hx; omega)) (fun k s=>by simp only [Ry,Mo.den,aI,aN,aJ,aP])
      simp only [iE,ac4,Mo.den,aI,aN,aJ,aP,h1]
      exact dR p_l _ ⟨by omega,by omega,by unfold maxLen; omega⟩
    · intro p_f h_ h2_
      have hbv := gZ p_f
      have := bT p_f.fValue
      have e0 := (ih.1 p_f.fValue (by omega) (by omega))
      simp only [iE,U2,Mo.den,aI,aN,aJ,aP,e0,Option.bind_some,List.length_nil]
      all_goals (cases p_f; rfl)
theorem eX (p_v:ak) (h_:aW p_v.lf1 ≤ 100000000) : Q88 p_v = some p_v := (kG FU).1 p_v (jQ (by omega)) h_
theorem iZ (p_l:List ak) (h_:bG (p_l.map ak.lf) ≤ 100000000) : Q64 p_l = some p_l := (kG FU).2.1 p_l (jQ (by omega)) h_
theorem gG (p_l:List ByteArray) (h_:bG (p_l.map lfS) ≤ 100000000) : ajr p_l = some p_l := by
  have hl := dD p_l
  simp only [ajr,ac7,Mo.den,aI,aN,aJ,aP,Option.bind_some,List.length_nil]
  rw [if_pos (by omega)]
  try rfl
theorem pU (p_o:bf) (h_:aW p_o.lf1 ≤ 100000000) : afV p_o = some p_o := by
  have hbv := jq p_o
  have := dD p_o.cZ
  have e0 := (gG p_o.cZ (by omega))
  simp only [afV,ac8,Mo.den,aI,aN,aJ,aP,e0,Option.bind_some,List.length_nil]
  all_goals (cases p_o; rfl)
theorem lJ (p_l:List bf) (h_:bG (p_l.map bf.lf) ≤ 100000000) : Q81 p_l = some p_l := by
  have hl := jM p_l
  have h1:ac9 p_l 0 (List.replicate (p_l.length:Int).toNat (bf.mk [] false)) = some p_l := fE p_l (fun x=>afV x) _ _ (by simp) (by omega) (fun x hx=>pU x (by have := kQ hx; omega)) (fun k s=>by simp only [Rz,Mo.den,aI,aN,aJ,aP])
  simp only [Q81,ahv,Mo.den,aI,aN,aJ,aP,h1]
  exact dR p_l _ ⟨by omega,by omega,by unfold maxLen; omega⟩
theorem pV (n_:Nat) : (∀ p_e:aC,4 * aW p_e.lf1 + 0 < n_ → aW p_e.lf1 ≤ 100000000 → (lT n_).m1 p_e = some p_e) ∧ (∀ p_l:List aC,4 * bG (p_l.map aC.lf) + 1 < n_ → bG (p_l.map aC.lf) ≤ 100000000 → (lT n_).m2 p_l = some p_l) := by
  induction n_ with
  | zero=>exact ⟨fun _ h=>by omega,fun _ h=>by omega⟩
  | succ n_ ih =>
    refine ⟨?_,?_⟩
    · intro p_e h_ h2_
      have hbv := fV p_e
      have := bT p_e.fArg
      have := jf p_e.bg
      have := dD p_e.bQ
      have := dD p_e.cZ
      have e0 := (gG p_e.cZ (by omega))
      have e1 := (gG p_e.bQ (by omega))
      have e2 := (eX p_e.fArg (by omega))
      have e3 := (ih.2 p_e.bg (by omega) (by omega))
      simp only [lT,U4,Mo.den,aI,aN,aJ,aP,e0,e1,e2,e3,Option.bind_some,List.length_nil]
      all_goals (cases p_e; rfl)
    · intro p_l h_ h2_
      have hl := jf p_l
      have h1:Xp (lT n_) p_l 0 (List.replicate (p_l.length:Int).toNat aC.z) = some p_l := fE p_l (fun x=>(lT n_).m1 x) _ _ (by simp) (by omega) (fun x hx=>ih.1 x (by have := lF hx; omega) (by have := lF hx; omega)) (fun k s=>by simp only [IZ,Mo.den,aI,aN,aJ,aP])
      simp only [lT,U5,Mo.den,aI,aN,aJ,aP,h1]
      exact dR p_l _ ⟨by omega,by omega,by unfold maxLen; omega⟩
theorem qG (p_e:aC) (h_:aW p_e.lf1 ≤ 100000000) : ak2 p_e = some p_e := (pV FU).1 p_e (jQ (by omega)) h_
theorem pW (n_:Nat) : (∀ p_p:aK,4 * aW p_p.lf1 + 0 < n_ → aW p_p.lf1 ≤ 100000000 → (lU n_).m1 p_p = some p_p) ∧ (∀ p_l:List aK,4 * bG (p_l.map aK.lf) + 1 < n_ → bG (p_l.map aK.lf) ≤ 100000000 → (lU n_).m2 p_l = some p_l) := by
  induction n_ with
  | zero=>exact ⟨fun _ h=>by omega,fun _ h=>by omega⟩
  | succ n_ ih =>
    refine ⟨?_,?_⟩
    · intro p_p h_ h2_
      have hbv := gV p_p
      have := bT p_p.fArg
      have := fZ p_p.fArgs
      have := fV p_p.fExpr
      have := jE p_p.bg
      have := dD p_p.cZ
      have := jr p_p.eF
      have := jw p_p.eF.bW
      have := jw p_p.eF.bW
      have e0 := (gG p_p.cZ (by omega))
      have e1 := (eX p_p.fArg (by omega))
      have e2 := (iZ p_p.fArgs (by omega))
      have e3 := (qG p_p.fExpr (by omega))
      have e4 := (ih.2 p_p.bg (by omega) (by omega))
      simp only [lU,U7,Mo.den,aI,aN,aJ,aP,e0,e1,e2,e3,e4,Option.bind_some,List.length_nil]
      rw [if_pos (by omega)]
      all_goals (cases p_p; rfl)
    · intro p_l h_ h2_
      have hl := jE p_l
      have h1:Xq (lU n_) p_l 0 (List.replicate (p_l.length:Int).toNat aK.z) = some p_l := fE p_l (fun x=>(lU n_).m1 x) _ _ (by simp) (by omega) (fun x hx=>ih.1 x (by have := ni hx; omega) (by have := ni hx; omega)) (fun k s=>by simp only [I4,Mo.den,aI,aN,aJ,aP])
      simp only [lU,U8,Mo.den,aI,aN,aJ,aP,h1]
      exact dR p_l _ ⟨by omega,by omega,by unfold maxLen; omega⟩
theorem qH (p_p:aK) (h_:aW p_p.lf1 ≤ 100000000) : ajt p_p = some p_p := (pW FU).1 p_p (jQ (by omega)) h_
theorem kL (p_x:aT) (h_:aW p_x.lf1 ≤ 100000000) : afZ p_x = some p_x := by
  have hbv := gQ p_x
  have := jM p_x.gu
  have := gV p_x.iV
  have e0 := (lJ p_x.gu (by omega))
  have e1 := (qH p_x.iV (by omega))
  simp only [afZ,adg,Mo.den,aI,aN,aJ,aP,e0,e1,Option.bind_some,List.length_nil]
  all_goals (cases p_x; rfl)
theorem lK (p_l:List aT) (h_:bG (p_l.map aT.lf) ≤ 100000000) : Q82 p_l = some p_l := by
  have hl := jy p_l
  have h1:adh p_l 0 (List.replicate (p_l.length:Int).toNat aT.z) = some p_l := fE p_l (fun x=>afZ x) _ _ (by simp) (by omega) (fun x hx=>kL x (by have := mM hx; omega)) (fun k s=>by simp only [RD,Mo.den,aI,aN,aJ,aP])
  simp only [Q82,ahw,Mo.den,aI,aN,aJ,aP,h1]
  exact dR p_l _ ⟨by omega,by omega,by unfold maxLen; omega⟩
theorem oD (n_:Nat) : (∀ p_s:aB,4 * aW p_s.lf1 + 0 < n_ → aW p_s.lf1 ≤ 100000000 → (iL n_).m1 p_s = some p_s) ∧ (∀ p_l:List bH,4 * bG (p_l.map bH.lf) + 2 < n_ → bG (p_l.map bH.lf) ≤ 100000000 → (iL n_).m2 p_l = some p_l) ∧ (∀ p_l:List aB,4 * bG (p_l.map aB.lf) + 1 < n_ → bG (p_l.map aB.lf) ≤ 100000000 → (iL n_).m3 p_l = some p_l) ∧ (∀ p_p:bH,4 * aW p_p.lf1 + 1 < n_ → aW p_p.lf1 ≤ 100000000 → (iL n_).m4 p_p = some p_p) := by
  induction n_ with
  | zero=>exact ⟨fun _ h=>by omega,fun _ h=>by omega,fun _ h=>by omega,fun _ h=>by omega⟩
  | succ n_ ih =>
    refine ⟨?_,?_,?_,?_⟩
    · intro p_s h_ h2_
      have hbv := fK p_s
      have := fZ p_s.jY
      have := jA p_s.fG
      have := bT p_s.sJ
      have := bT p_s.sH
      have := jR p_s.dN
      have := dD p_s.gy
      have e0 := (eX p_s.sH (by omega))
      have e1 := (eX p_s.sJ (by omega))
      have e2 := (iZ p_s.jY (by omega))
      have e3 := (gG p_s.gy (by omega))
      have e4 := (ih.2.1 p_s.dN (by omega) (by omega))
      have e5 := (ih.2.2.1 p_s.fG (by omega) (by omega))
      simp only [iL,U9,Mo.den,aI,aN,aJ,aP,e0,e1,e2,e3,e4,e5,Option.bind_some,List.length_nil]
      all_goals (cases p_s; rfl)
    · intro p_l h_ h2_
      have hl := jR p_l
      have h1:Xt (iL n_) p_l 0 (List.replicate (p_l.length:Int).toNat (bH.mk ⟨#[]⟩ aB.z)) = some p_l := fE p_l (fun x=>(iL n_).m4 x) _ _ (by simp) (by omega) (fun x hx=>ih.2.2.2 x (by have := oz hx; omega) (by have := oz hx; omega)) (fun k s=>by simp only [I5,Mo.den,aI,aN,aJ,aP])
      simp only [iL,Va,Mo.den,aI,aN,aJ,aP,h1]
      exact dR p_l _ ⟨by omega,by omega,by unfold maxLen; omega⟩
    · intro p_l h_ h2_
      have hl := jA p_l
      have h1:adl (iL n_) p_l 0 (List.replicate (p_l.length:Int).toNat aB.z) = some p_l := fE p_l (fun x=>(iL n_).m1 x) _ _ (by simp) (by omega) (fun x hx=>ih.1 x (by have := kR hx; omega) (by have := kR hx; omega)) (fun k s=>by simp only [RF,Mo.den,aI,aN,aJ,aP])
      simp only [iL,adn,Mo.den,aI,aN,aJ,aP,h1]
      exact dR p_l _ ⟨by omega,by omega,by unfold maxLen; omega⟩
    · intro p_p h_ h2_
      have hbv := mJ p_p
      have := fK p_p.fF
      have e0 := (ih.1 p_p.fF (by omega) (by omega))
      simp only [iL,Vb,Mo.den,aI,aN,aJ,aP,e0,Option.bind_some,List.length_nil]
      all_goals (cases p_p; rfl)
theorem o8 (p_s:aB) (h_:aW p_s.lf1 ≤ 100000000) : ajv p_s = some p_s := (oD FU).1 p_s (jQ (by omega)) h_
theorem pX (p_d:bP) (h_:aW p_d.lf1 ≤ 100000000) : ajw p_d = some p_d := by
  have hbv := jv p_d
  have := jy p_d.dH
  have := fK p_d.fF
  have e0 := (lK p_d.dH (by omega))
  have e1 := (o8 p_d.fF (by omega))
  simp only [ajw,adp,Mo.den,aI,aN,aJ,aP,e0,e1,Option.bind_some,List.length_nil]
  all_goals (cases p_d; rfl)
theorem jD (p_l:List Int) (h_:bG (p_l.map lfI) ≤ 100000000) : af5 p_l = some p_l := by
  have hl := iy p_l
  simp only [af5,adq,Mo.den,aI,aN,aJ,aP,Option.bind_some,List.length_nil]
  rw [if_pos (by omega)]
  try rfl
theorem o9 (n_:Nat) : (∀ p_w:aG,4 * aW p_w.lf1 + 0 < n_ → aW p_w.lf1 ≤ 100000000 → (lV n_).m1 p_w = some p_w) ∧ (∀ p_l:List aG,4 * bG (p_l.map aG.lf) + 1 < n_ → bG (p_l.map aG.lf) ≤ 100000000 → (lV n_).m2 p_l = some p_l) := by
  induction n_ with
  | zero=>exact ⟨fun _ h=>by omega,fun _ h=>by omega⟩
  | succ n_ ih =>
    refine ⟨?_,?_⟩
    · intro p_w h_ h2_
      have hbv := iQ p_w
      have := bT p_w.gY
      have := jv p_w.ou
      have := bT p_w.bU
      have := gQ p_w.aY
      have := bT p_w.mg
      have := iy p_w.eu
      have := jB p_w.dL
      have e0 := (eX p_w.mg (by omega))
      have e1 := (eX p_w.bU (by omega))
      have e2 := (eX p_w.gY (by omega))
      have e3 := (pX p_w.ou (by omega))
      have e4 := (kL p_w.aY (by omega))
      have e5 := (ih.2 p_w.dL (by omega) (by omega))
      have e6 := (jD p_w.eu (by omega))
      simp only [lV,Ve,Mo.den,aI,aN,aJ,aP,e0,e1,e2,e3,e4,e5,e6,Option.bind_some,List.length_nil]
      all_goals (cases p_w; rfl)
    · intro p_l h_ h2_
      have hl := jB p_l
      have h1:ads (lV n_) p_l 0 (List.replicate (p_l.length:Int).toNat aG.z) = some p_l := fE p_l (fun x=>(lV n_).m1 x) _ _ (by simp) (by omega) (fun x hx=>ih.1 x (by have := mO hx; omega) (by have := mO hx; omega)) (fun k s=>by simp only [RG,Mo.den,aI,aN,aJ,aP])
      simp only [lV,adt,Mo.den,aI,aN,aJ,aP,h1]
      exact dR p_l _ ⟨by omega,by omega,by unfold maxLen; omega⟩
theorem pY (p_w:aG) (h_:aW p_w.lf1 ≤ 100000000) : ak3 p_w = some p_w := (o9 FU).1 p_w (jQ (by omega)) h_
theorem qc (p_e:ay) (h_:aW p_e.lf1 ≤ 100000000) : af8 p_e = some p_e := by
  have hbv := ng p_e
  have := iQ p_e.iH
  have e0 := (pY p_e.iH (by omega))
  simp only [af8,adu,Mo.den,aI,aN,aJ,aP,e0,Option.bind_some,List.length_nil]
  all_goals (cases p_e; rfl)
theorem iw (p_l:List ay) (h_:bG (p_l.map ay.lf) ≤ 100000000) : Q69 p_l = some p_l := by
  have hl := jS p_l
  have h1:adv p_l 0 (List.replicate (p_l.length:Int).toNat (ay.mk 0 0 ⟨#[]⟩ 0 aG.z)) = some p_l := fE p_l (fun x=>af8 x) _ _ (by simp) (by omega) (fun x hx=>qc x (by have := rY hx; omega)) (fun k s=>by simp only [RH,Mo.den,aI,aN,aJ,aP])
  simp only [Q69,ahx,Mo.den,aI,aN,aJ,aP,h1]
  exact dR p_l _ ⟨by omega,by omega,by unfold maxLen; omega⟩
theorem kH (p_m:aj) (h_:aW p_m.lf1 ≤ 100000000) : aga p_m = some p_m := by
  have hbv := gX p_m
  have := jS p_m.aQ
  have := iy p_m.bn
  have := iy p_m.fNext
  have e0 := (iw p_m.aQ (by omega))
  have e1 := (jD p_m.fNext (by omega))
  have e2 := (jD p_m.bn (by omega))
  simp only [aga,adw,Mo.den,aI,aN,aJ,aP,e0,e1,e2,Option.bind_some,List.length_nil]
  all_goals (cases p_m; rfl)
end Go.Proofs.YtdnafbfmaphhhaaGreatDoor
set_option linter.unusedSimpArgs false
set_option linter.unusedVariables false
namespace Go.Proofs.YtdnafbfmaphhhaaGreatDoor
open Go.RowKit
mutual
noncomputable def wrF:Lf → ByteArray
  | .int _ n=>EC n
  | .str s=>EC (s.size:Int) ++ s
  | .bool b=>if b then ⟨#[1]⟩ else ⟨#[0]⟩
  | .rows _ l=>EC (l.length:Int) ++ wrQ l
noncomputable def wrQ:List (List Lf) → ByteArray
  | []=>ByteArray.empty
  | r :: q=>wrL r ++ wrQ q
noncomputable def wrL:List Lf → ByteArray
  | []=>ByteArray.empty
  | x :: r=>wrF x ++ wrL r
end
theorem mD (r s:List Lf) : wrL (r ++ s) = wrL r ++ wrL s := by
  induction r with
  | nil=>simp [wrL]
  | cons x r ih=>simp only [List.cons_append,wrL,ih,ByteArray.append_assoc]
theorem XC (b:UInt8) : (⟨#[b]⟩ : ByteArray).size = 1 := rfl
mutual
theorem aj1:∀ x:Lf,(wrF x).size ≤ 12 * x.bulk
  | .int _ n=>by have := rZ n; simp only [wrF,Lf.bulk]; omega
  | .str s=>by have := rZ (s.size:Int); simp only [wrF,Lf.bulk,ByteArray.size_append]; omega
  | .bool b=>by cases b <;> simp [wrF,Lf.bulk,XC]
  | .rows _ l=>by have := rZ (l.length:Int); have := adZ l; simp only [wrF,Lf.bulk,ByteArray.size_append]; omega
theorem adZ:∀ l:List (List Lf),(wrQ l).size ≤ 12 * bG l
  | []=>by simp [wrQ,bG]
  | r :: q=>by have := uy r; have := adZ q; simp only [wrQ,bG,ByteArray.size_append]; omega
theorem uy:∀ l:List Lf,(wrL l).size ≤ 12 * aW l
  | []=>by simp [wrL,aW]
  | x :: r=>by have := aj1 x; have := uy r; simp only [wrL,aW,ByteArray.size_append]; omega
end
/-- m appends s -/
def Ap (m:aA → Option aA) (s:ByteArray) : Prop := ∀ b,b.pF = true → b.fS.size + s.size ≤ 4611686018427387904 → m b = some ⟨b.fS ++ s,b.AO,b.pF⟩
theorem Ap.bind {m k:aA → Option aA} {s t:ByteArray} (h:Ap m s) (h2:Ap k t) : Ap (fun b=>(m b).bind k) (s ++ t) := by
  intro b hb hs
  rw [ByteArray.size_append] at hs
  show (m b).bind k = _
  rw [h b hb (by omega),Option.bind_some]
  refine (h2 ⟨b.fS ++ s,b.AO,b.pF⟩ hb (by simp only [ByteArray.size_append]; omega)).trans ?_
  simp only [ByteArray.append_assoc]
theorem Ap.to {m:aA → Option aA} {s t:ByteArray} (h:Ap m s) (e:s = t) : Ap m t := e ▸ h
theorem Ap.nil:Ap some ByteArray.empty := fun b _ _=>by rw [ByteArray.append_empty]
theorem Ap.of {m k:aA → Option aA} {s:ByteArray} (h:Ap k s) (e:∀ b,b.pF = true → m b = k b) : Ap m s := fun b hb hs=>by rw [e b hb]; exact h b hb hs
theorem Ap.loop {α:Type} (f : α → List Lf) (l:List α) (g : α → aA → Option aA) (T:Int × aA → Option ((Int × aA) ⊕ aA)) (hl:l.length ≤ 1000000000)
    (hg:∀ x ∈ l,Ap (g x) (wrL (f x)))
    (hT:∀ (k:Nat) s,(∀ x,l[k]? = some x → T ((k:Int),s) = (g x s).bind fun r=>some (.inl (IntKind.wrap .i64 ((k:Int) + 1),r))) ∧ (l[k]? = none → T ((k:Int),s) = some (.inr s))) :
    Ap (fun b=>bK T FU (0,b)) (wrQ (l.map f)) := by
  intro b hb hs
  have key:∀ (m:List α) (k:Nat) (b:aA) (n:Nat),l.drop k = m → m.length < n → b.pF = true → b.fS.size + (wrQ (m.map f)).size ≤ 4611686018427387904 →
      bK T n ((k:Int),b) = some ⟨b.fS ++ wrQ (m.map f),b.AO,b.pF⟩ := by
    intro m
    induction m with
    | nil =>
      intro k b n hd hn hb hs
      obtain ⟨n,rfl⟩ : ∃ j,n = j + 1 := ⟨n - 1,by simp at hn; omega⟩
      have h1:l[k]? = none := by
        have := congrArg List.length hd
        simp only [List.length_drop,List.length_nil] at this
        rw [List.getElem?_eq_none]; omega
      unfold bK
      rw [(hT k b).2 h1]
      simp only [List.map_nil,wrQ,ByteArray.append_empty,Option.bind_some]
    | cons x m ih =>
      intro k b n hd hn hb hs
      obtain ⟨n,rfl⟩ : ∃ j,n = j + 1 := ⟨n - 1,by simp at hn; omega⟩
      have h1:l[k]? = some x := by rw [← List.head?_drop,hd]; rfl
      have h2:l.drop (k + 1) = m := by rw [← List.tail_drop,hd]; rfl
      have hk:k < l.length := (List.getElem?_eq_some_iff.1 h1).1
      simp only [List.map_cons,wrQ,ByteArray.size_append] at hs
      unfold bK
      rw [(hT k b).1 x h1,hg x (List.mem_of_getElem? h1) b hb (by omega)]
      simp only [Option.bind_some]
      rw [inc k (by omega)]
      refine (ih (k + 1) ⟨b.fS ++ wrL (f x),b.AO,b.pF⟩ n h2 (by simp at hn; omega) hb (by simp only [ByteArray.size_append]; omega)).trans ?_
      simp only [List.map_cons,wrQ,ByteArray.append_assoc]
  exact key l 0 b FU rfl (jQ (by omega)) hb hs
theorem fD (n:Int) : Ap (Q19 n) (EC n) := by
  intro b _ hs
  unfold Q19 agS
  simp only [Mo.den,aI,aP,Lh,Option.bind_some]
  rw [if_pos (by omega)]
theorem og (s:ByteArray) : Ap (Q70 s) (EC (s.size:Int) ++ s) := by
  intro b hb hs
  rw [ByteArray.size_append] at hs
  unfold Q70 agT
  simp only [Mo.den,aI,aP]
  rw [fD _ b hb (by omega)]
  simp only [Option.bind_some,ByteArray.size_append]
  rw [if_pos (by omega)]
  simp only [ByteArray.append_assoc]
theorem mF (c:Bool) : Ap (Q74 c) (wrF (.bool c)) := by
  intro b hb hs
  unfold Q74 agV
  simp only [Mo.den,aI,aJ,aP,XC]
  cases c
  · simp only [wrF,cond_false,Bool.false_eq_true,if_false,XC] at hs ⊢; rw [if_pos (by omega)]
  · simp only [wrF,cond_true,if_true,XC] at hs ⊢; rw [if_pos (by omega)]
theorem dU {α:Type} (l:List α) (k:Nat) : (∀ x,l[k]? = some x → decide ((k:Int) < (l.length:Int)) = true ∧ bM l (k:Int) = some x) ∧ (l[k]? = none → decide ((k:Int) < (l.length:Int)) = false) := by
  refine ⟨fun x h=>?_,fun h=>?_⟩
  · have := (List.getElem?_eq_some_iff.1 h).1
    exact ⟨iLt this,by rw [Cc,h]⟩
  · rw [List.getElem?_eq_none_iff] at h
    exact XY (by omega)
theorem Ap.of' {m k:aA → Option aA} {s t:ByteArray} (e:∀ b,b.pF = true → m b = k b) (h:Ap k s) (hs:s = t) : Ap m t := hs ▸ Ap.of h e
theorem yQ (l:List ByteArray) (hl:l.length ≤ 1000000000) : Ap (Q59 l) (wrF (.rows 1 (l.map lfS))) := by
  have hL:Ap (Uh l 0) (wrQ (l.map lfS)) := by
    refine Ap.of' (fun b hb=>by unfold Uh; rfl) (Ap.loop lfS l Q70 _ hl (fun x _=>(og x).to (by simp only [lfS,wrL,wrF,ByteArray.append_empty])) fun k s=>⟨fun x h=>?_,fun h=>?_⟩) rfl
    · obtain ⟨h1,h2⟩ := (dU l k).1 x h
      simp only [CU,Mo.den,aI,aJ,h1,h2,cond_true,Option.bind_some]
    · simp only [CU,Mo.den,aI,aJ,(dU l k).2 h,cond_false]
  refine Ap.of' (fun b hb=>?_) (Ap.bind (fD (l.length:Int)) (Ap.bind hL Ap.nil)) ?_
  · simp only [Q59,agU,Mo.den,aI]
  · simp only [wrF,List.length_map,ByteArray.append_empty]
end Go.Proofs.YtdnafbfmaphhhaaGreatDoor
set_option linter.unusedSimpArgs false
set_option linter.unusedVariables false
namespace Go.Proofs.YtdnafbfmaphhhaaGreatDoor
open Go.RowKit
theorem ad1 (x:bZ) (hb:aW x.lf1 ≤ 100000000) : Ap (Q77 x) (wrL x.lf1) := by
  have hl := jw x.bW
  rw [jr] at hb
  have hL:Ap (Un x 0) (wrQ (x.bW.map dF.lf)) := by
    refine Ap.of' (fun b hb=>by unfold Un; rfl) (Ap.loop dF.lf x.bW (fun p b=>(Q19 p.fX b).bind fun r=>Q19 p.fY r) _ (by omega) (fun x hx=>(Ap.bind (fD _) (fD _)).to (by simp only [dF.lf,dF.lf1,wrL,wrF,ByteArray.append_empty])) fun k s=>⟨fun y h=>?_,fun h=>?_⟩) rfl
    · obtain ⟨h1,h2⟩ := (dU x.bW k).1 y h
      simp only [Dn,Mo.den,aI,aJ,h1,h2,cond_true,Option.bind_some,Option.bind_assoc]
    · simp only [Dn,Mo.den,aI,aJ,(dU x.bW k).2 h,cond_false]
  refine Ap.of' (fun b hb=>?_) (Ap.bind (fD (x.aU)) (Ap.bind (fD ((x.bW.length:Int))) (Ap.bind hL (Ap.bind (fD (x.fR)) Ap.nil)))) ?_
  · simp only [Q77,agZ,Mo.den,aI,aJ]
  · simp only [bZ.lf1,wrL,wrF,List.length_map,ByteArray.append_empty,ByteArray.append_assoc]
theorem Lj:∀ n,(∀ v:ak,2 * aW v.lf1 < n → aW v.lf1 ≤ 100000000 → Ap ((lY n).m1 v) (wrL v.lf1)) ∧ ∀ l:List ak,2 * bG (l.map ak.lf) + 1 < n → bG (l.map ak.lf) ≤ 100000000 → Ap ((lY n).m2 l) (wrF (.rows 5 (l.map ak.lf)))
  | 0=>⟨fun v h=>by omega,fun l h=>by omega⟩
  | n + 1=>by
    have ih := Lj n
    refine ⟨fun x h hb=>?_,fun l h hb=>?_⟩
    · have hl := ig x.bU
      rw [bT] at h hb
      have hL:Ap (Ul (lY n) x 0) (wrQ (x.bU.map aS.lf)) := by
        refine Ap.of' (fun b hb=>by unfold Ul; rfl) (Ap.loop aS.lf x.bU (fun p b=>(Q70 p.fName b).bind fun r=>(lY n).m1 p.fValue r) _ (by omega) (fun x hx=>by have h1 := iq hx; rw [gZ] at h1; exact (Ap.bind (og _) (ih.1 _ (by omega) (by omega))).to (by rw [aS.aV]; simp only [aS.lf1,mD,wrL,wrF,ByteArray.append_empty])) fun k s=>⟨fun y h=>?_,fun h=>?_⟩) rfl
        · obtain ⟨h1,h2⟩ := (dU x.bU k).1 y h
          simp only [Dk,Mo.den,aI,aJ,h1,h2,cond_true,Option.bind_some,Option.bind_assoc]
        · simp only [Dk,Mo.den,aI,aJ,(dU x.bU k).2 h,cond_false]
      refine Ap.of' (fun b hr=>?_) (Ap.bind (fD (x.aU)) (Ap.bind (fD (x.jL)) (Ap.bind (og (x.fText)) (Ap.bind (ih.2 x.bV (by omega) (by omega)) (Ap.bind (fD ((x.bU.length:Int))) (Ap.bind hL Ap.nil)))))) ?_
      · simp only [lY,aaU,Mo.den,aI,aJ,hr,cond_true]
      · simp only [ak.lf1,wrL,wrF,List.length_map,ByteArray.append_empty,ByteArray.append_assoc]
    · have hl := fZ l
      have hL:Ap (Um (lY n) l 0) (wrQ (l.map ak.lf)) := by
        refine Ap.of' (fun b hb=>by unfold Um; rfl) (Ap.loop ak.lf l (fun p b=>(lY n).m1 p b) _ (by omega) (fun x hx=>by have h1 := ji hx; exact (ih.1 _ (by omega) (by omega)).to (by rw [ak.aV])) fun k s=>⟨fun y h=>?_,fun h=>?_⟩) rfl
        · obtain ⟨h1,h2⟩ := (dU l k).1 y h
          simp only [Dl,Mo.den,aI,aJ,h1,h2,cond_true,Option.bind_some,Option.bind_assoc]
        · simp only [Dl,Mo.den,aI,aJ,(dU l k).2 h,cond_false]
      refine Ap.of' (fun b hr=>?_) (Ap.bind (fD ((l.length:Int))) (Ap.bind hL Ap.nil)) ?_
      · simp only [lY,aaV,Mo.den,aI,aJ]
      · simp only [wrF,List.length_map,ByteArray.append_empty]
theorem ny (v:ak) (hb:aW v.lf1 ≤ 100000000) : Ap (Q29 v) (wrL v.lf1) := (Lj FU).1 v (jQ (by omega)) hb
theorem Ju (l:List ak) (hb:bG (l.map ak.lf) ≤ 100000000) : Ap (Q65 l) (wrF (.rows 5 (l.map ak.lf))) := (Lj FU).2 l (jQ (by omega)) hb
theorem ad2 (n:Nat) : ∀ x:aC,aW x.lf1 < n → aW x.lf1 ≤ 100000000 → Ap ((Am n).m1 x) (wrL x.lf1) := by
  induction n with
  | zero=>intro x h _; omega
  | succ n ih =>
    intro x h hb
    have hl := jf x.bg
    have hl1 := dD x.cZ
    have hl2 := dD x.bQ
    rw [fV] at h hb
    have hL:Ap (Uo (Am n) x 0) (wrQ (x.bg.map aC.lf)) := by
      refine Ap.of' (fun b hb=>by unfold Uo; rfl) (Ap.loop aC.lf x.bg (fun p b=>(Am n).m1 p b) _ (by omega) (fun x hx=>by have h1 := lF hx; exact (ih _ (by omega) (by omega)).to (by rw [aC.aV])) fun k s=>⟨fun y h=>?_,fun h=>?_⟩) rfl
      · obtain ⟨h1,h2⟩ := (dU x.bg k).1 y h
        simp only [Dp,Mo.den,aI,aJ,h1,h2,cond_true,Option.bind_some,Option.bind_assoc]
      · simp only [Dp,Mo.den,aI,aJ,(dU x.bg k).2 h,cond_false]
    refine Ap.of' (fun b hr=>?_) (Ap.bind (fD (x.fOp)) (Ap.bind (yQ (x.cZ) (by omega)) (Ap.bind (og (x.fName)) (Ap.bind (yQ (x.bQ) (by omega)) (Ap.bind (ny (x.fArg) (by omega)) (Ap.bind (fD (x.fN)) (Ap.bind (fD ((x.bg.length:Int))) (Ap.bind hL Ap.nil)))))))) ?_
    · simp only [Am,aaX,Mo.den,aI,aJ]
    · simp only [aC.lf1,mD,wrL,wrF,List.length_map,ByteArray.append_empty,ByteArray.append_assoc]
theorem agE (v:aC) (hb:aW v.lf1 ≤ 100000000) : Ap (Q72 v) (wrL v.lf1) := ad2 FU v (jQ (by omega)) hb
theorem ad3 (n:Nat) : ∀ x:aK,aW x.lf1 < n → aW x.lf1 ≤ 100000000 → Ap ((Aq n).m1 x) (wrL x.lf1) := by
  induction n with
  | zero=>intro x h _; omega
  | succ n ih =>
    intro x h hb
    have hl := jE x.bg
    have hl1 := dD x.cZ
    rw [gV] at h hb
    have hL:Ap (Ur (Aq n) x 0) (wrQ (x.bg.map aK.lf)) := by
      refine Ap.of' (fun b hb=>by unfold Ur; rfl) (Ap.loop aK.lf x.bg (fun p b=>(Aq n).m1 p b) _ (by omega) (fun x hx=>by have h1 := ni hx; exact (ih _ (by omega) (by omega)).to (by rw [aK.aV])) fun k s=>⟨fun y h=>?_,fun h=>?_⟩) rfl
      · obtain ⟨h1,h2⟩ := (dU x.bg k).1 y h
        simp only [Dq,Mo.den,aI,aJ,h1,h2,cond_true,Option.bind_some,Option.bind_assoc]
      · simp only [Dq,Mo.den,aI,aJ,(dU x.bg k).2 h,cond_false]
    refine Ap.of' (fun b hr=>?_) (Ap.bind (fD (x.fOp)) (Ap.bind (yQ (x.cZ) (by omega)) (Ap.bind (ny (x.fArg) (by omega)) (Ap.bind (Ju (x.fArgs) (by omega)) (Ap.bind (fD (x.fN)) (Ap.bind (fD (x.fM)) (Ap.bind (ad1 (x.eF) (by omega)) (Ap.bind (agE (x.fExpr) (by omega)) (Ap.bind (fD ((x.bg.length:Int))) (Ap.bind hL Ap.nil)))))))))) ?_
    · simp only [Aq,aaY,Mo.den,aI,aJ]
    · simp only [aK.lf1,mD,wrL,wrF,List.length_map,ByteArray.append_empty,ByteArray.append_assoc]
theorem agF (v:aK) (hb:aW v.lf1 ≤ 100000000) : Ap (Q73 v) (wrL v.lf1) := ad3 FU v (jQ (by omega)) hb
theorem yR (x:aT) (hb:aW x.lf1 ≤ 100000000) : Ap (Q60 x) (wrL x.lf1) := by
  have hl := jM x.gu
  rw [gQ] at hb
  have hL:Ap (Us x 0) (wrQ (x.gu.map bf.lf)) := by
    refine Ap.of' (fun b hb=>by unfold Us; rfl) (Ap.loop bf.lf x.gu (fun p b=>(Q59 p.cZ b).bind fun r=>Q74 p.Gp r) _ (by omega) (fun x hx=>by have h1 := kQ hx; rw [jq] at h1; have h2 := dD x.cZ; exact (Ap.bind (yQ _ (by omega)) (mF _)).to (by simp only [bf.lf,bf.lf1,wrL,ByteArray.append_empty])) fun k s=>⟨fun y h=>?_,fun h=>?_⟩) rfl
    · obtain ⟨h1,h2⟩ := (dU x.gu k).1 y h
      simp only [Dt,Mo.den,aI,aJ,h1,h2,cond_true,Option.bind_some,Option.bind_assoc]
    · simp only [Dt,Mo.den,aI,aJ,(dU x.gu k).2 h,cond_false]
  refine Ap.of' (fun b hb=>?_) (Ap.bind (og (x.fName)) (Ap.bind (fD (x.aU)) (Ap.bind (fD ((x.gu.length:Int))) (Ap.bind hL (Ap.bind (mF (x.iR)) (Ap.bind (mF (x.nK)) (Ap.bind (mF (x.jV)) (Ap.bind (agF (x.iV) (by omega)) Ap.nil)))))))) ?_
  · simp only [Q60,ag0,Mo.den,aI,aJ]
  · simp only [aT.lf1,mD,wrL,wrF,List.length_map,ByteArray.append_empty,ByteArray.append_assoc]
theorem Vx (n:Nat) : ∀ x:aB,aW x.lf1 < n → aW x.lf1 ≤ 100000000 → Ap ((sZ n).m1 x) (wrL x.lf1) := by
  induction n with
  | zero=>intro x h _; omega
  | succ n ih =>
    intro x h hb
    have hl := jR x.dN
    have hl1 := jA x.fG
    have hl2 := dD x.gy
    rw [fK] at h hb
    have hL:Ap (Ut (sZ n) x 0) (wrQ (x.dN.map bH.lf)) := by
      refine Ap.of' (fun b hb=>by unfold Ut; rfl) (Ap.loop bH.lf x.dN (fun p b=>(Q70 p.fName b).bind fun r=>(sZ n).m1 p.fF r) _ (by omega) (fun x hx=>by have h1 := oz hx; rw [mJ] at h1; exact (Ap.bind (og _) (ih _ (by omega) (by omega))).to (by rw [bH.aV]; simp only [bH.lf1,mD,wrL,wrF,ByteArray.append_empty])) fun k s=>⟨fun y h=>?_,fun h=>?_⟩) rfl
      · obtain ⟨h1,h2⟩ := (dU x.dN k).1 y h
        simp only [Du,Mo.den,aI,aJ,h1,h2,cond_true,Option.bind_some,Option.bind_assoc]
      · simp only [Du,Mo.den,aI,aJ,(dU x.dN k).2 h,cond_false]
    have hL2:Ap (Uu (sZ n) x 0) (wrQ (x.fG.map aB.lf)) := by
      refine Ap.of' (fun b hb=>by unfold Uu; rfl) (Ap.loop aB.lf x.fG (fun p b=>(sZ n).m1 p b) _ (by omega) (fun x hx=>by have h1 := kR hx; exact (ih _ (by omega) (by omega)).to (by rw [aB.aV])) fun k s=>⟨fun y h=>?_,fun h=>?_⟩) rfl
      · obtain ⟨h1,h2⟩ := (dU x.fG k).1 y h
        simp only [Dv,Mo.den,aI,aJ,h1,h2,cond_true,Option.bind_some,Option.bind_assoc]
      · simp only [Dv,Mo.den,aI,aJ,(dU x.fG k).2 h,cond_false]
    refine Ap.of' (fun b hr=>?_) (Ap.bind (fD (x.jX)) (Ap.bind (mF (x.kU)) (Ap.bind (ny (x.sH) (by omega)) (Ap.bind (mF (x.kV)) (Ap.bind (ny (x.sJ) (by omega)) (Ap.bind (Ju (x.jY) (by omega)) (Ap.bind (fD (x.kW)) (Ap.bind (fD (x.kX)) (Ap.bind (yQ (x.gy) (by omega)) (Ap.bind (fD ((x.dN.length:Int))) (Ap.bind hL (Ap.bind (mF (x.nM)) (Ap.bind (fD ((x.fG.length:Int))) (Ap.bind hL2 (Ap.bind (mF (x.iR)) Ap.nil))))))))))))))) ?_
    · simp only [sZ,aaZ,Mo.den,aI,aJ]
    · simp only [aB.lf1,mD,wrL,wrF,List.length_map,ByteArray.append_empty,ByteArray.append_assoc]
theorem Zq (v:aB) (hb:aW v.lf1 ≤ 100000000) : Ap (Q51 v) (wrL v.lf1) := Vx FU v (jQ (by omega)) hb
theorem EF (x:bP) (hb:aW x.lf1 ≤ 100000000) : Ap (Q68 x) (wrL x.lf1) := by
  have hl := jy x.dH
  rw [jv] at hb
  have hL:Ap (Uw x 0) (wrQ (x.dH.map aT.lf)) := by
    refine Ap.of' (fun b hb=>by unfold Uw; rfl) (Ap.loop aT.lf x.dH (fun p b=>Q60 p b) _ (by omega) (fun x hx=>by have h1 := mM hx; exact yR _ (by omega)) fun k s=>⟨fun y h=>?_,fun h=>?_⟩) rfl
    · obtain ⟨h1,h2⟩ := (dU x.dH k).1 y h
      simp only [Dw,Mo.den,aI,aJ,h1,h2,cond_true,Option.bind_some,Option.bind_assoc]
    · simp only [Dw,Mo.den,aI,aJ,(dU x.dH k).2 h,cond_false]
  refine Ap.of' (fun b hb=>?_) (Ap.bind (og (x.fName)) (Ap.bind (fD ((x.dH.length:Int))) (Ap.bind hL (Ap.bind (Zq (x.fF) (by omega)) (Ap.bind (fD (x.oM)) (Ap.bind (fD (x.l9)) Ap.nil)))))) ?_
  · simp only [Q68,ag1,Mo.den,aI,aJ]
  · simp only [bP.lf1,mD,wrL,wrF,List.length_map,ByteArray.append_empty,ByteArray.append_assoc]
end Go.Proofs.YtdnafbfmaphhhaaGreatDoor
