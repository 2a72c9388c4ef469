/- Printed by dec.py. -/
import Derived.Test.YtdnafbfmaphhhaaGreatDoorQK6
import Derived.Test.YtdnafbfmaphhhaaGreatDoorQK4
import Derived.Test.YtdnafbfmaphhhaaGreatDoorQKName
import Derived.Test.YtdnafbfmaphhhaaGreatDoorQK3
set_option linter.unusedSimpArgs false
set_option linter.unusedVariables false
namespace Go.Proofs.YtdnafbfmaphhhaaGreatDoor
open Go.RowKit
set_option maxRecDepth 20000
set_option maxHeartbeats 4000000
noncomputable section
structure Tj where
 m1:(p_p:aH) → Option (aH)
 ok1:∀ p_p,FV (m1 p_p) 235 [.dat (aH.lf1 p_p)] (fun r=>.dat (aH.lf1 r))
 m2:(p_l:List aH) → Option (List aH)
 ok2:∀ p_l,FH (m2 p_l) 287 [.lf (.rows 25 (p_l.map aH.lf)),.raw (.func (.func 235) #[] #[])] [] (fun r=>.lf (.rows 25 (r.map aH.lf))) (fun _=>[])
def Tn (R_:Tj) (p_p:aH) : Mo (aH) :=
 .cl (xU p_p.cO) fun r0 _ =>
 .cl (tX p_p.fArg) fun r1 _ =>
 .ask (Q58 p_p.fArgs) fun r2 h0 =>
 .say [.jd [] (.lf (.rows 5 (r2.map ah.lf))) [],.rows (p_p.eF.bW.map dF.lf)] (okc (aby _ _ h0) (ok1 (by simp [dF.aU] : p_p.eF.bW.map dF.lf = [] ++ (p_p.eF.bW.map dF.lf)))) <|
 .grd ((([] : List dF).length + p_p.eF.bW.length) * 16 ≤ 140737488355328) fun h1 =>
 .say [] (ok1 (cq_ dF.lf h1)) <|
 .cl (aey p_p.fExpr) fun r3 _ =>
 .ask (R_.m2 p_p.aZ) fun r4 h2 =>
 .say [.jd [] (.lf (.rows 25 (r4.map aH.lf))) [],.at_ 0 0,.frz 2] (ok1 (R_.ok2 _ _ h2)) <|
 .ret (bn 1) (aH.mk p_p.fOp r0 r1 r2 p_p.fN p_p.fM p_p.eF r3 r4)
theorem abG (R_:Tj) (p_p:aH) : FV (Mo.den (Tn R_ p_p)) 235 [.dat (aH.lf1 p_p)] (fun r=>.dat (aH.lf1 r)) := dw Tryz.func235 (by kernel_rfl) (fun _=>rfl) (by kernel_rfl)
def Qe (R_:Tj) (p_l:List aH) : (Int × (List aH)) → Mo ((Int × (List aH)) ⊕ ((List aH))) := fun (v0,l0) =>
 .iB (decide ((v0:Int) < (p_l.length:Int))) (.ask (bT p_l v0) fun x0 h0 =>
 .say [.row (aH.lf1 x0)] (ok1 (aX aH.aU h0)) <|
 .cl (R_.ok1 x0) fun r0 _ =>
 .ask (bT l0 v0) fun x1 h1 =>
 .say [.row (aH.lf1 x1),.rows ((l0.set v0.toNat r0).map aH.lf)] (okc (bZ aH.aU h1) (okc (st_ aH.aU l0 v0.toNat r0) (ok1 ((aX aH.aU h1).2)))) <|
 .rt [1,5,14,15,16] 1 (.inl (IntKind.wrap .i64 (v0 + 1),l0.set v0.toNat r0))) <|
 .rt [5] 1 (.inr (l0))
def abH (R_:Tj) (p_l:List aH) (v0:Int) (l0:List aH) : Option (((List aH))) := bJ (fun v_=>(Qe R_ p_l v_).den) FU (v0,l0)
def abI (R_:Tj) (p_l:List aH) : Mo (List aH) :=
 .say [.num p_l.length] (ok1 (ln_ p_l aH.lf)) <|
 .ite ((p_l.length:Int) == 0) (fun c0 =>
 .say [.br true] (ok1 c0) <|
 .ret ⟨[.nil 0 25,.tod 0],[0],[],0⟩ ([])) fun c0 =>
 .say [.br false,.num p_l.length,.rows ((List.replicate (p_l.length:Int).toNat aH.z).map aH.lf),.num p_l.length] (okc c0 (okc (ln_ p_l aH.lf) (ok1 (rp_ aH.aU (p_l.length:Int).toNat aH.z)))) <|
 .grd ((0:Int) ≤ (p_l.length:Int) ∧ 400 * (p_l.length:Int).toNat ≤ 281474976710656 ∧ (p_l.length:Int).toNat ≤ maxLen) fun h0 =>
 .say [] (okc (mk_ (p_l.length:Int) h0) (ok1 (ln_ p_l aH.lf))) <|
 .lp Tryz.f287 0 [1,1,1,0,1,0] 0 [1,5,14,15,16] 1 (.exit 0) (fun r_=>⟨[(5,.own 0)],[.row 47 25 (r_.map aH.lf)]⟩) (abH R_ p_l 0 (List.replicate (p_l.length:Int).toNat aH.z)) (lW (fun (v0,l0)=>⟨[(1,.raw (.func (.func 235) #[] #[])),(5,.own 0),(14,.lf (.rows 25 (p_l.map aH.lf))),(15,.i_ (p_l.length:Int)),(16,.i_ v0)],[.row 47 25 (l0.map aH.lf)]⟩) (by kernel_rfl) rfl fun v_=>by kernel_rfl) fun r0 _ =>
 .ret ⟨[.frz 0],[0],[],0⟩ (r0)
theorem aez (R_:Tj) (p_l:List aH) : FH (Mo.den (abI R_ p_l)) 287 [.lf (.rows 25 (p_l.map aH.lf)),.raw (.func (.func 235) #[] #[])] [] (fun r=>.lf (.rows 25 (r.map aH.lf))) (fun _=>[]) := gV Tryz.func287 (by kernel_rfl) (fun _=>rfl) (by kernel_rfl)
def lN:Nat → Tj
 | 0=>{ m1 := fun p_p=>none,ok1 := fun _ _ h=>(by cases h),m2 := fun p_l=>none,ok2 := fun _ _ h=>(by cases h) }
 | n_ + 1=>{ m1 := fun p_p=>Mo.den (Tn (lN n_) p_p),ok1 := fun p_p r h=>abG (lN n_) p_p r h,m2 := fun p_l=>Mo.den (abI (lN n_) p_l),ok2 := aez (lN n_) }
def ahU (p_p:aH) : Option (aH) := (lN FU).m1 p_p
theorem aeA (p_p:aH) : FV (ahU p_p) 235 [.dat (aH.lf1 p_p)] (fun r=>.dat (aH.lf1 r)) := (lN FU).ok1 p_p
def abJ (p_x:aS) : Mo (aS) :=
 .cH [] (ahT p_x.gy) fun r0 _ =>
 .ask (ahU p_x.iU) fun r1 h0 =>
 .say [.res (.dat (aH.lf1 r1)),.at_ 0 0,.frz 2] (ok1 (aeA _ _ h0)) <|
 .ret (bn 1) (aS.YI (aS.afc p_x r0) r1)
def aeB (p_x:aS) : Option (aS) := Mo.den (abJ p_x)
theorem Vr (p_x:aS) : FV (aeB p_x) 188 [.dat (aS.lf1 p_x)] (fun r=>.dat (aS.lf1 r)) := dw Tryz.func188 (by kernel_rfl) (fun _=>rfl) (by kernel_rfl)
def Qg (p_l:List aS) : (Int × (List aS)) → Mo ((Int × (List aS)) ⊕ ((List aS))) := fun (v0,l0) =>
 .iB (decide ((v0:Int) < (p_l.length:Int))) (.ask (bT p_l v0) fun x0 h0 =>
 .say [.row (aS.lf1 x0)] (ok1 (aX aS.aU h0)) <|
 .cl (Vr x0) fun r0 _ =>
 .ask (bT l0 v0) fun x1 h1 =>
 .say [.row (aS.lf1 x1),.rows ((l0.set v0.toNat r0).map aS.lf)] (okc (bZ aS.aU h1) (okc (st_ aS.aU l0 v0.toNat r0) (ok1 ((aX aS.aU h1).2)))) <|
 .rt [1,5,14,15,16] 1 (.inl (IntKind.wrap .i64 (v0 + 1),l0.set v0.toNat r0))) <|
 .rt [5] 1 (.inr (l0))
def abK (p_l:List aS) (v0:Int) (l0:List aS) : Option (((List aS))) := bJ (fun v_=>(Qg p_l v_).den) FU (v0,l0)
def af0 (p_l:List aS) : Mo (List aS) :=
 .say [.num p_l.length] (ok1 (ln_ p_l aS.lf)) <|
 .ite ((p_l.length:Int) == 0) (fun c0 =>
 .say [.br true] (okc c0 (ok1 (by simp [aS.aU] : (([] : List aS).map aS.lf) = []))) <|
 .ret ⟨[.Ep 0 49 31,.kF 0 (([] : List aS).map aS.lf),.mvn 0],[0],[(1,0)],1⟩ (([] : List aS))) fun c0 =>
 .say [.br false,.num p_l.length,.rows ((List.replicate (p_l.length:Int).toNat aS.z).map aS.lf),.num p_l.length] (okc c0 (okc (ln_ p_l aS.lf) (ok1 (rp_ aS.aU (p_l.length:Int).toNat aS.z)))) <|
 .grd ((0:Int) ≤ (p_l.length:Int) ∧ 456 * (p_l.length:Int).toNat ≤ 281474976710656 ∧ (p_l.length:Int).toNat ≤ maxLen) fun h0 =>
 .say [] (okc (mk_ (p_l.length:Int) h0) (ok1 (ln_ p_l aS.lf))) <|
 .lp Tryz.f231 0 [1,1,1,0,1,0] 0 [1,5,14,15,16] 1 (.exit 0) (fun r_=>⟨[(5,.own 0)],[.row 49 31 (r_.map aS.lf)]⟩) (abK p_l 0 (List.replicate (p_l.length:Int).toNat aS.z)) (lW (fun (v0,l0)=>⟨[(1,.raw (.func (.func 188) #[] #[])),(5,.own 0),(14,.lf (.rows 31 (p_l.map aS.lf))),(15,.i_ (p_l.length:Int)),(16,.i_ v0)],[.row 49 31 (l0.map aS.lf)]⟩) (by kernel_rfl) rfl fun v_=>by kernel_rfl) fun r0 _ =>
 .ret ⟨[.mvn 0],[0],[(1,0)],1⟩ (r0)
def Q76 (p_l:List aS) : Option (List aS) := Mo.den (af0 p_l)
theorem ahV (p_l:List aS) : FH (Q76 p_l) 231 [.lf (.rows 31 (p_l.map aS.lf)),.raw (.func (.func 188) #[] #[])] [] (fun _=>.own 0) (fun r=>[.row 49 31 (r.map aS.lf)]) := gV Tryz.func231 (by kernel_rfl) (fun _=>rfl) (by kernel_rfl)
structure zB where
 m1:(p_s:aB) → Option (aB)
 ok1:∀ p_s,FV (m1 p_s) 232 [.dat (aB.lf1 p_s)] (fun r=>.dat (aB.lf1 r))
 m2:(p_l:List bF) → Option (List bF)
 ok2:∀ p_l,FH (m2 p_l) 283 [.lf (.rows 22 (p_l.map bF.lf)),.raw (.func (.func 284) #[] #[])] [] (fun r=>.lf (.rows 22 (r.map bF.lf))) (fun _=>[])
 m3:(p_l:List aB) → Option (List aB)
 ok3:∀ p_l,FH (m3 p_l) 285 [.lf (.rows 21 (p_l.map aB.lf)),.raw (.func (.func 232) #[] #[])] [] (fun r=>.lf (.rows 21 (r.map aB.lf))) (fun _=>[])
 m4:(p_p:bF) → Option (bF)
 ok4:∀ p_p,FV (m4 p_p) 284 [.dat (bF.lf1 p_p)] (fun r=>.dat (bF.lf1 r))
def Tq (R_:zB) (p_s:aB) : Mo (aB) :=
 .cl (tX p_s.rU) fun r0 _ =>
 .cl (tX p_s.rV) fun r1 _ =>
 .cH [] (aby p_s.jU) fun r2 _ =>
 .cl (xU p_s.gB) fun r3 _ =>
 .cH [] (R_.ok2 p_s.dN) fun r4 _ =>
 .cH [] (R_.ok3 p_s.fG) fun r5 _ =>
 .ret (bn 1) (aB.mk p_s.jT p_s.kR r0 p_s.kS r1 r2 p_s.kT p_s.kU r3 r4 p_s.nG r5 p_s.iQ)
theorem abL (R_:zB) (p_s:aB) : FV (Mo.den (Tq R_ p_s)) 232 [.dat (aB.lf1 p_s)] (fun r=>.dat (aB.lf1 r)) := dw Tryz.func232 (by kernel_rfl) (fun _=>rfl) (by kernel_rfl)
def Qh (R_:zB) (p_l:List bF) : (Int × (List bF)) → Mo ((Int × (List bF)) ⊕ ((List bF))) := fun (v0,l0) =>
 .iB (decide ((v0:Int) < (p_l.length:Int))) (.ask (bT p_l v0) fun x0 h0 =>
 .say [.row (bF.lf1 x0)] (ok1 (aX bF.aU h0)) <|
 .cl (R_.ok4 x0) fun r0 _ =>
 .ask (bT l0 v0) fun x1 h1 =>
 .say [.row (bF.lf1 x1),.rows ((l0.set v0.toNat r0).map bF.lf)] (okc (bZ bF.aU h1) (okc (st_ bF.aU l0 v0.toNat r0) (ok1 ((aX bF.aU h1).2)))) <|
 .rt [1,5,14,15,16] 1 (.inl (IntKind.wrap .i64 (v0 + 1),l0.set v0.toNat r0))) <|
 .rt [5] 1 (.inr (l0))
def abM (R_:zB) (p_l:List bF) (v0:Int) (l0:List bF) : Option (((List bF))) := bJ (fun v_=>(Qh R_ p_l v_).den) FU (v0,l0)
def abN (R_:zB) (p_l:List bF) : Mo (List bF) :=
 .say [.num p_l.length] (ok1 (ln_ p_l bF.lf)) <|
 .ite ((p_l.length:Int) == 0) (fun c0 =>
 .say [.br true] (ok1 c0) <|
 .ret ⟨[.nil 0 22,.tod 0],[0],[],0⟩ ([])) fun c0 =>
 .say [.br false,.num p_l.length,.rows ((List.replicate (p_l.length:Int).toNat (bF.mk ⟨#[]⟩ aB.z)).map bF.lf),.num p_l.length] (okc c0 (okc (ln_ p_l bF.lf) (ok1 (rp_ bF.aU (p_l.length:Int).toNat (bF.mk ⟨#[]⟩ aB.z))))) <|
 .grd ((0:Int) ≤ (p_l.length:Int) ∧ 328 * (p_l.length:Int).toNat ≤ 281474976710656 ∧ (p_l.length:Int).toNat ≤ maxLen) fun h0 =>
 .say [] (okc (mk_ (p_l.length:Int) h0) (ok1 (ln_ p_l bF.lf))) <|
 .lp Tryz.f283 0 [1,1,1,0,1,0] 0 [1,5,14,15,16] 1 (.exit 0) (fun r_=>⟨[(5,.own 0)],[.row 217 22 (r_.map bF.lf)]⟩) (abM R_ p_l 0 (List.replicate (p_l.length:Int).toNat (bF.mk ⟨#[]⟩ aB.z))) (lW (fun (v0,l0)=>⟨[(1,.raw (.func (.func 284) #[] #[])),(5,.own 0),(14,.lf (.rows 22 (p_l.map bF.lf))),(15,.i_ (p_l.length:Int)),(16,.i_ v0)],[.row 217 22 (l0.map bF.lf)]⟩) (by kernel_rfl) rfl fun v_=>by kernel_rfl) fun r0 _ =>
 .ret ⟨[.frz 0],[0],[],0⟩ (r0)
theorem aeC (R_:zB) (p_l:List bF) : FH (Mo.den (abN R_ p_l)) 283 [.lf (.rows 22 (p_l.map bF.lf)),.raw (.func (.func 284) #[] #[])] [] (fun r=>.lf (.rows 22 (r.map bF.lf))) (fun _=>[]) := gV Tryz.func283 (by kernel_rfl) (fun _=>rfl) (by kernel_rfl)
def Qi (R_:zB) (p_l:List aB) : (Int × (List aB)) → Mo ((Int × (List aB)) ⊕ ((List aB))) := fun (v0,l0) =>
 .iB (decide ((v0:Int) < (p_l.length:Int))) (.ask (bT p_l v0) fun x0 h0 =>
 .say [.row (aB.lf1 x0)] (ok1 (aX aB.aU h0)) <|
 .cl (R_.ok1 x0) fun r0 _ =>
 .ask (bT l0 v0) fun x1 h1 =>
 .say [.row (aB.lf1 x1),.rows ((l0.set v0.toNat r0).map aB.lf)] (okc (bZ aB.aU h1) (okc (st_ aB.aU l0 v0.toNat r0) (ok1 ((aX aB.aU h1).2)))) <|
 .rt [1,5,14,15,16] 1 (.inl (IntKind.wrap .i64 (v0 + 1),l0.set v0.toNat r0))) <|
 .rt [5] 1 (.inr (l0))
def abO (R_:zB) (p_l:List aB) (v0:Int) (l0:List aB) : Option (((List aB))) := bJ (fun v_=>(Qi R_ p_l v_).den) FU (v0,l0)
def abP (R_:zB) (p_l:List aB) : Mo (List aB) :=
 .say [.num p_l.length] (ok1 (ln_ p_l aB.lf)) <|
 .ite ((p_l.length:Int) == 0) (fun c0 =>
 .say [.br true] (ok1 c0) <|
 .ret ⟨[.nil 0 21,.tod 0],[0],[],0⟩ ([])) fun c0 =>
 .say [.br false,.num p_l.length,.rows ((List.replicate (p_l.length:Int).toNat aB.z).map aB.lf),.num p_l.length] (okc c0 (okc (ln_ p_l aB.lf) (ok1 (rp_ aB.aU (p_l.length:Int).toNat aB.z)))) <|
 .grd ((0:Int) ≤ (p_l.length:Int) ∧ 312 * (p_l.length:Int).toNat ≤ 281474976710656 ∧ (p_l.length:Int).toNat ≤ maxLen) fun h0 =>
 .say [] (okc (mk_ (p_l.length:Int) h0) (ok1 (ln_ p_l aB.lf))) <|
 .lp Tryz.f285 0 [1,1,1,0,1,0] 0 [1,5,14,15,16] 1 (.exit 0) (fun r_=>⟨[(5,.own 0)],[.row 35 21 (r_.map aB.lf)]⟩) (abO R_ p_l 0 (List.replicate (p_l.length:Int).toNat aB.z)) (lW (fun (v0,l0)=>⟨[(1,.raw (.func (.func 232) #[] #[])),(5,.own 0),(14,.lf (.rows 21 (p_l.map aB.lf))),(15,.i_ (p_l.length:Int)),(16,.i_ v0)],[.row 35 21 (l0.map aB.lf)]⟩) (by kernel_rfl) rfl fun v_=>by kernel_rfl) fun r0 _ =>
 .ret ⟨[.frz 0],[0],[],0⟩ (r0)
theorem aeD (R_:zB) (p_l:List aB) : FH (Mo.den (abP R_ p_l)) 285 [.lf (.rows 21 (p_l.map aB.lf)),.raw (.func (.func 232) #[] #[])] [] (fun r=>.lf (.rows 21 (r.map aB.lf))) (fun _=>[]) := gV Tryz.func285 (by kernel_rfl) (fun _=>rfl) (by kernel_rfl)
def Tt (R_:zB) (p_p:bF) : Mo (bF) :=
 .say [.order [(true,0),(true,1),(true,2),(true,3),(false,4),(true,5),(false,6)] (some 6) []] ok0 <|
 .cl (R_.ok1 p_p.fF) fun r0 _ =>
 .ret (bn 1) (bF.mk p_p.fName r0)
theorem abQ (R_:zB) (p_p:bF) : FV (Mo.den (Tt R_ p_p)) 284 [.dat (bF.lf1 p_p)] (fun r=>.dat (bF.lf1 r)) := dw Tryz.func284 (by kernel_rfl) (fun _=>rfl) (by kernel_rfl)
def iJ:Nat → zB
 | 0=>{ m1 := fun p_s=>none,ok1 := fun _ _ h=>(by cases h),m2 := fun p_l=>none,ok2 := fun _ _ h=>(by cases h),m3 := fun p_l=>none,ok3 := fun _ _ h=>(by cases h),m4 := fun p_p=>none,ok4 := fun _ _ h=>(by cases h) }
 | n_ + 1=>{ m1 := fun p_s=>Mo.den (Tq (iJ n_) p_s),ok1 := fun p_s r h=>abL (iJ n_) p_s r h,m2 := fun p_l=>Mo.den (abN (iJ n_) p_l),ok2 := fun p_l r h=>aeC (iJ n_) p_l r h,m3 := fun p_l=>Mo.den (abP (iJ n_) p_l),ok3 := fun p_l r h=>aeD (iJ n_) p_l r h,m4 := fun p_p=>Mo.den (Tt (iJ n_) p_p),ok4 := abQ (iJ n_) }
def ahW (p_s:aB) : Option (aB) := (iJ FU).m1 p_s
theorem aeE (p_s:aB) : FV (ahW p_s) 232 [.dat (aB.lf1 p_s)] (fun r=>.dat (aB.lf1 r)) := (iJ FU).ok1 p_s
def abR (p_d:bK) : Mo (bK) :=
 .cH [] (ahV p_d.dH) fun r0 _ =>
 .ask (ahW p_d.fF) fun r1 h0 =>
 .say [.res (.dat (aB.lf1 r1)),.at_ 0 0,.frz 2] (ok1 (aeE _ _ h0)) <|
 .ret (bn 1) (bK.mk p_d.fName r0 r1 p_d.oH p_d.lX)
def ahX (p_d:bK) : Option (bK) := Mo.den (abR p_d)
theorem aeF (p_d:bK) : FV (ahX p_d) 187 [.dat (bK.lf1 p_d)] (fun r=>.dat (bK.lf1 r)) := dw Tryz.func187 (by kernel_rfl) (fun _=>rfl) (by kernel_rfl)
def abS (p_l:List Int) : Mo (List Int) :=
 .say [.rows (p_l.map lfI)] (ok1 (by simp [lfI,lfK] : p_l.map lfI = [] ++ (p_l.map lfI))) <|
 .grd ((([] : List Int).length + p_l.length) * 8 ≤ 140737488355328) fun h0 =>
 .say [] (ok1 (cq_ lfI h0)) <|
 .ret ⟨[.mvn 0],[0],[(1,0)],1⟩ (p_l)
def aeG (p_l:List Int) : Option (List Int) := Mo.den (abS p_l)
theorem Jt (p_l:List Int) : FH (aeG p_l) 138 [.lf (.rows 1 (p_l.map lfI))] [] (fun _=>.own 0) (fun r=>[.row 3 1 (r.map lfI)]) := gV Tryz.func138 (by kernel_rfl) (fun _=>rfl) (by kernel_rfl)
structure Tv where
 m1:(p_w:aG) → Option (aG)
 ok1:∀ p_w,FV (m1 p_w) 137 [.dat (aG.lf1 p_w)] (fun r=>.dat (aG.lf1 r))
 m2:(p_l:List aG) → Option (List aG)
 ok2:∀ p_l,FH (m2 p_l) 189 [.lf (.rows 78 (p_l.map aG.lf)),.raw (.func (.func 137) #[] #[])] [] (fun r=>.lf (.rows 78 (r.map aG.lf))) (fun _=>[])
def Tz (R_:Tv) (p_w:aG) : Mo (aG) :=
 .cl (tX p_w.lY) fun r0 _ =>
 .cl (tX p_w.bU) fun r1 _ =>
 .cl (tX p_w.gW) fun r2 _ =>
 .cl (aeF p_w.nY) fun r3 _ =>
 .cl (Vr p_w.bG) fun r4 _ =>
 .cH [] (R_.ok2 p_w.dK) fun r5 _ =>
 .ask (aeG p_w.eu) fun r6 h0 =>
 .say [.jd [] (.own 0) [.row 3 1 (r6.map lfI)],.at_ 0 0,.frz 2] (ok1 (Jt _ _ h0)) <|
 .ret (bn 1) (aG.mk p_w.aT p_w.kJ r0 r1 r2 r3 r4 p_w.yL p_w.fO r5 r6 p_w.kV)
theorem abT (R_:Tv) (p_w:aG) : FV (Mo.den (Tz R_ p_w)) 137 [.dat (aG.lf1 p_w)] (fun r=>.dat (aG.lf1 r)) := dw Tryz.func137 (by kernel_rfl) (fun _=>rfl) (by kernel_rfl)
def Qj (R_:Tv) (p_l:List aG) : (Int × (List aG)) → Mo ((Int × (List aG)) ⊕ ((List aG))) := fun (v0,l0) =>
 .iB (decide ((v0:Int) < (p_l.length:Int))) (.ask (bT p_l v0) fun x0 h0 =>
 .say [.row (aG.lf1 x0)] (ok1 (aX aG.aU h0)) <|
 .cl (R_.ok1 x0) fun r0 _ =>
 .ask (bT l0 v0) fun x1 h1 =>
 .say [.row (aG.lf1 x1),.rows ((l0.set v0.toNat r0).map aG.lf)] (okc (bZ aG.aU h1) (okc (st_ aG.aU l0 v0.toNat r0) (ok1 ((aX aG.aU h1).2)))) <|
 .rt [1,5,14,15,16] 1 (.inl (IntKind.wrap .i64 (v0 + 1),l0.set v0.toNat r0))) <|
 .rt [5] 1 (.inr (l0))
def abU (R_:Tv) (p_l:List aG) (v0:Int) (l0:List aG) : Option (((List aG))) := bJ (fun v_=>(Qj R_ p_l v_).den) FU (v0,l0)
def abV (R_:Tv) (p_l:List aG) : Mo (List aG) :=
 .say [.num p_l.length] (ok1 (ln_ p_l aG.lf)) <|
 .ite ((p_l.length:Int) == 0) (fun c0 =>
 .say [.br true] (ok1 c0) <|
 .ret ⟨[.nil 0 78,.tod 0],[0],[],0⟩ ([])) fun c0 =>
 .say [.br false,.num p_l.length,.rows ((List.replicate (p_l.length:Int).toNat aG.z).map aG.lf),.num p_l.length] (okc c0 (okc (ln_ p_l aG.lf) (ok1 (rp_ aG.aU (p_l.length:Int).toNat aG.z)))) <|
 .grd ((0:Int) ≤ (p_l.length:Int) ∧ 1168 * (p_l.length:Int).toNat ≤ 281474976710656 ∧ (p_l.length:Int).toNat ≤ maxLen) fun h0 =>
 .say [] (okc (mk_ (p_l.length:Int) h0) (ok1 (ln_ p_l aG.lf))) <|
 .lp Tryz.f189 0 [1,1,1,0,1,0] 0 [1,5,14,15,16] 1 (.exit 0) (fun r_=>⟨[(5,.own 0)],[.row 52 78 (r_.map aG.lf)]⟩) (abU R_ p_l 0 (List.replicate (p_l.length:Int).toNat aG.z)) (lW (fun (v0,l0)=>⟨[(1,.raw (.func (.func 137) #[] #[])),(5,.own 0),(14,.lf (.rows 78 (p_l.map aG.lf))),(15,.i_ (p_l.length:Int)),(16,.i_ v0)],[.row 52 78 (l0.map aG.lf)]⟩) (by kernel_rfl) rfl fun v_=>by kernel_rfl) fun r0 _ =>
 .ret ⟨[.frz 0],[0],[],0⟩ (r0)
theorem aeH (R_:Tv) (p_l:List aG) : FH (Mo.den (abV R_ p_l)) 189 [.lf (.rows 78 (p_l.map aG.lf)),.raw (.func (.func 137) #[] #[])] [] (fun r=>.lf (.rows 78 (r.map aG.lf))) (fun _=>[]) := gV Tryz.func189 (by kernel_rfl) (fun _=>rfl) (by kernel_rfl)
def lQ:Nat → Tv
 | 0=>{ m1 := fun p_w=>none,ok1 := fun _ _ h=>(by cases h),m2 := fun p_l=>none,ok2 := fun _ _ h=>(by cases h) }
 | n_ + 1=>{ m1 := fun p_w=>Mo.den (Tz (lQ n_) p_w),ok1 := fun p_w r h=>abT (lQ n_) p_w r h,m2 := fun p_l=>Mo.den (abV (lQ n_) p_l),ok2 := aeH (lQ n_) }
def ajl (p_w:aG) : Option (aG) := (lQ FU).m1 p_w
theorem aeI (p_w:aG) : FV (ajl p_w) 137 [.dat (aG.lf1 p_w)] (fun r=>.dat (aG.lf1 r)) := (lQ FU).ok1 p_w
def abW (p_e:au) : Mo (au) :=
 .cl (aeI p_e.iE) fun r0 _ =>
 .ret (bn 1) (au.mk p_e.bC p_e.fO p_e.jV p_e.oI r0)
def aeJ (p_e:au) : Option (au) := Mo.den (abW p_e)
theorem aeK (p_e:au) : FV (aeJ p_e) 102 [.dat (au.lf1 p_e)] (fun r=>.dat (au.lf1 r)) := dw Tryz.func102 (by kernel_rfl) (fun _=>rfl) (by kernel_rfl)
def Qk (p_l:List au) : (Int × (List au)) → Mo ((Int × (List au)) ⊕ ((List au))) := fun (v0,l0) =>
 .iB (decide ((v0:Int) < (p_l.length:Int))) (.ask (bT p_l v0) fun x0 h0 =>
 .say [.row (au.lf1 x0)] (ok1 (aX au.aU h0)) <|
 .cl (aeK x0) fun r0 _ =>
 .ask (bT l0 v0) fun x1 h1 =>
 .say [.row (au.lf1 x1),.rows ((l0.set v0.toNat r0).map au.lf)] (okc (bZ au.aU h1) (okc (st_ au.aU l0 v0.toNat r0) (ok1 ((aX au.aU h1).2)))) <|
 .rt [1,5,14,15,16] 1 (.inl (IntKind.wrap .i64 (v0 + 1),l0.set v0.toNat r0))) <|
 .rt [5] 1 (.inr (l0))
def abX (p_l:List au) (v0:Int) (l0:List au) : Option (((List au))) := bJ (fun v_=>(Qk p_l v_).den) FU (v0,l0)
def af2 (p_l:List au) : Mo (List au) :=
 .say [.num p_l.length] (ok1 (ln_ p_l au.lf)) <|
 .ite ((p_l.length:Int) == 0) (fun c0 =>
 .say [.br true] (okc c0 (ok1 (by simp [au.aU] : (([] : List au).map au.lf) = []))) <|
 .ret ⟨[.Ep 0 54 82,.kF 0 (([] : List au).map au.lf),.mvn 0],[0],[(1,0)],1⟩ (([] : List au))) fun c0 =>
 .say [.br false,.num p_l.length,.rows ((List.replicate (p_l.length:Int).toNat (au.mk 0 0 ⟨#[]⟩ 0 aG.z)).map au.lf),.num p_l.length] (okc c0 (okc (ln_ p_l au.lf) (ok1 (rp_ au.aU (p_l.length:Int).toNat (au.mk 0 0 ⟨#[]⟩ 0 aG.z))))) <|
 .grd ((0:Int) ≤ (p_l.length:Int) ∧ 1208 * (p_l.length:Int).toNat ≤ 281474976710656 ∧ (p_l.length:Int).toNat ≤ maxLen) fun h0 =>
 .say [] (okc (mk_ (p_l.length:Int) h0) (ok1 (ln_ p_l au.lf))) <|
 .lp Tryz.f101 0 [1,1,1,0,1,0] 0 [1,5,14,15,16] 1 (.exit 0) (fun r_=>⟨[(5,.own 0)],[.row 54 82 (r_.map au.lf)]⟩) (abX p_l 0 (List.replicate (p_l.length:Int).toNat (au.mk 0 0 ⟨#[]⟩ 0 aG.z))) (lW (fun (v0,l0)=>⟨[(1,.raw (.func (.func 102) #[] #[])),(5,.own 0),(14,.lf (.rows 82 (p_l.map au.lf))),(15,.i_ (p_l.length:Int)),(16,.i_ v0)],[.row 54 82 (l0.map au.lf)]⟩) (by kernel_rfl) rfl fun v_=>by kernel_rfl) fun r0 _ =>
 .ret ⟨[.mvn 0],[0],[(1,0)],1⟩ (r0)
def Q63 (p_l:List au) : Option (List au) := Mo.den (af2 p_l)
theorem TA (p_l:List au) : FH (Q63 p_l) 101 [.lf (.rows 82 (p_l.map au.lf)),.raw (.func (.func 102) #[] #[])] [] (fun _=>.own 0) (fun r=>[.row 54 82 (r.map au.lf)]) := gV Tryz.func101 (by kernel_rfl) (fun _=>rfl) (by kernel_rfl)
def abY (p_m:ak) : Mo (ak) :=
 .cH [] (TA p_m.aP) fun r0 _ =>
 .cH [] (Jt p_m.fNext) fun r1 _ =>
 .cH [] (Jt p_m.bg) fun r2 _ =>
 .ret ⟨[.kill 0,.kill 1,.mvn 2,.mvn 3,.mvn 4],[0],[(5,0),(6,1),(7,2)],3⟩ (ak.IU (ak.Uy (ak.mP p_m r0) r1) r2)
def aeL (p_m:ak) : Option (ak) := Mo.den (abY p_m)
theorem Vs (p_m:ak) : FH (aeL p_m) 103 [.dat (ak.lf1 p_m)] [] (fun r=>yM (.agg ((ak.lf1 r).map AV.lf)) [(8,.own 0),(10,.own 1),(11,.own 2)]) (fun r=>[.row 54 82 (r.aP.map au.lf),.row 3 1 (r.fNext.map lfI),.row 3 1 (r.bg.map lfI)]) := gV Tryz.func103 (by kernel_rfl) (fun _=>rfl) (by kernel_rfl)
def TB (p_m:ak) (p_at:Int) : Mo (ak × bM) :=
 .say [.num p_m.aP.length] (okc (ln_ p_m.aP au.lf) (ok1 (kK _ _ _:(p_m.aP.drop (if (p_m.aP.length:Int) < (if 0 > (if p_m.aA > p_at then p_m.aA else p_at) then 0 else (if p_m.aA > p_at then p_m.aA else p_at)) then (p_m.aP.length:Int) else (if 0 > (if p_m.aA > p_at then p_m.aA else p_at) then 0 else (if p_m.aA > p_at then p_m.aA else p_at))).toNat).map au.lf = ((p_m.aP.map au.lf).take ((p_m.aP.map au.lf).length:Int).toNat).drop (if (p_m.aP.length:Int) < (if 0 > (if p_m.aA > p_at then p_m.aA else p_at) then 0 else (if p_m.aA > p_at then p_m.aA else p_at)) then (p_m.aP.length:Int) else (if 0 > (if p_m.aA > p_at then p_m.aA else p_at) then 0 else (if p_m.aA > p_at then p_m.aA else p_at))).toNat))) <|
 .grd ((0:Int) ≤ (if (p_m.aP.length:Int) < (if 0 > (if p_m.aA > p_at then p_m.aA else p_at) then 0 else (if p_m.aA > p_at then p_m.aA else p_at)) then (p_m.aP.length:Int) else (if 0 > (if p_m.aA > p_at then p_m.aA else p_at) then 0 else (if p_m.aA > p_at then p_m.aA else p_at))) ∧ (if (p_m.aP.length:Int) < (if 0 > (if p_m.aA > p_at then p_m.aA else p_at) then 0 else (if p_m.aA > p_at then p_m.aA else p_at)) then (p_m.aP.length:Int) else (if 0 > (if p_m.aA > p_at then p_m.aA else p_at) then 0 else (if p_m.aA > p_at then p_m.aA else p_at))) ≤ (p_m.aP.length:Int) ∧ (p_m.aP.length:Int) ≤ (p_m.aP.length:Int)) fun h0 =>
 .say [] (ok1 (UC _ _ h0:(0:Int) ≤ (if (p_m.aP.length:Int) < (if 0 > (if p_m.aA > p_at then p_m.aA else p_at) then 0 else (if p_m.aA > p_at then p_m.aA else p_at)) then (p_m.aP.length:Int) else (if 0 > (if p_m.aA > p_at then p_m.aA else p_at) then 0 else (if p_m.aA > p_at then p_m.aA else p_at))) ∧ (if (p_m.aP.length:Int) < (if 0 > (if p_m.aA > p_at then p_m.aA else p_at) then 0 else (if p_m.aA > p_at then p_m.aA else p_at)) then (p_m.aP.length:Int) else (if 0 > (if p_m.aA > p_at then p_m.aA else p_at) then 0 else (if p_m.aA > p_at then p_m.aA else p_at))) ≤ ((p_m.aP.map au.lf).length:Int) ∧ ((p_m.aP.map au.lf).length:Int) ≤ ((p_m.aP.map au.lf).length:Int))) <|
 .ask (Q63 (p_m.aP.drop (if (p_m.aP.length:Int) < (if 0 > (if p_m.aA > p_at then p_m.aA else p_at) then 0 else (if p_m.aA > p_at then p_m.aA else p_at)) then (p_m.aP.length:Int) else (if 0 > (if p_m.aA > p_at then p_m.aA else p_at) then 0 else (if p_m.aA > p_at then p_m.aA else p_at))).toNat)) fun r0 h1 =>
 .say [.dM (.q 0 (.q 1 (.q 2 (.q 3 (.q 4 (.q 5 (.q 6 (.q 7 (.q 8 (.alt 9 (.q 10 (.l 11 (.l 12 .fin))) (.l 11 (.l 9 (.q 10 (.l 12 .fin)))))))))))))) (some 12) [3] [.rows ((p_m.aP.drop (if (p_m.aP.length:Int) < (if 0 > (if p_m.aA > p_at then p_m.aA else p_at) then 0 else (if p_m.aA > p_at then p_m.aA else p_at)) then (p_m.aP.length:Int) else (if 0 > (if p_m.aA > p_at then p_m.aA else p_at) then 0 else (if p_m.aA > p_at then p_m.aA else p_at))).toNat).map au.lf),.both [.at_ 6 9,.resv 1,.jd [] (.own 0) [.row 54 82 (r0.map au.lf)],.slot 3] [.at_ 6 11,.resv 1,.slot 3,.jd [] (.own 0) [.row 54 82 (r0.map au.lf)]]] [2,4,5,6,7] 5 [(2,.ptr 0 0),(4,.ptr 1 0),(5,.ptr 2 0),(6,.i_ (if (p_m.aP.length:Int) < (if 0 > (if p_m.aA > p_at then p_m.aA else p_at) then 0 else (if p_m.aA > p_at then p_m.aA else p_at)) then (p_m.aP.length:Int) else (if 0 > (if p_m.aA > p_at then p_m.aA else p_at) then 0 else (if p_m.aA > p_at then p_m.aA else p_at)))),(7,.ptr 3 0)] [.box 25 (.dat (ak.lf1 p_m)),.box 25 (Z25),.box 67 (.agg [.i_ 0,.i_ 0,.i_ 0,.bH 82]),.box 67 (.agg [.i_ p_m.fID,.i_ p_m.bC,.i_ (if (p_m.aP.length:Int) < (if 0 > (if p_m.aA > p_at then p_m.aA else p_at) then 0 else (if p_m.aA > p_at then p_m.aA else p_at)) then (p_m.aP.length:Int) else (if 0 > (if p_m.aA > p_at then p_m.aA else p_at) then 0 else (if p_m.aA > p_at then p_m.aA else p_at))),.own 4]),.row 54 82 (r0.map au.lf)],.rows ((p_m.aP.take (if (p_m.aP.length:Int) < (if 0 > (if p_m.aA > p_at then p_m.aA else p_at) then 0 else (if p_m.aA > p_at then p_m.aA else p_at)) then (p_m.aP.length:Int) else (if 0 > (if p_m.aA > p_at then p_m.aA else p_at) then 0 else (if p_m.aA > p_at then p_m.aA else p_at))).toNat).map au.lf)] (okc (TA _ _ h1) (okc (rf_ ⟨[(2,.ptr 0 0),(4,.ptr 1 0),(5,.ptr 2 0),(6,.i_ (if (p_m.aP.length:Int) < (if 0 > (if p_m.aA > p_at then p_m.aA else p_at) then 0 else (if p_m.aA > p_at then p_m.aA else p_at)) then (p_m.aP.length:Int) else (if 0 > (if p_m.aA > p_at then p_m.aA else p_at) then 0 else (if p_m.aA > p_at then p_m.aA else p_at)))),(7,.ptr 3 0)],[.box 25 (.dat (ak.lf1 p_m)),.box 25 (Z25),.box 67 (.agg [.i_ 0,.i_ 0,.i_ 0,.bH 82]),.box 67 (.agg [.i_ p_m.fID,.i_ p_m.bC,.i_ (if (p_m.aP.length:Int) < (if 0 > (if p_m.aA > p_at then p_m.aA else p_at) then 0 else (if p_m.aA > p_at then p_m.aA else p_at)) then (p_m.aP.length:Int) else (if 0 > (if p_m.aA > p_at then p_m.aA else p_at) then 0 else (if p_m.aA > p_at then p_m.aA else p_at))),.own 4]),.row 54 82 (r0.map au.lf)]⟩) (okc (TA _ _ h1) (okc (rf_ ⟨[(2,.ptr 0 0),(4,.ptr 1 0),(5,.ptr 2 0),(6,.i_ (if (p_m.aP.length:Int) < (if 0 > (if p_m.aA > p_at then p_m.aA else p_at) then 0 else (if p_m.aA > p_at then p_m.aA else p_at)) then (p_m.aP.length:Int) else (if 0 > (if p_m.aA > p_at then p_m.aA else p_at) then 0 else (if p_m.aA > p_at then p_m.aA else p_at)))),(7,.ptr 3 0)],[.box 25 (.dat (ak.lf1 p_m)),.box 25 (Z25),.box 67 (.agg [.i_ 0,.i_ 0,.i_ 0,.bH 82]),.box 67 (.agg [.i_ p_m.fID,.i_ p_m.bC,.i_ (if (p_m.aP.length:Int) < (if 0 > (if p_m.aA > p_at then p_m.aA else p_at) then 0 else (if p_m.aA > p_at then p_m.aA else p_at)) then (p_m.aP.length:Int) else (if 0 > (if p_m.aA > p_at then p_m.aA else p_at) then 0 else (if p_m.aA > p_at then p_m.aA else p_at))),.own 4]),.row 54 82 (r0.map au.lf)]⟩) (ok1 (by first | (simp [au.aU]; done) | exact kK _ _ _:(p_m.aP.take (if (p_m.aP.length:Int) < (if 0 > (if p_m.aA > p_at then p_m.aA else p_at) then 0 else (if p_m.aA > p_at then p_m.aA else p_at)) then (p_m.aP.length:Int) else (if 0 > (if p_m.aA > p_at then p_m.aA else p_at) then 0 else (if p_m.aA > p_at then p_m.aA else p_at))).toNat).map au.lf = ((p_m.aP.map au.lf).take (if (p_m.aP.length:Int) < (if 0 > (if p_m.aA > p_at then p_m.aA else p_at) then 0 else (if p_m.aA > p_at then p_m.aA else p_at)) then (p_m.aP.length:Int) else (if 0 > (if p_m.aA > p_at then p_m.aA else p_at) then 0 else (if p_m.aA > p_at then p_m.aA else p_at))).toNat).drop (0:Int).toNat)))))) <|
 .grd ((0:Int) ≤ 0 ∧ 0 ≤ (if (p_m.aP.length:Int) < (if 0 > (if p_m.aA > p_at then p_m.aA else p_at) then 0 else (if p_m.aA > p_at then p_m.aA else p_at)) then (p_m.aP.length:Int) else (if 0 > (if p_m.aA > p_at then p_m.aA else p_at) then 0 else (if p_m.aA > p_at then p_m.aA else p_at))) ∧ (if (p_m.aP.length:Int) < (if 0 > (if p_m.aA > p_at then p_m.aA else p_at) then 0 else (if p_m.aA > p_at then p_m.aA else p_at)) then (p_m.aP.length:Int) else (if 0 > (if p_m.aA > p_at then p_m.aA else p_at) then 0 else (if p_m.aA > p_at then p_m.aA else p_at))) ≤ (p_m.aP.length:Int)) fun h2 =>
 .say [] (ok1 (by simpa using h2:(0:Int) ≤ 0 ∧ 0 ≤ (if (p_m.aP.length:Int) < (if 0 > (if p_m.aA > p_at then p_m.aA else p_at) then 0 else (if p_m.aA > p_at then p_m.aA else p_at)) then (p_m.aP.length:Int) else (if 0 > (if p_m.aA > p_at then p_m.aA else p_at) then 0 else (if p_m.aA > p_at then p_m.aA else p_at))) ∧ (if (p_m.aP.length:Int) < (if 0 > (if p_m.aA > p_at then p_m.aA else p_at) then 0 else (if p_m.aA > p_at then p_m.aA else p_at)) then (p_m.aP.length:Int) else (if 0 > (if p_m.aA > p_at then p_m.aA else p_at) then 0 else (if p_m.aA > p_at then p_m.aA else p_at))) ≤ ((p_m.aP.map au.lf).length:Int))) <|
 .ask (aeL (ak.mP p_m (p_m.aP.take (if (p_m.aP.length:Int) < (if 0 > (if p_m.aA > p_at then p_m.aA else p_at) then 0 else (if p_m.aA > p_at then p_m.aA else p_at)) then (p_m.aP.length:Int) else (if 0 > (if p_m.aA > p_at then p_m.aA else p_at) then 0 else (if p_m.aA > p_at then p_m.aA else p_at))).toNat))) fun r1 h3 =>
 .say [.dM (.q 0 (.alt 1 (.alt 2 (.l 3 (.l 4 .fin)) (.l 3 (.l 2 (.l 4 .fin)))) (.l 2 (.l 1 (.l 3 (.l 4 .fin)))))) (some 4) [1] [.both [.jd [] (ag_ (ak.lf1 r1) [(8,.own 0),(10,.own 1),(11,.own 2)]) [.row 54 82 (r1.aP.map au.lf),.row 3 1 (r1.fNext.map lfI),.row 3 1 (r1.bg.map lfI)],.both [] []] [.jd [] (ag_ (ak.lf1 r1) [(8,.own 0),(10,.own 1),(11,.own 2)]) [.row 54 82 (r1.aP.map au.lf),.row 3 1 (r1.fNext.map lfI),.row 3 1 (r1.bg.map lfI)]]] [4,5] 8 [(4,.ptr 1 0),(5,.ptr 2 0)] [.box 25 (.dat (ak.lf1 (ak.mP p_m (p_m.aP.take (if (p_m.aP.length:Int) < (if 0 > (if p_m.aA > p_at then p_m.aA else p_at) then 0 else (if p_m.aA > p_at then p_m.aA else p_at)) then (p_m.aP.length:Int) else (if 0 > (if p_m.aA > p_at then p_m.aA else p_at) then 0 else (if p_m.aA > p_at then p_m.aA else p_at))).toNat)))),.box 25 (ag_ (ak.lf1 r1) [(8,.own 5),(10,.own 6),(11,.own 7)]),.box 67 (.agg [.i_ p_m.fID,.i_ p_m.bC,.i_ (if (p_m.aP.length:Int) < (if 0 > (if p_m.aA > p_at then p_m.aA else p_at) then 0 else (if p_m.aA > p_at then p_m.aA else p_at)) then (p_m.aP.length:Int) else (if 0 > (if p_m.aA > p_at then p_m.aA else p_at) then 0 else (if p_m.aA > p_at then p_m.aA else p_at))),.own 4]),.box 67 (.agg [.i_ p_m.fID,.i_ p_m.bC,.i_ (if (p_m.aP.length:Int) < (if 0 > (if p_m.aA > p_at then p_m.aA else p_at) then 0 else (if p_m.aA > p_at then p_m.aA else p_at)) then (p_m.aP.length:Int) else (if 0 > (if p_m.aA > p_at then p_m.aA else p_at) then 0 else (if p_m.aA > p_at then p_m.aA else p_at))),.own 4]),.row 54 82 (r0.map au.lf),.row 54 82 (r1.aP.map au.lf),.row 3 1 (r1.fNext.map lfI),.row 3 1 (r1.bg.map lfI)]] (okc (Vs _ _ h3) (okc (rf_ ⟨[(4,.ptr 1 0),(5,.ptr 2 0)],[.box 25 (.dat (ak.lf1 (ak.mP p_m (p_m.aP.take (if (p_m.aP.length:Int) < (if 0 > (if p_m.aA > p_at then p_m.aA else p_at) then 0 else (if p_m.aA > p_at then p_m.aA else p_at)) then (p_m.aP.length:Int) else (if 0 > (if p_m.aA > p_at then p_m.aA else p_at) then 0 else (if p_m.aA > p_at then p_m.aA else p_at))).toNat)))),.box 25 (ag_ (ak.lf1 r1) [(8,.own 5),(10,.own 6),(11,.own 7)]),.box 67 (.agg [.i_ p_m.fID,.i_ p_m.bC,.i_ (if (p_m.aP.length:Int) < (if 0 > (if p_m.aA > p_at then p_m.aA else p_at) then 0 else (if p_m.aA > p_at then p_m.aA else p_at)) then (p_m.aP.length:Int) else (if 0 > (if p_m.aA > p_at then p_m.aA else p_at) then 0 else (if p_m.aA > p_at then p_m.aA else p_at))),.own 4]),.box 67 (.agg [.i_ p_m.fID,.i_ p_m.bC,.i_ (if (p_m.aP.length:Int) < (if 0 > (if p_m.aA > p_at then p_m.aA else p_at) then 0 else (if p_m.aA > p_at then p_m.aA else p_at)) then (p_m.aP.length:Int) else (if 0 > (if p_m.aA > p_at then p_m.aA else p_at) then 0 else (if p_m.aA > p_at then p_m.aA else p_at))),.own 4]),.row 54 82 (r0.map au.lf),.row 54 82 (r1.aP.map au.lf),.row 3 1 (r1.fNext.map lfI),.row 3 1 (r1.bg.map lfI)]⟩) (okc (rf_ ⟨[(4,.ptr 1 0),(5,.ptr 2 0)],[.box 25 (.dat (ak.lf1 (ak.mP p_m (p_m.aP.take (if (p_m.aP.length:Int) < (if 0 > (if p_m.aA > p_at then p_m.aA else p_at) then 0 else (if p_m.aA > p_at then p_m.aA else p_at)) then (p_m.aP.length:Int) else (if 0 > (if p_m.aA > p_at then p_m.aA else p_at) then 0 else (if p_m.aA > p_at then p_m.aA else p_at))).toNat)))),.box 25 (ag_ (ak.lf1 r1) [(8,.own 5),(10,.own 6),(11,.own 7)]),.box 67 (.agg [.i_ p_m.fID,.i_ p_m.bC,.i_ (if (p_m.aP.length:Int) < (if 0 > (if p_m.aA > p_at then p_m.aA else p_at) then 0 else (if p_m.aA > p_at then p_m.aA else p_at)) then (p_m.aP.length:Int) else (if 0 > (if p_m.aA > p_at then p_m.aA else p_at) then 0 else (if p_m.aA > p_at then p_m.aA else p_at))),.own 4]),.box 67 (.agg [.i_ p_m.fID,.i_ p_m.bC,.i_ (if (p_m.aP.length:Int) < (if 0 > (if p_m.aA > p_at then p_m.aA else p_at) then 0 else (if p_m.aA > p_at then p_m.aA else p_at)) then (p_m.aP.length:Int) else (if 0 > (if p_m.aA > p_at then p_m.aA else p_at) then 0 else (if p_m.aA > p_at then p_m.aA else p_at))),.own 4]),.row 54 82 (r0.map au.lf),.row 54 82 (r1.aP.map au.lf),.row 3 1 (r1.fNext.map lfI),.row 3 1 (r1.bg.map lfI)]⟩) (okc (Vs _ _ h3) (ok1 (rf_ ⟨[(4,.ptr 1 0),(5,.ptr 2 0)],[.box 25 (.dat (ak.lf1 (ak.mP p_m (p_m.aP.take (if (p_m.aP.length:Int) < (if 0 > (if p_m.aA > p_at then p_m.aA else p_at) then 0 else (if p_m.aA > p_at then p_m.aA else p_at)) then (p_m.aP.length:Int) else (if 0 > (if p_m.aA > p_at then p_m.aA else p_at) then 0 else (if p_m.aA > p_at then p_m.aA else p_at))).toNat)))),.box 25 (ag_ (ak.lf1 r1) [(8,.own 5),(10,.own 6),(11,.own 7)]),.box 67 (.agg [.i_ p_m.fID,.i_ p_m.bC,.i_ (if (p_m.aP.length:Int) < (if 0 > (if p_m.aA > p_at then p_m.aA else p_at) then 0 else (if p_m.aA > p_at then p_m.aA else p_at)) then (p_m.aP.length:Int) else (if 0 > (if p_m.aA > p_at then p_m.aA else p_at) then 0 else (if p_m.aA > p_at then p_m.aA else p_at))),.own 4]),.box 67 (.agg [.i_ p_m.fID,.i_ p_m.bC,.i_ (if (p_m.aP.length:Int) < (if 0 > (if p_m.aA > p_at then p_m.aA else p_at) then 0 else (if p_m.aA > p_at then p_m.aA else p_at)) then (p_m.aP.length:Int) else (if 0 > (if p_m.aA > p_at then p_m.aA else p_at) then 0 else (if p_m.aA > p_at then p_m.aA else p_at))),.own 4]),.row 54 82 (r0.map au.lf),.row 54 82 (r1.aP.map au.lf),.row 3 1 (r1.fNext.map lfI),.row 3 1 (r1.bg.map lfI)]⟩)))))) <|
 .ret ⟨[.kill 0,.kill 1,.kill 2,.kill 3,.mvn 5,.mvn 6,.mvn 7,.mvn 4],[0,1],[(8,0),(9,1),(10,2),(11,3)],4⟩ (r1,bM.mk p_m.fID p_m.bC (if (p_m.aP.length:Int) < (if 0 > (if p_m.aA > p_at then p_m.aA else p_at) then 0 else (if p_m.aA > p_at then p_m.aA else p_at)) then (p_m.aP.length:Int) else (if 0 > (if p_m.aA > p_at then p_m.aA else p_at) then 0 else (if p_m.aA > p_at then p_m.aA else p_at))) r0)
def aeM (p_m:ak) (p_at:Int) : Option (ak × bM) := Mo.den (TB p_m p_at)
theorem Vt (p_m:ak) (p_at:Int) : FH (aeM p_m p_at) 73 [.dat (ak.lf1 p_m),.i_ p_at] [] (fun r=>.tup [yM (.agg ((ak.lf1 r.1).map AV.lf)) [(8,.own 0),(10,.own 1),(11,.own 2)],.agg [.i_ r.2.dP,.i_ r.2.bC,.i_ r.2.fAt,.own 3]]) (fun r=>[.row 54 82 (r.1.aP.map au.lf),.row 3 1 (r.1.fNext.map lfI),.row 3 1 (r.1.bg.map lfI),.row 54 82 (r.2.aW.map au.lf)]) := gV Tryz.func73 (by kernel_rfl) (fun _=>rfl) (by kernel_rfl)
def abZ (p_l:List au) : Mo (List au) :=
 .say [.at_ 4 2,.tod 7] ok0 <|
 .cH [] (Vt (ak.mP ak.z p_l) 0) fun r0 _ =>
 .ret ⟨[.kill 0,.kill 1,.kill 2,.kill 4,.kill 5,.mvn 3],[0],[(6,0)],1⟩ (r0.2.aW)
def aeN (p_l:List au) : Option (List au) := Mo.den (abZ p_l)
theorem Vu (p_l:List au) : FH (aeN p_l) 37 [.lf (.rows 82 (p_l.map au.lf))] [] (fun _=>.own 0) (fun r=>[.row 54 82 (r.map au.lf)]) := gV Tryz.func37 (by kernel_rfl) (fun _=>rfl) (by kernel_rfl)
def DC (p_b0:aF) (p_x:aj) (r0:Int) : Mo ((Int × Int × Int × Int × Int × Int × Int × Int × Int × Int × Int × Int × (List au) × (List au) × (List Int) × (List Int))) :=
 .ite (decide ((r0:Int) < (p_b0.aI.aP.length:Int))) (fun c0 =>
 .say [.br true,.at_ 8 7,.frz 6,.frz 7,.frz 8,.tod 25] (ok1 c0) <|
 .cH [] (Vt p_b0.aI r0) fun r1 _ =>
 .ret ⟨[.frz 13],[0,3],[(10,6),(11,7),(12,8)],10⟩ (r1.1.fID,r1.1.dJ,r1.1.bC,r1.1.jm,r1.1.dV,r1.1.iq,r1.1.gX,r1.1.fQ,r1.1.aA,r1.2.dP,r1.2.bC,r1.2.fAt,r1.2.aW,r1.1.aP,r1.1.fNext,r1.1.bg)) fun c0 =>
 .say [.br false] (ok1 c0) <|
 .rt [0,3] 10 (p_b0.aI.fID,p_b0.aI.dJ,p_b0.aI.bC,p_b0.aI.jm,p_b0.aI.dV,p_b0.aI.iq,p_b0.aI.gX,p_b0.aI.fQ,p_b0.aI.aA,p_b0.eG.dP,p_b0.eG.bC,p_b0.eG.fAt,p_b0.eG.aW,p_b0.aI.aP,p_b0.aI.fNext,p_b0.aI.bg)
def Ju (p_b0:aF) (p_x:aj) (r0:Int) : Option ((Int × Int × Int × Int × Int × Int × Int × Int × Int × Int × Int × Int × (List au) × (List au) × (List Int) × (List Int))) := Mo.den (DC p_b0 p_x r0)
def DF (p_b0:aF) (p_x:aj) (r_:(Int × Int × Int × Int × Int × Int × Int × Int × Int × Int × Int × Int × (List au) × (List au) × (List Int) × (List Int))) : St := ⟨[(0,.ptr 0 0),(3,.ptr 5 0)],[.box 97 (.agg [.i_ r_.1,.i_ r_.2.1,.i_ r_.2.2.1,.i_ r_.2.2.2.1,.i_ r_.2.2.2.2.1,.i_ r_.2.2.2.2.2.1,.i_ r_.2.2.2.2.2.2.1,.i_ r_.2.2.2.2.2.2.2.1,.own 6,.i_ r_.2.2.2.2.2.2.2.2.1,.own 7,.own 8,.own 9,.i_ r_.2.2.2.2.2.2.2.2.2.1,.i_ r_.2.2.2.2.2.2.2.2.2.2.1,.i_ r_.2.2.2.2.2.2.2.2.2.2.2.1,.lf (.rows 82 (r_.2.2.2.2.2.2.2.2.2.2.2.2.1.map au.lf))]),.dead,.dead,.dead,.dead,.box 63 (.dat (aj.lf1 p_x)),.row 54 82 (r_.2.2.2.2.2.2.2.2.2.2.2.2.2.1.map au.lf),.row 3 1 (r_.2.2.2.2.2.2.2.2.2.2.2.2.2.2.1.map lfI),.row 3 1 (r_.2.2.2.2.2.2.2.2.2.2.2.2.2.2.2.map lfI),.row 63 9 (p_b0.cZ.map aj.lf)]⟩
theorem ab1 {p_b0:aF} {p_x:aj} {r0:Int} {r_:(Int × Int × Int × Int × Int × Int × Int × Int × Int × Int × Int × Int × (List au) × (List au) × (List Int) × (List Int))} (h:Ju p_b0 p_x r0 = some r_) : gq Tryz.f83 5 [1,0,1,1] (.normal) (DF p_b0 p_x r_) ⟨[(0,.ptr 0 0),(3,.ptr 5 0),(4,.i_ r0),(18,.lf (.bool (decide ((r0:Int) < (p_b0.aI.aP.length:Int)))))],[.box 97 (ag_ (aF.lf1 p_b0) [(8,.own 6),(10,.own 7),(11,.own 8),(12,.own 9)]),.dead,.dead,.dead,.dead,.box 63 (.dat (aj.lf1 p_x)),.row 54 82 (p_b0.aI.aP.map au.lf),.row 3 1 (p_b0.aI.fNext.map lfI),.row 3 1 (p_b0.aI.bg.map lfI),.row 63 9 (p_b0.cZ.map aj.lf)]⟩ :=
 jq dL (DC p_b0 p_x r0) (fun _=>.normal) (DF p_b0 p_x) (by kernel_rfl) h
def DI (p_b0:aF) (p_x:aj) (r0:(Int × Int × Int × Int × Int × Int × Int × Int × Int × Int × Int × Int × (List au) × (List au) × (List Int) × (List Int))) : Mo (((List au))) :=
 .ite (decide ((IntKind.wrap .i64 ((r0.2.2.2.2.2.2.2.2.2.2.2.2.2.1.length:Int) - p_x.bG) : Int) < (p_x.aW.length:Int))) (fun c0 =>
 .say [.br true] (okc c0 (ok1 (kK _ _ _:(p_x.aW.drop (if (IntKind.wrap .i64 ((r0.2.2.2.2.2.2.2.2.2.2.2.2.2.1.length:Int) - p_x.bG)) > 0 then (IntKind.wrap .i64 ((r0.2.2.2.2.2.2.2.2.2.2.2.2.2.1.length:Int) - p_x.bG)) else 0).toNat).map au.lf = ((p_x.aW.map au.lf).take ((p_x.aW.map au.lf).length:Int).toNat).drop (if (IntKind.wrap .i64 ((r0.2.2.2.2.2.2.2.2.2.2.2.2.2.1.length:Int) - p_x.bG)) > 0 then (IntKind.wrap .i64 ((r0.2.2.2.2.2.2.2.2.2.2.2.2.2.1.length:Int) - p_x.bG)) else 0).toNat))) <|
 .grd ((0:Int) ≤ (if (IntKind.wrap .i64 ((r0.2.2.2.2.2.2.2.2.2.2.2.2.2.1.length:Int) - p_x.bG)) > 0 then (IntKind.wrap .i64 ((r0.2.2.2.2.2.2.2.2.2.2.2.2.2.1.length:Int) - p_x.bG)) else 0) ∧ (if (IntKind.wrap .i64 ((r0.2.2.2.2.2.2.2.2.2.2.2.2.2.1.length:Int) - p_x.bG)) > 0 then (IntKind.wrap .i64 ((r0.2.2.2.2.2.2.2.2.2.2.2.2.2.1.length:Int) - p_x.bG)) else 0) ≤ (p_x.aW.length:Int) ∧ (p_x.aW.length:Int) ≤ (p_x.aW.length:Int)) fun h0 =>
 .say [] (ok1 (UC _ _ h0:(0:Int) ≤ (if (IntKind.wrap .i64 ((r0.2.2.2.2.2.2.2.2.2.2.2.2.2.1.length:Int) - p_x.bG)) > 0 then (IntKind.wrap .i64 ((r0.2.2.2.2.2.2.2.2.2.2.2.2.2.1.length:Int) - p_x.bG)) else 0) ∧ (if (IntKind.wrap .i64 ((r0.2.2.2.2.2.2.2.2.2.2.2.2.2.1.length:Int) - p_x.bG)) > 0 then (IntKind.wrap .i64 ((r0.2.2.2.2.2.2.2.2.2.2.2.2.2.1.length:Int) - p_x.bG)) else 0) ≤ ((p_x.aW.map au.lf).length:Int) ∧ ((p_x.aW.map au.lf).length:Int) ≤ ((p_x.aW.map au.lf).length:Int))) <|
 .ask (aeN (p_x.aW.drop (if (IntKind.wrap .i64 ((r0.2.2.2.2.2.2.2.2.2.2.2.2.2.1.length:Int) - p_x.bG)) > 0 then (IntKind.wrap .i64 ((r0.2.2.2.2.2.2.2.2.2.2.2.2.2.1.length:Int) - p_x.bG)) else 0).toNat)) fun r1 h1 =>
 .say [.dM (.q 0 (.q 1 (.q 2 (.q 3 (.q 5 (.q 6 (.q 7 (.q 8 (.q 9 (.alt 4 (.l 10 (.l 11 (.q 12 (.q 13 (.l 14 .fin))))) (.l 10 (.l 4 (.l 11 (.q 12 (.q 13 (.l 14 .fin)))))))))))))))) (some 14) [6,10] [.rows ((p_x.aW.drop (if (IntKind.wrap .i64 ((r0.2.2.2.2.2.2.2.2.2.2.2.2.2.1.length:Int) - p_x.bG)) > 0 then (IntKind.wrap .i64 ((r0.2.2.2.2.2.2.2.2.2.2.2.2.2.1.length:Int) - p_x.bG)) else 0).toNat).map au.lf),.both [.at_ 16 4,.resv 1,.jd [] (.own 0) [.row 54 82 (r1.map au.lf)],.rows ((r0.2.2.2.2.2.2.2.2.2.2.2.2.2.1 ++ r1).map au.lf),.slot 10] [.at_ 16 10,.resv 1,.jd [] (.own 0) [.row 54 82 (r1.map au.lf)],.rows ((r0.2.2.2.2.2.2.2.2.2.2.2.2.2.1 ++ r1).map au.lf),.slot 10]] [0,3,5] 12 [(0,.ptr 0 0),(3,.ptr 5 0),(5,.ptr 0 0)] [.box 97 (.agg [.i_ r0.1,.i_ r0.2.1,.i_ r0.2.2.1,.i_ r0.2.2.2.1,.i_ r0.2.2.2.2.1,.i_ r0.2.2.2.2.2.1,.i_ r0.2.2.2.2.2.2.1,.i_ r0.2.2.2.2.2.2.2.1,.own 10,.i_ r0.2.2.2.2.2.2.2.2.1,.own 7,.own 8,.own 9,.i_ r0.2.2.2.2.2.2.2.2.2.1,.i_ r0.2.2.2.2.2.2.2.2.2.2.1,.i_ r0.2.2.2.2.2.2.2.2.2.2.2.1,.lf (.rows 82 (r0.2.2.2.2.2.2.2.2.2.2.2.2.1.map au.lf))]),.dead,.dead,.dead,.dead,.box 63 (.dat (aj.lf1 p_x)),.dead,.row 3 1 (r0.2.2.2.2.2.2.2.2.2.2.2.2.2.2.1.map lfI),.row 3 1 (r0.2.2.2.2.2.2.2.2.2.2.2.2.2.2.2.map lfI),.row 63 9 (p_b0.cZ.map aj.lf),.row 54 82 ((r0.2.2.2.2.2.2.2.2.2.2.2.2.2.1 ++ r1).map au.lf),.row 54 82 (r1.map au.lf)]] (okc (Vu _ _ h1) (ok1 (by simp [au.aU] : (r0.2.2.2.2.2.2.2.2.2.2.2.2.2.1 ++ r1).map au.lf = (r0.2.2.2.2.2.2.2.2.2.2.2.2.2.1.map au.lf) ++ (r1.map au.lf)))) <|
 .grd ((r0.2.2.2.2.2.2.2.2.2.2.2.2.2.1.length + r1.length) * 1208 ≤ 140737488355328) fun h2 =>
 .say [] (okc (by simpa using h2:((r0.2.2.2.2.2.2.2.2.2.2.2.2.2.1.map au.lf).length + (r1.map au.lf).length) * 1208 ≤ 140737488355328) (okc (rf_ ⟨[(0,.ptr 0 0),(3,.ptr 5 0),(5,.ptr 0 0)],[.box 97 (.agg [.i_ r0.1,.i_ r0.2.1,.i_ r0.2.2.1,.i_ r0.2.2.2.1,.i_ r0.2.2.2.2.1,.i_ r0.2.2.2.2.2.1,.i_ r0.2.2.2.2.2.2.1,.i_ r0.2.2.2.2.2.2.2.1,.own 10,.i_ r0.2.2.2.2.2.2.2.2.1,.own 7,.own 8,.own 9,.i_ r0.2.2.2.2.2.2.2.2.2.1,.i_ r0.2.2.2.2.2.2.2.2.2.2.1,.i_ r0.2.2.2.2.2.2.2.2.2.2.2.1,.lf (.rows 82 (r0.2.2.2.2.2.2.2.2.2.2.2.2.1.map au.lf))]),.dead,.dead,.dead,.dead,.box 63 (.dat (aj.lf1 p_x)),.dead,.row 3 1 (r0.2.2.2.2.2.2.2.2.2.2.2.2.2.2.1.map lfI),.row 3 1 (r0.2.2.2.2.2.2.2.2.2.2.2.2.2.2.2.map lfI),.row 63 9 (p_b0.cZ.map aj.lf),.row 54 82 ((r0.2.2.2.2.2.2.2.2.2.2.2.2.2.1 ++ r1).map au.lf),.row 54 82 (r1.map au.lf)]⟩) (okc (Vu _ _ h1) (okc (by simp [au.aU] : (r0.2.2.2.2.2.2.2.2.2.2.2.2.2.1 ++ r1).map au.lf = (r0.2.2.2.2.2.2.2.2.2.2.2.2.2.1.map au.lf) ++ (r1.map au.lf)) (okc (by simpa using h2:((r0.2.2.2.2.2.2.2.2.2.2.2.2.2.1.map au.lf).length + (r1.map au.lf).length) * 1208 ≤ 140737488355328) (ok1 (rf_ ⟨[(0,.ptr 0 0),(3,.ptr 5 0),(5,.ptr 0 0)],[.box 97 (.agg [.i_ r0.1,.i_ r0.2.1,.i_ r0.2.2.1,.i_ r0.2.2.2.1,.i_ r0.2.2.2.2.1,.i_ r0.2.2.2.2.2.1,.i_ r0.2.2.2.2.2.2.1,.i_ r0.2.2.2.2.2.2.2.1,.own 10,.i_ r0.2.2.2.2.2.2.2.2.1,.own 7,.own 8,.own 9,.i_ r0.2.2.2.2.2.2.2.2.2.1,.i_ r0.2.2.2.2.2.2.2.2.2.2.1,.i_ r0.2.2.2.2.2.2.2.2.2.2.2.1,.lf (.rows 82 (r0.2.2.2.2.2.2.2.2.2.2.2.2.1.map au.lf))]),.dead,.dead,.dead,.dead,.box 63 (.dat (aj.lf1 p_x)),.dead,.row 3 1 (r0.2.2.2.2.2.2.2.2.2.2.2.2.2.2.1.map lfI),.row 3 1 (r0.2.2.2.2.2.2.2.2.2.2.2.2.2.2.2.map lfI),.row 63 9 (p_b0.cZ.map aj.lf),.row 54 82 ((r0.2.2.2.2.2.2.2.2.2.2.2.2.2.1 ++ r1).map au.lf),.row 54 82 (r1.map au.lf)]⟩))))))) <|
 .ret ⟨[],[0,3,5],[(10,6)],10⟩ (r0.2.2.2.2.2.2.2.2.2.2.2.2.2.1 ++ r1)) fun c0 =>
 .say [.br false] (ok1 c0) <|
 .rt [0,3,5] 10 (r0.2.2.2.2.2.2.2.2.2.2.2.2.2.1)
def Jv (p_b0:aF) (p_x:aj) (r0:(Int × Int × Int × Int × Int × Int × Int × Int × Int × Int × Int × Int × (List au) × (List au) × (List Int) × (List Int))) : Option (((List au))) := Mo.den (DI p_b0 p_x r0)
def DJ (p_b0:aF) (p_x:aj) (r0:(Int × Int × Int × Int × Int × Int × Int × Int × Int × Int × Int × Int × (List au) × (List au) × (List Int) × (List Int))) (r_:((List au))) : St := ⟨[(0,.ptr 0 0),(3,.ptr 5 0),(5,.ptr 0 0)],[.box 97 (.agg [.i_ r0.1,.i_ r0.2.1,.i_ r0.2.2.1,.i_ r0.2.2.2.1,.i_ r0.2.2.2.2.1,.i_ r0.2.2.2.2.2.1,.i_ r0.2.2.2.2.2.2.1,.i_ r0.2.2.2.2.2.2.2.1,.own 6,.i_ r0.2.2.2.2.2.2.2.2.1,.own 7,.own 8,.own 9,.i_ r0.2.2.2.2.2.2.2.2.2.1,.i_ r0.2.2.2.2.2.2.2.2.2.2.1,.i_ r0.2.2.2.2.2.2.2.2.2.2.2.1,.lf (.rows 82 (r0.2.2.2.2.2.2.2.2.2.2.2.2.1.map au.lf))]),.dead,.dead,.dead,.dead,.box 63 (.dat (aj.lf1 p_x)),.row 54 82 (r_.map au.lf),.row 3 1 (r0.2.2.2.2.2.2.2.2.2.2.2.2.2.2.1.map lfI),.row 3 1 (r0.2.2.2.2.2.2.2.2.2.2.2.2.2.2.2.map lfI),.row 63 9 (p_b0.cZ.map aj.lf)]⟩
theorem ab2 {p_b0:aF} {p_x:aj} {r0:(Int × Int × Int × Int × Int × Int × Int × Int × Int × Int × Int × Int × (List au) × (List au) × (List Int) × (List Int))} {r_:((List au))} (h:Jv p_b0 p_x r0 = some r_) : gq Tryz.f83 5 [1,1,1,0,1,1] (.normal) (DJ p_b0 p_x r0 r_) ⟨[(0,.ptr 0 0),(3,.ptr 5 0),(5,.ptr 0 0),(6,.i_ (IntKind.wrap .i64 ((r0.2.2.2.2.2.2.2.2.2.2.2.2.2.1.length:Int) - p_x.bG))),(49,.lf (.bool (decide ((IntKind.wrap .i64 ((r0.2.2.2.2.2.2.2.2.2.2.2.2.2.1.length:Int) - p_x.bG) : Int) < (p_x.aW.length:Int)))))],[.box 97 (.agg [.i_ r0.1,.i_ r0.2.1,.i_ r0.2.2.1,.i_ r0.2.2.2.1,.i_ r0.2.2.2.2.1,.i_ r0.2.2.2.2.2.1,.i_ r0.2.2.2.2.2.2.1,.i_ r0.2.2.2.2.2.2.2.1,.own 6,.i_ r0.2.2.2.2.2.2.2.2.1,.own 7,.own 8,.own 9,.i_ r0.2.2.2.2.2.2.2.2.2.1,.i_ r0.2.2.2.2.2.2.2.2.2.2.1,.i_ r0.2.2.2.2.2.2.2.2.2.2.2.1,.lf (.rows 82 (r0.2.2.2.2.2.2.2.2.2.2.2.2.1.map au.lf))]),.dead,.dead,.dead,.dead,.box 63 (.dat (aj.lf1 p_x)),.row 54 82 (r0.2.2.2.2.2.2.2.2.2.2.2.2.2.1.map au.lf),.row 3 1 (r0.2.2.2.2.2.2.2.2.2.2.2.2.2.2.1.map lfI),.row 3 1 (r0.2.2.2.2.2.2.2.2.2.2.2.2.2.2.2.map lfI),.row 63 9 (p_b0.cZ.map aj.lf)]⟩ :=
 jq dL (DI p_b0 p_x r0) (fun _=>.normal) (DJ p_b0 p_x r0) (by kernel_rfl) h
def af4 (p_x:aj) (p_b0:aF) : Mo (aF) :=
 .ask (Q27 p_x p_b0) fun r0 h0 =>
 .say [.jd [0,1,2,3,4] (.i_ r0) [.box 97 (ag_ (aF.lf1 p_b0) [(8,.own 5),(10,.own 6),(11,.own 7),(12,.own 8)]),.dead,.dead,.dead,.dead,.row 54 82 (p_b0.aI.aP.map au.lf),.row 3 1 (p_b0.aI.fNext.map lfI),.row 3 1 (p_b0.aI.bg.map lfI),.row 63 9 (p_b0.cZ.map aj.lf)],.num p_b0.aI.aP.length] (okc (Js _ _ _ h0) (ok1 (ln_ p_b0.aI.aP au.lf))) <|
 .ask (Ju p_b0 p_x r0) fun r1 h1 =>
 .say [.pt_ 1 [0,3,4,18] 10 (.normal) (DF p_b0 p_x r1),.order [(true,0),(true,1),(true,2),(true,3),(true,4),(true,5),(true,6),(true,7),(true,8)] none [],.num r1.2.2.2.2.2.2.2.2.2.2.2.2.2.1.length,.num p_x.aW.length] (okc (ab1 h1) (okc (ln_ r1.2.2.2.2.2.2.2.2.2.2.2.2.2.1 au.lf) (ok1 (ln_ p_x.aW au.lf)))) <|
 .ask (Jv p_b0 p_x r1) fun r2 h2 =>
 .say [.pt_ 1 [0,3,5,6,49] 10 (.normal) (DJ p_b0 p_x r1 r2),.num p_x.aW.length,.order [(true,0),(true,1),(true,2),(true,3),(true,4),(true,5),(true,6),(true,7),(true,8),(true,9),(true,10),(true,11),(false,12)] (some 12) []] (okc (ab2 h2) (ok1 (ln_ p_x.aW au.lf))) <|
 .cH [0,6,7,8,9] (Jr p_x true (IntKind.wrap .i64 (p_x.bG + (p_x.aW.length:Int))) (aF.mk (ak.mk r1.1 r1.2.1 r1.2.2.1 r1.2.2.2.1 r1.2.2.2.2.1 r1.2.2.2.2.2.1 r1.2.2.2.2.2.2.1 r1.2.2.2.2.2.2.2.1 r2 (if (if (IntKind.wrap .i64 (p_x.bG + (p_x.aW.length:Int))) < p_x.aA then (IntKind.wrap .i64 (p_x.bG + (p_x.aW.length:Int))) else p_x.aA) > r1.2.2.2.2.2.2.2.2.1 then (if (IntKind.wrap .i64 (p_x.bG + (p_x.aW.length:Int))) < p_x.aA then (IntKind.wrap .i64 (p_x.bG + (p_x.aW.length:Int))) else p_x.aA) else r1.2.2.2.2.2.2.2.2.1) r1.2.2.2.2.2.2.2.2.2.2.2.2.2.2.1 r1.2.2.2.2.2.2.2.2.2.2.2.2.2.2.2) p_b0.cZ (bM.mk r1.2.2.2.2.2.2.2.2.2.1 r1.2.2.2.2.2.2.2.2.2.2.1 r1.2.2.2.2.2.2.2.2.2.2.2.1 r1.2.2.2.2.2.2.2.2.2.2.2.2.1))) fun r3 _ =>
 .ret ⟨[.kill 5,.mvn 10,.mvn 11,.mvn 12,.mvn 13],[],[(14,5),(15,6),(16,7),(17,8)],9⟩ (r3)
def Q38 (p_x:aj) (p_b0:aF) : Option (aF) := Mo.den (af4 p_x p_b0)
theorem ahY (p_x:aj) (p_b0:aF) : FH (Q38 p_x p_b0) 83 [.ptr 0 0,.dat (aj.lf1 p_x)] [.box 97 (ag_ (aF.lf1 p_b0) [(8,.own 1),(10,.own 2),(11,.own 3),(12,.own 4)]),.row 54 82 (p_b0.aI.aP.map au.lf),.row 3 1 (p_b0.aI.fNext.map lfI),.row 3 1 (p_b0.aI.bg.map lfI),.row 63 9 (p_b0.cZ.map aj.lf)] (fun _=>.tup []) (fun r=>[.box 97 (ag_ (aF.lf1 r) [(8,.own 5),(10,.own 6),(11,.own 7),(12,.own 8)]),.dead,.dead,.dead,.dead,.row 54 82 (r.aI.aP.map au.lf),.row 3 1 (r.aI.fNext.map lfI),.row 3 1 (r.aI.bg.map lfI),.row 63 9 (r.cZ.map aj.lf)]) := gV Tryz.func83 (by kernel_rfl) (fun _=>rfl) (by kernel_rfl)
def Ql (p_b0:aF) (p_x:aj) : Mo (Bool) :=
 .say [.order [(true,0),(true,1),(true,2),(true,3),(true,4),(true,5),(true,6),(true,7),(true,8),(true,9),(true,10),(true,11),(true,12),(true,13)] none []] ok0 <|
 .iG 10007 (p_x.bC == p_b0.aI.bC) (.rt [0,3,4,31] 6 (p_b0.aI.dV == 2)) <|
 .rt [0,3,4,31] 6 (false)
def DK (p_b0:aF) (p_x:aj) : Mo ((Int × Int × Int × Int × Int × Int × Int × Int × Int × (List au) × (List Int) × (List Int))) :=
 .ite (decide ((p_b0.aI.bC:Int) < p_x.bC)) (fun c0 =>
 .say [.br true,.order [(true,0),(true,1),(true,2),(true,4),(true,5),(false,3),(false,6),(true,7),(false,8)] (some 8) [0,6,7,8,9,10,11],.at_ 14 6,.frz 6,.frz 7,.frz 8,.tod 42] (ok1 c0) <|
 .cH [] (Jq p_b0.aI p_x.bC) fun r0 _ =>
 .ret ⟨[],[0,3,4],[(9,6),(10,7),(11,8)],9⟩ (r0.fID,r0.dJ,r0.bC,r0.jm,r0.dV,r0.iq,r0.gX,r0.fQ,r0.aA,r0.aP,r0.fNext,r0.bg)) fun c0 =>
 .say [.br false] (ok1 c0) <|
 .rt [0,3,4] 9 (p_b0.aI.fID,p_b0.aI.dJ,p_b0.aI.bC,p_b0.aI.jm,p_b0.aI.dV,p_b0.aI.iq,p_b0.aI.gX,p_b0.aI.fQ,p_b0.aI.aA,p_b0.aI.aP,p_b0.aI.fNext,p_b0.aI.bg)
def Jw (p_b0:aF) (p_x:aj) : Option ((Int × Int × Int × Int × Int × Int × Int × Int × Int × (List au) × (List Int) × (List Int))) := Mo.den (DK p_b0 p_x)
def xW (p_b0:aF) (p_x:aj) (r_:(Int × Int × Int × Int × Int × Int × Int × Int × Int × (List au) × (List Int) × (List Int))) : St := ⟨[(0,.ptr 0 0),(3,.ptr 5 0),(4,.ptr 0 0)],[.box 97 (ag_ (aF.lf1 p_b0) [(0,.i_ r_.1),(1,.i_ r_.2.1),(2,.i_ r_.2.2.1),(3,.i_ r_.2.2.2.1),(4,.i_ r_.2.2.2.2.1),(5,.i_ r_.2.2.2.2.2.1),(6,.i_ r_.2.2.2.2.2.2.1),(7,.i_ r_.2.2.2.2.2.2.2.1),(8,.own 6),(9,.i_ r_.2.2.2.2.2.2.2.2.1),(10,.own 7),(11,.own 8),(12,.own 4)]),.dead,.dead,.dead,.row 63 9 (p_b0.cZ.map aj.lf),.box 63 (.dat (aj.lf1 p_x)),.row 54 82 (r_.2.2.2.2.2.2.2.2.2.1.map au.lf),.row 3 1 (r_.2.2.2.2.2.2.2.2.2.2.1.map lfI),.row 3 1 (r_.2.2.2.2.2.2.2.2.2.2.2.map lfI)]⟩
theorem ab3 {p_b0:aF} {p_x:aj} {r_:(Int × Int × Int × Int × Int × Int × Int × Int × Int × (List au) × (List Int) × (List Int))} (h:Jw p_b0 p_x = some r_) : gq Tryz.f45 5 [1,1,1,1,0,1] (.normal) (xW p_b0 p_x r_) ⟨[(0,.ptr 0 0),(3,.ptr 5 0),(4,.ptr 0 0),(38,.lf (.bool (decide ((p_b0.aI.bC:Int) < p_x.bC))))],[.box 97 (ag_ (aF.lf1 p_b0) [(8,.own 6),(10,.own 7),(11,.own 8),(12,.own 4)]),.dead,.dead,.dead,.row 63 9 (p_b0.cZ.map aj.lf),.box 63 (.dat (aj.lf1 p_x)),.row 54 82 (p_b0.aI.aP.map au.lf),.row 3 1 (p_b0.aI.fNext.map lfI),.row 3 1 (p_b0.aI.bg.map lfI)]⟩ :=
 jq dL (DK p_b0 p_x) (fun _=>.normal) (xW p_b0 p_x) (by kernel_rfl) h
def H8 (p_b0:aF) (p_x:aj) (r0:(Int × Int × Int × Int × Int × Int × Int × Int × Int × (List au) × (List Int) × (List Int))) : Mo ((Int × Int)) :=
 .iB (r0.2.2.2.2.1 == 1) (.rt [0,3,4] 9 (0,0)) <|
 .rt [0,3,4] 9 (r0.2.2.2.2.1,r0.2.2.2.2.2.2.2.1)
def Jy (p_b0:aF) (p_x:aj) (r0:(Int × Int × Int × Int × Int × Int × Int × Int × Int × (List au) × (List Int) × (List Int))) : Option ((Int × Int)) := Mo.den (H8 p_b0 p_x r0)
def af5 (p_x:aj) (p_b0:aF) : Mo (aF) :=
 .say [.order [(true,0),(true,1),(true,2),(true,3),(true,4),(true,5),(true,6)] none []] ok0 <|
 .iB (decide ((p_x.bC:Int) < p_b0.aI.bC)) (.cH [0,1,2,3,4] (Jr p_x false 0 p_b0) fun r0 _ =>
 .ret ⟨[.kill 5,.mvn 6,.mvn 7,.mvn 8,.mvn 9],[],[(10,5),(11,6),(12,7),(13,8)],9⟩ (r0)) <|
 .jp Tryz.f45 5 [1,1,1,0,0] 15 [0,3,4] 6 (.normal) (fun r_=>⟨[(0,.ptr 0 0),(3,.ptr 5 0),(4,.ptr 0 0),(31,.b_ r_)],[.box 97 (ag_ (aF.lf1 p_b0) [(8,.own 1),(10,.own 2),(11,.own 3),(12,.own 4)]),.row 54 82 (p_b0.aI.aP.map au.lf),.row 3 1 (p_b0.aI.fNext.map lfI),.row 3 1 (p_b0.aI.bg.map lfI),.row 63 9 (p_b0.cZ.map aj.lf),.box 63 (.dat (aj.lf1 p_x))]⟩) ⟨[(0,.ptr 0 0),(3,.ptr 5 0),(4,.ptr 0 0)],[.box 97 (ag_ (aF.lf1 p_b0) [(8,.own 1),(10,.own 2),(11,.own 3),(12,.own 4)]),.row 54 82 (p_b0.aI.aP.map au.lf),.row 3 1 (p_b0.aI.fNext.map lfI),.row 3 1 (p_b0.aI.bg.map lfI),.row 63 9 (p_b0.cZ.map aj.lf),.box 63 (.dat (aj.lf1 p_x))]⟩ (Ql p_b0 p_x).den (jW (by kernel_rfl)) fun r1 _ =>
 .ite (r1) (fun c0 =>
 .say [.br true] (ok1 c0) <|
 .ret ⟨[.kill 5,.mvn 1,.mvn 2,.mvn 3,.mvn 4],[],[(6,5),(7,6),(8,7),(9,8)],9⟩ (p_b0)) fun c0 =>
 .say [.br false,.order [(true,0),(true,1),(true,2),(true,3),(true,4),(true,5),(true,6)] none []] (ok1 c0) <|
 .ask (Jw p_b0 p_x) fun r2 h0 =>
 .say [.part [.mvn 1,.mvn 2,.mvn 3] 1 [0,3,4,38] 9 (.normal) (xW p_b0 p_x r2).T (xW p_b0 p_x r2).H] (ok1 (ab3 h0)) <|
 .jp Tryz.f45 5 [1,1,1,1,1,0,1] 1 [0,3,4,51] 9 (.normal) (fun r_=>⟨[(0,.ptr 0 0),(3,.ptr 5 0),(4,.ptr 0 0)],[.box 97 (ag_ (aF.lf1 p_b0) [(0,.i_ r2.1),(1,.i_ r2.2.1),(2,.i_ r2.2.2.1),(3,.i_ r2.2.2.2.1),(4,.i_ r_.1),(5,.i_ r2.2.2.2.2.2.1),(6,.i_ r2.2.2.2.2.2.2.1),(7,.i_ r_.2),(8,.own 6),(9,.i_ r2.2.2.2.2.2.2.2.2.1),(10,.own 7),(11,.own 8),(12,.own 4)]),.dead,.dead,.dead,.row 63 9 (p_b0.cZ.map aj.lf),.box 63 (.dat (aj.lf1 p_x)),.row 54 82 (r2.2.2.2.2.2.2.2.2.2.1.map au.lf),.row 3 1 (r2.2.2.2.2.2.2.2.2.2.2.1.map lfI),.row 3 1 (r2.2.2.2.2.2.2.2.2.2.2.2.map lfI)]⟩) ⟨[(0,.ptr 0 0),(3,.ptr 5 0),(4,.ptr 0 0),(51,.lf (.bool (r2.2.2.2.2.1 == 1)))],[.box 97 (ag_ (aF.lf1 p_b0) [(0,.i_ r2.1),(1,.i_ r2.2.1),(2,.i_ r2.2.2.1),(3,.i_ r2.2.2.2.1),(4,.i_ r2.2.2.2.2.1),(5,.i_ r2.2.2.2.2.2.1),(6,.i_ r2.2.2.2.2.2.2.1),(7,.i_ r2.2.2.2.2.2.2.2.1),(8,.own 6),(9,.i_ r2.2.2.2.2.2.2.2.2.1),(10,.own 7),(11,.own 8),(12,.own 4)]),.dead,.dead,.dead,.row 63 9 (p_b0.cZ.map aj.lf),.box 63 (.dat (aj.lf1 p_x)),.row 54 82 (r2.2.2.2.2.2.2.2.2.2.1.map au.lf),.row 3 1 (r2.2.2.2.2.2.2.2.2.2.2.1.map lfI),.row 3 1 (r2.2.2.2.2.2.2.2.2.2.2.2.map lfI)]⟩ (Jy p_b0 p_x r2) (jW (by kernel_rfl)) fun r3 _ =>
 .cH [0,6,7,8,4] (aep p_x (aF.mk (ak.mk r2.1 r2.2.1 r2.2.2.1 r2.2.2.2.1 r3.1 p_x.dB (IntKind.wrap .i64 (10 + (IntKind.wrap .i64 (3 * r2.1)))) r3.2 r2.2.2.2.2.2.2.2.2.2.1 r2.2.2.2.2.2.2.2.2.1 r2.2.2.2.2.2.2.2.2.2.2.1 r2.2.2.2.2.2.2.2.2.2.2.2) p_b0.cZ p_b0.eG)) fun r4 _ =>
 .ite (r4) (fun c1 =>
 .say [.br true,.order [(true,0),(true,1),(true,2),(true,3),(true,4),(true,7),(true,8),(true,9),(false,5),(true,6),(true,10),(true,11),(false,12)] (some 12) [],.num (((aF.mk (ak.mk r2.1 r2.2.1 r2.2.2.1 r2.2.2.2.1 r3.1 p_x.dB (IntKind.wrap .i64 (10 + (IntKind.wrap .i64 (3 * r2.1)))) r3.2 r2.2.2.2.2.2.2.2.2.2.1 r2.2.2.2.2.2.2.2.2.1 r2.2.2.2.2.2.2.2.2.2.2.1 r2.2.2.2.2.2.2.2.2.2.2.2) p_b0.cZ p_b0.eG).aI).aP).length] (okc c1 (ok1 (ln_ (((aF.mk (ak.mk r2.1 r2.2.1 r2.2.2.1 r2.2.2.2.1 r3.1 p_x.dB (IntKind.wrap .i64 (10 + (IntKind.wrap .i64 (3 * r2.1)))) r3.2 r2.2.2.2.2.2.2.2.2.2.1 r2.2.2.2.2.2.2.2.2.1 r2.2.2.2.2.2.2.2.2.2.2.1 r2.2.2.2.2.2.2.2.2.2.2.2) p_b0.cZ p_b0.eG).aI).aP) au.lf))) <|
 .cH [0,9,10,11,12] (Jr p_x false (if (if (IntKind.wrap .i64 (p_x.bG - 1)) < ((((aF.mk (ak.mk r2.1 r2.2.1 r2.2.2.1 r2.2.2.2.1 r3.1 p_x.dB (IntKind.wrap .i64 (10 + (IntKind.wrap .i64 (3 * r2.1)))) r3.2 r2.2.2.2.2.2.2.2.2.2.1 r2.2.2.2.2.2.2.2.2.1 r2.2.2.2.2.2.2.2.2.2.2.1 r2.2.2.2.2.2.2.2.2.2.2.2) p_b0.cZ p_b0.eG).aI).aP).length:Int) then (IntKind.wrap .i64 (p_x.bG - 1)) else ((((aF.mk (ak.mk r2.1 r2.2.1 r2.2.2.1 r2.2.2.2.1 r3.1 p_x.dB (IntKind.wrap .i64 (10 + (IntKind.wrap .i64 (3 * r2.1)))) r3.2 r2.2.2.2.2.2.2.2.2.2.1 r2.2.2.2.2.2.2.2.2.1 r2.2.2.2.2.2.2.2.2.2.2.1 r2.2.2.2.2.2.2.2.2.2.2.2) p_b0.cZ p_b0.eG).aI).aP).length:Int)) > 0 then (if (IntKind.wrap .i64 (p_x.bG - 1)) < ((((aF.mk (ak.mk r2.1 r2.2.1 r2.2.2.1 r2.2.2.2.1 r3.1 p_x.dB (IntKind.wrap .i64 (10 + (IntKind.wrap .i64 (3 * r2.1)))) r3.2 r2.2.2.2.2.2.2.2.2.2.1 r2.2.2.2.2.2.2.2.2.1 r2.2.2.2.2.2.2.2.2.2.2.1 r2.2.2.2.2.2.2.2.2.2.2.2) p_b0.cZ p_b0.eG).aI).aP).length:Int) then (IntKind.wrap .i64 (p_x.bG - 1)) else ((((aF.mk (ak.mk r2.1 r2.2.1 r2.2.2.1 r2.2.2.2.1 r3.1 p_x.dB (IntKind.wrap .i64 (10 + (IntKind.wrap .i64 (3 * r2.1)))) r3.2 r2.2.2.2.2.2.2.2.2.2.1 r2.2.2.2.2.2.2.2.2.1 r2.2.2.2.2.2.2.2.2.2.2.1 r2.2.2.2.2.2.2.2.2.2.2.2) p_b0.cZ p_b0.eG).aI).aP).length:Int)) else 0) (aF.mk ((aF.mk (ak.mk r2.1 r2.2.1 r2.2.2.1 r2.2.2.2.1 r3.1 p_x.dB (IntKind.wrap .i64 (10 + (IntKind.wrap .i64 (3 * r2.1)))) r3.2 r2.2.2.2.2.2.2.2.2.2.1 r2.2.2.2.2.2.2.2.2.1 r2.2.2.2.2.2.2.2.2.2.2.1 r2.2.2.2.2.2.2.2.2.2.2.2) p_b0.cZ p_b0.eG).aI) ((aF.mk (ak.mk r2.1 r2.2.1 r2.2.2.1 r2.2.2.2.1 r3.1 p_x.dB (IntKind.wrap .i64 (10 + (IntKind.wrap .i64 (3 * r2.1)))) r3.2 r2.2.2.2.2.2.2.2.2.2.1 r2.2.2.2.2.2.2.2.2.1 r2.2.2.2.2.2.2.2.2.2.2.1 r2.2.2.2.2.2.2.2.2.2.2.2) p_b0.cZ p_b0.eG).cZ) ((aF.mk (ak.mk r2.1 r2.2.1 r2.2.2.1 r2.2.2.2.1 r3.1 p_x.dB (IntKind.wrap .i64 (10 + (IntKind.wrap .i64 (3 * r2.1)))) r3.2 r2.2.2.2.2.2.2.2.2.2.1 r2.2.2.2.2.2.2.2.2.1 r2.2.2.2.2.2.2.2.2.2.2.1 r2.2.2.2.2.2.2.2.2.2.2.2) p_b0.cZ p_b0.eG).eG))) fun r5 _ =>
 .ret ⟨[.kill 5,.mvn 13,.mvn 14,.mvn 15,.mvn 16],[],[(17,5),(18,6),(19,7),(20,8)],9⟩ (r5)) fun c1 =>
 .say [.br false] (ok1 c1) <|
 .cH [0,9,10,11,12] (ahY p_x (aF.mk ((aF.mk (ak.mk r2.1 r2.2.1 r2.2.2.1 r2.2.2.2.1 r3.1 p_x.dB (IntKind.wrap .i64 (10 + (IntKind.wrap .i64 (3 * r2.1)))) r3.2 r2.2.2.2.2.2.2.2.2.2.1 r2.2.2.2.2.2.2.2.2.1 r2.2.2.2.2.2.2.2.2.2.2.1 r2.2.2.2.2.2.2.2.2.2.2.2) p_b0.cZ p_b0.eG).aI) ((aF.mk (ak.mk r2.1 r2.2.1 r2.2.2.1 r2.2.2.2.1 r3.1 p_x.dB (IntKind.wrap .i64 (10 + (IntKind.wrap .i64 (3 * r2.1)))) r3.2 r2.2.2.2.2.2.2.2.2.2.1 r2.2.2.2.2.2.2.2.2.1 r2.2.2.2.2.2.2.2.2.2.2.1 r2.2.2.2.2.2.2.2.2.2.2.2) p_b0.cZ p_b0.eG).cZ) ((aF.mk (ak.mk r2.1 r2.2.1 r2.2.2.1 r2.2.2.2.1 r3.1 p_x.dB (IntKind.wrap .i64 (10 + (IntKind.wrap .i64 (3 * r2.1)))) r3.2 r2.2.2.2.2.2.2.2.2.2.1 r2.2.2.2.2.2.2.2.2.1 r2.2.2.2.2.2.2.2.2.2.2.1 r2.2.2.2.2.2.2.2.2.2.2.2) p_b0.cZ p_b0.eG).eG))) fun r6 _ =>
 .ret ⟨[.kill 5,.mvn 13,.mvn 14,.mvn 15,.mvn 16],[],[(17,5),(18,6),(19,7),(20,8)],9⟩ (r6)
def Q30 (p_x:aj) (p_b0:aF) : Option (aF) := Mo.den (af5 p_x p_b0)
theorem ab4 (p_x:aj) (p_b0:aF) : FH (Q30 p_x p_b0) 45 [.ptr 0 0,.dat (aj.lf1 p_x)] [.box 97 (ag_ (aF.lf1 p_b0) [(8,.own 1),(10,.own 2),(11,.own 3),(12,.own 4)]),.row 54 82 (p_b0.aI.aP.map au.lf),.row 3 1 (p_b0.aI.fNext.map lfI),.row 3 1 (p_b0.aI.bg.map lfI),.row 63 9 (p_b0.cZ.map aj.lf)] (fun _=>.tup []) (fun r=>[.box 97 (ag_ (aF.lf1 r) [(8,.own 5),(10,.own 6),(11,.own 7),(12,.own 8)]),.dead,.dead,.dead,.dead,.row 54 82 (r.aI.aP.map au.lf),.row 3 1 (r.aI.fNext.map lfI),.row 3 1 (r.aI.bg.map lfI),.row 63 9 (r.cZ.map aj.lf)]) := gV Tryz.func45 (by kernel_rfl) (fun _=>rfl) (by kernel_rfl)
def ab5 (p_m:ak) (p_x:aj) : Mo (Bool) :=
 .iG 8003 (p_m.dV != 2) (.rt [2,3,4,24] 6 (true)) <|
 .rt [2,3,4,24] 6 (decide ((p_x.bC:Int) < p_m.bC))
def ab6 (p_m:ak) (p_x:aj) (r0:Bool) : Mo (Bool) :=
 .iG 8010 (r0) (.rt [2,3,4,36] 6 (true)) <|
 .ite (p_x.fOK) (fun c0 =>
 .say [.gd 8013 true,.num p_m.aP.length] (okc c0 (ok1 (ln_ p_m.aP au.lf))) <|
 .rt [2,3,4,36] 6 (decide (((p_m.aP.length:Int) : Int) < p_x.bG))) fun c0 =>
 .say [.gd 8013 false] (ok1 c0) <|
 .rt [2,3,4,36] 6 (false)
def XB (p_m:ak) (p_x:aj) : Mo (Bool) :=
 .ite (decide ((p_x.dB:Int) < 0)) (fun c0 =>
 .say [.gd 14002 true] (ok1 c0) <|
 .rt [2,3,4,5,48] 6 (true)) fun c0 =>
 .say [.gd 14002 false,.num p_m.fNext.length] (okc c0 (ok1 (ln_ p_m.fNext lfI))) <|
 .rt [2,3,4,5,48] 6 (decide (((p_m.fNext.length:Int) : Int) ≤ p_x.dB))
def XC (p_m:ak) (p_x:aj) (r0:Bool) : Mo (Bool) :=
 .ite (r0) (fun c0 =>
 .say [.gd 14009 true] (ok1 c0) <|
 .rt [2,3,4,5,55] 6 (true)) fun c0 =>
 .say [.gd 14009 false,.num p_m.bg.length] (okc c0 (ok1 (ln_ p_m.bg lfI))) <|
 .rt [2,3,4,5,55] 6 (decide (((p_m.bg.length:Int) : Int) ≤ p_x.dB))
def XD (p_m:ak) (p_x:aj) : Mo (((List Int) × (List Int))) :=
 .ite (p_x.fOK) (fun c0 =>
 .say [.br true,.order [(true,0),(true,1),(true,2),(true,3),(true,4),(true,5),(true,6),(true,7),(true,8),(true,9),(true,10),(true,11),(false,12)] (some 12) []] (ok1 c0) <|
 .ask (bT p_m.bg p_x.dB) fun x0 h0 =>
 .say [.row (lfI x0)] (okc (bZ lI_ h0) (ok1 ((aX lI_ h0).2))) <|
 .ask (bT p_m.bg p_x.dB) fun x1 h1 =>
 .say [.row (lfI x1),.rows ((p_m.bg.set p_x.dB.toNat (if p_x.bG > x0 then p_x.bG else x0)).map lfI),.order [(true,0),(true,1),(true,2),(true,3),(true,4),(true,5),(true,6),(true,7),(true,8),(true,9),(true,10),(true,11),(true,12),(true,13),(true,14),(false,15)] (some 15) []] (okc (bZ lI_ h1) (okc (st_ lI_ p_m.bg p_x.dB.toNat (if p_x.bG > x0 then p_x.bG else x0)) (ok1 ((aX lI_ h1).2)))) <|
 .ask (bT p_m.fNext p_x.dB) fun x2 h2 =>
 .say [.row (lfI x2)] (okc (bZ lI_ h2) (ok1 ((aX lI_ h2).2))) <|
 .ask (bT (p_m.bg.set p_x.dB.toNat (if p_x.bG > x0 then p_x.bG else x0)) p_x.dB) fun x3 h3 =>
 .say [.row (lfI x3)] (okc (bZ lI_ h3) (ok1 ((aX lI_ h3).2))) <|
 .ask (bT p_m.fNext p_x.dB) fun x4 h4 =>
 .say [.row (lfI x4),.rows ((p_m.fNext.set p_x.dB.toNat (if x3 > x2 then x3 else x2)).map lfI)] (okc (bZ lI_ h4) (okc (st_ lI_ p_m.fNext p_x.dB.toNat (if x3 > x2 then x3 else x2)) (ok1 ((aX lI_ h4).2)))) <|
 .ret ⟨[.kill 4],[2,4],[],6⟩ (p_m.fNext.set p_x.dB.toNat (if x3 > x2 then x3 else x2),p_m.bg.set p_x.dB.toNat (if p_x.bG > x0 then p_x.bG else x0))) fun c0 =>
 .say [.br false,.order [(true,0),(true,1),(true,2),(true,3),(true,4),(true,5),(true,6),(true,7),(true,8),(true,9),(true,10),(true,11),(true,12),(true,13),(true,14),(true,15),(true,16),(true,17),(false,18)] (some 18) []] (ok1 c0) <|
 .ask (bT p_m.fNext p_x.dB) fun x5 h5 =>
 .say [.row (lfI x5)] (okc (bZ lI_ h5) (ok1 ((aX lI_ h5).2))) <|
 .ask (bT p_m.bg p_x.dB) fun x6 h6 =>
 .say [.row (lfI x6)] (okc (bZ lI_ h6) (ok1 ((aX lI_ h6).2))) <|
 .ask (bT p_m.fNext p_x.dB) fun x7 h7 =>
 .say [.row (lfI x7),.rows ((p_m.fNext.set p_x.dB.toNat (if x6 > (if p_x.bG < x5 then p_x.bG else x5) then x6 else (if p_x.bG < x5 then p_x.bG else x5))).map lfI)] (okc (bZ lI_ h7) (okc (st_ lI_ p_m.fNext p_x.dB.toNat (if x6 > (if p_x.bG < x5 then p_x.bG else x5) then x6 else (if p_x.bG < x5 then p_x.bG else x5))) (ok1 ((aX lI_ h7).2)))) <|
 .ret ⟨[.kill 4],[2,4],[],6⟩ (p_m.fNext.set p_x.dB.toNat (if x6 > (if p_x.bG < x5 then p_x.bG else x5) then x6 else (if p_x.bG < x5 then p_x.bG else x5)),p_m.bg)
def ajm (p_m:ak) (p_x:aj) : Mo (ak) :=
 .ite (decide ((p_m.bC:Int) < p_x.bC)) (fun c0 =>
 .say [.br true,.at_ 6 3,.frz 0,.frz 1,.frz 2,.tod 11] (ok1 c0) <|
 .cH [] (Jq p_m p_x.bC) fun r0 _ =>
 .ret ⟨[.kill 3,.kill 4,.kill 5,.mvn 6,.mvn 7,.mvn 8],[0],[(9,3),(10,4),(11,5)],6⟩ (r0)) fun c0 =>
 .say [.br false] (ok1 c0) <|
 .sj Tryz.f84 3 [1,1,0,0] [0,1,2,3,4,5,6,7,8,9] 3 10 [2,3,4] 6 (fun r_=>⟨[(2,.ptr 3 0),(3,.ptr 4 0),(4,.ptr 5 0),(24,.b_ r_)],[.row 54 82 (p_m.aP.map au.lf),.row 3 1 (p_m.fNext.map lfI),.row 3 1 (p_m.bg.map lfI),.box 25 (ag_ (ak.lf1 p_m) [(8,.own 0),(10,.own 1),(11,.own 2)]),.box 63 (.dat (aj.lf1 p_x)),.box 25 (Z25)]⟩) ⟨[(2,.ptr 3 0),(3,.ptr 4 0),(4,.ptr 5 0)],[.row 54 82 (p_m.aP.map au.lf),.row 3 1 (p_m.fNext.map lfI),.row 3 1 (p_m.bg.map lfI),.box 25 (ag_ (ak.lf1 p_m) [(8,.own 0),(10,.own 1),(11,.own 2)]),.box 63 (.dat (aj.lf1 p_x)),.box 25 (Z25)]⟩ (ab5 p_m p_x).den (sW (by kernel_rfl)) fun r1 _ =>
 .sj Tryz.f84 3 [1,1,0,0] [10,11,12,13,14,15,16,17,18,19,20,21] 3 12 [2,3,4,24] 6 (fun r_=>⟨[(2,.ptr 3 0),(3,.ptr 4 0),(4,.ptr 5 0),(36,.b_ r_)],[.row 54 82 (p_m.aP.map au.lf),.row 3 1 (p_m.fNext.map lfI),.row 3 1 (p_m.bg.map lfI),.box 25 (ag_ (ak.lf1 p_m) [(8,.own 0),(10,.own 1),(11,.own 2)]),.box 63 (.dat (aj.lf1 p_x)),.box 25 (Z25)]⟩) ⟨[(2,.ptr 3 0),(3,.ptr 4 0),(4,.ptr 5 0),(24,.b_ r1)],[.row 54 82 (p_m.aP.map au.lf),.row 3 1 (p_m.fNext.map lfI),.row 3 1 (p_m.bg.map lfI),.box 25 (ag_ (ak.lf1 p_m) [(8,.own 0),(10,.own 1),(11,.own 2)]),.box 63 (.dat (aj.lf1 p_x)),.box 25 (Z25)]⟩ (ab6 p_m p_x r1).den (sW (by kernel_rfl)) fun r2 _ =>
 .iB (r2) (.ret ⟨[.kill 3,.kill 4,.kill 5,.mvn 0,.mvn 1,.mvn 2],[0],[(6,3),(7,4),(8,5)],6⟩ (p_m)) <|
 .sj Tryz.f84 3 [1,1,1,1,0,0] [0,1,2,3,4,5,6,7,8] 6 9 [2,3,4,5] 6 (fun r_=>⟨[(2,.ptr 3 0),(3,.ptr 4 0),(4,.ptr 5 0),(5,.i_ p_x.dB),(48,.b_ r_)],[.row 54 82 (p_m.aP.map au.lf),.row 3 1 (p_m.fNext.map lfI),.row 3 1 (p_m.bg.map lfI),.box 25 (ag_ (ak.lf1 p_m) [(8,.own 0),(10,.own 1),(11,.own 2)]),.box 63 (.dat (aj.lf1 p_x)),.box 25 (Z25)]⟩) ⟨[(2,.ptr 3 0),(3,.ptr 4 0),(4,.ptr 5 0),(5,.i_ p_x.dB)],[.row 54 82 (p_m.aP.map au.lf),.row 3 1 (p_m.fNext.map lfI),.row 3 1 (p_m.bg.map lfI),.box 25 (ag_ (ak.lf1 p_m) [(8,.own 0),(10,.own 1),(11,.own 2)]),.box 63 (.dat (aj.lf1 p_x)),.box 25 (Z25)]⟩ (XB p_m p_x).den (sW (by kernel_rfl)) fun r3 _ =>
 .sj Tryz.f84 3 [1,1,1,1,0,0] [9,10,11,12,13,14,15] 6 7 [2,3,4,5,48] 6 (fun r_=>⟨[(2,.ptr 3 0),(3,.ptr 4 0),(4,.ptr 5 0),(5,.i_ p_x.dB),(55,.b_ r_)],[.row 54 82 (p_m.aP.map au.lf),.row 3 1 (p_m.fNext.map lfI),.row 3 1 (p_m.bg.map lfI),.box 25 (ag_ (ak.lf1 p_m) [(8,.own 0),(10,.own 1),(11,.own 2)]),.box 63 (.dat (aj.lf1 p_x)),.box 25 (Z25)]⟩) ⟨[(2,.ptr 3 0),(3,.ptr 4 0),(4,.ptr 5 0),(5,.i_ p_x.dB),(48,.b_ r3)],[.row 54 82 (p_m.aP.map au.lf),.row 3 1 (p_m.fNext.map lfI),.row 3 1 (p_m.bg.map lfI),.box 25 (ag_ (ak.lf1 p_m) [(8,.own 0),(10,.own 1),(11,.own 2)]),.box 63 (.dat (aj.lf1 p_x)),.box 25 (Z25)]⟩ (XC p_m p_x r3).den (sW (by kernel_rfl)) fun r4 _ =>
 .iB (r4) (.ret ⟨[.kill 3,.kill 4,.kill 5,.mvn 0,.mvn 1,.mvn 2],[0],[(6,3),(7,4),(8,5)],6⟩ (p_m)) <|
 .jp Tryz.f84 3 [1,1,1,1,1,0,1] 1 [2,3,4,5,58] 6 (.normal) (fun r_=>⟨[(2,.ptr 3 0),(4,.ptr 5 0)],[.row 54 82 (p_m.aP.map au.lf),.row 3 1 (r_.1.map lfI),.row 3 1 (r_.2.map lfI),.box 25 (ag_ (ak.lf1 p_m) [(8,.own 0),(10,.own 1),(11,.own 2)]),.dead,.box 25 (Z25)]⟩) ⟨[(2,.ptr 3 0),(3,.ptr 4 0),(4,.ptr 5 0),(5,.i_ p_x.dB),(58,.b_ p_x.fOK)],[.row 54 82 (p_m.aP.map au.lf),.row 3 1 (p_m.fNext.map lfI),.row 3 1 (p_m.bg.map lfI),.box 25 (ag_ (ak.lf1 p_m) [(8,.own 0),(10,.own 1),(11,.own 2)]),.box 63 (.dat (aj.lf1 p_x)),.box 25 (Z25)]⟩ (XD p_m p_x).den (jW (by kernel_rfl)) fun r5 _ =>
 .ret ⟨[.kill 3,.kill 5,.mvn 0,.mvn 1,.mvn 2],[0],[(6,3),(7,4),(8,5)],6⟩ (ak.IU (ak.Uy p_m r5.1) r5.2)
def Q99 (p_m:ak) (p_x:aj) : Option (ak) := Mo.den (ajm p_m p_x)
theorem ahZ (p_m:ak) (p_x:aj) : FH (Q99 p_m p_x) 84 [yM (.agg ((ak.lf1 p_m).map AV.lf)) [(8,.own 0),(10,.own 1),(11,.own 2)],.dat (aj.lf1 p_x)] [.row 54 82 (p_m.aP.map au.lf),.row 3 1 (p_m.fNext.map lfI),.row 3 1 (p_m.bg.map lfI)] (fun r=>yM (.agg ((ak.lf1 r).map AV.lf)) [(8,.own 3),(10,.own 4),(11,.own 5)]) (fun r=>[.dead,.dead,.dead,.row 54 82 (r.aP.map au.lf),.row 3 1 (r.fNext.map lfI),.row 3 1 (r.bg.map lfI)]) := gV Tryz.func84 (by kernel_rfl) (fun _=>rfl) (by kernel_rfl)
def XE (p_x:Int) : Mo ((Int × Int)) :=
 .ite (decide ((4294967296:Int) ≤ p_x)) (fun c0 =>
 .say [.br true] (okc c0 (ok1 (by decide:(0:Int) ≤ 32))) <|
 .rt [0,2] 0 (fK .u64 p_x 32,32)) fun c0 =>
 .say [.br false] (ok1 c0) <|
 .rt [0,2] 0 (p_x,0)
def XF (r0:(Int × Int)) : Mo ((Int × Int)) :=
 .ite (decide ((65536:Int) ≤ r0.1)) (fun c0 =>
 .say [.br true] (okc c0 (ok1 (by decide:(0:Int) ≤ 16))) <|
 .rt [0,2] 0 (fK .u64 r0.1 16,IntKind.wrap .i64 (r0.2 + 16))) fun c0 =>
 .say [.br false] (ok1 c0) <|
 .rt [0,2] 0 (r0.1,r0.2)
def TF (r0:(Int × Int)) : Mo ((Int × Int)) :=
 .ite (decide ((256:Int) ≤ r0.1)) (fun c0 =>
 .say [.br true] (okc c0 (ok1 (by decide:(0:Int) ≤ 8))) <|
 .rt [0,2] 0 (fK .u64 r0.1 8,IntKind.wrap .i64 (r0.2 + 8))) fun c0 =>
 .say [.br false] (ok1 c0) <|
 .rt [0,2] 0 (r0.1,r0.2)
def ah0 (p_x:Int) : Mo (Int) :=
 .jp Tryz.f149 0 [1,0,1] 1 [0,2,4] 0 (.normal) (fun r_=>⟨[(0,.lf (.int .u64 r_.1)),(2,.i_ r_.2)],[]⟩) ⟨[(0,.lf (.int .u64 p_x)),(2,.i_ 0),(4,.lf (.bool (decide ((4294967296:Int) ≤ p_x))))],[]⟩ (XE p_x).den (jW (by kernel_rfl)) fun r0 _ =>
 .jp Tryz.f149 0 [1,1,0,1] 1 [0,2,8] 0 (.normal) (fun r_=>⟨[(0,.lf (.int .u64 r_.1)),(2,.i_ r_.2)],[]⟩) ⟨[(0,.lf (.int .u64 r0.1)),(2,.i_ r0.2),(8,.lf (.bool (decide ((65536:Int) ≤ r0.1))))],[]⟩ (XF r0).den (jW (by kernel_rfl)) fun r1 _ =>
 .jp Tryz.f149 0 [1,1,1,0,1] 1 [0,2,14] 0 (.normal) (fun r_=>⟨[(0,.lf (.int .u64 r_.1)),(2,.i_ r_.2)],[]⟩) ⟨[(0,.lf (.int .u64 r1.1)),(2,.i_ r1.2),(14,.lf (.bool (decide ((256:Int) ≤ r1.1))))],[]⟩ (TF r1).den (jW (by kernel_rfl)) fun r2 _ =>
 .ask (lH ⟨#[0,1,2,2,3,3,3,3,4,4,4,4,4,4,4,4,5,5,5,5,5,5,5,5,5,5,5,5,5,5,5,5,6,6,6,6,6,6,6,6,6,6,6,6,6,6,6,6,6,6,6,6,6,6,6,6,6,6,6,6,6,6,6,6,7,7,7,7,7,7,7,7,7,7,7,7,7,7,7,7,7,7,7,7,7,7,7,7,7,7,7,7,7,7,7,7,7,7,7,7,7,7,7,7,7,7,7,7,7,7,7,7,7,7,7,7,7,7,7,7,7,7,7,7,7,7,7,7,8,8,8,8,8,8,8,8,8,8,8,8,8,8,8,8,8,8,8,8,8,8,8,8,8,8,8,8,8,8,8,8,8,8,8,8,8,8,8,8,8,8,8,8,8,8,8,8,8,8,8,8,8,8,8,8,8,8,8,8,8,8,8,8,8,8,8,8,8,8,8,8,8,8,8,8,8,8,8,8,8,8,8,8,8,8,8,8,8,8,8,8,8,8,8,8,8,8,8,8,8,8,8,8,8,8,8,8,8,8,8,8,8,8,8,8,8,8,8,8,8,8,8,8,8,8,8,8]⟩ (IntKind.wrap .u8 r2.1)) fun b0 h0 =>
 .say [.byt b0] (ok1 (iF h0)) <|
 .ret (bn 1) (IntKind.wrap .i64 (r2.2 + (IntKind.wrap .i64 (b0.toNat:Int))))
def aj0 (p_x:Int) : Option (Int) := Mo.den (ah0 p_x)
theorem aeO (p_x:Int) : FV (aj0 p_x) 149 [.lf (.int .u64 p_x)] (fun r=>.i_ r) := dw Tryz.func149 (by kernel_rfl) (fun _=>rfl) (by kernel_rfl)
def ah1 (p_x:Int) : Mo (Int) :=
 .say [.br false] (ok1 (rfl:false = false)) <|
 .cl (aeO p_x) fun r0 _ =>
 .ret (bn 1) (r0)
def aj1 (p_x:Int) : Option (Int) := Mo.den (ah1 p_x)
theorem aeP (p_x:Int) : FV (aj1 p_x) 105 [.lf (.int .u64 p_x)] (fun r=>.i_ r) := dw Tryz.func105 (by kernel_rfl) (fun _=>rfl) (by kernel_rfl)
def ah2 (p_x:Int) : Mo (Bool) :=
 .ret (bn 1) (p_x != p_x)
def aj2 (p_x:Int) : Option (Bool) := Mo.den (ah2 p_x)
theorem Vw (p_x:Int) : FV (aj2 p_x) 195 [.i_ p_x] (fun r=>.b_ r) := dw Tryz.func195 (by kernel_rfl) (fun _=>rfl) (by kernel_rfl)
def XG (p_x:Int) (p_y:Int) : Mo (Bool) :=
 .cl (Vw p_x) fun r0 _ =>
 .iG 4002 (r0) (.cl (Vw p_y) fun r1 _ =>
 .rt [0,1,4,11] 0 (!r1)) <|
 .rt [0,1,4,11] 0 (false)
def XH (p_x:Int) (p_y:Int) (r0:Bool) : Mo (Bool) :=
 .iG 4007 (r0) (.rt [4,16] 0 (true)) <|
 .rt [4,16] 0 (decide ((p_x:Int) < p_y))
def TG (r0:Bool) : Mo (Unit) :=
 .rt [4] 0 ()
def ah3 (p_x:Int) (p_y:Int) : Mo (Bool) :=
 .sj Tryz.f145 0 [1,0] [0,1,2,3,4,5,6] 1 7 [0,1,4] 0 (fun r_=>⟨[(0,.i_ p_x),(1,.i_ p_y),(4,.b_ false),(11,.b_ r_)],[]⟩) ⟨[(0,.i_ p_x),(1,.i_ p_y),(4,.b_ false)],[]⟩ (XG p_x p_y).den (sW (by kernel_rfl)) fun r0 _ =>
 .sj Tryz.f145 0 [1,0] [7,8,9,10,11] 1 5 [0,1,4,11] 0 (fun r_=>⟨[(4,.b_ false),(16,.b_ r_)],[]⟩) ⟨[(0,.i_ p_x),(1,.i_ p_y),(4,.b_ false),(11,.b_ r0)],[]⟩ (XH p_x p_y r0).den (sW (by kernel_rfl)) fun r1 _ =>
 .sj Tryz.f145 0 [1,0] [12] 1 1 [4,16] 0 (fun r_=>⟨[(4,.b_ r1)],[]⟩) ⟨[(4,.b_ false),(16,.b_ r1)],[]⟩ (TG r1).den (sW (by kernel_rfl)) fun r2 _ =>
 .ret (bn 1) (r1)
def ajn (p_x:Int) (p_y:Int) : Option (Bool) := Mo.den (ah3 p_x p_y)
theorem aeQ (p_x:Int) (p_y:Int) : FV (ajn p_x p_y) 145 [.i_ p_x,.i_ p_y] (fun r=>.b_ r) := dw Tryz.func145 (by kernel_rfl) (fun _=>rfl) (by kernel_rfl)
def ab7 (l0:List Int) (p_a:Int) (p_b:Int) (v0:Int) (v1:Int) : Mo (Bool) :=
 .ite (decide ((p_a:Int) < v1)) (fun c0 =>
 .say [] (ok1 c0) <|
 .ask (bT l0 v1) fun x0 h0 =>
 .say [] (okc (bZ lI_ h0) (ok1 ((aX lI_ h0).2))) <|
 .ask (bT l0 (IntKind.wrap .i64 (v1 - 1))) fun x1 h1 =>
 .say [] (okc (bZ lI_ h1) (ok1 ((aX lI_ h1).2))) <|
 .ask (ajn x0 x1) fun r0 h2 =>
 .say [.dM (.q 0 (.q 1 (.q 2 (.q 3 (.q 4 (.q 5 (.q 6 (.q 7 (.q 8 (.q 9 (.q 10 (.q 11 (.q 12 (.l 13 (.q 14 .fin))))))))))))))) (some 13) [] [.gd 10003 true,.row (lfI x0),.row (lfI x1),.res (.b_ r0)] [0,1,2,6,7,30] 1 [(0,.own 0),(1,.i_ p_a),(2,.i_ p_b),(6,.i_ v0),(7,.i_ v1),(30,.b_ r0)] [.row 3 1 (l0.map lfI)]] (okc (aeQ _ _ _ h2) (ok1 (rf_ ⟨[(0,.own 0),(1,.i_ p_a),(2,.i_ p_b),(6,.i_ v0),(7,.i_ v1),(30,.b_ r0)],[.row 3 1 (l0.map lfI)]⟩))) <|
 .rt [0,1,2,6,7,30] 1 (r0)) fun c0 =>
 .say [.dM (.q 0 (.q 1 (.q 2 (.q 3 (.q 4 (.q 5 (.q 6 (.q 7 (.q 8 (.q 9 (.q 10 (.q 11 (.q 12 (.l 13 (.q 14 .fin))))))))))))))) (some 13) [] [.gd 10003 false] [0,1,2,6,7,30] 1 [(0,.own 0),(1,.i_ p_a),(2,.i_ p_b),(6,.i_ v0),(7,.i_ v1),(30,.b_ false)] [.row 3 1 (l0.map lfI)]] (okc c0 (ok1 (rf_ ⟨[(0,.own 0),(1,.i_ p_a),(2,.i_ p_b),(6,.i_ v0),(7,.i_ v1),(30,.b_ false)],[.row 3 1 (l0.map lfI)]⟩))) <|
 .rt [0,1,2,6,7,30] 1 (false)
def ab8 (p_a:Int) (p_b:Int) (v0:Int) : (Int × (List Int)) → Mo ((Int × (List Int)) ⊕ ((List Int))) := fun (v1,l0) =>
 .jp Tryz.f139 1 [1,0,0,1,0,0,1,0,0,0,0] 15 [0,1,2,6,7] 1 (.normal) (fun r_=>⟨[(0,.own 0),(1,.i_ p_a),(2,.i_ p_b),(6,.i_ v0),(7,.i_ v1),(30,.b_ r_)],[.row 3 1 (l0.map lfI)]⟩) ⟨[(0,.own 0),(1,.i_ p_a),(2,.i_ p_b),(6,.i_ v0),(7,.i_ v1)],[.row 3 1 (l0.map lfI)]⟩ (ab7 l0 p_a p_b v0 v1).den (jW (by kernel_rfl)) fun r0 _ =>
 .iB (r0) (.ask (bT l0 (IntKind.wrap .i64 (v1 - 1))) fun x0 h0 =>
 .say [] (okc (bZ lI_ h0) (ok1 ((aX lI_ h0).2))) <|
 .ask (bT l0 v1) fun x1 h1 =>
 .say [] (okc (bZ lI_ h1) (ok1 ((aX lI_ h1).2))) <|
 .ask (bT l0 v1) fun x2 h2 =>
 .say [] (okc (bZ lI_ h2) (okc (st_ lI_ l0 v1.toNat x0) (ok1 ((aX lI_ h2).2)))) <|
 .ask (bT (l0.set v1.toNat x0) (IntKind.wrap .i64 (v1 - 1))) fun x3 h3 =>
 .say [.dM (.q 0 (.q 1 (.q 2 (.q 3 (.q 4 (.q 5 (.q 6 (.q 7 (.q 10 (.q 11 (.alt 8 (.alt 9 (.l 12 (.l 13 (.l 14 (.l 15 (.l 16 (.l 17 .fin)))))) (.l 12 (.alt 9 (.l 13 (.l 14 (.l 15 (.l 16 (.l 17 .fin))))) (.l 13 (.l 9 (.l 14 (.l 15 (.l 16 (.l 17 .fin))))))))) (.l 12 (.alt 8 (.alt 9 (.l 13 (.l 14 (.l 15 (.l 16 (.l 17 .fin))))) (.l 13 (.l 9 (.l 14 (.l 15 (.l 16 (.l 17 .fin))))))) (.l 13 (.l 8 (.l 9 (.l 14 (.l 15 (.l 16 (.l 17 .fin)))))))))))))))))))) (some 17) [0] [.both [.both [.row (lfI x0),.row (lfI x1),.row (lfI x2),.rows ((l0.set v1.toNat x0).map lfI),.row (lfI x3),.rows (((l0.set v1.toNat x0).set ((IntKind.wrap .i64 (v1 - 1)).toNat) x1).map lfI)] [.both [.row (lfI x0),.row (lfI x1),.row (lfI x2),.rows ((l0.set v1.toNat x0).map lfI),.row (lfI x3),.rows (((l0.set v1.toNat x0).set ((IntKind.wrap .i64 (v1 - 1)).toNat) x1).map lfI)] [.row (lfI x1),.row (lfI x0),.row (lfI x2),.rows ((l0.set v1.toNat x0).map lfI),.row (lfI x3),.rows (((l0.set v1.toNat x0).set ((IntKind.wrap .i64 (v1 - 1)).toNat) x1).map lfI)]]] [.both [.both [.row (lfI x0),.row (lfI x1),.row (lfI x2),.rows ((l0.set v1.toNat x0).map lfI),.row (lfI x3),.rows (((l0.set v1.toNat x0).set ((IntKind.wrap .i64 (v1 - 1)).toNat) x1).map lfI)] [.row (lfI x1),.row (lfI x0),.row (lfI x2),.rows ((l0.set v1.toNat x0).map lfI),.row (lfI x3),.rows (((l0.set v1.toNat x0).set ((IntKind.wrap .i64 (v1 - 1)).toNat) x1).map lfI)]] [.row (lfI x1),.row (lfI x0),.row (lfI x2),.rows ((l0.set v1.toNat x0).map lfI),.row (lfI x3),.rows (((l0.set v1.toNat x0).set ((IntKind.wrap .i64 (v1 - 1)).toNat) x1).map lfI)]]] [0,1,2,6,7] 1 [(0,.own 0),(1,.i_ p_a),(2,.i_ p_b),(6,.i_ v0),(7,.i_ v1)] [.row 3 1 (((l0.set v1.toNat x0).set ((IntKind.wrap .i64 (v1 - 1)).toNat) x1).map lfI)]] (okc (bZ lI_ h3) (okc (st_ lI_ (l0.set v1.toNat x0) ((IntKind.wrap .i64 (v1 - 1)).toNat) x1) (okc ((aX lI_ h3).2) (okc (rf_ ⟨[(0,.own 0),(1,.i_ p_a),(2,.i_ p_b),(6,.i_ v0),(7,.i_ v1)],[.row 3 1 (((l0.set v1.toNat x0).set ((IntKind.wrap .i64 (v1 - 1)).toNat) x1).map lfI)]⟩) (okc (bZ lI_ h1) (okc ((aX lI_ h0).2) (okc ((aX lI_ h1).2) (okc (bZ lI_ h2) (okc (st_ lI_ l0 v1.toNat x0) (okc ((aX lI_ h2).2) (okc (bZ lI_ h3) (okc (st_ lI_ (l0.set v1.toNat x0) ((IntKind.wrap .i64 (v1 - 1)).toNat) x1) (okc ((aX lI_ h3).2) (okc (rf_ ⟨[(0,.own 0),(1,.i_ p_a),(2,.i_ p_b),(6,.i_ v0),(7,.i_ v1)],[.row 3 1 (((l0.set v1.toNat x0).set ((IntKind.wrap .i64 (v1 - 1)).toNat) x1).map lfI)]⟩) (okc ((aX lI_ h1).2) (okc ((aX lI_ h0).2) (okc (bZ lI_ h2) (okc (st_ lI_ l0 v1.toNat x0) (okc ((aX lI_ h2).2) (okc (bZ lI_ h3) (okc (st_ lI_ (l0.set v1.toNat x0) ((IntKind.wrap .i64 (v1 - 1)).toNat) x1) (okc ((aX lI_ h3).2) (okc (rf_ ⟨[(0,.own 0),(1,.i_ p_a),(2,.i_ p_b),(6,.i_ v0),(7,.i_ v1)],[.row 3 1 (((l0.set v1.toNat x0).set ((IntKind.wrap .i64 (v1 - 1)).toNat) x1).map lfI)]⟩) (okc (bZ lI_ h1) (okc (bZ lI_ h0) (okc ((aX lI_ h0).2) (okc ((aX lI_ h1).2) (okc (bZ lI_ h2) (okc (st_ lI_ l0 v1.toNat x0) (okc ((aX lI_ h2).2) (okc (bZ lI_ h3) (okc (st_ lI_ (l0.set v1.toNat x0) ((IntKind.wrap .i64 (v1 - 1)).toNat) x1) (okc ((aX lI_ h3).2) (okc (rf_ ⟨[(0,.own 0),(1,.i_ p_a),(2,.i_ p_b),(6,.i_ v0),(7,.i_ v1)],[.row 3 1 (((l0.set v1.toNat x0).set ((IntKind.wrap .i64 (v1 - 1)).toNat) x1).map lfI)]⟩) (okc ((aX lI_ h1).2) (okc ((aX lI_ h0).2) (okc (bZ lI_ h2) (okc (st_ lI_ l0 v1.toNat x0) (okc ((aX lI_ h2).2) (okc (bZ lI_ h3) (okc (st_ lI_ (l0.set v1.toNat x0) ((IntKind.wrap .i64 (v1 - 1)).toNat) x1) (okc ((aX lI_ h3).2) (okc (rf_ ⟨[(0,.own 0),(1,.i_ p_a),(2,.i_ p_b),(6,.i_ v0),(7,.i_ v1)],[.row 3 1 (((l0.set v1.toNat x0).set ((IntKind.wrap .i64 (v1 - 1)).toNat) x1).map lfI)]⟩) (okc ((aX lI_ h1).2) (okc (bZ lI_ h0) (okc ((aX lI_ h0).2) (okc (bZ lI_ h2) (okc (st_ lI_ l0 v1.toNat x0) (okc ((aX lI_ h2).2) (okc (bZ lI_ h3) (okc (st_ lI_ (l0.set v1.toNat x0) ((IntKind.wrap .i64 (v1 - 1)).toNat) x1) (okc ((aX lI_ h3).2) (ok1 (rf_ ⟨[(0,.own 0),(1,.i_ p_a),(2,.i_ p_b),(6,.i_ v0),(7,.i_ v1)],[.row 3 1 (((l0.set v1.toNat x0).set ((IntKind.wrap .i64 (v1 - 1)).toNat) x1).map lfI)]⟩)))))))))))))))))))))))))))))))))))))))))))))))))))))) <|
 .rt [0,1,2,6,7] 1 (.inl (IntKind.wrap .i64 (v1 - 1),(l0.set v1.toNat x0).set ((IntKind.wrap .i64 (v1 - 1)).toNat) x1))) <|
 .rt [0,1,2,6] 1 (.inr (l0))
def ah4 (p_a:Int) (p_b:Int) (v0:Int) (v1:Int) (l0:List Int) : Option (((List Int))) := bJ (fun v_=>(ab8 p_a p_b v0 v_).den) FU (v1,l0)
def XI (p_a:Int) (p_b:Int) : (Int × (List Int)) → Mo ((Int × (List Int)) ⊕ ((List Int))) := fun (v0,l0) =>
 .iB (decide ((v0:Int) < p_b)) (.lp Tryz.f139 1 [1,0,0,1,0,0,1,0] 0 [0,1,2,6,7] 1 (.exit 2) (fun r_=>⟨[(0,.own 0),(1,.i_ p_a),(2,.i_ p_b),(6,.i_ v0)],[.row 3 1 (r_.map lfI)]⟩) (ah4 p_a p_b v0 v0 l0) (lW (fun (v1,l1)=>⟨[(0,.own 0),(1,.i_ p_a),(2,.i_ p_b),(6,.i_ v0),(7,.i_ v1)],[.row 3 1 (l1.map lfI)]⟩) (by kernel_rfl) rfl fun v_=>by kernel_rfl) fun r0 _ =>
 .rt [0,1,2,6] 1 (.inl (IntKind.wrap .i64 (v0 + 1),r0))) <|
 .rt [] 1 (.inr (l0))
def aeR (p_a:Int) (p_b:Int) (v0:Int) (l0:List Int) : Option (((List Int))) := bJ (fun v_=>(XI p_a p_b v_).den) FU (v0,l0)
def ajo (p_a:Int) (p_b:Int) (p_s0:List Int) : Mo (List Int) :=
 .lp Tryz.f139 1 [1,0] 0 [0,1,2,6] 1 (.exit 0) (fun r_=>⟨[],[.row 3 1 (r_.map lfI)]⟩) (aeR p_a p_b (IntKind.wrap .i64 (p_a + 1)) p_s0) (lW (fun (v0,l0)=>⟨[(0,.own 0),(1,.i_ p_a),(2,.i_ p_b),(6,.i_ v0)],[.row 3 1 (l0.map lfI)]⟩) (by kernel_rfl) rfl fun v_=>by kernel_rfl) fun r0 _ =>
 .rt [] 1 (r0)
def Q56 (p_a:Int) (p_b:Int) (p_s0:List Int) : Option (List Int) := Mo.den (ajo p_a p_b p_s0)
theorem ah5 (p_a:Int) (p_b:Int) (p_s0:List Int) : FH (Q56 p_a p_b p_s0) 139 [.own 0,.i_ p_a,.i_ p_b] [.row 3 1 (p_s0.map lfI)] (fun _=>.tup []) (fun r=>[.row 3 1 (r.map lfI)]) := gV Tryz.func139 (by kernel_rfl) (fun _=>rfl) (by kernel_rfl)
structure ab9 where
 m1:(p_a:Int) → (p_b:Int) → (p_limit:Int) → (p_s0:List Int) → Option (List Int)
 ok1:∀ p_a p_b p_limit p_s0,FH (m1 p_a p_b p_limit p_s0) 104 [.own 0,.i_ p_a,.i_ p_b,.i_ p_limit] [.row 3 1 (p_s0.map lfI)] (fun _=>.tup []) (fun r=>[.row 3 1 (r.map lfI)])
def acd (R_:ab9) (p_a:Int) (p_b:Int) (p_limit:Int) (p_s0:List Int) : Unit → Mo (Unit ⊕ ((List Int))) := fun _ =>
 .say [.br true] ok0 <|
 .ite (decide ((IntKind.wrap .i64 (p_b - p_a) : Int) ≤ 12)) (fun c0 =>
 .say [] (ok1 c0) <|
 .cH [0] (ah5 p_a p_b p_s0) fun r0 _ =>
 .rt [] 1 (.inr (r0))) fun c0 =>
 .stop
def ah6 (R_:ab9) (p_a:Int) (p_b:Int) (p_limit:Int) (p_s0:List Int) : Option (((List Int))) := bJ (fun v_=>(acd R_ p_a p_b p_limit p_s0 v_).den) FU ()
def af6 (R_:ab9) (p_a:Int) (p_b:Int) (p_limit:Int) (p_s0:List Int) : Mo (List Int) :=
 .lp Tryz.f104 1 [1,1,0] 0 [0,1,2,3,8,9] 1 (.ret) (fun r_=>⟨[],[.row 3 1 (r_.map lfI)]⟩) (ah6 R_ p_a p_b p_limit p_s0) (lW (fun _=>⟨[(0,.own 0),(1,.i_ p_a),(2,.i_ p_b),(3,.i_ p_limit),(8,.b_ true),(9,.b_ true)],[.row 3 1 (p_s0.map lfI)]⟩) (by kernel_rfl) rfl fun v_=>by kernel_rfl) fun r0 _ =>
 .rt [] 1 (r0)
theorem aeS (R_:ab9) (p_a:Int) (p_b:Int) (p_limit:Int) (p_s0:List Int) : FH (Mo.den (af6 R_ p_a p_b p_limit p_s0)) 104 [.own 0,.i_ p_a,.i_ p_b,.i_ p_limit] [.row 3 1 (p_s0.map lfI)] (fun _=>.tup []) (fun r=>[.row 3 1 (r.map lfI)]) := gV Tryz.func104 (by kernel_rfl) (fun _=>rfl) (by kernel_rfl)
def Jz:Nat → ab9
 | 0=>{ m1 := fun p_a p_b p_limit p_s0=>none,ok1 := fun _ _ _ _ _ h=>(by cases h) }
 | n_ + 1=>{ m1 := fun p_a p_b p_limit p_s0=>Mo.den (af6 (Jz n_) p_a p_b p_limit p_s0),ok1 := aeS (Jz n_) }
def Q80 (p_a:Int) (p_b:Int) (p_limit:Int) (p_s0:List Int) : Option (List Int) := (Jz FU).m1 p_a p_b p_limit p_s0
theorem ah7 (p_a:Int) (p_b:Int) (p_limit:Int) (p_s0:List Int) : FH (Q80 p_a p_b p_limit p_s0) 104 [.own 0,.i_ p_a,.i_ p_b,.i_ p_limit] [.row 3 1 (p_s0.map lfI)] (fun _=>.tup []) (fun r=>[.row 3 1 (r.map lfI)]) := (Jz FU).ok1 p_a p_b p_limit p_s0
def ah8 (p_s0:List Int) : Mo (List Int) :=
 .say [.num p_s0.length] (ok1 (ln_ p_s0 lfI)) <|
 .cl (aeP (IntKind.wrap .u64 (p_s0.length:Int))) fun r0 _ =>
 .cH [0] (ah7 0 (p_s0.length:Int) r0 p_s0) fun r1 _ =>
 .rt [] 1 (r1)
def ajp (p_s0:List Int) : Option (List Int) := Mo.den (ah8 p_s0)
theorem aeT (p_s0:List Int) : FH (ajp p_s0) 76 [.own 0] [.row 3 1 (p_s0.map lfI)] (fun _=>.tup []) (fun r=>[.row 3 1 (r.map lfI)]) := gV Tryz.func76 (by kernel_rfl) (fun _=>rfl) (by kernel_rfl)
def ace (p_m:ak) (r0:Int) : Mo (Bool) :=
 .iG 6003 (p_m.dV != 2) (.rt [1,2,3,15] 5 (true)) <|
 .rt [1,2,3,15] 5 (r0 == 0)
def acf (p_m:ak) (r0:Int) (r1:Bool) : Mo (Bool) :=
 .ite (r1) (fun c0 =>
 .say [.gd 6007 true] (ok1 c0) <|
 .rt [1,2,3,22] 5 (true)) fun c0 =>
 .say [.gd 6007 false,.num p_m.bg.length] (okc c0 (ok1 (ln_ p_m.bg lfI))) <|
 .rt [1,2,3,22] 5 (decide (((p_m.bg.length:Int) : Int) < r0))
def XJ (p_m:ak) (v0:Int) : Mo (Bool) :=
 .say [.order [(true,0),(true,1),(true,2),(true,3),(true,4),(true,5),(true,6),(true,7),(true,8),(true,9),(true,10),(true,11),(true,12),(true,13),(true,14),(true,15),(true,16),(true,17),(true,18),(true,19)] none []] ok0 <|
 .iG 16004 (decide ((p_m.aA:Int) < v0)) (.iG 16008 (decide ((0:Int) < v0)) (.ask (bT p_m.aP (IntKind.wrap .i64 (v0 - 1))) fun x0 h0 =>
 .say [.row (au.lf1 x0)] (okc (bZ au.aU h0) (ok1 ((aX au.aU h0).2))) <|
 .rt [1,2,5,59] 6 (x0.bC != p_m.bC)) <|
 .rt [1,2,5,59] 6 (false)) <|
 .rt [1,2,5,59] 6 (false)
def H9 (p_m:ak) : (Int) → Mo ((Int) ⊕ (Int)) := fun (v0) =>
 .jp Tryz.f38 3 [1,1,1,1,1,1,0,0,0,0,0] 21 [1,2,5] 6 (.normal) (fun r_=>⟨[(1,.ptr 3 0),(2,.ptr 4 0),(5,.i_ v0),(59,.b_ r_)],[.row 54 82 (p_m.aP.map au.lf),.row 3 1 (p_m.fNext.map lfI),.dead,.box 25 (ag_ (ak.lf1 p_m) [(8,.own 0),(10,.own 1)]),.box 25 (Z25),.dead]⟩) ⟨[(1,.ptr 3 0),(2,.ptr 4 0),(5,.i_ v0)],[.row 54 82 (p_m.aP.map au.lf),.row 3 1 (p_m.fNext.map lfI),.dead,.box 25 (ag_ (ak.lf1 p_m) [(8,.own 0),(10,.own 1)]),.box 25 (Z25),.dead]⟩ (XJ p_m v0).den (jW (by kernel_rfl)) fun r0 _ =>
 .iB (r0) (.rt [1,2,5] 6 (.inl (IntKind.wrap .i64 (v0 - 1)))) <|
 .rt [1,2,5] 6 (.inr (v0))
def Vx (p_m:ak) (v0:Int) : Option (Int) := bJ (fun v_=>(H9 p_m v_).den) FU (v0)
def Ia (p_m:ak) : (Int) → St := fun (v0)=>⟨[(1,.ptr 3 0),(2,.ptr 4 0),(5,.i_ v0)],[.row 54 82 (p_m.aP.map au.lf),.row 3 1 (p_m.fNext.map lfI),.dead,.box 25 (ag_ (ak.lf1 p_m) [(8,.own 0),(10,.own 1)]),.box 25 (Z25),.dead]⟩
def rJ (p_m:ak) (r_:Int) : St := ⟨[(1,.ptr 3 0),(2,.ptr 4 0),(5,.i_ r_)],[.row 54 82 (p_m.aP.map au.lf),.row 3 1 (p_m.fNext.map lfI),.dead,.box 25 (ag_ (ak.lf1 p_m) [(8,.own 0),(10,.own 1)]),.box 25 (Z25),.dead]⟩
theorem XK {p_m:ak} {v0:Int} {r_:Int} (h:Vx p_m v0 = some r_) : gq Tryz.f38 3 [1,1,1,1,1,1,0,0] (.exit 0) (rJ p_m r_) (Ia p_m (v0)) :=
 dR dL (body := (Code.sub (bodyC Tryz.f38) [1,1,1,1,1,1,0,0,0])) (by kernel_rfl) (H9 p_m) (Ia p_m) (fun _=>.exit 0) (rJ p_m) (fun r_=>rfl) (fun v_=>by kernel_rfl) h
def ajq (p_m:ak) : Mo (ak) :=
 .cl (Vq p_m.dJ) fun r0 _ =>
 .sj Tryz.f38 3 [1,1,0,0] [0,1,2,3,4,5,6] 2 7 [1,2,3] 5 (fun r_=>⟨[(1,.ptr 3 0),(2,.ptr 4 0),(3,.i_ r0),(15,.b_ r_)],[.row 54 82 (p_m.aP.map au.lf),.row 3 1 (p_m.fNext.map lfI),.row 3 1 (p_m.bg.map lfI),.box 25 (ag_ (ak.lf1 p_m) [(8,.own 0),(10,.own 1),(11,.own 2)]),.box 25 (Z25)]⟩) ⟨[(1,.ptr 3 0),(2,.ptr 4 0),(3,.i_ r0)],[.row 54 82 (p_m.aP.map au.lf),.row 3 1 (p_m.fNext.map lfI),.row 3 1 (p_m.bg.map lfI),.box 25 (ag_ (ak.lf1 p_m) [(8,.own 0),(10,.own 1),(11,.own 2)]),.box 25 (Z25)]⟩ (ace p_m r0).den (sW (by kernel_rfl)) fun r1 _ =>
 .sj Tryz.f38 3 [1,1,0,0] [7,8,9,10,11,12,13] 2 7 [1,2,3,15] 5 (fun r_=>⟨[(1,.ptr 3 0),(2,.ptr 4 0),(3,.i_ r0),(22,.b_ r_)],[.row 54 82 (p_m.aP.map au.lf),.row 3 1 (p_m.fNext.map lfI),.row 3 1 (p_m.bg.map lfI),.box 25 (ag_ (ak.lf1 p_m) [(8,.own 0),(10,.own 1),(11,.own 2)]),.box 25 (Z25)]⟩) ⟨[(1,.ptr 3 0),(2,.ptr 4 0),(3,.i_ r0),(15,.b_ r1)],[.row 54 82 (p_m.aP.map au.lf),.row 3 1 (p_m.fNext.map lfI),.row 3 1 (p_m.bg.map lfI),.box 25 (ag_ (ak.lf1 p_m) [(8,.own 0),(10,.own 1),(11,.own 2)]),.box 25 (Z25)]⟩ (acf p_m r0 r1).den (sW (by kernel_rfl)) fun r2 _ =>
 .ite (r2) (fun c0 =>
 .say [.br true] (ok1 c0) <|
 .ret ⟨[.frz 2,.kill 3,.kill 4,.mvn 0,.mvn 1],[0],[(5,3),(6,4)],5⟩ (p_m)) fun c0 =>
 .say [.br false,.at_ 10 2,.frz 2] (ok1 c0) <|
 .cH [] (adg p_m.bg) fun r3 _ =>
 .ask (ajp r3) fun r4 h0 =>
 .say [.jd [5] (.tup []) [.row 3 1 (r4.map lfI)],.order [(true,0),(true,1),(true,2),(true,3),(true,4),(true,5),(true,6),(true,7),(true,8),(true,9),(true,10),(true,11)] none [],.num r4.length] (okc (aeT _ _ h0) (ok1 (ln_ r4 lfI))) <|
 .ask (bT r4 (IntKind.wrap .i64 ((r4.length:Int) - r0))) fun x0 h1 =>
 .say [.row (lfI x0),.num p_m.aP.length] (okc (bZ lI_ h1) (okc ((aX lI_ h1).2) (ok1 (ln_ p_m.aP au.lf)))) <|
 .ask (Vx p_m (if (p_m.aP.length:Int) < x0 then (p_m.aP.length:Int) else x0)) fun r5 h2 =>
 .say [.part [.kill 5] 0 [1,2,5] 6 (.exit 0) (rJ p_m r5).T (rJ p_m r5).H] (ok1 (XK h2)) <|
 .ret ⟨[.kill 3,.kill 4,.mvn 0,.mvn 1],[0],[(6,3),(7,4)],5⟩ (ak.Aj p_m (if p_m.aA > r5 then p_m.aA else r5))
def Q51 (p_m:ak) : Option (ak) := Mo.den (ajq p_m)
theorem ah9 (p_m:ak) : FH (Q51 p_m) 38 [yM (.agg ((ak.lf1 p_m).map AV.lf)) [(8,.own 0),(10,.own 1),(11,.own 2)]] [.row 54 82 (p_m.aP.map au.lf),.row 3 1 (p_m.fNext.map lfI),.row 3 1 (p_m.bg.map lfI)] (fun r=>yM (.agg ((ak.lf1 r).map AV.lf)) [(8,.own 3),(10,.own 4)]) (fun r=>[.dead,.dead,.dead,.row 54 82 (r.aP.map au.lf),.row 3 1 (r.fNext.map lfI)]) := gV Tryz.func38 (by kernel_rfl) (fun _=>rfl) (by kernel_rfl)
def aia (p_x:aj) (p_b0:aF) : Mo (aF) :=
 .say [.order [(true,0),(true,1),(true,2),(true,3),(true,5),(false,4),(false,6),(false,7),(true,8),(true,9),(false,10)] (some 10) [1,2,3,6,7,8,9,10]] ok0 <|
 .cH [1,2,3] (ahZ p_b0.aI p_x) fun r0 _ =>
 .cH [6,7,8] (ah9 r0) fun r1 _ =>
 .ret ⟨[.kill 5,.mvn 9,.mvn 10,.mvn 4],[],[(11,5),(12,6),(13,7)],8⟩ (aF.mk r1 p_b0.cZ p_b0.eG)
def ajr (p_x:aj) (p_b0:aF) : Option (aF) := Mo.den (aia p_x p_b0)
theorem aeU (p_x:aj) (p_b0:aF) : FH (ajr p_x p_b0) 46 [.ptr 0 0,.dat (aj.lf1 p_x)] [.box 97 (ag_ (aF.lf1 p_b0) [(8,.own 1),(10,.own 2),(11,.own 3),(12,.own 4)]),.row 54 82 (p_b0.aI.aP.map au.lf),.row 3 1 (p_b0.aI.fNext.map lfI),.row 3 1 (p_b0.aI.bg.map lfI),.row 63 9 (p_b0.cZ.map aj.lf)] (fun _=>.tup []) (fun r=>[.box 97 (ag_ (aF.lf1 r) [(8,.own 5),(10,.own 6),(12,.own 7)]),.dead,.dead,.dead,.dead,.row 54 82 (r.aI.aP.map au.lf),.row 3 1 (r.aI.fNext.map lfI),.row 63 9 (r.cZ.map aj.lf)]) := gV Tryz.func46 (by kernel_rfl) (fun _=>rfl) (by kernel_rfl)
def XL (p_m:ak) (p_x:aj) : Mo (Bool) :=
 .iG 4005 (p_x.fTo != p_m.fID) (.rt [2,3,4,6,20] 4 (true)) <|
 .rt [2,3,4,6,20] 4 (p_x.dB == p_m.fID)
def XM (p_m:ak) (p_x:aj) (r0:Bool) : Mo (Bool) :=
 .iG 4012 (r0) (.rt [2,3,4,6,25] 4 (true)) <|
 .rt [2,3,4,6,25] 4 (decide ((p_x.dB:Int) < 0))
def TJ (p_m:ak) (p_x:aj) (r0:Bool) : Mo (Bool) :=
 .iG 4017 (r0) (.rt [2,3,4,6,32] 4 (true)) <|
 .rt [2,3,4,6,32] 4 (decide ((p_m.dJ:Int) ≤ p_x.dB))
def aib (p_m:ak) (p_x:aj) : Mo (ak × (List aj) × bM) :=
 .sj Tryz.f16 0 [1,0,0] [0,1,2,3,4,5,6,7,8,9,10,11] 1 12 [2,3,4,6] 4 (fun r_=>⟨[(2,.ptr 0 0),(3,.ptr 1 0),(4,.ptr 2 0),(6,.ptr 3 0),(20,.b_ r_)],[.box 25 (.dat (ak.lf1 p_m)),.box 63 (.dat (aj.lf1 p_x)),.box 25 (Z25),.box 67 (.agg [.i_ 0,.i_ 0,.i_ 0,.bH 82])]⟩) ⟨[(2,.ptr 0 0),(3,.ptr 1 0),(4,.ptr 2 0),(6,.ptr 3 0)],[.box 25 (.dat (ak.lf1 p_m)),.box 63 (.dat (aj.lf1 p_x)),.box 25 (Z25),.box 67 (.agg [.i_ 0,.i_ 0,.i_ 0,.bH 82])]⟩ (XL p_m p_x).den (sW (by kernel_rfl)) fun r0 _ =>
 .sj Tryz.f16 0 [1,0,0] [12,13,14,15,16] 1 5 [2,3,4,6,20] 4 (fun r_=>⟨[(2,.ptr 0 0),(3,.ptr 1 0),(4,.ptr 2 0),(6,.ptr 3 0),(25,.b_ r_)],[.box 25 (.dat (ak.lf1 p_m)),.box 63 (.dat (aj.lf1 p_x)),.box 25 (Z25),.box 67 (.agg [.i_ 0,.i_ 0,.i_ 0,.bH 82])]⟩) ⟨[(2,.ptr 0 0),(3,.ptr 1 0),(4,.ptr 2 0),(6,.ptr 3 0),(20,.b_ r0)],[.box 25 (.dat (ak.lf1 p_m)),.box 63 (.dat (aj.lf1 p_x)),.box 25 (Z25),.box 67 (.agg [.i_ 0,.i_ 0,.i_ 0,.bH 82])]⟩ (XM p_m p_x r0).den (sW (by kernel_rfl)) fun r1 _ =>
 .sj Tryz.f16 0 [1,0,0] [17,18,19,20,21,22,23] 1 7 [2,3,4,6,25] 4 (fun r_=>⟨[(2,.ptr 0 0),(3,.ptr 1 0),(4,.ptr 2 0),(6,.ptr 3 0),(32,.b_ r_)],[.box 25 (.dat (ak.lf1 p_m)),.box 63 (.dat (aj.lf1 p_x)),.box 25 (Z25),.box 67 (.agg [.i_ 0,.i_ 0,.i_ 0,.bH 82])]⟩) ⟨[(2,.ptr 0 0),(3,.ptr 1 0),(4,.ptr 2 0),(6,.ptr 3 0),(25,.b_ r1)],[.box 25 (.dat (ak.lf1 p_m)),.box 63 (.dat (aj.lf1 p_x)),.box 25 (Z25),.box 67 (.agg [.i_ 0,.i_ 0,.i_ 0,.bH 82])]⟩ (TJ p_m p_x r1).den (sW (by kernel_rfl)) fun r2 _ =>
 .iB (r2) (.cH [] (qm p_m) fun r3 _ =>
 .ask (Q78) fun r4 h0 =>
 .say [.res (.dat (bM.lf1 r4)),.at_ 0 0,.frz 4,.frz 5,.frz 6] (ok1 (tV  _ h0)) <|
 .ret ⟨[.nil 1 9,.tod 1],[0,1,2],[],0⟩ (r3,[],r4)) <|
 .iB (p_x.aT == 1) (.cH [] (qm p_m) fun r5 _ =>
 .ask (Q78) fun r6 h1 =>
 .say [.res (.dat (bM.lf1 r6)),.at_ 32 3,.QE 7 12 63,.kF 8 (([] : List aj).map aj.lf)] (okc (tV  _ h1) (ok1 (by simp [aj.aU] : (([] : List aj).map aj.lf) = []))) <|
 .ask (ajf p_x (aF.mk r5 ([] : List aj) r6)) fun r7 h2 =>
 .say [.jd [7,4,5,6,8] (.tup []) [.box 97 (.dat (aF.lf1 r7)),.dead,.dead,.dead,.dead],.order [(true,0),(true,1),(true,2),(true,3),(true,4),(true,5),(true,6),(true,7),(true,8),(true,9),(true,10),(true,11),(false,12),(true,13),(false,14)] (some 14) [2]] (ok1 (aeg _ _ _ h2)) <|
 .ret (bn 3) (r7.aI,r7.cZ,r7.eG)) <|
 .iB (p_x.aT == 2) (.cH [] (qm p_m) fun r8 _ =>
 .ask (Q78) fun r9 h3 =>
 .say [.res (.dat (bM.lf1 r9)),.at_ 32 3,.QE 7 12 63,.kF 8 (([] : List aj).map aj.lf)] (okc (tV  _ h3) (ok1 (by simp [aj.aU] : (([] : List aj).map aj.lf) = []))) <|
 .ask (ajj p_x (aF.mk r8 ([] : List aj) r9)) fun r10 h4 =>
 .say [.jd [7,4,5,6,8] (.tup []) [.box 97 (ag_ (aF.lf1 r10) [(12,.own 5)]),.dead,.dead,.dead,.dead,.row 63 9 (r10.cZ.map aj.lf)],.order [(true,0),(true,1),(true,2),(true,3),(true,4),(true,5),(true,6),(true,7),(true,8),(true,9),(true,10),(true,11),(false,12),(true,13),(false,14)] (some 14) [2],.at_ 0 0,.frz 9] (ok1 (ael _ _ _ h4)) <|
 .ret (bn 3) (r10.aI,r10.cZ,r10.eG)) <|
 .iB (p_x.aT == 3) (.cH [] (qm p_m) fun r11 _ =>
 .ask (Q78) fun r12 h5 =>
 .say [.res (.dat (bM.lf1 r12)),.at_ 32 3,.QE 7 12 63,.kF 8 (([] : List aj).map aj.lf)] (okc (tV  _ h5) (ok1 (by simp [aj.aU] : (([] : List aj).map aj.lf) = []))) <|
 .ask (Q30 p_x (aF.mk r11 ([] : List aj) r12)) fun r13 h6 =>
 .say [.jd [7,4,5,6,8] (.tup []) [.box 97 (ag_ (aF.lf1 r13) [(8,.own 5),(10,.own 6),(11,.own 7),(12,.own 8)]),.dead,.dead,.dead,.dead,.row 54 82 (r13.aI.aP.map au.lf),.row 3 1 (r13.aI.fNext.map lfI),.row 3 1 (r13.aI.bg.map lfI),.row 63 9 (r13.cZ.map aj.lf)],.order [(true,0),(true,1),(true,2),(true,3),(true,4),(true,5),(true,6),(true,7),(true,8),(true,9),(true,10),(true,11),(false,12),(true,13),(false,14)] (some 14) [2],.at_ 0 0,.frz 9,.frz 10,.frz 11,.frz 12] (ok1 (ab4 _ _ _ h6)) <|
 .ret (bn 3) (r13.aI,r13.cZ,r13.eG)) <|
 .iB (p_x.aT == 4) (.cH [] (qm p_m) fun r14 _ =>
 .ask (Q78) fun r15 h7 =>
 .say [.res (.dat (bM.lf1 r15)),.at_ 32 3,.QE 7 12 63,.kF 8 (([] : List aj).map aj.lf)] (okc (tV  _ h7) (ok1 (by simp [aj.aU] : (([] : List aj).map aj.lf) = []))) <|
 .ask (ajr p_x (aF.mk r14 ([] : List aj) r15)) fun r16 h8 =>
 .say [.jd [7,4,5,6,8] (.tup []) [.box 97 (ag_ (aF.lf1 r16) [(8,.own 5),(10,.own 6),(12,.own 7)]),.dead,.dead,.dead,.dead,.row 54 82 (r16.aI.aP.map au.lf),.row 3 1 (r16.aI.fNext.map lfI),.row 63 9 (r16.cZ.map aj.lf)],.order [(true,0),(true,1),(true,2),(true,3),(true,4),(true,5),(true,6),(true,7),(true,8),(true,9),(true,10),(true,11),(false,12),(true,13),(false,14)] (some 14) [2],.at_ 0 0,.frz 9,.frz 10,.frz 11] (ok1 (aeU _ _ _ h8)) <|
 .ret (bn 3) (r16.aI,r16.cZ,r16.eG)) <|
 .cH [] (qm p_m) fun r17 _ =>
 .ask (Q78) fun r18 h9 =>
 .say [.res (.dat (bM.lf1 r18)),.at_ 0 0,.frz 4,.frz 5,.frz 6] (ok1 (tV  _ h9)) <|
 .ret ⟨[.nil 1 9,.tod 1],[0,1,2],[],0⟩ (r17,[],r18)
def aj3 (p_m:ak) (p_x:aj) : Option (ak × (List aj) × bM) := Mo.den (aib p_m p_x)
theorem aeV (p_m:ak) (p_x:aj) : FV (aj3 p_m p_x) 16 [.dat (ak.lf1 p_m),.dat (aj.lf1 p_x)] (fun r=>.tup [.dat (ak.lf1 r.1),.lf (.rows 9 (r.2.1.map aj.lf)),.dat (bM.lf1 r.2.2)]) := dw Tryz.func16 (by kernel_rfl) (fun _=>rfl) (by kernel_rfl)
def aic (p_m:ak) (p_e:au) : Mo (ak × Int) :=
 .say [.br true] ok0 <|
 .ite (p_m.dV != 2) (fun c0 =>
 .say [] (ok1 c0) <|
 .ret (bn 2) (ak.z,25)) fun c0 =>
 .stop
def ajs (p_m:ak) (p_e:au) : Option (ak × Int) := Mo.den (aic p_m p_e)
theorem JA (p_m:ak) (p_e:au) : FV (ajs p_m p_e) 12 [.dat (ak.lf1 p_m),.dat (au.lf1 p_e)] (fun r=>.tup [.dat (ak.lf1 r.1),.i_ r.2]) := dw Tryz.func12 (by kernel_rfl) (fun _=>rfl) (by kernel_rfl)
def aie (p_m:ak) : Mo (ak × List aj) :=
 .say [.br true] ok0 <|
 .ite (decide ((1:Int) < p_m.gX)) (fun c0 =>
 .say [] (ok1 c0) <|
 .ask (Q88 p_m) fun r0 h0 =>
 .say [.jd [] (ag_ (ak.lf1 r0) [(8,.own 0),(10,.own 1),(11,.own 2)]) [.row 54 82 (r0.aP.map au.lf),.row 3 1 (r0.fNext.map lfI),.row 3 1 (r0.bg.map lfI)],.at_ 0 0,.frz 2,.frz 3,.frz 4] (ok1 (qm _ _ h0)) <|
 .ret ⟨[.nil 1 9,.tod 1],[0,1],[],0⟩ (ak.Bl r0 (IntKind.wrap .i64 (r0.gX - 1)),[])) fun c0 =>
 .stop
def aj6 (p_m:ak) : Option (ak × List aj) := Mo.den (aie p_m)
theorem aeW (p_m:ak) : FV (aj6 p_m) 20 [.dat (ak.lf1 p_m)] (fun r=>.tup [.dat (ak.lf1 r.1),.lf (.rows 9 (r.2.map aj.lf))]) := dw Tryz.func20 (by kernel_rfl) (fun _=>rfl) (by kernel_rfl)
def Qm (r0:ak × (List aj) × bM) (r1:ak × Int) (r2:ak × List aj) : Mo (Bool) :=
 .say [.num r0.1.aP.length] (ok1 (ln_ r0.1.aP au.lf)) <|
 .iG 18004 ((r0.1.aP.length:Int) == 1) (.ret ⟨[.kill 3],[5,6,8,9,10,46],[],7⟩ (r0.1.aA == 1)) <|
 .ret ⟨[.kill 3],[5,6,8,9,10,46],[],7⟩ (false)
def acg (r0:ak × (List aj) × bM) (r1:ak × Int) (r2:ak × List aj) : Option (Bool) := Mo.den (Qm r0 r1 r2)
def xX (r0:ak × (List aj) × bM) (r1:ak × Int) (r2:ak × List aj) (r_:Bool) : St := ⟨[(5,.lf (.rows 9 (r0.2.1.map aj.lf))),(6,.ptr 4 0),(8,.i_ r1.2),(9,.ptr 6 0),(10,.lf (.rows 9 (r2.2.map aj.lf))),(46,.b_ r_)],[.dead,.dead,.dead,.dead,.box 67 (.agg [.i_ r0.2.2.dP,.i_ r0.2.2.bC,.i_ r0.2.2.fAt,.lf (.rows 82 (r0.2.2.aW.map au.lf))]),.dead,.box 25 (.agg ((ak.lf1 r2.1).map AV.lf))]⟩
theorem ach {r0:ak × (List aj) × bM} {r1:ak × Int} {r2:ak × List aj} {r_:Bool} (h:acg r0 r1 r2 = some r_) : KJ Tryz.f11 0 [1,1,1,1,1,1,1,0] [0,1,2,3,4,5,6,7,8] (xX r0 r1 r2 r_) ⟨[(4,.ptr 3 0),(5,.lf (.rows 9 (r0.2.1.map aj.lf))),(6,.ptr 4 0),(8,.i_ r1.2),(9,.ptr 6 0),(10,.lf (.rows 9 (r2.2.map aj.lf)))],[.dead,.dead,.dead,.box 25 (.agg ((ak.lf1 r0.1).map AV.lf)),.box 67 (.agg [.i_ r0.2.2.dP,.i_ r0.2.2.bC,.i_ r0.2.2.fAt,.lf (.rows 82 (r0.2.2.aW.map au.lf))]),.dead,.box 25 (.agg ((ak.lf1 r2.1).map AV.lf))]⟩ :=
 Uz dL (Qm r0 r1 r2) (xX r0 r1 r2) (by kernel_rfl) h
def aci (r0:ak × (List aj) × bM) (r1:ak × Int) (r2:ak × List aj) (r3:Bool) : Mo (Bool) :=
 .ite (r3) (fun c0 =>
 .say [.gd 18009 true,.num r0.2.1.length] (okc c0 (ok1 (ln_ r0.2.1 aj.lf))) <|
 .rt [5,6,8,9,10,51] 7 ((r0.2.1.length:Int) == 1)) fun c0 =>
 .say [.gd 18009 false] (ok1 c0) <|
 .rt [5,6,8,9,10,51] 7 (false)
def XO (r0:ak × (List aj) × bM) (r1:ak × Int) (r2:ak × List aj) (r3:Bool) : Mo (Bool) :=
 .iG 18014 (r3) (.ask (bT r0.2.1 0) fun x0 h0 =>
 .say [.row (aj.lf1 x0)] (ok1 (aX aj.aU h0)) <|
 .rt [5,6,8,9,10,57] 7 (x0.fOK)) <|
 .rt [5,6,8,9,10,57] 7 (false)
def XP (r0:ak × (List aj) × bM) (r1:ak × Int) (r2:ak × List aj) (r3:Bool) : Mo (Bool) :=
 .iG 18020 (r3) (.ask (bT r0.2.1 0) fun x0 h0 =>
 .say [.row (aj.lf1 x0)] (ok1 (aX aj.aU h0)) <|
 .rt [6,8,9,10,64] 7 (x0.bG == 1)) <|
 .rt [6,8,9,10,64] 7 (false)
def XQ (r0:ak × (List aj) × bM) (r1:ak × Int) (r2:ak × List aj) (r3:Bool) : Mo (Bool) :=
 .iG 18027 (r3) (.ret ⟨[.kill 4],[8,9,10,69],[],7⟩ (r0.2.2.dP == (-1))) <|
 .ret ⟨[.kill 4],[8,9,10,69],[],7⟩ (false)
def XR (r0:ak × Int) (r1:ak × List aj) (r2:Bool) : Mo (Bool) :=
 .iG 18032 (r2) (.rt [9,10,73] 7 (r0.2 == 25)) <|
 .rt [9,10,73] 7 (false)
def XT (r0:ak × List aj) (r1:Bool) : Mo (Bool) :=
 .iG 18036 (r1) (.ret ⟨[.kill 6],[10,78],[],7⟩ (r0.1.gX == 12)) <|
 .ret ⟨[.kill 6],[10,78],[],7⟩ (false)
def XU (r0:ak × List aj) (r1:Bool) : Mo (Bool) :=
 .ite (r1) (fun c0 =>
 .say [.gd 18041 true,.num r0.2.length] (okc c0 (ok1 (ln_ r0.2 aj.lf))) <|
 .rt [83] 7 ((r0.2.length:Int) == 0)) fun c0 =>
 .say [.gd 18041 false] (ok1 c0) <|
 .rt [83] 7 (false)
def XV (r0:Bool) : Mo (Unit) :=
 .rt [0] 7 ()
def ajt  : Mo (Bool) :=
 .cl (adT 1 3) fun r0 _ =>
 .iB (r0.2 != 0) (.ret (bn 1) (false)) <|
 .ask (ahw 1 1) fun r1 h0 =>
 .say [.res (.dat (au.lf1 r1)),.at_ 12 2,.Yk 1 ([r1].map au.lf)] (okc (Jl _ _ _ h0) (ok1 (by simp [au.aU] : [r1].map au.lf = [(au.lf1 r1)]))) <|
 .cl (aeV r0.1 (aj.YJ (aj.Aj (aj.mO (aj.kZ (aj.sTo aj.z 1) 3) 1) 1) [r1])) fun r2 _ =>
 .ask (ahw 0 1) fun r3 h1 =>
 .say [] (ok1 (Jl _ _ _ h1)) <|
 .ask (ajs r0.1 r3) fun r4 h2 =>
 .say [.dM (.q 0 (.alt 1 (.alt 2 (.q 3 (.q 4 (.q 5 (.l 6 (.l 7 (.q 8 .fin)))))) (.l 6 (.l 2 (.q 3 (.q 4 (.q 5 (.l 7 (.q 8 .fin)))))))) (.l 6 (.l 1 (.l 2 (.q 3 (.q 4 (.q 5 (.l 7 (.q 8 .fin)))))))))) none [5] [.both [.at_ 14 1,.resv 1,.res (.dat (au.lf1 r3)),.both [.res (.tup [.dat (ak.lf1 r4.1),.i_ r4.2]),.slot 5] [.slot 5,.res (.tup [.dat (ak.lf1 r4.1),.i_ r4.2])]] [.at_ 14 6,.resv 1,.slot 5,.res (.dat (au.lf1 r3)),.res (.tup [.dat (ak.lf1 r4.1),.i_ r4.2])]] [1,4,5,6,8] 6 [(1,.ptr 0 0),(4,.ptr 3 0),(5,.lf (.rows 9 (r2.2.1.map aj.lf))),(6,.ptr 4 0),(8,.i_ r4.2)] [.box 25 (.agg ((ak.lf1 r0.1).map AV.lf)),.dead,.box 63 (.agg [.i_ 0,.i_ 1,.i_ 3,.i_ 1,.i_ 0,.i_ 0,.i_ 1,.lf (.rows 82 ([r1].map au.lf)),.b_ false]),.box 25 (.agg ((ak.lf1 r2.1).map AV.lf)),.box 67 (.agg [.i_ r2.2.2.dP,.i_ r2.2.2.bC,.i_ r2.2.2.fAt,.lf (.rows 82 (r2.2.2.aW.map au.lf))]),.box 25 (.agg ((ak.lf1 r4.1).map AV.lf))]] (okc (JA _ _ _ h2) (okc (rf_ ⟨[(1,.ptr 0 0),(4,.ptr 3 0),(5,.lf (.rows 9 (r2.2.1.map aj.lf))),(6,.ptr 4 0),(8,.i_ r4.2)],[.box 25 (.agg ((ak.lf1 r0.1).map AV.lf)),.dead,.box 63 (.agg [.i_ 0,.i_ 1,.i_ 3,.i_ 1,.i_ 0,.i_ 0,.i_ 1,.lf (.rows 82 ([r1].map au.lf)),.b_ false]),.box 25 (.agg ((ak.lf1 r2.1).map AV.lf)),.box 67 (.agg [.i_ r2.2.2.dP,.i_ r2.2.2.bC,.i_ r2.2.2.fAt,.lf (.rows 82 (r2.2.2.aW.map au.lf))]),.box 25 (.agg ((ak.lf1 r4.1).map AV.lf))]⟩) (okc (JA _ _ _ h2) (okc (rf_ ⟨[(1,.ptr 0 0),(4,.ptr 3 0),(5,.lf (.rows 9 (r2.2.1.map aj.lf))),(6,.ptr 4 0),(8,.i_ r4.2)],[.box 25 (.agg ((ak.lf1 r0.1).map AV.lf)),.dead,.box 63 (.agg [.i_ 0,.i_ 1,.i_ 3,.i_ 1,.i_ 0,.i_ 0,.i_ 1,.lf (.rows 82 ([r1].map au.lf)),.b_ false]),.box 25 (.agg ((ak.lf1 r2.1).map AV.lf)),.box 67 (.agg [.i_ r2.2.2.dP,.i_ r2.2.2.bC,.i_ r2.2.2.fAt,.lf (.rows 82 (r2.2.2.aW.map au.lf))]),.box 25 (.agg ((ak.lf1 r4.1).map AV.lf))]⟩) (okc (Jl _ _ _ h1) (okc (JA _ _ _ h2) (ok1 (rf_ ⟨[(1,.ptr 0 0),(4,.ptr 3 0),(5,.lf (.rows 9 (r2.2.1.map aj.lf))),(6,.ptr 4 0),(8,.i_ r4.2)],[.box 25 (.agg ((ak.lf1 r0.1).map AV.lf)),.dead,.box 63 (.agg [.i_ 0,.i_ 1,.i_ 3,.i_ 1,.i_ 0,.i_ 0,.i_ 1,.lf (.rows 82 ([r1].map au.lf)),.b_ false]),.box 25 (.agg ((ak.lf1 r2.1).map AV.lf)),.box 67 (.agg [.i_ r2.2.2.dP,.i_ r2.2.2.bC,.i_ r2.2.2.fAt,.lf (.rows 82 (r2.2.2.aW.map au.lf))]),.box 25 (.agg ((ak.lf1 r4.1).map AV.lf))]⟩)))))))) <|
 .cl (aeW r0.1) fun r5 _ =>
 .ask (acg r2 r4 r5) fun r6 h3 =>
 .say [.seg 8 [.kill 0,.kill 2,.kill 5] 9 [4,5,6,8,9,10] 7 (xX r2 r4 r5 r6).T (xX r2 r4 r5 r6).H] (ok1 (ach h3)) <|
 .sj Tryz.f11 0 [1,1,1,1,1,1,1,0] [9,10,11,12,13] 8 5 [5,6,8,9,10,46] 7 (fun r_=>⟨[(5,.lf (.rows 9 (r2.2.1.map aj.lf))),(6,.ptr 4 0),(8,.i_ r4.2),(9,.ptr 6 0),(10,.lf (.rows 9 (r5.2.map aj.lf))),(51,.b_ r_)],[.dead,.dead,.dead,.dead,.box 67 (.agg [.i_ r2.2.2.dP,.i_ r2.2.2.bC,.i_ r2.2.2.fAt,.lf (.rows 82 (r2.2.2.aW.map au.lf))]),.dead,.box 25 (.agg ((ak.lf1 r5.1).map AV.lf))]⟩) ⟨[(5,.lf (.rows 9 (r2.2.1.map aj.lf))),(6,.ptr 4 0),(8,.i_ r4.2),(9,.ptr 6 0),(10,.lf (.rows 9 (r5.2.map aj.lf))),(46,.b_ r6)],[.dead,.dead,.dead,.dead,.box 67 (.agg [.i_ r2.2.2.dP,.i_ r2.2.2.bC,.i_ r2.2.2.fAt,.lf (.rows 82 (r2.2.2.aW.map au.lf))]),.dead,.box 25 (.agg ((ak.lf1 r5.1).map AV.lf))]⟩ (aci r2 r4 r5 r6).den (sW (by kernel_rfl)) fun r7 _ =>
 .sj Tryz.f11 0 [1,1,1,1,1,1,1,0] [14,15,16,17,18,19] 8 6 [5,6,8,9,10,51] 7 (fun r_=>⟨[(5,.lf (.rows 9 (r2.2.1.map aj.lf))),(6,.ptr 4 0),(8,.i_ r4.2),(9,.ptr 6 0),(10,.lf (.rows 9 (r5.2.map aj.lf))),(57,.b_ r_)],[.dead,.dead,.dead,.dead,.box 67 (.agg [.i_ r2.2.2.dP,.i_ r2.2.2.bC,.i_ r2.2.2.fAt,.lf (.rows 82 (r2.2.2.aW.map au.lf))]),.dead,.box 25 (.agg ((ak.lf1 r5.1).map AV.lf))]⟩) ⟨[(5,.lf (.rows 9 (r2.2.1.map aj.lf))),(6,.ptr 4 0),(8,.i_ r4.2),(9,.ptr 6 0),(10,.lf (.rows 9 (r5.2.map aj.lf))),(51,.b_ r7)],[.dead,.dead,.dead,.dead,.box 67 (.agg [.i_ r2.2.2.dP,.i_ r2.2.2.bC,.i_ r2.2.2.fAt,.lf (.rows 82 (r2.2.2.aW.map au.lf))]),.dead,.box 25 (.agg ((ak.lf1 r5.1).map AV.lf))]⟩ (XO r2 r4 r5 r7).den (sW (by kernel_rfl)) fun r8 _ =>
 .sj Tryz.f11 0 [1,1,1,1,1,1,1,0] [20,21,22,23,24,25,26] 8 7 [5,6,8,9,10,57] 7 (fun r_=>⟨[(6,.ptr 4 0),(8,.i_ r4.2),(9,.ptr 6 0),(10,.lf (.rows 9 (r5.2.map aj.lf))),(64,.b_ r_)],[.dead,.dead,.dead,.dead,.box 67 (.agg [.i_ r2.2.2.dP,.i_ r2.2.2.bC,.i_ r2.2.2.fAt,.lf (.rows 82 (r2.2.2.aW.map au.lf))]),.dead,.box 25 (.agg ((ak.lf1 r5.1).map AV.lf))]⟩) ⟨[(5,.lf (.rows 9 (r2.2.1.map aj.lf))),(6,.ptr 4 0),(8,.i_ r4.2),(9,.ptr 6 0),(10,.lf (.rows 9 (r5.2.map aj.lf))),(57,.b_ r8)],[.dead,.dead,.dead,.dead,.box 67 (.agg [.i_ r2.2.2.dP,.i_ r2.2.2.bC,.i_ r2.2.2.fAt,.lf (.rows 82 (r2.2.2.aW.map au.lf))]),.dead,.box 25 (.agg ((ak.lf1 r5.1).map AV.lf))]⟩ (XP r2 r4 r5 r8).den (sW (by kernel_rfl)) fun r9 _ =>
 .sj Tryz.f11 0 [1,1,1,1,1,1,1,0] [27,28,29,30,31] 8 5 [6,8,9,10,64] 7 (fun r_=>⟨[(8,.i_ r4.2),(9,.ptr 6 0),(10,.lf (.rows 9 (r5.2.map aj.lf))),(69,.b_ r_)],[.dead,.dead,.dead,.dead,.dead,.dead,.box 25 (.agg ((ak.lf1 r5.1).map AV.lf))]⟩) ⟨[(6,.ptr 4 0),(8,.i_ r4.2),(9,.ptr 6 0),(10,.lf (.rows 9 (r5.2.map aj.lf))),(64,.b_ r9)],[.dead,.dead,.dead,.dead,.box 67 (.agg [.i_ r2.2.2.dP,.i_ r2.2.2.bC,.i_ r2.2.2.fAt,.lf (.rows 82 (r2.2.2.aW.map au.lf))]),.dead,.box 25 (.agg ((ak.lf1 r5.1).map AV.lf))]⟩ (XQ r2 r4 r5 r9).den (sW (by kernel_rfl)) fun r10 _ =>
 .sj Tryz.f11 0 [1,1,1,1,1,1,1,0] [32,33,34,35] 8 4 [8,9,10,69] 7 (fun r_=>⟨[(9,.ptr 6 0),(10,.lf (.rows 9 (r5.2.map aj.lf))),(73,.b_ r_)],[.dead,.dead,.dead,.dead,.dead,.dead,.box 25 (.agg ((ak.lf1 r5.1).map AV.lf))]⟩) ⟨[(8,.i_ r4.2),(9,.ptr 6 0),(10,.lf (.rows 9 (r5.2.map aj.lf))),(69,.b_ r10)],[.dead,.dead,.dead,.dead,.dead,.dead,.box 25 (.agg ((ak.lf1 r5.1).map AV.lf))]⟩ (XR r4 r5 r10).den (sW (by kernel_rfl)) fun r11 _ =>
 .sj Tryz.f11 0 [1,1,1,1,1,1,1,0] [36,37,38,39,40] 8 5 [9,10,73] 7 (fun r_=>⟨[(10,.lf (.rows 9 (r5.2.map aj.lf))),(78,.b_ r_)],[.dead,.dead,.dead,.dead,.dead,.dead,.dead]⟩) ⟨[(9,.ptr 6 0),(10,.lf (.rows 9 (r5.2.map aj.lf))),(73,.b_ r11)],[.dead,.dead,.dead,.dead,.dead,.dead,.box 25 (.agg ((ak.lf1 r5.1).map AV.lf))]⟩ (XT r5 r11).den (sW (by kernel_rfl)) fun r12 _ =>
 .sj Tryz.f11 0 [1,1,1,1,1,1,1,0] [41,42,43,44,45] 8 5 [10,78] 7 (fun r_=>⟨[(83,.b_ r_)],[.dead,.dead,.dead,.dead,.dead,.dead,.dead]⟩) ⟨[(10,.lf (.rows 9 (r5.2.map aj.lf))),(78,.b_ r12)],[.dead,.dead,.dead,.dead,.dead,.dead,.dead]⟩ (XU r5 r12).den (sW (by kernel_rfl)) fun r13 _ =>
 .sj Tryz.f11 0 [1,1,1,1,1,1,1,0] [46] 8 1 [83] 7 (fun r_=>⟨[(0,.b_ r13)],[.dead,.dead,.dead,.dead,.dead,.dead,.dead]⟩) ⟨[(83,.b_ r13)],[.dead,.dead,.dead,.dead,.dead,.dead,.dead]⟩ (XV r13).den (sW (by kernel_rfl)) fun r14 _ =>
 .ret (bn 1) (r13)
def Q31  : Option (Bool) := Mo.den (ajt )
theorem acj:FV (Q31 ) 11 [] (fun r=>.b_ r) := dw Tryz.func11 (by kernel_rfl) (fun _=>rfl) (by kernel_rfl)
end
end Go.Proofs.YtdnafbfmaphhhaaGreatDoor
set_option linter.unusedSimpArgs false
set_option linter.unusedVariables false
namespace Go.Proofs.YtdnafbfmaphhhaaGreatDoor
open Go.RowKit
set_option maxRecDepth 20000
set_option maxHeartbeats 4000000
noncomputable section
structure JB where
 m1:(p_x:aG) → (p_b0:ay) → Option (ay)
 ok1:∀ p_x p_b0,FH (m1 p_x p_b0) 125 [.ptr 0 0,.dat (aG.lf1 p_x)] [.box 124 (.dat (ay.lf1 p_b0))] (fun _=>.tup []) (fun r=>[.box 124 (.dat (ay.lf1 r))])
def xY (R_:JB) (p_x:aG) : (Int × ay) → Mo ((Int × ay) ⊕ (ay)) := fun (v0,s11024) =>
 .say [.num p_x.dK.length] (ok1 (ln_ p_x.dK aG.lf)) <|
 .iB (decide ((v0:Int) < (p_x.dK.length:Int))) (.ask (bT p_x.dK v0) fun x0 h0 =>
 .say [.row (aG.lf1 x0)] (ok1 (aX aG.aU h0)) <|
 .cH [0] (R_.ok1 x0 s11024) fun r0 _ =>
 .rt [0,3,4] 2 (.inl (IntKind.wrap .i64 (v0 + 1),r0))) <|
 .rt [0,3] 2 (.inr (s11024))
def JC (R_:JB) (p_x:aG) (v0:Int) (s11024:ay) : Option (ay) := bJ (fun v_=>(xY R_ p_x v_).den) FU (v0,s11024)
def Qn (R_:JB) (p_x:aG) : (Int × ay) → St := fun (v0,s11024)=>⟨[(0,.ptr 0 0),(3,.ptr 1 0),(4,.i_ v0)],[.box 124 (.dat (ay.lf1 s11024)),.box 52 (.dat (aG.lf1 p_x))]⟩
def DL (p_x:aG) (r_:ay) : St := ⟨[(0,.ptr 0 0),(3,.ptr 1 0)],[.box 124 (.dat (ay.lf1 r_)),.box 52 (.dat (aG.lf1 p_x))]⟩
theorem acn {R_:JB} {p_x:aG} {v0:Int} {s11024:ay} {r_:ay} (h:JC R_ p_x v0 s11024 = some r_) : gq Tryz.f125 1 [1,1,1,1,1,1,1,1,1,1,1,0,1,0] (.exit 0) (DL p_x r_) (Qn R_ p_x (v0,s11024)) :=
 dR dL (body := (Code.sub (bodyC Tryz.f125) [1,1,1,1,1,1,1,1,1,1,1,0,1,0,0])) (by kernel_rfl) (xY R_ p_x) (Qn R_ p_x) (fun _=>.exit 0) (DL p_x) (fun r_=>rfl) (fun v_=>by kernel_rfl) h
def DN (R_:JB) (p_x:aG) : (Int × ay) → Mo ((Int × ay) ⊕ (ay)) := fun (v0,s11067) =>
 .say [.num p_x.eu.length] (ok1 (ln_ p_x.eu lfI)) <|
 .iB (decide ((v0:Int) < (p_x.eu.length:Int))) (.ask (bT p_x.eu v0) fun x0 h0 =>
 .say [.row (lfI x0)] (ok1 (aX lI_ h0)) <|
 .cH [0] (fB x0 s11067) fun r0 _ =>
 .rt [0,3,5] 2 (.inl (IntKind.wrap .i64 (v0 + 1),r0))) <|
 .rt [0,3] 2 (.inr (s11067))
def TK (R_:JB) (p_x:aG) (v0:Int) (s11067:ay) : Option (ay) := bJ (fun v_=>(DN R_ p_x v_).den) FU (v0,s11067)
def aco (R_:JB) (p_x:aG) (p_b0:ay) : Mo (ay) :=
 .cH [0] (fB p_x.aT p_b0) fun r0 _ =>
 .cH [0] (nR p_x.kJ r0) fun r1 _ =>
 .cH [0] (tK p_x.lY r1) fun r2 _ =>
 .cH [0] (tK p_x.bU r2) fun r3 _ =>
 .cH [0] (tK p_x.gW r3) fun r4 _ =>
 .cH [0] (RZ p_x.nY r4) fun r5 _ =>
 .cH [0] (Je p_x.bG r5) fun r6 _ =>
 .cH [0] (nR p_x.yL r6) fun r7 _ =>
 .ask (Q17 p_x.fO r7) fun r8 h0 =>
 .say [.jd [0] (.tup []) [.box 124 (.dat (ay.lf1 r8))],.num p_x.dK.length] (okc (fB _ _ _ h0) (ok1 (ln_ p_x.dK aG.lf))) <|
 .cH [0] (fB (p_x.dK.length:Int) r8) fun r9 _ =>
 .ask (JC R_ p_x 0 r9) fun r10 h1 =>
 .say [.pt_ 0 [0,3,4] 2 (.exit 0) (DL p_x r10),.num p_x.eu.length] (okc (acn h1) (ok1 (ln_ p_x.eu lfI))) <|
 .cH [0] (fB (p_x.eu.length:Int) r10) fun r11 _ =>
 .lp Tryz.f125 1 [1,1,1,1,1,1,1,1,1,1,1,1,1,0,1,0] 0 [0,3,5] 2 (.exit 2) (fun r_=>⟨[(0,.ptr 0 0),(3,.ptr 1 0)],[.box 124 (.dat (ay.lf1 r_)),.box 52 (.dat (aG.lf1 p_x))]⟩) (TK R_ p_x 0 r11) (lW (fun (v0,s11067)=>⟨[(0,.ptr 0 0),(3,.ptr 1 0),(5,.i_ v0)],[.box 124 (.dat (ay.lf1 s11067)),.box 52 (.dat (aG.lf1 p_x))]⟩) (by kernel_rfl) rfl fun v_=>by kernel_rfl) fun r12 _ =>
 .cH [0] (oJ p_x.kV r12) fun r13 _ =>
 .ret ⟨[.kill 1],[],[],1⟩ (r13)
theorem aeX (R_:JB) (p_x:aG) (p_b0:ay) : FH (Mo.den (aco R_ p_x p_b0)) 125 [.ptr 0 0,.dat (aG.lf1 p_x)] [.box 124 (.dat (ay.lf1 p_b0))] (fun _=>.tup []) (fun r=>[.box 124 (.dat (ay.lf1 r))]) := gV Tryz.func125 (by kernel_rfl) (fun _=>rfl) (by kernel_rfl)
def oM:Nat → JB
 | 0=>{ m1 := fun p_x p_b0=>none,ok1 := fun _ _ _ h=>(by cases h) }
 | n_ + 1=>{ m1 := fun p_x p_b0=>Mo.den (aco (oM n_) p_x p_b0),ok1 := aeX (oM n_) }
def Q24 (p_x:aG) (p_b0:ay) : Option (ay) := (oM FU).m1 p_x p_b0
theorem aif (p_x:aG) (p_b0:ay) : FH (Q24 p_x p_b0) 125 [.ptr 0 0,.dat (aG.lf1 p_x)] [.box 124 (.dat (ay.lf1 p_b0))] (fun _=>.tup []) (fun r=>[.box 124 (.dat (ay.lf1 r))]) := (oM FU).ok1 p_x p_b0
def acp (p_e:au) (p_b0:ay) : Mo (ay) :=
 .cH [0] (fB p_e.bC p_b0) fun r0 _ =>
 .cH [0] (fB p_e.fO r0) fun r1 _ =>
 .cH [0] (nR p_e.jV r1) fun r2 _ =>
 .cH [0] (fB p_e.oI r2) fun r3 _ =>
 .cH [0] (aif p_e.iE r3) fun r4 _ =>
 .ret ⟨[.kill 1],[],[],1⟩ (r4)
def aii (p_e:au) (p_b0:ay) : Option (ay) := Mo.den (acp p_e p_b0)
theorem aeY (p_e:au) (p_b0:ay) : FH (aii p_e p_b0) 92 [.ptr 0 0,.dat (au.lf1 p_e)] [.box 124 (.dat (ay.lf1 p_b0))] (fun _=>.tup []) (fun r=>[.box 124 (.dat (ay.lf1 r))]) := gV Tryz.func92 (by kernel_rfl) (fun _=>rfl) (by kernel_rfl)
def acr (p_e:au) : Mo (ByteArray) :=
 .say [.at_ 6 1,.norm 1] ok0 <|
 .cH [1] (aeY p_e (ay.mk ⟨#[]⟩ false true)) fun r0 _ =>
 .ret (bn 1) (r0.fS)
def acs (p_e:au) : Option (ByteArray) := Mo.den (acr p_e)
theorem Vy (p_e:au) : FV (acs p_e) 61 [.dat (au.lf1 p_e)] (fun r=>.lf (.str r)) := dw Tryz.func61 (by kernel_rfl) (fun _=>rfl) (by kernel_rfl)
def xZ (p_a:List au) (p_b:List au) : (Int) → Mo ((Int) ⊕ (Unit ⊕ Unit)) := fun (v0) =>
 .say [.num p_a.length] (ok1 (ln_ p_a au.lf)) <|
 .iB (decide ((v0:Int) < (p_a.length:Int))) (.ask (bT p_a v0) fun x0 h0 =>
 .say [] (ok1 (aX au.aU h0)) <|
 .ask (bT p_b v0) fun x1 h1 =>
 .say [] (ok1 (aX au.aU h1)) <|
 .ask (acs x0) fun r0 h2 =>
 .say [] (ok1 (Vy _ _ h2)) <|
 .ask (acs x1) fun r1 h3 =>
 .say [.dM (.q 0 (.q 1 (.q 2 (.q 3 (.q 5 (.q 6 (.q 7 (.q 8 (.l 4 (.l 9 (.q 10 .fin))))))))))) (some 9) [] [.row (au.lf1 x0),.row (au.lf1 x1),.res (.lf (.str r0)),.res (.lf (.str r1))] [0,1,5,27] 0 [(0,.lf (.rows 82 (p_a.map au.lf))),(1,.lf (.rows 82 (p_b.map au.lf))),(5,.i_ v0),(27,.lf (.bool (!decide ((r0:ByteArray) = (r1:ByteArray)))))] []] (okc (Vy _ _ h3) (ok1 (rf_ ⟨[(0,.lf (.rows 82 (p_a.map au.lf))),(1,.lf (.rows 82 (p_b.map au.lf))),(5,.i_ v0),(27,.lf (.bool (!decide ((r0:ByteArray) = (r1:ByteArray)))))],[]⟩))) <|
 .iB (!decide ((r0:ByteArray) = (r1:ByteArray))) (.rt [4] 0 (.inr (.inl ()))) <|
 .rt [0,1,5] 0 (.inl (IntKind.wrap .i64 (v0 + 1)))) <|
 .rt [] 0 (.inr (.inr (())))
def TL (p_a:List au) (p_b:List au) (v0:Int) : Option (Unit ⊕ Unit) := bJ (fun v_=>(xZ p_a p_b v_).den) FU (v0)
def Qo (p_a:List au) (p_b:List au) : (Int) → St := fun (v0)=>⟨[(0,.lf (.rows 82 (p_a.map au.lf))),(1,.lf (.rows 82 (p_b.map au.lf))),(5,.i_ v0)],[]⟩
def yc (r_:Unit ⊕ Unit) : Exit := match r_ with
 | .inl o_=>.ret
 | .inr (o_)=>.exit 0
def yg  (r_:Unit ⊕ Unit) : St := match r_ with
 | .inl o_=>⟨[(4,.b_ false)],[]⟩
 | .inr (o_)=>⟨[],[]⟩
theorem Qp {p_a:List au} {p_b:List au} {v0:Int} {r_:Unit ⊕ Unit} (h:TL p_a p_b v0 = some r_) : gq Tryz.f28 0 [1,1,0,1,0] (yc r_) (yg r_) (Qo p_a p_b (v0)) :=
 dR dL (body := (Code.sub (bodyC Tryz.f28) [1,1,0,1,0,0])) (by kernel_rfl) (xZ p_a p_b) (Qo p_a p_b) yc yg (fun r_=>by rcases r_ with _ | _ <;> rfl) (fun v_=>by kernel_rfl) h
def af7 (p_a:List au) (p_b:List au) : Mo (Bool) :=
 .say [.num p_a.length,.num p_b.length] (okc (ln_ p_a au.lf) (ok1 (ln_ p_b au.lf))) <|
 .iB ((p_a.length:Int) != (p_b.length:Int)) (.ret (bn 1) (false)) <|
 .eY (TL p_a p_b 0) (fun o0 h0 =>
 .say [.pt_ 0 [0,1,5] 0 (yc (.inl o0)) (yg (.inl o0))] (ok1 (Qp h0)) <|
 .ret (bn 1) (false)) fun o1 h0 =>
 .say [.pt_ 0 [0,1,5] 0 (yc (.inr (o1))) (yg (.inr (o1)))] (ok1 (Qp h0)) <|
 .ret (bn 1) (true)
def Q21 (p_a:List au) (p_b:List au) : Option (Bool) := Mo.den (af7 p_a p_b)
theorem acu (p_a:List au) (p_b:List au) : FV (Q21 p_a p_b) 28 [.lf (.rows 82 (p_a.map au.lf)),.lf (.rows 82 (p_b.map au.lf))] (fun r=>.b_ r) := dw Tryz.func28 (by kernel_rfl) (fun _=>rfl) (by kernel_rfl)
def acv (p_m:ak) (p_x:aj) : Mo (ak × (List aj) × bM) :=
 .cH [] (qm p_m) fun r0 _ =>
 .ask (Q78) fun r1 h0 =>
 .say [.res (.dat (bM.lf1 r1)),.at_ 6 2,.QE 7 12 63,.kF 8 (([] : List aj).map aj.lf)] (okc (tV  _ h0) (ok1 (by simp [aj.aU] : (([] : List aj).map aj.lf) = []))) <|
 .ask (Q30 p_x (aF.mk r0 ([] : List aj) r1)) fun r2 h1 =>
 .say [.jd [7,4,5,6,8] (.tup []) [.box 97 (ag_ (aF.lf1 r2) [(8,.own 5),(10,.own 6),(11,.own 7),(12,.own 8)]),.dead,.dead,.dead,.dead,.row 54 82 (r2.aI.aP.map au.lf),.row 3 1 (r2.aI.fNext.map lfI),.row 3 1 (r2.aI.bg.map lfI),.row 63 9 (r2.cZ.map aj.lf)],.order [(true,0),(true,1),(true,2),(true,3),(true,4),(true,5),(true,6),(true,7),(true,8),(true,9),(true,10),(true,11),(false,12),(true,13),(false,14)] (some 14) [2],.at_ 0 0,.frz 9,.frz 10,.frz 11,.frz 12] (ok1 (ab4 _ _ _ h1)) <|
 .ret (bn 3) (r2.aI,r2.cZ,r2.eG)
def aij (p_m:ak) (p_x:aj) : Option (ak × (List aj) × bM) := Mo.den (acv p_m p_x)
theorem aeZ (p_m:ak) (p_x:aj) : FV (aij p_m p_x) 26 [.dat (ak.lf1 p_m),.dat (aj.lf1 p_x)] (fun r=>.tup [.dat (ak.lf1 r.1),.lf (.rows 9 (r.2.1.map aj.lf)),.dat (bM.lf1 r.2.2)]) := dw Tryz.func26 (by kernel_rfl) (fun _=>rfl) (by kernel_rfl)
end
end Go.Proofs.YtdnafbfmaphhhaaGreatDoor
set_option linter.unusedSimpArgs false
set_option linter.unusedVariables false
namespace Go.Proofs.YtdnafbfmaphhhaaGreatDoor
open Go.RowKit
set_option maxRecDepth 20000
set_option maxHeartbeats 4000000
noncomputable section
def Vz (p_m:ak) (p_x:aj) : Mo (Bool) :=
 .cl (ado p_m) fun r0 _ =>
 .iG 4003 (!r0) (.rt [2,3,17] 2 (true)) <|
 .cl (ahs p_m p_x) fun r1 _ =>
 .rt [2,3,17] 2 (!r1)
def VA (p_m:ak) (p_x:aj) (r0:Bool) : Mo (Bool) :=
 .iG 4009 (r0) (.rt [2,3,22] 2 (true)) <|
 .rt [2,3,22] 2 (p_x.aT != 3)
def DR (p_m:ak) (r0:ak × (List aj) × bM) : Mo (Bool) :=
 .ite (decide ((r0.1.aA:Int) < p_m.aA)) (fun c0 =>
 .say [.gd 10005 true] (ok1 c0) <|
 .rt [2,5,7,43] 4 (true)) fun c0 =>
 .say [.gd 10005 false,.num r0.1.aP.length] (okc c0 (ok1 (ln_ r0.1.aP au.lf))) <|
 .rt [2,5,7,43] 4 (decide (((r0.1.aP.length:Int) : Int) < r0.1.aA))
def TM (p_m:ak) (r0:ak × (List aj) × bM) : Option (Bool) := Mo.den (DR p_m r0)
def yh (p_m:ak) (r0:ak × (List aj) × bM) (r_:Bool) : St := ⟨[(2,.ptr 0 0),(5,.ptr 2 0),(7,.ptr 3 0),(43,.b_ r_)],[.box 25 (.dat (ak.lf1 p_m)),.dead,.box 25 (.agg ((ak.lf1 r0.1).map AV.lf)),.box 67 (.agg [.i_ r0.2.2.dP,.i_ r0.2.2.bC,.i_ r0.2.2.fAt,.lf (.rows 82 (r0.2.2.aW.map au.lf))])]⟩
theorem acw {p_m:ak} {r0:ak × (List aj) × bM} {r_:Bool} (h:TM p_m r0 = some r_) : KJ Tryz.f8 0 [1,1,1,0,0] [0,1,2,3,4,5,6,7,8,9,10,11,12] (yh p_m r0 r_) ⟨[(2,.ptr 0 0),(5,.ptr 2 0),(7,.ptr 3 0)],[.box 25 (.dat (ak.lf1 p_m)),.dead,.box 25 (.agg ((ak.lf1 r0.1).map AV.lf)),.box 67 (.agg [.i_ r0.2.2.dP,.i_ r0.2.2.bC,.i_ r0.2.2.fAt,.lf (.rows 82 (r0.2.2.aW.map au.lf))])]⟩ :=
 Uz dL (DR p_m r0) (yh p_m r0) (by kernel_rfl) h
def Qq (p_m:ak) (r0:ak × (List aj) × bM) (r1:Bool) : Mo (Bool) :=
 .iG 10013 (r1) (.rt [2,5,7,50] 4 (true)) <|
 .rt [2,5,7,50] 4 (decide ((r0.1.bC:Int) < p_m.bC))
def Qr (p_m:ak) (r0:ak × (List aj) × bM) : Mo (Bool) :=
 .ite (r0.2.2.dP != p_m.fID) (fun c0 =>
 .say [.dM (.q 0 (.q 1 (.q 2 (.q 3 (.q 4 (.q 5 (.q 6 (.q 7 (.q 8 (.q 9 (.q 10 (.q 11 (.q 12 (.q 13 (.q 14 (.q 15 (.q 16 (.q 17 (.q 18 (.q 19 (.q 20 (.q 21 (.q 22 (.q 23 (.q 24 (.l 25 (.q 26 (.q 27 .fin)))))))))))))))))))))))))))) (some 25) [] [.gd 20005 true] [2,5,8,86] 4 [(2,.ptr 0 0),(5,.ptr 2 0),(8,.i_ r0.2.2.fAt),(86,.b_ true)] [.box 25 (.dat (ak.lf1 p_m)),.dead,.box 25 (.agg ((ak.lf1 r0.1).map AV.lf)),.box 67 (.agg [.i_ r0.2.2.dP,.i_ r0.2.2.bC,.i_ r0.2.2.fAt,.lf (.rows 82 (r0.2.2.aW.map au.lf))])]] (okc c0 (ok1 (rf_ ⟨[(2,.ptr 0 0),(5,.ptr 2 0),(8,.i_ r0.2.2.fAt),(86,.b_ true)],[.box 25 (.dat (ak.lf1 p_m)),.dead,.box 25 (.agg ((ak.lf1 r0.1).map AV.lf)),.box 67 (.agg [.i_ r0.2.2.dP,.i_ r0.2.2.bC,.i_ r0.2.2.fAt,.lf (.rows 82 (r0.2.2.aW.map au.lf))])]⟩))) <|
 .ret ⟨[.kill 3],[2,5,8,86],[],4⟩ (true)) fun c0 =>
 .say [] (ok1 c0) <|
 .ite (decide ((r0.2.2.fAt:Int) < p_m.aA)) (fun c1 =>
 .say [.dM (.q 0 (.q 1 (.q 2 (.q 3 (.q 4 (.q 5 (.q 6 (.q 7 (.q 8 (.q 9 (.q 10 (.q 11 (.q 12 (.q 13 (.q 14 (.q 15 (.q 16 (.q 17 (.q 18 (.q 19 (.q 20 (.q 21 (.q 22 (.q 23 (.q 24 (.l 25 (.q 26 (.q 27 .fin)))))))))))))))))))))))))))) (some 25) [] [.gd 20005 false,.gd 20011 true] [2,5,8,86] 4 [(2,.ptr 0 0),(5,.ptr 2 0),(8,.i_ r0.2.2.fAt),(86,.b_ true)] [.box 25 (.dat (ak.lf1 p_m)),.dead,.box 25 (.agg ((ak.lf1 r0.1).map AV.lf)),.box 67 (.agg [.i_ r0.2.2.dP,.i_ r0.2.2.bC,.i_ r0.2.2.fAt,.lf (.rows 82 (r0.2.2.aW.map au.lf))])]] (okc c1 (ok1 (rf_ ⟨[(2,.ptr 0 0),(5,.ptr 2 0),(8,.i_ r0.2.2.fAt),(86,.b_ true)],[.box 25 (.dat (ak.lf1 p_m)),.dead,.box 25 (.agg ((ak.lf1 r0.1).map AV.lf)),.box 67 (.agg [.i_ r0.2.2.dP,.i_ r0.2.2.bC,.i_ r0.2.2.fAt,.lf (.rows 82 (r0.2.2.aW.map au.lf))])]⟩))) <|
 .ret ⟨[.kill 3],[2,5,8,86],[],4⟩ (true)) fun c1 =>
 .say [] (okc c1 (ok1 (ln_ p_m.aP au.lf))) <|
 .ite (decide (((p_m.aP.length:Int) : Int) ≤ r0.2.2.fAt)) (fun c2 =>
 .say [.dM (.q 0 (.q 1 (.q 2 (.q 3 (.q 4 (.q 5 (.q 6 (.q 7 (.q 8 (.q 9 (.q 10 (.q 11 (.q 12 (.q 13 (.q 14 (.q 15 (.q 16 (.q 17 (.q 18 (.q 19 (.q 20 (.q 21 (.q 22 (.q 23 (.q 24 (.l 25 (.q 26 (.q 27 .fin)))))))))))))))))))))))))))) (some 25) [] [.gd 20005 false,.gd 20011 false,.num p_m.aP.length,.gd 20018 true] [2,5,8,86] 4 [(2,.ptr 0 0),(5,.ptr 2 0),(8,.i_ r0.2.2.fAt),(86,.b_ true)] [.box 25 (.dat (ak.lf1 p_m)),.dead,.box 25 (.agg ((ak.lf1 r0.1).map AV.lf)),.box 67 (.agg [.i_ r0.2.2.dP,.i_ r0.2.2.bC,.i_ r0.2.2.fAt,.lf (.rows 82 (r0.2.2.aW.map au.lf))])]] (okc c2 (ok1 (rf_ ⟨[(2,.ptr 0 0),(5,.ptr 2 0),(8,.i_ r0.2.2.fAt),(86,.b_ true)],[.box 25 (.dat (ak.lf1 p_m)),.dead,.box 25 (.agg ((ak.lf1 r0.1).map AV.lf)),.box 67 (.agg [.i_ r0.2.2.dP,.i_ r0.2.2.bC,.i_ r0.2.2.fAt,.lf (.rows 82 (r0.2.2.aW.map au.lf))])]⟩))) <|
 .ret ⟨[.kill 3],[2,5,8,86],[],4⟩ (true)) fun c2 =>
 .say [] (okc c2 (ok1 (by first | (simp [au.aU]; done) | exact kK _ _ _:(p_m.aP.drop r0.2.2.fAt.toNat).map au.lf = ((p_m.aP.map au.lf).take ((p_m.aP.map au.lf).length:Int).toNat).drop r0.2.2.fAt.toNat))) <|
 .grd ((0:Int) ≤ r0.2.2.fAt ∧ r0.2.2.fAt ≤ (p_m.aP.length:Int) ∧ (p_m.aP.length:Int) ≤ (p_m.aP.length:Int)) fun h0 =>
 .say [] (ok1 (by simpa using h0:(0:Int) ≤ r0.2.2.fAt ∧ r0.2.2.fAt ≤ ((p_m.aP.map au.lf).length:Int) ∧ ((p_m.aP.map au.lf).length:Int) ≤ ((p_m.aP.map au.lf).length:Int))) <|
 .ask (Q21 r0.2.2.aW (p_m.aP.drop r0.2.2.fAt.toNat)) fun r1 h1 =>
 .say [.dM (.q 0 (.q 1 (.q 2 (.q 3 (.q 4 (.q 5 (.q 6 (.q 7 (.q 8 (.q 9 (.q 10 (.q 11 (.q 12 (.q 13 (.q 14 (.q 15 (.q 16 (.q 17 (.q 18 (.q 19 (.q 20 (.q 21 (.q 22 (.q 23 (.q 24 (.l 25 (.q 26 (.q 27 .fin)))))))))))))))))))))))))))) (some 25) [] [.gd 20005 false,.gd 20011 false,.num p_m.aP.length,.gd 20018 false,.rows ((p_m.aP.drop r0.2.2.fAt.toNat).map au.lf),.res (.b_ r1)] [2,5,8,86] 4 [(2,.ptr 0 0),(5,.ptr 2 0),(8,.i_ r0.2.2.fAt),(86,.lf (.bool (!r1)))] [.box 25 (.dat (ak.lf1 p_m)),.dead,.box 25 (.agg ((ak.lf1 r0.1).map AV.lf)),.box 67 (.agg [.i_ r0.2.2.dP,.i_ r0.2.2.bC,.i_ r0.2.2.fAt,.lf (.rows 82 (r0.2.2.aW.map au.lf))])]] (okc (acu _ _ _ h1) (ok1 (rf_ ⟨[(2,.ptr 0 0),(5,.ptr 2 0),(8,.i_ r0.2.2.fAt),(86,.lf (.bool (!r1)))],[.box 25 (.dat (ak.lf1 p_m)),.dead,.box 25 (.agg ((ak.lf1 r0.1).map AV.lf)),.box 67 (.agg [.i_ r0.2.2.dP,.i_ r0.2.2.bC,.i_ r0.2.2.fAt,.lf (.rows 82 (r0.2.2.aW.map au.lf))])]⟩))) <|
 .ret ⟨[.kill 3],[2,5,8,86],[],4⟩ (!r1)
def DT (p_m:ak) (r0:ak × (List aj) × bM) : Mo (Unit ⊕ (Int)) :=
 .iB (r0.2.2.dP != (-1)) (.jp Tryz.f8 0 [1,1,1,1,1,0,1,0,1,0] 25 [2,5,7,8] 4 (.normal) (fun r_=>⟨[(2,.ptr 0 0),(5,.ptr 2 0),(8,.i_ r0.2.2.fAt),(86,.b_ r_)],[.box 25 (.dat (ak.lf1 p_m)),.dead,.box 25 (.agg ((ak.lf1 r0.1).map AV.lf)),.dead]⟩) ⟨[(2,.ptr 0 0),(5,.ptr 2 0),(7,.ptr 3 0),(8,.i_ r0.2.2.fAt)],[.box 25 (.dat (ak.lf1 p_m)),.dead,.box 25 (.agg ((ak.lf1 r0.1).map AV.lf)),.box 67 (.agg [.i_ r0.2.2.dP,.i_ r0.2.2.bC,.i_ r0.2.2.fAt,.lf (.rows 82 (r0.2.2.aW.map au.lf))])]⟩ (Qr p_m r0).den (jW (by kernel_rfl)) fun r1 _ =>
 .iB (r1) (.ret ⟨[.kill 0,.kill 2],[4],[],4⟩ (.inl ())) <|
 .rt [2,5,8] 4 (.inr ((r0.2.2.fAt)))) <|
 .ret ⟨[.kill 3],[2,5,8],[],4⟩ (.inr (((p_m.aP.length:Int))))
def TN (p_m:ak) (r0:ak × (List aj) × bM) : Option (Unit ⊕ (Int)) := Mo.den (DT p_m r0)
def yj (r_:Unit ⊕ (Int)) : Exit := match r_ with
 | .inl o_=>.ret
 | .inr (o_)=>.normal
def yt (p_m:ak) (r0:ak × (List aj) × bM) (r_:Unit ⊕ (Int)) : St := match r_ with
 | .inl o_=>⟨[(4,.b_ false)],[.dead,.dead,.dead,.dead]⟩
 | .inr (o_)=>⟨[(2,.ptr 0 0),(5,.ptr 2 0),(8,.i_ o_)],[.box 25 (.dat (ak.lf1 p_m)),.dead,.box 25 (.agg ((ak.lf1 r0.1).map AV.lf)),.dead]⟩
theorem Qs {p_m:ak} {r0:ak × (List aj) × bM} {r_:Unit ⊕ (Int)} (h:TN p_m r0 = some r_) : gq Tryz.f8 0 [1,1,1,1,1,0,1] (yj r_) (yt p_m r0 r_) ⟨[(2,.ptr 0 0),(5,.ptr 2 0),(7,.ptr 3 0),(8,.i_ (p_m.aP.length:Int)),(56,.lf (.bool (r0.2.2.dP != (-1))))],[.box 25 (.dat (ak.lf1 p_m)),.dead,.box 25 (.agg ((ak.lf1 r0.1).map AV.lf)),.box 67 (.agg [.i_ r0.2.2.dP,.i_ r0.2.2.bC,.i_ r0.2.2.fAt,.lf (.rows 82 (r0.2.2.aW.map au.lf))])]⟩ :=
 jq dL (DT p_m r0) yj (yt p_m r0) (by kernel_rfl) h
def aju (p_m:ak) (p_x:aj) : Mo (Bool) :=
 .sj Tryz.f8 0 [1,0,0] [0,1,2,3,4,5,6,7,8] 1 9 [2,3] 2 (fun r_=>⟨[(2,.ptr 0 0),(3,.ptr 1 0),(17,.b_ r_)],[.box 25 (.dat (ak.lf1 p_m)),.box 63 (.dat (aj.lf1 p_x))]⟩) ⟨[(2,.ptr 0 0),(3,.ptr 1 0)],[.box 25 (.dat (ak.lf1 p_m)),.box 63 (.dat (aj.lf1 p_x))]⟩ (Vz p_m p_x).den (sW (by kernel_rfl)) fun r0 _ =>
 .sj Tryz.f8 0 [1,0,0] [9,10,11,12,13] 1 5 [2,3,17] 2 (fun r_=>⟨[(2,.ptr 0 0),(3,.ptr 1 0),(22,.b_ r_)],[.box 25 (.dat (ak.lf1 p_m)),.box 63 (.dat (aj.lf1 p_x))]⟩) ⟨[(2,.ptr 0 0),(3,.ptr 1 0),(17,.b_ r0)],[.box 25 (.dat (ak.lf1 p_m)),.box 63 (.dat (aj.lf1 p_x))]⟩ (VA p_m p_x r0).den (sW (by kernel_rfl)) fun r1 _ =>
 .iB (r1) (.cl (acj) fun r2 _ =>
 .ret (bn 1) (r2)) <|
 .cl (aeZ p_m p_x) fun r3 _ =>
 .ask (TM p_m r3) fun r4 h0 =>
 .say [.seg 4 [.kill 1] 13 [2,5,7] 4 (yh p_m r3 r4).T (yh p_m r3 r4).H] (ok1 (acw h0)) <|
 .sj Tryz.f8 0 [1,1,1,0,0] [13,14,15,16,17,18,19] 4 7 [2,5,7,43] 4 (fun r_=>⟨[(2,.ptr 0 0),(5,.ptr 2 0),(7,.ptr 3 0),(50,.b_ r_)],[.box 25 (.dat (ak.lf1 p_m)),.dead,.box 25 (.agg ((ak.lf1 r3.1).map AV.lf)),.box 67 (.agg [.i_ r3.2.2.dP,.i_ r3.2.2.bC,.i_ r3.2.2.fAt,.lf (.rows 82 (r3.2.2.aW.map au.lf))])]⟩) ⟨[(2,.ptr 0 0),(5,.ptr 2 0),(7,.ptr 3 0),(43,.b_ r4)],[.box 25 (.dat (ak.lf1 p_m)),.dead,.box 25 (.agg ((ak.lf1 r3.1).map AV.lf)),.box 67 (.agg [.i_ r3.2.2.dP,.i_ r3.2.2.bC,.i_ r3.2.2.fAt,.lf (.rows 82 (r3.2.2.aW.map au.lf))])]⟩ (Qq p_m r3 r4).den (sW (by kernel_rfl)) fun r5 _ =>
 .ite (r5) (fun c0 =>
 .say [.br true] (ok1 c0) <|
 .ret (bn 1) (false)) fun c0 =>
 .say [.br false,.num p_m.aP.length] (okc c0 (ok1 (ln_ p_m.aP au.lf))) <|
 .eY (TN p_m r3) (fun o0 h1 =>
 .say [.pt_ 1 [2,5,7,8,56] 4 (yj (.inl o0)) (yt p_m r3 (.inl o0))] (ok1 (Qs h1)) <|
 .ret (bn 1) (false)) fun o1 h1 =>
 .say [.pt_ 1 [2,5,7,8,56] 4 (yj (.inr (o1))) (yt p_m r3 (.inr (o1)))] (okc (Qs h1) (ok1 (ln_ r3.1.aP au.lf))) <|
 .ite (decide ((o1:Int) ≤ (r3.1.aP.length:Int))) (fun c1 =>
 .say [] (okc c1 (ok1 (by first | (simp [au.aU]; done) | exact kK _ _ _:(r3.1.aP.take o1.toNat).map au.lf = ((r3.1.aP.map au.lf).take o1.toNat).drop (0:Int).toNat))) <|
 .grd ((0:Int) ≤ 0 ∧ 0 ≤ o1 ∧ o1 ≤ (r3.1.aP.length:Int)) fun h2 =>
 .say [] (okc (by simpa using h2:(0:Int) ≤ 0 ∧ 0 ≤ o1 ∧ o1 ≤ ((r3.1.aP.map au.lf).length:Int)) (ok1 (by first | (simp [au.aU]; done) | exact kK _ _ _:(p_m.aP.take o1.toNat).map au.lf = ((p_m.aP.map au.lf).take o1.toNat).drop (0:Int).toNat))) <|
 .grd ((0:Int) ≤ 0 ∧ 0 ≤ o1 ∧ o1 ≤ (p_m.aP.length:Int)) fun h3 =>
 .say [] (ok1 (by simpa using h3:(0:Int) ≤ 0 ∧ 0 ≤ o1 ∧ o1 ≤ ((p_m.aP.map au.lf).length:Int))) <|
 .ask (Q21 (r3.1.aP.take o1.toNat) (p_m.aP.take o1.toNat)) fun r6 h4 =>
 .say [] (ok1 (acu _ _ _ h4)) <|
 .ite (r6) (fun c2 =>
 .say [] (ok1 c2) <|
 .ask (Q31) fun r7 h5 =>
 .say [.dM (.q 0 (.q 1 (.q 2 (.q 3 (.q 4 (.q 5 (.q 6 (.q 7 (.q 8 (.q 9 (.q 10 (.q 11 (.q 12 (.q 13 (.l 14 (.q 15 (.q 16 (.l 17 (.q 18 (.q 19 .fin)))))))))))))))))))) (some 17) [] [.num r3.1.aP.length,.gd 24005 true,.rows ((r3.1.aP.take o1.toNat).map au.lf),.rows ((p_m.aP.take o1.toNat).map au.lf),.res (.b_ r6),.gd 24016 true,.res (.b_ r7)] [4] 4 [(4,.b_ r7)] [.box 25 (.dat (ak.lf1 p_m)),.dead,.box 25 (.agg ((ak.lf1 r3.1).map AV.lf)),.dead]] (okc (acj  _ h5) (ok1 (rf_ ⟨[(4,.b_ r7)],[.box 25 (.dat (ak.lf1 p_m)),.dead,.box 25 (.agg ((ak.lf1 r3.1).map AV.lf)),.dead]⟩))) <|
 .ret (bn 1) (r7)) fun c2 =>
 .say [.dM (.q 0 (.q 1 (.q 2 (.q 3 (.q 4 (.q 5 (.q 6 (.q 7 (.q 8 (.q 9 (.q 10 (.q 11 (.q 12 (.q 13 (.l 14 (.q 15 (.q 16 (.l 17 (.q 18 (.q 19 .fin)))))))))))))))))))) (some 17) [] [.num r3.1.aP.length,.gd 24005 true,.rows ((r3.1.aP.take o1.toNat).map au.lf),.rows ((p_m.aP.take o1.toNat).map au.lf),.res (.b_ r6),.gd 24016 false] [4] 4 [(4,.b_ false)] [.box 25 (.dat (ak.lf1 p_m)),.dead,.box 25 (.agg ((ak.lf1 r3.1).map AV.lf)),.dead]] (okc c2 (ok1 (rf_ ⟨[(4,.b_ false)],[.box 25 (.dat (ak.lf1 p_m)),.dead,.box 25 (.agg ((ak.lf1 r3.1).map AV.lf)),.dead]⟩))) <|
 .ret (bn 1) (false)) fun c1 =>
 .say [.dM (.q 0 (.q 1 (.q 2 (.q 3 (.q 4 (.q 5 (.q 6 (.q 7 (.q 8 (.q 9 (.q 10 (.q 11 (.q 12 (.q 13 (.l 14 (.q 15 (.q 16 (.l 17 (.q 18 (.q 19 .fin)))))))))))))))))))) (some 17) [] [.num r3.1.aP.length,.gd 24005 false] [4] 4 [(4,.b_ false)] [.box 25 (.dat (ak.lf1 p_m)),.dead,.box 25 (.agg ((ak.lf1 r3.1).map AV.lf)),.dead]] (okc c1 (ok1 (rf_ ⟨[(4,.b_ false)],[.box 25 (.dat (ak.lf1 p_m)),.dead,.box 25 (.agg ((ak.lf1 r3.1).map AV.lf)),.dead]⟩))) <|
 .ret (bn 1) (false)
def Q8 (p_m:ak) (p_x:aj) : Option (Bool) := Mo.den (aju p_m p_x)
theorem ajv (p_m:ak) (p_x:aj) : FV (Q8 p_m p_x) 8 [.dat (ak.lf1 p_m),.dat (aj.lf1 p_x)] (fun r=>.b_ r) := dw Tryz.func8 (by kernel_rfl) (fun _=>rfl) (by kernel_rfl)
end
end Go.Proofs.YtdnafbfmaphhhaaGreatDoor
set_option linter.unusedSimpArgs false
set_option linter.unusedVariables false
namespace Go.Proofs.YtdnafbfmaphhhaaGreatDoor
open Go.RowKit
theorem oN (s:ByteArray) (k:Nat) (h:k < s.size) : lH s (k:Int) = some s[k] := by
  unfold lH; rw [if_pos (by omega),Int.toNat_natCast]; exact getElem?_pos s k h
theorem ae0 {α:Type} (l:List α) (k:Nat) (h:k < l.length) : bT l (k:Int) = some l[k] := by
  rw [Bo,List.getElem?_eq_getElem h]
theorem iK {α:Type} (f : α → List Lf) {x : α} : ∀ {l:List α},x ∈ l → aV (f x) ≤ bD (l.map f)
  | y :: r,h=>by
    simp only [List.map_cons,bD]
    rcases List.mem_cons.1 h with rfl | h
    · omega
    · have := iK f h; omega
theorem gJ {α:Type} (f : α → List Lf) (hf:∀ x,1 ≤ aV (f x)) : ∀ l:List α,l.length ≤ bD (l.map f)
  | []=>by simp
  | x :: r=>by have := gJ f hf r; have := hf x; simp only [List.map_cons,List.length_cons,bD]; omega
theorem bQ (v:ah) : aV v.lf1 = 5 + v.fText.size + bD (v.bV.map ah.lf) + bD (v.bU.map aO.lf) := by simp only [ah.lf1,aV,Lf.bulk]; omega
theorem gY (v:aO) : aV v.lf1 = 1 + v.fName.size + aV v.fValue.lf1 := by simp only [aO.lf1,dY,aV,Lf.bulk]; omega
theorem jr (v:aY) : aV v.lf1 = 2 + bD (v.cO.map lfS) := by simp only [aY.lf1,aV,Lf.bulk]; omega
theorem tY (v:dF) : aV v.lf1 = 2 := by simp only [dF.lf1,aV,Lf.bulk]
theorem jv (v:bY) : aV v.lf1 = 3 + bD (v.bW.map dF.lf) := by simp only [bY.lf1,aV,Lf.bulk]; omega
theorem fV (v:aC) : aV v.lf1 = 6 + bD (v.cO.map lfS) + v.fName.size + bD (v.bP.map lfS) + aV v.fArg.lf1 + bD (v.aZ.map aC.lf) := by simp only [aC.lf1,dY,aV,Lf.bulk]; omega
theorem gU (v:aH) : aV v.lf1 = 6 + bD (v.cO.map lfS) + aV v.fArg.lf1 + bD (v.fArgs.map ah.lf) + aV v.eF.lf1 + aV v.fExpr.lf1 + bD (v.aZ.map aH.lf) := by simp only [aH.lf1,dY,aV,Lf.bulk]; omega
theorem gK (v:aS) : aV v.lf1 = 6 + v.fName.size + bD (v.gy.map aY.lf) + aV v.iU.lf1 := by simp only [aS.lf1,dY,aV,Lf.bulk]; omega
theorem mg (v:bF) : aV v.lf1 = 1 + v.fName.size + aV v.fF.lf1 := by simp only [bF.lf1,dY,aV,Lf.bulk]; omega
theorem fJ (v:aB) : aV v.lf1 = 11 + aV v.rU.lf1 + aV v.rV.lf1 + bD (v.jU.map ah.lf) + bD (v.gB.map lfS) + bD (v.dN.map bF.lf) + bD (v.fG.map aB.lf) := by simp only [aB.lf1,dY,aV,Lf.bulk]; omega
theorem jw (v:bK) : aV v.lf1 = 4 + v.fName.size + bD (v.dH.map aS.lf) + aV v.fF.lf1 := by simp only [bK.lf1,dY,aV,Lf.bulk]; omega
theorem iP (v:aG) : aV v.lf1 = 7 + v.kJ.size + aV v.lY.lf1 + aV v.bU.lf1 + aV v.gW.lf1 + aV v.nY.lf1 + aV v.bG.lf1 + v.yL.size + bD (v.dK.map aG.lf) + bD (v.eu.map lfI) := by simp only [aG.lf1,dY,aV,Lf.bulk]; omega
theorem mW (v:au) : aV v.lf1 = 4 + v.jV.size + aV v.iE.lf1 := by simp only [au.lf1,dY,aV,Lf.bulk]; omega
theorem TP (s:ByteArray) : aV (lfS s) = s.size + 1 := by simp only [lfS,aV,Lf.bulk,Nat.add_zero]
theorem aik (n:Int) : aV (lfI n) = 1 := by simp only [lfI,aV,Lf.bulk]
theorem fZ (l:List ah) : l.length ≤ bD (l.map ah.lf) := gJ _ (fun x=>by rw [ah.aU,bQ]; omega) l
theorem gZ (l:List aO) : l.length ≤ bD (l.map aO.lf) := gJ _ (fun x=>by rw [aO.aU,gY]; omega) l
theorem jL (l:List aY) : l.length ≤ bD (l.map aY.lf) := gJ _ (fun x=>by rw [aY.aU,jr]; omega) l
theorem jy (l:List dF) : l.length ≤ bD (l.map dF.lf) := gJ _ (fun x=>by have := tY x; rw [dF.aU]; omega) l
theorem jf (l:List aC) : l.length ≤ bD (l.map aC.lf) := gJ _ (fun x=>by rw [aC.aU,fV]; omega) l
theorem jF (l:List aH) : l.length ≤ bD (l.map aH.lf) := gJ _ (fun x=>by rw [aH.aU,gU]; omega) l
theorem jA (l:List aS) : l.length ≤ bD (l.map aS.lf) := gJ _ (fun x=>by rw [aS.aU,gK]; omega) l
theorem jO (l:List bF) : l.length ≤ bD (l.map bF.lf) := gJ _ (fun x=>by rw [bF.aU,mg]; omega) l
theorem jB (l:List aB) : l.length ≤ bD (l.map aB.lf) := gJ _ (fun x=>by rw [aB.aU,fJ]; omega) l
theorem jC (l:List aG) : l.length ≤ bD (l.map aG.lf) := gJ _ (fun x=>by rw [aG.aU,iP]; omega) l
theorem jP (l:List au) : l.length ≤ bD (l.map au.lf) := gJ _ (fun x=>by rw [au.aU,mW]; omega) l
theorem dD (l:List ByteArray) : l.length ≤ bD (l.map lfS) := gJ _ (fun x=>by rw [TP]; omega) l
theorem iM (l:List Int) : l.length ≤ bD (l.map lfI) := gJ _ (fun x=>by rw [aik]; omega) l
theorem ji {x:ah} {l:List ah} (h:x ∈ l) : aV x.lf1 ≤ bD (l.map ah.lf) := by rw [← ah.aU]; exact iK _ h
theorem ig {x:aO} {l:List aO} (h:x ∈ l) : aV x.lf1 ≤ bD (l.map aO.lf) := by rw [← aO.aU]; exact iK _ h
theorem kN {x:aY} {l:List aY} (h:x ∈ l) : aV x.lf1 ≤ bD (l.map aY.lf) := iK _ h
theorem lq {x:aC} {l:List aC} (h:x ∈ l) : aV x.lf1 ≤ bD (l.map aC.lf) := by rw [← aC.aU]; exact iK _ h
theorem mX {x:aH} {l:List aH} (h:x ∈ l) : aV x.lf1 ≤ bD (l.map aH.lf) := by rw [← aH.aU]; exact iK _ h
theorem mD {x:aS} {l:List aS} (h:x ∈ l) : aV x.lf1 ≤ bD (l.map aS.lf) := iK _ h
theorem og {x:bF} {l:List bF} (h:x ∈ l) : aV x.lf1 ≤ bD (l.map bF.lf) := by rw [← bF.aU]; exact iK _ h
theorem kP {x:aB} {l:List aB} (h:x ∈ l) : aV x.lf1 ≤ bD (l.map aB.lf) := by rw [← aB.aU]; exact iK _ h
theorem mF {x:aG} {l:List aG} (h:x ∈ l) : aV x.lf1 ≤ bD (l.map aG.lf) := by rw [← aG.aU]; exact iK _ h
theorem rM {x:au} {l:List au} (h:x ∈ l) : aV x.lf1 ≤ bD (l.map au.lf) := iK _ h
theorem kW {x:ByteArray} {l:List ByteArray} (h:x ∈ l) : x.size + 1 ≤ bD (l.map lfS) := by rw [← TP]; exact iK _ h
/-- numbers -/
theorem gQ (x:Int) : (strOfNums [x]).size = 1 := by rw [yE]; rfl
theorem VB (n:Int) : ∃ r,Q36 n = some r ∧ r.size ≤ 11 := by
  unfold Q36 afk LW IY yP LX
  simp only [Mo.den,aN,aK,aJ,aQ]
  have key:∀ a:Int,∃ r,((bJ (fun v_:Int × ByteArray × Int=>(bif decide ((v_.2.2:Int) < 10) then some (decide ((128:Int) ≤ v_.1)) else some false).bind fun a_1=>bif a_1 then if v_.2.1.size + (strOfNums [bI .or .u8 (IntKind.wrap .u8 (Int.tmod v_.1 128)) 128]).size ≤ 9223372036854775807 then some (.inl (IntKind.wrap .u64 (Int.tdiv v_.1 128),v_.2.1 ++ strOfNums [bI .or .u8 (IntKind.wrap .u8 (Int.tmod v_.1 128)) 128],IntKind.wrap .i64 (v_.2.2 + 1))) else none else some (.inr (v_.1,v_.2.1))) FU (a,⟨#[]⟩,0)) = some r) ∧ (r:Int × ByteArray).2.size ≤ 10 := by
    intro a
    refine Bq 10 (by omega) (fun (k:Nat) (v:Int × ByteArray × Int)=>v.2.2 = (k:Int) ∧ v.2.1.size = k) (fun (r:Int × ByteArray)=>r.2.size ≤ 10) ⟨rfl,rfl⟩ ?_ ?_
    · rintro k ⟨u,s,i⟩ hk ⟨h1,h2⟩
      simp only at h1 h2
      subst h1
      simp only [decide_eq_true (show (k:Int) < 10 by omega),cond_true,Option.bind_some]
      cases decide ((128:Int) ≤ u) with
      | true =>
        left
        simp only [cond_true,gQ,h2]
        rw [if_pos (by omega)]
        exact ⟨_,rfl,inc k (by omega),by rw [ByteArray.size_append,gQ,h2]⟩
      | false=>right; exact ⟨_,rfl,by simp only; omega⟩
    · rintro ⟨u,s,i⟩ ⟨h1,h2⟩
      simp only at h1 h2
      subst h1
      exact ⟨_,rfl,by simp only; omega⟩
  have fin:∀ a:Int,∃ r,(Option.bind (bJ (fun v_:Int × ByteArray × Int=>(bif decide ((v_.2.2:Int) < 10) then some (decide ((128:Int) ≤ v_.1)) else some false).bind fun a_1=>bif a_1 then if v_.2.1.size + (strOfNums [bI .or .u8 (IntKind.wrap .u8 (Int.tmod v_.1 128)) 128]).size ≤ 9223372036854775807 then some (.inl (IntKind.wrap .u64 (Int.tdiv v_.1 128),v_.2.1 ++ strOfNums [bI .or .u8 (IntKind.wrap .u8 (Int.tmod v_.1 128)) 128],IntKind.wrap .i64 (v_.2.2 + 1))) else none else some (.inr (v_.1,v_.2.1))) FU (a,⟨#[]⟩,0)) (fun r:Int × ByteArray=>if r.2.size + (strOfNums [IntKind.wrap .u8 r.1]).size ≤ 9223372036854775807 then some (r.2 ++ strOfNums [IntKind.wrap .u8 r.1]) else none)) = some r ∧ r.size ≤ 11 := by
    intro a
    obtain ⟨r,h1,h2⟩ := key a
    rw [h1]
    simp only [Option.bind_some,gQ]
    rw [if_pos (by omega)]
    exact ⟨_,rfl,by rw [ByteArray.size_append,gQ]; omega⟩
  cases decide (n < 0)
  · exact fin _
  · exact fin _
noncomputable def DU (n:Int) : ByteArray := (Q36 n).getD ⟨#[]⟩
theorem JD (n:Int) : Q36 n = some (DU n) := by
  obtain ⟨r,h,_⟩ := VB n
  unfold DU; rw [h]; rfl
theorem rO (n:Int) : (DU n).size ≤ 11 := by
  obtain ⟨r,h,h2⟩ := VB n
  unfold DU; rw [h]; exact h2
end Go.Proofs.YtdnafbfmaphhhaaGreatDoor
set_option linter.unusedSimpArgs false
set_option linter.unusedVariables false
namespace Go.Proofs.YtdnafbfmaphhhaaGreatDoor
open Go.RowKit
theorem kQ : 1152921504606846975 < FU := by unfold FU; omega
def Tot {ρ:Type} (m:Option ρ) (Q : ρ → Prop) : Prop := ∃ r,m = some r ∧ Q r
def LP {σ ρ:Type} (P : σ → Prop) (Q : ρ → Prop) : σ ⊕ ρ → Prop
  | .inl s=>P s
  | .inr r=>Q r
def Any {ρ:Type} : ρ → Prop := fun _=>True
namespace T
variable {ρ α σ:Type}
theorem ret {Q : ρ → Prop} {r : ρ} (h:Q r) : Tot (some r) Q := ⟨r,rfl,h⟩
theorem any {r : ρ} : Tot (some r) Any := ⟨r,rfl,trivial⟩
theorem bind {m:Option α} {R : α → Prop} {k : α → Option ρ} {Q : ρ → Prop} (h:Tot m R) (h2:∀ a,R a → Tot (k a) Q) : Tot (m.bind k) Q := by
  obtain ⟨a,rfl,ha⟩ := h
  exact h2 a ha
theorem ite {b:Bool} {x y:Option ρ} {Q : ρ → Prop} (h1:b = true → Tot x Q) (h2:b = false → Tot y Q) : Tot (bif b then x else y) Q := by
  cases b
  · exact h2 rfl
  · exact h1 rfl
theorem grd {p:Prop} [Decidable p] {x:Option ρ} {Q : ρ → Prop} (h:p) (h2:Tot x Q) : Tot (if p then x else none) Q := by
  rw [if_pos h]; exact h2
theorem mono {m:Option ρ} {Q R : ρ → Prop} (h:Tot m Q) (h2:∀ r,Q r → R r) : Tot m R := by
  obtain ⟨r,h1,h3⟩ := h; exact ⟨r,h1,h2 r h3⟩
theorem wk {m:Option ρ} {Q : ρ → Prop} (h:Tot m Q) : Tot m Any := mono h fun _ _=>trivial
theorem val {m:Option ρ} {r : ρ} (h:m = some r) : Tot m (fun x=>x = r) := ⟨r,h,rfl⟩
theorem zX {T : σ → Option (σ ⊕ ρ)} {s0 : σ} (n:Nat) (hn:n ≤ 1000000000) (P:Nat → σ → Prop) (Q : ρ → Prop) (h0:P 0 s0) (step:∀ k s,k < n → P k s → Tot (T s) (LP (P (k + 1)) Q)) (fin:∀ s,P n s → Tot (T s) (LP (fun _=>False) Q)) : Tot (bJ T FU s0) Q := by
  refine Bq n hn P Q h0 ?_ ?_
  · intro k s hk hP
    obtain ⟨r,h1,h2⟩ := step k s hk hP
    rcases r with v | r
    · exact .inl ⟨v,h1,h2⟩
    · exact .inr ⟨r,h1,h2⟩
  · intro s hP
    obtain ⟨r,h1,h2⟩ := fin s hP
    rcases r with v | r
    · exact h2.elim
    · exact ⟨r,h1,h2⟩
/-- a loop that counts and nothing else -/
theorem XW {T:Int → Option (Int ⊕ ρ)} (n:Nat) (hn:n ≤ 1000000000) (Q : ρ → Prop) (step:∀ k:Nat,k < n → Tot (T (k:Int)) (LP (fun v=>v = IntKind.wrap .i64 ((k:Int) + 1)) Q)) (fin:Tot (T (n:Int)) (LP (fun _=>False) Q)) : Tot (bJ T FU 0) Q :=
  zX n hn (fun k v=>v = (k:Int)) Q rfl (fun k s hk hs=>by
    obtain rfl:s = (k:Int) := hs
    refine mono (step k hk) ?_
    rintro (v | r) h
    · exact (show v = _ from h).trans (inc k (by omega))
    · exact h) (fun s hs=>by
    obtain rfl:s = (n:Int) := hs
    exact fin)
/-- the same, over a list of which each element ends -/
theorem ae1 {T:Int → Option (Int ⊕ ρ)} (l:List α) (hn:l.length ≤ 1000000000) (Q : ρ → Prop) (step:∀ (k:Nat) x,l[k]? = some x → Tot (T (k:Int)) (LP (fun v=>v = IntKind.wrap .i64 ((k:Int) + 1)) Q)) (fin:Tot (T (l.length:Int)) (LP (fun _=>False) Q)) : Tot (bJ T FU 0) Q :=
  XW l.length hn Q (fun k hk=>step k _ (List.getElem?_eq_getElem hk)) fin
end T
theorem ltt {α:Type} {l:List α} {k:Nat} {x : α} (h:l[k]? = some x) : decide ((k:Int) < (l.length:Int)) = true := iLt (List.getElem?_eq_some_iff.1 h).1
theorem ltn (n:Nat) : decide ((n:Int) < (n:Int)) = false := V5 (Nat.lt_irrefl _)
theorem gid {α:Type} {l:List α} {k:Nat} {x : α} (h:l[k]? = some x) : bT l (k:Int) = some x := by rw [Bo,h]
theorem jZ {α:Type} {l:List α} {k:Nat} {x : α} (h:l[k]? = some x) : x ∈ l := List.mem_of_getElem? h
theorem TQ {α:Type} {l:List α} {k:Nat} {x : α} (h:l[k]? = some x) : k < l.length := (List.getElem?_eq_some_iff.1 h).1
theorem zC (l m:List (List Lf)) : bD (l ++ m) = bD l + bD m := by
  induction l with
  | nil=>simp [bD]
  | cons x l ih=>simp only [List.cons_append,bD,ih]; omega
theorem DV {α:Type} (f : α → List Lf) {l:List α} {k:Nat} {x : α} (h:l[k]? = some x) : bD ((l.take (k + 1)).map f) = bD ((l.take k).map f) + aV (f x) := by
  have hk := TQ h
  rw [List.take_succ_eq_append_getElem hk,List.map_append,zC]
  have:l[k] = x := by rw [List.getElem?_eq_getElem hk] at h; injection h
  simp only [this,List.map_cons,List.map_nil,bD]; omega
theorem kX {α:Type} (f : α → List Lf) (l:List α) (k:Nat) : bD ((l.take k).map f) ≤ bD (l.map f) := by
  have := zC ((l.take k).map f) ((l.drop k).map f)
  rw [← List.map_append,List.take_append_drop] at this; omega
/-- for the printed proofs -/
def MT {ρ:Type} (t:Mo ρ) (Q : ρ → Prop) : Prop := Tot t.den Q
namespace MT
variable {ρ α β γ:Type}
theorem ret {f:Fit} {r : ρ} {Q : ρ → Prop} (h:Q r) : MT (.ret f r) Q := ⟨r,rfl,h⟩
theorem any {f:Fit} {r : ρ} : MT (.ret f r) Any := ⟨r,rfl,trivial⟩
theorem say {qs:List Ans} {Φ:List Prop} {ok:dO Φ} {k:Mo ρ} {Q : ρ → Prop} (h:MT k Q) : MT (.say qs ok k) Q := h
theorem ite {b:Bool} {t:b = true → Mo ρ} {e:b = false → Mo ρ} {Q : ρ → Prop} (h1:∀ h,MT (t h) Q) (h2:∀ h,MT (e h) Q) : MT (.ite b t e) Q := by
  cases b
  · exact h2 rfl
  · exact h1 rfl
theorem grd {p:Prop} [d:Decidable p] {k:p → Mo ρ} {Q : ρ → Prop} (h:p) (h2:∀ h,MT (k h) Q) : MT (.grd p k) Q := by
  unfold MT Tot
  show ∃ r,Fp p _ = some r ∧ Q r
  unfold Fp
  cases d with
  | isTrue hh=>exact h2 hh
  | isFalse hh=>exact absurd h hh
theorem ask {m:Option α} {k:(a : α) → m = some a → Mo ρ} {R : α → Prop} {Q : ρ → Prop} (h:Tot m R) (h2:∀ a h,R a → MT (k a h) Q) : MT (.ask m k) Q := by
  obtain ⟨a,rfl,ha⟩ := h
  exact h2 a rfl ha
theorem eY {m:Option (α ⊕ β)} {k1:(a : α) → m = some (.inl a) → Mo ρ} {k2:(b : β) → m = some (.inr b) → Mo ρ} {R : α ⊕ β → Prop} {Q : ρ → Prop} (h:Tot m R) (h1:∀ a h,R (.inl a) → MT (k1 a h) Q) (h2:∀ b h,R (.inr b) → MT (k2 b h) Q) : MT (.eY m k1 k2) Q := by
  obtain ⟨a,rfl,ha⟩ := h
  rcases a with a | a
  · exact h1 a rfl ha
  · exact h2 a rfl ha
theorem VZ {m:Option (α ⊕ β ⊕ γ)} {k1:(a : α) → m = some (.inl a) → Mo ρ} {k2:(b : β) → m = some (.inr (.inl b)) → Mo ρ} {k3:(c : γ) → m = some (.inr (.inr c)) → Mo ρ} {R : α ⊕ β ⊕ γ → Prop} {Q : ρ → Prop} (h:Tot m R) (h1:∀ a h,R (.inl a) → MT (k1 a h) Q) (h2:∀ b h,R (.inr (.inl b)) → MT (k2 b h) Q) (h3:∀ b h,R (.inr (.inr b)) → MT (k3 b h) Q) : MT (.VZ m k1 k2 k3) Q := by
  obtain ⟨a,rfl,ha⟩ := h
  rcases a with a | a | a
  · exact h1 a rfl ha
  · exact h2 a rfl ha
  · exact h3 a rfl ha
end MT
/-- a call, shut -/
structure Clo {ρ:Type} (m:Option ρ) : Prop where
  h:Tot m Any
namespace MT
variable {ρ α β γ:Type}
theorem qo {m:Option α} {k:(a : α) → m = some a → Mo ρ} {Q : ρ → Prop} (h:Clo m) (h2:∀ a h,MT (k a h) Q) : MT (.ask m k) Q := ask h.h fun a h _=>h2 a h
end MT
theorem dG {α:Type} (l:List α) (i:Int) (h0 : 0 ≤ i) (h1:i < l.length) : Tot (bT l i) (fun x=>x ∈ l) := by
  obtain ⟨x,h2,h3⟩ := UD h0 h1
  exact ⟨x,h2,List.mem_of_getElem? h3⟩
namespace T
variable {ρ σ:Type}
theorem ail {T : σ → Option (σ ⊕ ρ)} {s0 : σ} (c : σ → Int) (P : σ → Prop) (Q : ρ → Prop) (h0:c s0 = 0) (hP:P s0) (step:∀ (k:Nat) s,k ≤ 100000000 → c s = k → P s → Tot (T s) (LP (fun v=>c v = IntKind.wrap .i64 ((k:Int) + 1) ∧ P v ∧ k < 100000000) Q)) : Tot (bJ T FU s0) Q := by
  refine tC (fun s=>0 ≤ c s ∧ c s ≤ 100000000 ∧ P s) (fun s=>100000000 - (c s).toNat) Q ?_ FU s0 ⟨by omega,by omega,hP⟩ (by have := kQ; omega)
  rintro s ⟨h1,h2,h3⟩
  obtain ⟨r,h4,h5⟩ := step (c s).toNat s (by omega) (by omega) h3
  rcases r with v | r
  · have h5:c v = IntKind.wrap .i64 (((c s).toNat:Int) + 1) ∧ P v ∧ (c s).toNat < 100000000 := h5
    have h6 := h5.1
    rw [inc _ (by omega)] at h6
    exact .inl ⟨v,h4,⟨by omega,by omega,h5.2.1⟩,by omega⟩
  · exact .inr ⟨r,h4,h5⟩
theorem cnt {T:Int → Option (Int ⊕ ρ)} (Q : ρ → Prop) (step:∀ k:Nat,k ≤ 100000000 → Tot (T (k:Int)) (LP (fun v=>v = IntKind.wrap .i64 ((k:Int) + 1) ∧ k < 100000000) Q)) : Tot (bJ T FU 0) Q :=
  ail (fun v=>v) (fun _=>True) Q rfl trivial fun k s hk hs _=>by
    obtain rfl:s = (k:Int) := hs
    refine mono (step k hk) ?_
    rintro (v | r) h
    · exact ⟨h.1,trivial,h.2⟩
    · exact h
theorem ae2 {α:Type} {T : α × Int → Option ((α × Int) ⊕ ρ)} {a : α} (Q : ρ → Prop) (step:∀ (a : α) (k:Nat),k ≤ 100000000 → Tot (T (a,(k:Int))) (LP (fun v=>v.2 = IntKind.wrap .i64 ((k:Int) + 1) ∧ k < 100000000) Q)) : Tot (bJ T FU (a,0)) Q :=
  ail (fun v=>v.2) (fun _=>True) Q rfl trivial fun k s hk hs _=>by
    obtain ⟨a,i⟩ := s
    obtain rfl:i = (k:Int) := hs
    refine mono (step a k hk) ?_
    rintro (v | r) h
    · exact ⟨h.1,trivial,h.2⟩
    · exact h
theorem ada {α:Type} {T:Int × α → Option ((Int × α) ⊕ ρ)} {a : α} (Q : ρ → Prop) (step:∀ (k:Nat) (a : α),k ≤ 100000000 → Tot (T ((k:Int),a)) (LP (fun v=>v.1 = IntKind.wrap .i64 ((k:Int) + 1) ∧ k < 100000000) Q)) : Tot (bJ T FU (0,a)) Q :=
  ail (fun v=>v.1) (fun _=>True) Q rfl trivial fun k s hk hs _=>by
    obtain ⟨i,a⟩ := s
    obtain rfl:i = (k:Int) := hs
    refine mono (step k a hk) ?_
    rintro (v | r) h
    · exact ⟨h.1,trivial,h.2⟩
    · exact h
end T
end Go.Proofs.YtdnafbfmaphhhaaGreatDoor
set_option linter.unusedSimpArgs false
set_option linter.unusedVariables false
namespace Go.Proofs.YtdnafbfmaphhhaaGreatDoor
open Go.RowKit
theorem iY (v:ak) : aV v.lf1 = 12 + bD (v.aP.map au.lf) + bD (v.fNext.map lfI) + bD (v.bg.map lfI) := by simp only [ak.lf1,dY,aV,Lf.bulk]; omega
theorem fE {α:Type} (l:List α) (c : α → Option α) (z:List α) (T0:Int × List α → Option ((Int × List α) ⊕ List α)) (hz:z.length = l.length) (hl:l.length ≤ 1000000000) (hc:∀ x ∈ l,c x = some x)
    (hT:∀ (k:Nat) (s:List α),T0 ((k:Int),s) = bif decide ((k:Int) < (l.length:Int)) then (bT l (k:Int)).bind fun x=>(c x).bind fun r=>(bT s (k:Int)).bind fun _=>some (.inl (IntKind.wrap .i64 ((k:Int) + 1),s.set (k:Int).toNat r)) else some (.inr s)) :
    bJ T0 FU (0,z) = some l := by
  have:Tot (bJ T0 FU (0,z)) (fun r=>r = l) := by
    refine T.zX l.length hl (fun k s=>s.1 = (k:Int) ∧ s.2.length = l.length ∧ ∀ j,j < k → s.2[j]? = l[j]?) _ ⟨rfl,hz,fun j h=>by omega⟩ ?_ ?_
    · rintro k ⟨i,s⟩ hk ⟨h1,h2,h3⟩
      obtain rfl:i = (k:Int) := h1
      have h2:s.length = l.length := h2
      have hx := List.getElem?_eq_getElem hk
      have hy := List.getElem?_eq_getElem (show k < s.length by omega)
      rw [hT]
      simp only [ltt hx,gid hx,gid hy,cond_true,Option.bind_some,hc _ (jZ hx),Int.toNat_natCast]
      refine T.ret ⟨inc k (by omega),by simp [h2],fun j hj=>?_⟩
      show (s.set k l[k])[j]? = l[j]?
      rcases Nat.lt_succ_iff_lt_or_eq.1 hj with h | rfl
      · rw [List.getElem?_set_ne (by omega)]; exact h3 j h
      · rw [List.getElem?_set_self (by omega),hx]
    · rintro ⟨i,s⟩ ⟨h1,h2,h3⟩
      obtain rfl:i = (l.length:Int) := h1
      have h2:s.length = l.length := h2
      rw [hT]
      simp only [ltn,cond_false]
      refine T.ret (show s = l from List.ext_getElem? fun j=>?_)
      by_cases hj:j < l.length
      · exact h3 j hj
      · rw [List.getElem?_eq_none (by omega),List.getElem?_eq_none (by omega)]
  obtain ⟨r,h,rfl⟩ := this
  exact h
theorem dQ {α:Type} (l:List α) (p:Prop) [Decidable p] (hp:p) : (bif ((l.length:Int) == 0) then some [] else if p then (some l).bind (fun a=>some a) else none) = some l := by
  rw [if_pos hp]
  cases l with
  | nil=>rfl
  | cons x r =>
    rw [show (((x :: r).length:Int) == 0) = false by simp; omega]
    rfl
end Go.Proofs.YtdnafbfmaphhhaaGreatDoor
set_option linter.unusedSimpArgs false
set_option linter.unusedVariables false
namespace Go.Proofs.YtdnafbfmaphhhaaGreatDoor
open Go.RowKit
theorem ku (n_:Nat) : (∀ p_v:ah,4 * aV p_v.lf1 + 0 < n_ → aV p_v.lf1 ≤ 100000000 → (iC n_).m1 p_v = some p_v) ∧ (∀ p_l:List ah,4 * bD (p_l.map ah.lf) + 1 < n_ → bD (p_l.map ah.lf) ≤ 100000000 → (iC n_).m2 p_l = some p_l) ∧ (∀ p_l:List aO,4 * bD (p_l.map aO.lf) + 2 < n_ → bD (p_l.map aO.lf) ≤ 100000000 → (iC n_).m3 p_l = some p_l) ∧ (∀ p_f:aO,4 * aV p_f.lf1 + 1 < n_ → aV p_f.lf1 ≤ 100000000 → (iC n_).m4 p_f = some p_f) := by
  induction n_ with
  | zero=>exact ⟨fun _ h=>by omega,fun _ h=>by omega,fun _ h=>by omega,fun _ h=>by omega⟩
  | succ n_ ih =>
    refine ⟨?_,?_,?_,?_⟩
    · intro p_v h_ h2_
      have hbv := bQ p_v
      have := gZ p_v.bU
      have := fZ p_v.bV
      have e0 := (ih.2.1 p_v.bV (by omega) (by omega))
      have e1 := (ih.2.2.1 p_v.bU (by omega) (by omega))
      simp only [iC,aaH,Mo.den,aJ,aN,aK,aQ,e0,e1,Option.bind_some,List.length_nil]
      all_goals (cases p_v; rfl)
    · intro p_l h_ h2_
      have hl := fZ p_l
      have h1:aaI (iC n_) p_l 0 (List.replicate (p_l.length:Int).toNat (ah.mk 0 0 ⟨#[]⟩ [] [])) = some p_l := fE p_l (fun x=>(iC n_).m1 x) _ _ (by simp) (by omega) (fun x hx=>ih.1 x (by have := ji hx; omega) (by have := ji hx; omega)) (fun k s=>by simp only [PN,Mo.den,aJ,aN,aK,aQ])
      simp only [iC,aaJ,Mo.den,aJ,aN,aK,aQ,h1]
      exact dQ p_l _ ⟨by omega,by omega,by unfold maxLen; omega⟩
    · intro p_l h_ h2_
      have hl := gZ p_l
      have h1:aaK (iC n_) p_l 0 (List.replicate (p_l.length:Int).toNat (aO.mk ⟨#[]⟩ (ah.mk 0 0 ⟨#[]⟩ [] []))) = some p_l := fE p_l (fun x=>(iC n_).m4 x) _ _ (by simp) (by omega) (fun x hx=>ih.2.2.2 x (by have := ig hx; omega) (by have := ig hx; omega)) (fun k s=>by simp only [PO,Mo.den,aJ,aN,aK,aQ])
      simp only [iC,aaL,Mo.den,aJ,aN,aK,aQ,h1]
      exact dQ p_l _ ⟨by omega,by omega,by unfold maxLen; omega⟩
    · intro p_f h_ h2_
      have hbv := gY p_f
      have := bQ p_f.fValue
      have e0 := (ih.1 p_f.fValue (by omega) (by omega))
      simp only [iC,Sz,Mo.den,aJ,aN,aK,aQ,e0,Option.bind_some,List.length_nil]
      all_goals (cases p_f; rfl)
theorem eP (p_v:ah) (h_:aV p_v.lf1 ≤ 100000000) : Q81 p_v = some p_v := (ku FU).1 p_v (jM (by omega)) h_
theorem iZ (p_l:List ah) (h_:bD (p_l.map ah.lf) ≤ 100000000) : Q57 p_l = some p_l := (ku FU).2.1 p_l (jM (by omega)) h_
theorem gG (p_l:List ByteArray) (h_:bD (p_l.map lfS) ≤ 100000000) : ahx p_l = some p_l := by
  have hl := dD p_l
  simp only [ahx,aaO,Mo.den,aJ,aN,aK,aQ,Option.bind_some,List.length_nil]
  rw [if_pos (by omega)]
  try rfl
theorem o7 (p_o:aY) (h_:aV p_o.lf1 ≤ 100000000) : adX p_o = some p_o := by
  have hbv := jr p_o
  have := dD p_o.cO
  have e0 := (gG p_o.cO (by omega))
  simp only [adX,aaP,Mo.den,aJ,aN,aK,aQ,e0,Option.bind_some,List.length_nil]
  all_goals (cases p_o; rfl)
theorem lu (p_l:List aY) (h_:bD (p_l.map aY.lf) ≤ 100000000) : Q72 p_l = some p_l := by
  have hl := jL p_l
  have h1:aaQ p_l 0 (List.replicate (p_l.length:Int).toNat (aY.mk [] false)) = some p_l := fE p_l (fun x=>adX x) _ _ (by simp) (by omega) (fun x hx=>o7 x (by have := kN hx; omega)) (fun k s=>by simp only [PS,Mo.den,aJ,aN,aK,aQ])
  simp only [Q72,afU,Mo.den,aJ,aN,aK,aQ,h1]
  exact dQ p_l _ ⟨by omega,by omega,by unfold maxLen; omega⟩
theorem o8 (n_:Nat) : (∀ p_e:aC,4 * aV p_e.lf1 + 0 < n_ → aV p_e.lf1 ≤ 100000000 → (lI n_).m1 p_e = some p_e) ∧ (∀ p_l:List aC,4 * bD (p_l.map aC.lf) + 1 < n_ → bD (p_l.map aC.lf) ≤ 100000000 → (lI n_).m2 p_l = some p_l) := by
  induction n_ with
  | zero=>exact ⟨fun _ h=>by omega,fun _ h=>by omega⟩
  | succ n_ ih =>
    refine ⟨?_,?_⟩
    · intro p_e h_ h2_
      have hbv := fV p_e
      have := bQ p_e.fArg
      have := jf p_e.aZ
      have := dD p_e.bP
      have := dD p_e.cO
      have e0 := (gG p_e.cO (by omega))
      have e1 := (gG p_e.bP (by omega))
      have e2 := (eP p_e.fArg (by omega))
      have e3 := (ih.2 p_e.aZ (by omega) (by omega))
      simp only [lI,SB,Mo.den,aJ,aN,aK,aQ,e0,e1,e2,e3,Option.bind_some,List.length_nil]
      all_goals (cases p_e; rfl)
    · intro p_l h_ h2_
      have hl := jf p_l
      have h1:aaS (lI n_) p_l 0 (List.replicate (p_l.length:Int).toNat aC.z) = some p_l := fE p_l (fun x=>(lI n_).m1 x) _ _ (by simp) (by omega) (fun x hx=>ih.1 x (by have := lq hx; omega) (by have := lq hx; omega)) (fun k s=>by simp only [PU,Mo.den,aJ,aN,aK,aQ])
      simp only [lI,aaT,Mo.den,aJ,aN,aK,aQ,h1]
      exact dQ p_l _ ⟨by omega,by omega,by unfold maxLen; omega⟩
theorem qp (p_e:aC) (h_:aV p_e.lf1 ≤ 100000000) : aja p_e = some p_e := (o8 FU).1 p_e (jM (by omega)) h_
theorem o9 (n_:Nat) : (∀ p_p:aH,4 * aV p_p.lf1 + 0 < n_ → aV p_p.lf1 ≤ 100000000 → (lJ n_).m1 p_p = some p_p) ∧ (∀ p_l:List aH,4 * bD (p_l.map aH.lf) + 1 < n_ → bD (p_l.map aH.lf) ≤ 100000000 → (lJ n_).m2 p_l = some p_l) := by
  induction n_ with
  | zero=>exact ⟨fun _ h=>by omega,fun _ h=>by omega⟩
  | succ n_ ih =>
    refine ⟨?_,?_⟩
    · intro p_p h_ h2_
      have hbv := gU p_p
      have := bQ p_p.fArg
      have := fZ p_p.fArgs
      have := fV p_p.fExpr
      have := jF p_p.aZ
      have := dD p_p.cO
      have := jv p_p.eF
      have := jy p_p.eF.bW
      have := jy p_p.eF.bW
      have e0 := (gG p_p.cO (by omega))
      have e1 := (eP p_p.fArg (by omega))
      have e2 := (iZ p_p.fArgs (by omega))
      have e3 := (qp p_p.fExpr (by omega))
      have e4 := (ih.2 p_p.aZ (by omega) (by omega))
      simp only [lJ,SE,Mo.den,aJ,aN,aK,aQ,e0,e1,e2,e3,e4,Option.bind_some,List.length_nil]
      rw [if_pos (by omega)]
      all_goals (cases p_p; rfl)
    · intro p_l h_ h2_
      have hl := jF p_l
      have h1:aaV (lJ n_) p_l 0 (List.replicate (p_l.length:Int).toNat aH.z) = some p_l := fE p_l (fun x=>(lJ n_).m1 x) _ _ (by simp) (by omega) (fun x hx=>ih.1 x (by have := mX hx; omega) (by have := mX hx; omega)) (fun k s=>by simp only [PV,Mo.den,aJ,aN,aK,aQ])
      simp only [lJ,aaW,Mo.den,aJ,aN,aK,aQ,h1]
      exact dQ p_l _ ⟨by omega,by omega,by unfold maxLen; omega⟩
theorem qw (p_p:aH) (h_:aV p_p.lf1 ≤ 100000000) : ahz p_p = some p_p := (o9 FU).1 p_p (jM (by omega)) h_
theorem kG (p_x:aS) (h_:aV p_x.lf1 ≤ 100000000) : ad4 p_x = some p_x := by
  have hbv := gK p_x
  have := jL p_x.gy
  have := gU p_x.iU
  have e0 := (lu p_x.gy (by omega))
  have e1 := (qw p_x.iU (by omega))
  simp only [ad4,aaX,Mo.den,aJ,aN,aK,aQ,e0,e1,Option.bind_some,List.length_nil]
  all_goals (cases p_x; rfl)
theorem lC (p_l:List aS) (h_:bD (p_l.map aS.lf) ≤ 100000000) : Q73 p_l = some p_l := by
  have hl := jA p_l
  have h1:aaY p_l 0 (List.replicate (p_l.length:Int).toNat aS.z) = some p_l := fE p_l (fun x=>ad4 x) _ _ (by simp) (by omega) (fun x hx=>kG x (by have := mD hx; omega)) (fun k s=>by simp only [PW,Mo.den,aJ,aN,aK,aQ])
  simp only [Q73,afV,Mo.den,aJ,aN,aK,aQ,h1]
  exact dQ p_l _ ⟨by omega,by omega,by unfold maxLen; omega⟩
theorem oh (n_:Nat) : (∀ p_s:aB,4 * aV p_s.lf1 + 0 < n_ → aV p_s.lf1 ≤ 100000000 → (iI n_).m1 p_s = some p_s) ∧ (∀ p_l:List bF,4 * bD (p_l.map bF.lf) + 2 < n_ → bD (p_l.map bF.lf) ≤ 100000000 → (iI n_).m2 p_l = some p_l) ∧ (∀ p_l:List aB,4 * bD (p_l.map aB.lf) + 1 < n_ → bD (p_l.map aB.lf) ≤ 100000000 → (iI n_).m3 p_l = some p_l) ∧ (∀ p_p:bF,4 * aV p_p.lf1 + 1 < n_ → aV p_p.lf1 ≤ 100000000 → (iI n_).m4 p_p = some p_p) := by
  induction n_ with
  | zero=>exact ⟨fun _ h=>by omega,fun _ h=>by omega,fun _ h=>by omega,fun _ h=>by omega⟩
  | succ n_ ih =>
    refine ⟨?_,?_,?_,?_⟩
    · intro p_s h_ h2_
      have hbv := fJ p_s
      have := fZ p_s.jU
      have := jB p_s.fG
      have := bQ p_s.rV
      have := bQ p_s.rU
      have := jO p_s.dN
      have := dD p_s.gB
      have e0 := (eP p_s.rU (by omega))
      have e1 := (eP p_s.rV (by omega))
      have e2 := (iZ p_s.jU (by omega))
      have e3 := (gG p_s.gB (by omega))
      have e4 := (ih.2.1 p_s.dN (by omega) (by omega))
      have e5 := (ih.2.2.1 p_s.fG (by omega) (by omega))
      simp only [iI,SG,Mo.den,aJ,aN,aK,aQ,e0,e1,e2,e3,e4,e5,Option.bind_some,List.length_nil]
      all_goals (cases p_s; rfl)
    · intro p_l h_ h2_
      have hl := jO p_l
      have h1:aa0 (iI n_) p_l 0 (List.replicate (p_l.length:Int).toNat (bF.mk ⟨#[]⟩ aB.z)) = some p_l := fE p_l (fun x=>(iI n_).m4 x) _ _ (by simp) (by omega) (fun x hx=>ih.2.2.2 x (by have := og hx; omega) (by have := og hx; omega)) (fun k s=>by simp only [PX,Mo.den,aJ,aN,aK,aQ])
      simp only [iI,aa1,Mo.den,aJ,aN,aK,aQ,h1]
      exact dQ p_l _ ⟨by omega,by omega,by unfold maxLen; omega⟩
    · intro p_l h_ h2_
      have hl := jB p_l
      have h1:aa2 (iI n_) p_l 0 (List.replicate (p_l.length:Int).toNat aB.z) = some p_l := fE p_l (fun x=>(iI n_).m1 x) _ _ (by simp) (by omega) (fun x hx=>ih.1 x (by have := kP hx; omega) (by have := kP hx; omega)) (fun k s=>by simp only [PY,Mo.den,aJ,aN,aK,aQ])
      simp only [iI,aa3,Mo.den,aJ,aN,aK,aQ,h1]
      exact dQ p_l _ ⟨by omega,by omega,by unfold maxLen; omega⟩
    · intro p_p h_ h2_
      have hbv := mg p_p
      have := fJ p_p.fF
      have e0 := (ih.1 p_p.fF (by omega) (by omega))
      simp only [iI,SH,Mo.den,aJ,aN,aK,aQ,e0,Option.bind_some,List.length_nil]
      all_goals (cases p_p; rfl)
theorem oO (p_s:aB) (h_:aV p_s.lf1 ≤ 100000000) : ahB p_s = some p_s := (oh FU).1 p_s (jM (by omega)) h_
theorem pq (p_d:bK) (h_:aV p_d.lf1 ≤ 100000000) : ahC p_d = some p_d := by
  have hbv := jw p_d
  have := jA p_d.dH
  have := fJ p_d.fF
  have e0 := (lC p_d.dH (by omega))
  have e1 := (oO p_d.fF (by omega))
  simp only [ahC,aa5,Mo.den,aJ,aN,aK,aQ,e0,e1,Option.bind_some,List.length_nil]
  all_goals (cases p_d; rfl)
theorem jD (p_l:List Int) (h_:bD (p_l.map lfI) ≤ 100000000) : ad9 p_l = some p_l := by
  have hl := iM p_l
  simp only [ad9,aa6,Mo.den,aJ,aN,aK,aQ,Option.bind_some,List.length_nil]
  rw [if_pos (by omega)]
  try rfl
theorem oP (n_:Nat) : (∀ p_w:aG,4 * aV p_w.lf1 + 0 < n_ → aV p_w.lf1 ≤ 100000000 → (lK n_).m1 p_w = some p_w) ∧ (∀ p_l:List aG,4 * bD (p_l.map aG.lf) + 1 < n_ → bD (p_l.map aG.lf) ≤ 100000000 → (lK n_).m2 p_l = some p_l) := by
  induction n_ with
  | zero=>exact ⟨fun _ h=>by omega,fun _ h=>by omega⟩
  | succ n_ ih =>
    refine ⟨?_,?_⟩
    · intro p_w h_ h2_
      have hbv := iP p_w
      have := bQ p_w.gW
      have := jw p_w.nY
      have := bQ p_w.bU
      have := gK p_w.bG
      have := bQ p_w.lY
      have := iM p_w.eu
      have := jC p_w.dK
      have e0 := (eP p_w.lY (by omega))
      have e1 := (eP p_w.bU (by omega))
      have e2 := (eP p_w.gW (by omega))
      have e3 := (pq p_w.nY (by omega))
      have e4 := (kG p_w.bG (by omega))
      have e5 := (ih.2 p_w.dK (by omega) (by omega))
      have e6 := (jD p_w.eu (by omega))
      simp only [lK,SL,Mo.den,aJ,aN,aK,aQ,e0,e1,e2,e3,e4,e5,e6,Option.bind_some,List.length_nil]
      all_goals (cases p_w; rfl)
    · intro p_l h_ h2_
      have hl := jC p_l
      have h1:aa8 (lK n_) p_l 0 (List.replicate (p_l.length:Int).toNat aG.z) = some p_l := fE p_l (fun x=>(lK n_).m1 x) _ _ (by simp) (by omega) (fun x hx=>ih.1 x (by have := mF hx; omega) (by have := mF hx; omega)) (fun k s=>by simp only [PZ,Mo.den,aJ,aN,aK,aQ])
      simp only [lK,aa9,Mo.den,aJ,aN,aK,aQ,h1]
      exact dQ p_l _ ⟨by omega,by omega,by unfold maxLen; omega⟩
theorem pz (p_w:aG) (h_:aV p_w.lf1 ≤ 100000000) : ajb p_w = some p_w := (oP FU).1 p_w (jM (by omega)) h_
theorem pF (p_e:au) (h_:aV p_e.lf1 ≤ 100000000) : aec p_e = some p_e := by
  have hbv := mW p_e
  have := iP p_e.iE
  have e0 := (pz p_e.iE (by omega))
  simp only [aec,abb,Mo.den,aJ,aN,aK,aQ,e0,Option.bind_some,List.length_nil]
  all_goals (cases p_e; rfl)
theorem lD (p_l:List au) (h_:bD (p_l.map au.lf) ≤ 100000000) : Q74 p_l = some p_l := by
  have hl := jP p_l
  have h1:abd p_l 0 (List.replicate (p_l.length:Int).toNat (au.mk 0 0 ⟨#[]⟩ 0 aG.z)) = some p_l := fE p_l (fun x=>aec x) _ _ (by simp) (by omega) (fun x hx=>pF x (by have := rM hx; omega)) (fun k s=>by simp only [P5,Mo.den,aJ,aN,aK,aQ])
  simp only [Q74,afW,Mo.den,aJ,aN,aK,aQ,h1]
  exact dQ p_l _ ⟨by omega,by omega,by unfold maxLen; omega⟩
theorem kC (p_m:ak) (h_:aV p_m.lf1 ≤ 100000000) : ahE p_m = some p_m := by
  have hbv := iY p_m
  have := jP p_m.aP
  have := iM p_m.bg
  have := iM p_m.fNext
  have e0 := (lD p_m.aP (by omega))
  have e1 := (jD p_m.fNext (by omega))
  have e2 := (jD p_m.bg (by omega))
  simp only [ahE,abe,Mo.den,aJ,aN,aK,aQ,e0,e1,e2,Option.bind_some,List.length_nil]
  all_goals (cases p_m; rfl)
theorem kD (n_:Nat) : (∀ p_v:ah,4 * aV p_v.lf1 + 0 < n_ → aV p_v.lf1 ≤ 100000000 → (iD n_).m1 p_v = some p_v) ∧ (∀ p_l:List ah,4 * bD (p_l.map ah.lf) + 1 < n_ → bD (p_l.map ah.lf) ≤ 100000000 → (iD n_).m2 p_l = some p_l) ∧ (∀ p_l:List aO,4 * bD (p_l.map aO.lf) + 2 < n_ → bD (p_l.map aO.lf) ≤ 100000000 → (iD n_).m3 p_l = some p_l) ∧ (∀ p_f:aO,4 * aV p_f.lf1 + 1 < n_ → aV p_f.lf1 ≤ 100000000 → (iD n_).m4 p_f = some p_f) := by
  induction n_ with
  | zero=>exact ⟨fun _ h=>by omega,fun _ h=>by omega,fun _ h=>by omega,fun _ h=>by omega⟩
  | succ n_ ih =>
    refine ⟨?_,?_,?_,?_⟩
    · intro p_v h_ h2_
      have hbv := bQ p_v
      have := gZ p_v.bU
      have := fZ p_v.bV
      have e0 := (ih.2.1 p_v.bV (by omega) (by omega))
      have e1 := (ih.2.2.1 p_v.bU (by omega) (by omega))
      simp only [iD,abr,Mo.den,aJ,aN,aK,aQ,e0,e1,Option.bind_some,List.length_nil]
      all_goals (cases p_v; rfl)
    · intro p_l h_ h2_
      have hl := fZ p_l
      have h1:abt (iD n_) p_l 0 (List.replicate (p_l.length:Int).toNat (ah.mk 0 0 ⟨#[]⟩ [] [])) = some p_l := fE p_l (fun x=>(iD n_).m1 x) _ _ (by simp) (by omega) (fun x hx=>ih.1 x (by have := ji hx; omega) (by have := ji hx; omega)) (fun k s=>by simp only [Qa,Mo.den,aJ,aN,aK,aQ])
      simp only [iD,abu,Mo.den,aJ,aN,aK,aQ,h1]
      exact dQ p_l _ ⟨by omega,by omega,by unfold maxLen; omega⟩
    · intro p_l h_ h2_
      have hl := gZ p_l
      have h1:abv (iD n_) p_l 0 (List.replicate (p_l.length:Int).toNat (aO.mk ⟨#[]⟩ (ah.mk 0 0 ⟨#[]⟩ [] []))) = some p_l := fE p_l (fun x=>(iD n_).m4 x) _ _ (by simp) (by omega) (fun x hx=>ih.2.2.2 x (by have := ig hx; omega) (by have := ig hx; omega)) (fun k s=>by simp only [Qb,Mo.den,aJ,aN,aK,aQ])
      simp only [iD,abw,Mo.den,aJ,aN,aK,aQ,h1]
      exact dQ p_l _ ⟨by omega,by omega,by unfold maxLen; omega⟩
    · intro p_f h_ h2_
      have hbv := gY p_f
      have := bQ p_f.fValue
      have e0 := (ih.1 p_f.fValue (by omega) (by omega))
      simp only [iD,Td,Mo.den,aJ,aN,aK,aQ,e0,Option.bind_some,List.length_nil]
      all_goals (cases p_f; rfl)
theorem eU (p_v:ah) (h_:aV p_v.lf1 ≤ 100000000) : Q82 p_v = some p_v := (kD FU).1 p_v (jM (by omega)) h_
theorem jc (p_l:List ah) (h_:bD (p_l.map ah.lf) ≤ 100000000) : Q58 p_l = some p_l := (kD FU).2.1 p_l (jM (by omega)) h_
theorem gI (p_l:List ByteArray) (h_:bD (p_l.map lfS) ≤ 100000000) : ahS p_l = some p_l := by
  have hl := dD p_l
  simp only [ahS,abz,Mo.den,aJ,aN,aK,aQ,Option.bind_some,List.length_nil]
  rw [if_pos (by omega)]
  try rfl
theorem pG (p_o:aY) (h_:aV p_o.lf1 ≤ 100000000) : aev p_o = some p_o := by
  have hbv := jr p_o
  have := dD p_o.cO
  have e0 := (gI p_o.cO (by omega))
  simp only [aev,abA,Mo.den,aJ,aN,aK,aQ,e0,Option.bind_some,List.length_nil]
  all_goals (cases p_o; rfl)
theorem lF (p_l:List aY) (h_:bD (p_l.map aY.lf) ≤ 100000000) : Q75 p_l = some p_l := by
  have hl := jL p_l
  have h1:abB p_l 0 (List.replicate (p_l.length:Int).toNat (aY.mk [] false)) = some p_l := fE p_l (fun x=>aev x) _ _ (by simp) (by omega) (fun x hx=>pG x (by have := kN hx; omega)) (fun k s=>by simp only [Qc,Mo.den,aJ,aN,aK,aQ])
  simp only [Q75,afZ,Mo.den,aJ,aN,aK,aQ,h1]
  exact dQ p_l _ ⟨by omega,by omega,by unfold maxLen; omega⟩
theorem pI (n_:Nat) : (∀ p_e:aC,4 * aV p_e.lf1 + 0 < n_ → aV p_e.lf1 ≤ 100000000 → (lM n_).m1 p_e = some p_e) ∧ (∀ p_l:List aC,4 * bD (p_l.map aC.lf) + 1 < n_ → bD (p_l.map aC.lf) ≤ 100000000 → (lM n_).m2 p_l = some p_l) := by
  induction n_ with
  | zero=>exact ⟨fun _ h=>by omega,fun _ h=>by omega⟩
  | succ n_ ih =>
    refine ⟨?_,?_⟩
    · intro p_e h_ h2_
      have hbv := fV p_e
      have := bQ p_e.fArg
      have := jf p_e.aZ
      have := dD p_e.bP
      have := dD p_e.cO
      have e0 := (gI p_e.cO (by omega))
      have e1 := (gI p_e.bP (by omega))
      have e2 := (eU p_e.fArg (by omega))
      have e3 := (ih.2 p_e.aZ (by omega) (by omega))
      simp only [lM,Ti,Mo.den,aJ,aN,aK,aQ,e0,e1,e2,e3,Option.bind_some,List.length_nil]
      all_goals (cases p_e; rfl)
    · intro p_l h_ h2_
      have hl := jf p_l
      have h1:abD (lM n_) p_l 0 (List.replicate (p_l.length:Int).toNat aC.z) = some p_l := fE p_l (fun x=>(lM n_).m1 x) _ _ (by simp) (by omega) (fun x hx=>ih.1 x (by have := lq hx; omega) (by have := lq hx; omega)) (fun k s=>by simp only [Qd,Mo.den,aJ,aN,aK,aQ])
      simp only [lM,abE,Mo.den,aJ,aN,aK,aQ,h1]
      exact dQ p_l _ ⟨by omega,by omega,by unfold maxLen; omega⟩
theorem qx (p_e:aC) (h_:aV p_e.lf1 ≤ 100000000) : ajk p_e = some p_e := (pI FU).1 p_e (jM (by omega)) h_
theorem pJ (n_:Nat) : (∀ p_p:aH,4 * aV p_p.lf1 + 0 < n_ → aV p_p.lf1 ≤ 100000000 → (lN n_).m1 p_p = some p_p) ∧ (∀ p_l:List aH,4 * bD (p_l.map aH.lf) + 1 < n_ → bD (p_l.map aH.lf) ≤ 100000000 → (lN n_).m2 p_l = some p_l) := by
  induction n_ with
  | zero=>exact ⟨fun _ h=>by omega,fun _ h=>by omega⟩
  | succ n_ ih =>
    refine ⟨?_,?_⟩
    · intro p_p h_ h2_
      have hbv := gU p_p
      have := bQ p_p.fArg
      have := fZ p_p.fArgs
      have := fV p_p.fExpr
      have := jF p_p.aZ
      have := dD p_p.cO
      have := jv p_p.eF
      have := jy p_p.eF.bW
      have := jy p_p.eF.bW
      have e0 := (gI p_p.cO (by omega))
      have e1 := (eU p_p.fArg (by omega))
      have e2 := (jc p_p.fArgs (by omega))
      have e3 := (qx p_p.fExpr (by omega))
      have e4 := (ih.2 p_p.aZ (by omega) (by omega))
      simp only [lN,Tn,Mo.den,aJ,aN,aK,aQ,e0,e1,e2,e3,e4,Option.bind_some,List.length_nil]
      rw [if_pos (by omega)]
      all_goals (cases p_p; rfl)
    · intro p_l h_ h2_
      have hl := jF p_l
      have h1:abH (lN n_) p_l 0 (List.replicate (p_l.length:Int).toNat aH.z) = some p_l := fE p_l (fun x=>(lN n_).m1 x) _ _ (by simp) (by omega) (fun x hx=>ih.1 x (by have := mX hx; omega) (by have := mX hx; omega)) (fun k s=>by simp only [Qe,Mo.den,aJ,aN,aK,aQ])
      simp only [lN,abI,Mo.den,aJ,aN,aK,aQ,h1]
      exact dQ p_l _ ⟨by omega,by omega,by unfold maxLen; omega⟩
theorem qy (p_p:aH) (h_:aV p_p.lf1 ≤ 100000000) : ahU p_p = some p_p := (pJ FU).1 p_p (jM (by omega)) h_
theorem kH (p_x:aS) (h_:aV p_x.lf1 ≤ 100000000) : aeB p_x = some p_x := by
  have hbv := gK p_x
  have := jL p_x.gy
  have := gU p_x.iU
  have e0 := (lF p_x.gy (by omega))
  have e1 := (qy p_x.iU (by omega))
  simp only [aeB,abJ,Mo.den,aJ,aN,aK,aQ,e0,e1,Option.bind_some,List.length_nil]
  all_goals (cases p_x; rfl)
theorem lG (p_l:List aS) (h_:bD (p_l.map aS.lf) ≤ 100000000) : Q76 p_l = some p_l := by
  have hl := jA p_l
  have h1:abK p_l 0 (List.replicate (p_l.length:Int).toNat aS.z) = some p_l := fE p_l (fun x=>aeB x) _ _ (by simp) (by omega) (fun x hx=>kH x (by have := mD hx; omega)) (fun k s=>by simp only [Qg,Mo.den,aJ,aN,aK,aQ])
  simp only [Q76,af0,Mo.den,aJ,aN,aK,aQ,h1]
  exact dQ p_l _ ⟨by omega,by omega,by unfold maxLen; omega⟩
theorem oq (n_:Nat) : (∀ p_s:aB,4 * aV p_s.lf1 + 0 < n_ → aV p_s.lf1 ≤ 100000000 → (iJ n_).m1 p_s = some p_s) ∧ (∀ p_l:List bF,4 * bD (p_l.map bF.lf) + 2 < n_ → bD (p_l.map bF.lf) ≤ 100000000 → (iJ n_).m2 p_l = some p_l) ∧ (∀ p_l:List aB,4 * bD (p_l.map aB.lf) + 1 < n_ → bD (p_l.map aB.lf) ≤ 100000000 → (iJ n_).m3 p_l = some p_l) ∧ (∀ p_p:bF,4 * aV p_p.lf1 + 1 < n_ → aV p_p.lf1 ≤ 100000000 → (iJ n_).m4 p_p = some p_p) := by
  induction n_ with
  | zero=>exact ⟨fun _ h=>by omega,fun _ h=>by omega,fun _ h=>by omega,fun _ h=>by omega⟩
  | succ n_ ih =>
    refine ⟨?_,?_,?_,?_⟩
    · intro p_s h_ h2_
      have hbv := fJ p_s
      have := fZ p_s.jU
      have := jB p_s.fG
      have := bQ p_s.rV
      have := bQ p_s.rU
      have := jO p_s.dN
      have := dD p_s.gB
      have e0 := (eU p_s.rU (by omega))
      have e1 := (eU p_s.rV (by omega))
      have e2 := (jc p_s.jU (by omega))
      have e3 := (gI p_s.gB (by omega))
      have e4 := (ih.2.1 p_s.dN (by omega) (by omega))
      have e5 := (ih.2.2.1 p_s.fG (by omega) (by omega))
      simp only [iJ,Tq,Mo.den,aJ,aN,aK,aQ,e0,e1,e2,e3,e4,e5,Option.bind_some,List.length_nil]
      all_goals (cases p_s; rfl)
    · intro p_l h_ h2_
      have hl := jO p_l
      have h1:abM (iJ n_) p_l 0 (List.replicate (p_l.length:Int).toNat (bF.mk ⟨#[]⟩ aB.z)) = some p_l := fE p_l (fun x=>(iJ n_).m4 x) _ _ (by simp) (by omega) (fun x hx=>ih.2.2.2 x (by have := og hx; omega) (by have := og hx; omega)) (fun k s=>by simp only [Qh,Mo.den,aJ,aN,aK,aQ])
      simp only [iJ,abN,Mo.den,aJ,aN,aK,aQ,h1]
      exact dQ p_l _ ⟨by omega,by omega,by unfold maxLen; omega⟩
    · intro p_l h_ h2_
      have hl := jB p_l
      have h1:abO (iJ n_) p_l 0 (List.replicate (p_l.length:Int).toNat aB.z) = some p_l := fE p_l (fun x=>(iJ n_).m1 x) _ _ (by simp) (by omega) (fun x hx=>ih.1 x (by have := kP hx; omega) (by have := kP hx; omega)) (fun k s=>by simp only [Qi,Mo.den,aJ,aN,aK,aQ])
      simp only [iJ,abP,Mo.den,aJ,aN,aK,aQ,h1]
      exact dQ p_l _ ⟨by omega,by omega,by unfold maxLen; omega⟩
    · intro p_p h_ h2_
      have hbv := mg p_p
      have := fJ p_p.fF
      have e0 := (ih.1 p_p.fF (by omega) (by omega))
      simp only [iJ,Tt,Mo.den,aJ,aN,aK,aQ,e0,Option.bind_some,List.length_nil]
      all_goals (cases p_p; rfl)
theorem oQ (p_s:aB) (h_:aV p_s.lf1 ≤ 100000000) : ahW p_s = some p_s := (oq FU).1 p_s (jM (by omega)) h_
theorem pK (p_d:bK) (h_:aV p_d.lf1 ≤ 100000000) : ahX p_d = some p_d := by
  have hbv := jw p_d
  have := jA p_d.dH
  have := fJ p_d.fF
  have e0 := (lG p_d.dH (by omega))
  have e1 := (oQ p_d.fF (by omega))
  simp only [ahX,abR,Mo.den,aJ,aN,aK,aQ,e0,e1,Option.bind_some,List.length_nil]
  all_goals (cases p_d; rfl)
theorem jE (p_l:List Int) (h_:bD (p_l.map lfI) ≤ 100000000) : aeG p_l = some p_l := by
  have hl := iM p_l
  simp only [aeG,abS,Mo.den,aJ,aN,aK,aQ,Option.bind_some,List.length_nil]
  rw [if_pos (by omega)]
  try rfl
theorem oU (n_:Nat) : (∀ p_w:aG,4 * aV p_w.lf1 + 0 < n_ → aV p_w.lf1 ≤ 100000000 → (lQ n_).m1 p_w = some p_w) ∧ (∀ p_l:List aG,4 * bD (p_l.map aG.lf) + 1 < n_ → bD (p_l.map aG.lf) ≤ 100000000 → (lQ n_).m2 p_l = some p_l) := by
  induction n_ with
  | zero=>exact ⟨fun _ h=>by omega,fun _ h=>by omega⟩
  | succ n_ ih =>
    refine ⟨?_,?_⟩
    · intro p_w h_ h2_
      have hbv := iP p_w
      have := bQ p_w.gW
      have := jw p_w.nY
      have := bQ p_w.bU
      have := gK p_w.bG
      have := bQ p_w.lY
      have := iM p_w.eu
      have := jC p_w.dK
      have e0 := (eU p_w.lY (by omega))
      have e1 := (eU p_w.bU (by omega))
      have e2 := (eU p_w.gW (by omega))
      have e3 := (pK p_w.nY (by omega))
      have e4 := (kH p_w.bG (by omega))
      have e5 := (ih.2 p_w.dK (by omega) (by omega))
      have e6 := (jE p_w.eu (by omega))
      simp only [lQ,Tz,Mo.den,aJ,aN,aK,aQ,e0,e1,e2,e3,e4,e5,e6,Option.bind_some,List.length_nil]
      all_goals (cases p_w; rfl)
    · intro p_l h_ h2_
      have hl := jC p_l
      have h1:abU (lQ n_) p_l 0 (List.replicate (p_l.length:Int).toNat aG.z) = some p_l := fE p_l (fun x=>(lQ n_).m1 x) _ _ (by simp) (by omega) (fun x hx=>ih.1 x (by have := mF hx; omega) (by have := mF hx; omega)) (fun k s=>by simp only [Qj,Mo.den,aJ,aN,aK,aQ])
      simp only [lQ,abV,Mo.den,aJ,aN,aK,aQ,h1]
      exact dQ p_l _ ⟨by omega,by omega,by unfold maxLen; omega⟩
theorem pO (p_w:aG) (h_:aV p_w.lf1 ≤ 100000000) : ajl p_w = some p_w := (oU FU).1 p_w (jM (by omega)) h_
theorem pR (p_e:au) (h_:aV p_e.lf1 ≤ 100000000) : aeJ p_e = some p_e := by
  have hbv := mW p_e
  have := iP p_e.iE
  have e0 := (pO p_e.iE (by omega))
  simp only [aeJ,abW,Mo.den,aJ,aN,aK,aQ,e0,Option.bind_some,List.length_nil]
  all_goals (cases p_e; rfl)
theorem iw (p_l:List au) (h_:bD (p_l.map au.lf) ≤ 100000000) : Q63 p_l = some p_l := by
  have hl := jP p_l
  have h1:abX p_l 0 (List.replicate (p_l.length:Int).toNat (au.mk 0 0 ⟨#[]⟩ 0 aG.z)) = some p_l := fE p_l (fun x=>aeJ x) _ _ (by simp) (by omega) (fun x hx=>pR x (by have := rM hx; omega)) (fun k s=>by simp only [Qk,Mo.den,aJ,aN,aK,aQ])
  simp only [Q63,af2,Mo.den,aJ,aN,aK,aQ,h1]
  exact dQ p_l _ ⟨by omega,by omega,by unfold maxLen; omega⟩
theorem kE (p_m:ak) (h_:aV p_m.lf1 ≤ 100000000) : aeL p_m = some p_m := by
  have hbv := iY p_m
  have := jP p_m.aP
  have := iM p_m.bg
  have := iM p_m.fNext
  have e0 := (iw p_m.aP (by omega))
  have e1 := (jE p_m.fNext (by omega))
  have e2 := (jE p_m.bg (by omega))
  simp only [aeL,abY,Mo.den,aJ,aN,aK,aQ,e0,e1,e2,Option.bind_some,List.length_nil]
  all_goals (cases p_m; rfl)
end Go.Proofs.YtdnafbfmaphhhaaGreatDoor
set_option linter.unusedSimpArgs false
set_option linter.unusedVariables false
namespace Go.Proofs.YtdnafbfmaphhhaaGreatDoor
open Go.RowKit
mutual
noncomputable def wrF:Lf → ByteArray
  | .int _ n=>DU n
  | .str s=>DU (s.size:Int) ++ s
  | .bool b=>if b then ⟨#[1]⟩ else ⟨#[0]⟩
  | .rows _ l=>DU (l.length:Int) ++ wrQ l
noncomputable def wrQ:List (List Lf) → ByteArray
  | []=>ByteArray.empty
  | r :: q=>wrL r ++ wrQ q
noncomputable def wrL:List Lf → ByteArray
  | []=>ByteArray.empty
  | x :: r=>wrF x ++ wrL r
end
theorem lZ (r s:List Lf) : wrL (r ++ s) = wrL r ++ wrL s := by
  induction r with
  | nil=>simp [wrL]
  | cons x r ih=>simp only [List.cons_append,wrL,ih,ByteArray.append_assoc]
theorem VD (b:UInt8) : (⟨#[b]⟩ : ByteArray).size = 1 := rfl
mutual
theorem ain:∀ x:Lf,(wrF x).size ≤ 12 * x.bulk
  | .int _ n=>by have := rO n; simp only [wrF,Lf.bulk]; omega
  | .str s=>by have := rO (s.size:Int); simp only [wrF,Lf.bulk,ByteArray.size_append]; omega
  | .bool b=>by cases b <;> simp [wrF,Lf.bulk,VD]
  | .rows _ l=>by have := rO (l.length:Int); have := acy l; simp only [wrF,Lf.bulk,ByteArray.size_append]; omega
theorem acy:∀ l:List (List Lf),(wrQ l).size ≤ 12 * bD l
  | []=>by simp [wrQ,bD]
  | r :: q=>by have := tZ r; have := acy q; simp only [wrQ,bD,ByteArray.size_append]; omega
theorem tZ:∀ l:List Lf,(wrL l).size ≤ 12 * aV l
  | []=>by simp [wrL,aV]
  | x :: r=>by have := ain x; have := tZ r; simp only [wrL,aV,ByteArray.size_append]; omega
end
/-- m appends s -/
def Ap (m:ay → Option ay) (s:ByteArray) : Prop := ∀ b,b.oZ = true → b.fS.size + s.size ≤ 4611686018427387904 → m b = some ⟨b.fS ++ s,b.zW,b.oZ⟩
theorem Ap.bind {m k:ay → Option ay} {s t:ByteArray} (h:Ap m s) (h2:Ap k t) : Ap (fun b=>(m b).bind k) (s ++ t) := by
  intro b hb hs
  rw [ByteArray.size_append] at hs
  show (m b).bind k = _
  rw [h b hb (by omega),Option.bind_some]
  refine (h2 ⟨b.fS ++ s,b.zW,b.oZ⟩ hb (by simp only [ByteArray.size_append]; omega)).trans ?_
  simp only [ByteArray.append_assoc]
theorem Ap.to {m:ay → Option ay} {s t:ByteArray} (h:Ap m s) (e:s = t) : Ap m t := e ▸ h
theorem Ap.nil:Ap some ByteArray.empty := fun b _ _=>by rw [ByteArray.append_empty]
theorem Ap.of {m k:ay → Option ay} {s:ByteArray} (h:Ap k s) (e:∀ b,b.oZ = true → m b = k b) : Ap m s := fun b hb hs=>by rw [e b hb]; exact h b hb hs
theorem Ap.loop {α:Type} (f : α → List Lf) (l:List α) (g : α → ay → Option ay) (T:Int × ay → Option ((Int × ay) ⊕ ay)) (hl:l.length ≤ 1000000000)
    (hg:∀ x ∈ l,Ap (g x) (wrL (f x)))
    (hT:∀ (k:Nat) s,(∀ x,l[k]? = some x → T ((k:Int),s) = (g x s).bind fun r=>some (.inl (IntKind.wrap .i64 ((k:Int) + 1),r))) ∧ (l[k]? = none → T ((k:Int),s) = some (.inr s))) :
    Ap (fun b=>bJ T FU (0,b)) (wrQ (l.map f)) := by
  intro b hb hs
  have key:∀ (m:List α) (k:Nat) (b:ay) (n:Nat),l.drop k = m → m.length < n → b.oZ = true → b.fS.size + (wrQ (m.map f)).size ≤ 4611686018427387904 →
      bJ T n ((k:Int),b) = some ⟨b.fS ++ wrQ (m.map f),b.zW,b.oZ⟩ := by
    intro m
    induction m with
    | nil =>
      intro k b n hd hn hb hs
      obtain ⟨n,rfl⟩ : ∃ j,n = j + 1 := ⟨n - 1,by simp at hn; omega⟩
      have h1:l[k]? = none := by
        have := congrArg List.length hd
        simp only [List.length_drop,List.length_nil] at this
        rw [List.getElem?_eq_none]; omega
      unfold bJ
      rw [(hT k b).2 h1]
      simp only [List.map_nil,wrQ,ByteArray.append_empty,Option.bind_some]
    | cons x m ih =>
      intro k b n hd hn hb hs
      obtain ⟨n,rfl⟩ : ∃ j,n = j + 1 := ⟨n - 1,by simp at hn; omega⟩
      have h1:l[k]? = some x := by rw [← List.head?_drop,hd]; rfl
      have h2:l.drop (k + 1) = m := by rw [← List.tail_drop,hd]; rfl
      have hk:k < l.length := (List.getElem?_eq_some_iff.1 h1).1
      simp only [List.map_cons,wrQ,ByteArray.size_append] at hs
      unfold bJ
      rw [(hT k b).1 x h1,hg x (List.mem_of_getElem? h1) b hb (by omega)]
      simp only [Option.bind_some]
      rw [inc k (by omega)]
      refine (ih (k + 1) ⟨b.fS ++ wrL (f x),b.zW,b.oZ⟩ n h2 (by simp at hn; omega) hb (by simp only [ByteArray.size_append]; omega)).trans ?_
      simp only [List.map_cons,wrQ,ByteArray.append_assoc]
  exact key l 0 b FU rfl (jM (by omega)) hb hs
theorem fC (n:Int) : Ap (Q17 n) (DU n) := by
  intro b _ hs
  unfold Q17 afl
  simp only [Mo.den,aJ,aQ,JD,Option.bind_some]
  rw [if_pos (by omega)]
theorem nT (s:ByteArray) : Ap (Q64 s) (DU (s.size:Int) ++ s) := by
  intro b hb hs
  rw [ByteArray.size_append] at hs
  unfold Q64 afm
  simp only [Mo.den,aJ,aQ]
  rw [fC _ b hb (by omega)]
  simp only [Option.bind_some,ByteArray.size_append]
  rw [if_pos (by omega)]
  simp only [ByteArray.append_assoc]
theorem l7 (c:Bool) : Ap (Q68 c) (wrF (.bool c)) := by
  intro b hb hs
  unfold Q68 afo
  simp only [Mo.den,aJ,aK,aQ,VD]
  cases c
  · simp only [wrF,cond_false,Bool.false_eq_true,if_false,VD] at hs ⊢; rw [if_pos (by omega)]
  · simp only [wrF,cond_true,if_true,VD] at hs ⊢; rw [if_pos (by omega)]
theorem dU {α:Type} (l:List α) (k:Nat) : (∀ x,l[k]? = some x → decide ((k:Int) < (l.length:Int)) = true ∧ bT l (k:Int) = some x) ∧ (l[k]? = none → decide ((k:Int) < (l.length:Int)) = false) := by
  refine ⟨fun x h=>?_,fun h=>?_⟩
  · have := (List.getElem?_eq_some_iff.1 h).1
    exact ⟨iLt this,by rw [Bo,h]⟩
  · rw [List.getElem?_eq_none_iff] at h
    exact V5 (by omega)
theorem Ap.of' {m k:ay → Option ay} {s t:ByteArray} (e:∀ b,b.oZ = true → m b = k b) (h:Ap k s) (hs:s = t) : Ap m t := hs ▸ Ap.of h e
theorem yu (l:List ByteArray) (hl:l.length ≤ 1000000000) : Ap (Q53 l) (wrF (.rows 1 (l.map lfS))) := by
  have hL:Ap (RF l 0) (wrQ (l.map lfS)) := by
    refine Ap.of' (fun b hb=>by unfold RF; rfl) (Ap.loop lfS l Q64 _ hl (fun x _=>(nT x).to (by simp only [lfS,wrL,wrF,ByteArray.append_empty])) fun k s=>⟨fun x h=>?_,fun h=>?_⟩) rfl
    · obtain ⟨h1,h2⟩ := (dU l k).1 x h
      simp only [BL,Mo.den,aJ,aK,h1,h2,cond_true,Option.bind_some]
    · simp only [BL,Mo.den,aJ,aK,(dU l k).2 h,cond_false]
  refine Ap.of' (fun b hb=>?_) (Ap.bind (fC (l.length:Int)) (Ap.bind hL Ap.nil)) ?_
  · simp only [Q53,afn,Mo.den,aJ]
  · simp only [wrF,List.length_map,ByteArray.append_empty]
end Go.Proofs.YtdnafbfmaphhhaaGreatDoor
set_option linter.unusedSimpArgs false
set_option linter.unusedVariables false
namespace Go.Proofs.YtdnafbfmaphhhaaGreatDoor
open Go.RowKit
theorem acz (x:bY) (hb:aV x.lf1 ≤ 100000000) : Ap (Q71 x) (wrL x.lf1) := by
  have hl := jy x.bW
  rw [jv] at hb
  have hL:Ap (RP x 0) (wrQ (x.bW.map dF.lf)) := by
    refine Ap.of' (fun b hb=>by unfold RP; rfl) (Ap.loop dF.lf x.bW (fun p b=>(Q17 p.fX b).bind fun r=>Q17 p.fY r) _ (by omega) (fun x hx=>(Ap.bind (fC _) (fC _)).to (by simp only [dF.lf,dF.lf1,wrL,wrF,ByteArray.append_empty])) fun k s=>⟨fun y h=>?_,fun h=>?_⟩) rfl
    · obtain ⟨h1,h2⟩ := (dU x.bW k).1 y h
      simp only [Cj,Mo.den,aJ,aK,h1,h2,cond_true,Option.bind_some,Option.bind_assoc]
    · simp only [Cj,Mo.den,aJ,aK,(dU x.bW k).2 h,cond_false]
  refine Ap.of' (fun b hb=>?_) (Ap.bind (fC (x.aT)) (Ap.bind (fC ((x.bW.length:Int))) (Ap.bind hL (Ap.bind (fC (x.fR)) Ap.nil)))) ?_
  · simp only [Q71,afs,Mo.den,aJ,aK]
  · simp only [bY.lf1,wrL,wrF,List.length_map,ByteArray.append_empty,ByteArray.append_assoc]
theorem JE:∀ n,(∀ v:ah,2 * aV v.lf1 < n → aV v.lf1 ≤ 100000000 → Ap ((lT n).m1 v) (wrL v.lf1)) ∧ ∀ l:List ah,2 * bD (l.map ah.lf) + 1 < n → bD (l.map ah.lf) ≤ 100000000 → Ap ((lT n).m2 l) (wrF (.rows 5 (l.map ah.lf)))
  | 0=>⟨fun v h=>by omega,fun l h=>by omega⟩
  | n + 1=>by
    have ih := JE n
    refine ⟨fun x h hb=>?_,fun l h hb=>?_⟩
    · have hl := gZ x.bU
      rw [bQ] at h hb
      have hL:Ap (RJ (lT n) x 0) (wrQ (x.bU.map aO.lf)) := by
        refine Ap.of' (fun b hb=>by unfold RJ; rfl) (Ap.loop aO.lf x.bU (fun p b=>(Q64 p.fName b).bind fun r=>(lT n).m1 p.fValue r) _ (by omega) (fun x hx=>by have h1 := ig hx; rw [gY] at h1; exact (Ap.bind (nT _) (ih.1 _ (by omega) (by omega))).to (by rw [aO.aU]; simp only [aO.lf1,lZ,wrL,wrF,ByteArray.append_empty])) fun k s=>⟨fun y h=>?_,fun h=>?_⟩) rfl
        · obtain ⟨h1,h2⟩ := (dU x.bU k).1 y h
          simp only [Ce,Mo.den,aJ,aK,h1,h2,cond_true,Option.bind_some,Option.bind_assoc]
        · simp only [Ce,Mo.den,aJ,aK,(dU x.bU k).2 h,cond_false]
      refine Ap.of' (fun b hr=>?_) (Ap.bind (fC (x.aT)) (Ap.bind (fC (x.jK)) (Ap.bind (nT (x.fText)) (Ap.bind (ih.2 x.bV (by omega) (by omega)) (Ap.bind (fC ((x.bU.length:Int))) (Ap.bind hL Ap.nil)))))) ?_
      · simp only [lT,Zm,Mo.den,aJ,aK,hr,cond_true]
      · simp only [ah.lf1,wrL,wrF,List.length_map,ByteArray.append_empty,ByteArray.append_assoc]
    · have hl := fZ l
      have hL:Ap (RN (lT n) l 0) (wrQ (l.map ah.lf)) := by
        refine Ap.of' (fun b hb=>by unfold RN; rfl) (Ap.loop ah.lf l (fun p b=>(lT n).m1 p b) _ (by omega) (fun x hx=>by have h1 := ji hx; exact (ih.1 _ (by omega) (by omega)).to (by rw [ah.aU])) fun k s=>⟨fun y h=>?_,fun h=>?_⟩) rfl
        · obtain ⟨h1,h2⟩ := (dU l k).1 y h
          simp only [Ci,Mo.den,aJ,aK,h1,h2,cond_true,Option.bind_some,Option.bind_assoc]
        · simp only [Ci,Mo.den,aJ,aK,(dU l k).2 h,cond_false]
      refine Ap.of' (fun b hr=>?_) (Ap.bind (fC ((l.length:Int))) (Ap.bind hL Ap.nil)) ?_
      · simp only [lT,Zn,Mo.den,aJ,aK]
      · simp only [wrF,List.length_map,ByteArray.append_empty]
theorem mY (v:ah) (hb:aV v.lf1 ≤ 100000000) : Ap (Q25 v) (wrL v.lf1) := (JE FU).1 v (jM (by omega)) hb
theorem Ib (l:List ah) (hb:bD (l.map ah.lf) ≤ 100000000) : Ap (Q59 l) (wrF (.rows 5 (l.map ah.lf))) := (JE FU).2 l (jM (by omega)) hb
theorem acA (n:Nat) : ∀ x:aC,aV x.lf1 < n → aV x.lf1 ≤ 100000000 → Ap ((zM n).m1 x) (wrL x.lf1) := by
  induction n with
  | zero=>intro x h _; omega
  | succ n ih =>
    intro x h hb
    have hl := jf x.aZ
    have hl1 := dD x.cO
    have hl2 := dD x.bP
    rw [fV] at h hb
    have hL:Ap (RQ (zM n) x 0) (wrQ (x.aZ.map aC.lf)) := by
      refine Ap.of' (fun b hb=>by unfold RQ; rfl) (Ap.loop aC.lf x.aZ (fun p b=>(zM n).m1 p b) _ (by omega) (fun x hx=>by have h1 := lq hx; exact (ih _ (by omega) (by omega)).to (by rw [aC.aU])) fun k s=>⟨fun y h=>?_,fun h=>?_⟩) rfl
      · obtain ⟨h1,h2⟩ := (dU x.aZ k).1 y h
        simp only [Cm,Mo.den,aJ,aK,h1,h2,cond_true,Option.bind_some,Option.bind_assoc]
      · simp only [Cm,Mo.den,aJ,aK,(dU x.aZ k).2 h,cond_false]
    refine Ap.of' (fun b hr=>?_) (Ap.bind (fC (x.fOp)) (Ap.bind (yu (x.cO) (by omega)) (Ap.bind (nT (x.fName)) (Ap.bind (yu (x.bP) (by omega)) (Ap.bind (mY (x.fArg) (by omega)) (Ap.bind (fC (x.fN)) (Ap.bind (fC ((x.aZ.length:Int))) (Ap.bind hL Ap.nil)))))))) ?_
    · simp only [zM,Zp,Mo.den,aJ,aK]
    · simp only [aC.lf1,lZ,wrL,wrF,List.length_map,ByteArray.append_empty,ByteArray.append_assoc]
theorem ae3 (v:aC) (hb:aV v.lf1 ≤ 100000000) : Ap (Q66 v) (wrL v.lf1) := acA FU v (jM (by omega)) hb
theorem acB (n:Nat) : ∀ x:aH,aV x.lf1 < n → aV x.lf1 ≤ 100000000 → Ap ((zN n).m1 x) (wrL x.lf1) := by
  induction n with
  | zero=>intro x h _; omega
  | succ n ih =>
    intro x h hb
    have hl := jF x.aZ
    have hl1 := dD x.cO
    rw [gU] at h hb
    have hL:Ap (RS (zN n) x 0) (wrQ (x.aZ.map aH.lf)) := by
      refine Ap.of' (fun b hb=>by unfold RS; rfl) (Ap.loop aH.lf x.aZ (fun p b=>(zN n).m1 p b) _ (by omega) (fun x hx=>by have h1 := mX hx; exact (ih _ (by omega) (by omega)).to (by rw [aH.aU])) fun k s=>⟨fun y h=>?_,fun h=>?_⟩) rfl
      · obtain ⟨h1,h2⟩ := (dU x.aZ k).1 y h
        simp only [CB,Mo.den,aJ,aK,h1,h2,cond_true,Option.bind_some,Option.bind_assoc]
      · simp only [CB,Mo.den,aJ,aK,(dU x.aZ k).2 h,cond_false]
    refine Ap.of' (fun b hr=>?_) (Ap.bind (fC (x.fOp)) (Ap.bind (yu (x.cO) (by omega)) (Ap.bind (mY (x.fArg) (by omega)) (Ap.bind (Ib (x.fArgs) (by omega)) (Ap.bind (fC (x.fN)) (Ap.bind (fC (x.fM)) (Ap.bind (acz (x.eF) (by omega)) (Ap.bind (ae3 (x.fExpr) (by omega)) (Ap.bind (fC ((x.aZ.length:Int))) (Ap.bind hL Ap.nil)))))))))) ?_
    · simp only [zN,Zq,Mo.den,aJ,aK]
    · simp only [aH.lf1,lZ,wrL,wrF,List.length_map,ByteArray.append_empty,ByteArray.append_assoc]
theorem ae4 (v:aH) (hb:aV v.lf1 ≤ 100000000) : Ap (Q67 v) (wrL v.lf1) := acB FU v (jM (by omega)) hb
theorem yw (x:aS) (hb:aV x.lf1 ≤ 100000000) : Ap (Q54 x) (wrL x.lf1) := by
  have hl := jL x.gy
  rw [gK] at hb
  have hL:Ap (RU x 0) (wrQ (x.gy.map aY.lf)) := by
    refine Ap.of' (fun b hb=>by unfold RU; rfl) (Ap.loop aY.lf x.gy (fun p b=>(Q53 p.cO b).bind fun r=>Q68 p.Fj r) _ (by omega) (fun x hx=>by have h1 := kN hx; rw [jr] at h1; have h2 := dD x.cO; exact (Ap.bind (yu _ (by omega)) (l7 _)).to (by simp only [aY.lf,aY.lf1,wrL,ByteArray.append_empty])) fun k s=>⟨fun y h=>?_,fun h=>?_⟩) rfl
    · obtain ⟨h1,h2⟩ := (dU x.gy k).1 y h
      simp only [CG,Mo.den,aJ,aK,h1,h2,cond_true,Option.bind_some,Option.bind_assoc]
    · simp only [CG,Mo.den,aJ,aK,(dU x.gy k).2 h,cond_false]
  refine Ap.of' (fun b hb=>?_) (Ap.bind (nT (x.fName)) (Ap.bind (fC (x.aT)) (Ap.bind (fC ((x.gy.length:Int))) (Ap.bind hL (Ap.bind (l7 (x.iQ)) (Ap.bind (l7 (x.nD)) (Ap.bind (l7 (x.jS)) (Ap.bind (ae4 (x.iU) (by omega)) Ap.nil)))))))) ?_
  · simp only [Q54,aft,Mo.den,aJ,aK]
  · simp only [aS.lf1,lZ,wrL,wrF,List.length_map,ByteArray.append_empty,ByteArray.append_assoc]
theorem TR (n:Nat) : ∀ x:aB,aV x.lf1 < n → aV x.lf1 ≤ 100000000 → Ap ((sF n).m1 x) (wrL x.lf1) := by
  induction n with
  | zero=>intro x h _; omega
  | succ n ih =>
    intro x h hb
    have hl := jO x.dN
    have hl1 := jB x.fG
    have hl2 := dD x.gB
    rw [fJ] at h hb
    have hL:Ap (RV (sF n) x 0) (wrQ (x.dN.map bF.lf)) := by
      refine Ap.of' (fun b hb=>by unfold RV; rfl) (Ap.loop bF.lf x.dN (fun p b=>(Q64 p.fName b).bind fun r=>(sF n).m1 p.fF r) _ (by omega) (fun x hx=>by have h1 := og hx; rw [mg] at h1; exact (Ap.bind (nT _) (ih _ (by omega) (by omega))).to (by rw [bF.aU]; simp only [bF.lf1,lZ,wrL,wrF,ByteArray.append_empty])) fun k s=>⟨fun y h=>?_,fun h=>?_⟩) rfl
      · obtain ⟨h1,h2⟩ := (dU x.dN k).1 y h
        simp only [CJ,Mo.den,aJ,aK,h1,h2,cond_true,Option.bind_some,Option.bind_assoc]
      · simp only [CJ,Mo.den,aJ,aK,(dU x.dN k).2 h,cond_false]
    have hL2:Ap (RX (sF n) x 0) (wrQ (x.fG.map aB.lf)) := by
      refine Ap.of' (fun b hb=>by unfold RX; rfl) (Ap.loop aB.lf x.fG (fun p b=>(sF n).m1 p b) _ (by omega) (fun x hx=>by have h1 := kP hx; exact (ih _ (by omega) (by omega)).to (by rw [aB.aU])) fun k s=>⟨fun y h=>?_,fun h=>?_⟩) rfl
      · obtain ⟨h1,h2⟩ := (dU x.fG k).1 y h
        simp only [CO,Mo.den,aJ,aK,h1,h2,cond_true,Option.bind_some,Option.bind_assoc]
      · simp only [CO,Mo.den,aJ,aK,(dU x.fG k).2 h,cond_false]
    refine Ap.of' (fun b hr=>?_) (Ap.bind (fC (x.jT)) (Ap.bind (l7 (x.kR)) (Ap.bind (mY (x.rU) (by omega)) (Ap.bind (l7 (x.kS)) (Ap.bind (mY (x.rV) (by omega)) (Ap.bind (Ib (x.jU) (by omega)) (Ap.bind (fC (x.kT)) (Ap.bind (fC (x.kU)) (Ap.bind (yu (x.gB) (by omega)) (Ap.bind (fC ((x.dN.length:Int))) (Ap.bind hL (Ap.bind (l7 (x.nG)) (Ap.bind (fC ((x.fG.length:Int))) (Ap.bind hL2 (Ap.bind (l7 (x.iQ)) Ap.nil))))))))))))))) ?_
    · simp only [sF,Zr,Mo.den,aJ,aK]
    · simp only [aB.lf1,lZ,wrL,wrF,List.length_map,ByteArray.append_empty,ByteArray.append_assoc]
theorem XY (v:aB) (hb:aV v.lf1 ≤ 100000000) : Ap (Q46 v) (wrL v.lf1) := TR FU v (jM (by omega)) hb
theorem DW (x:bK) (hb:aV x.lf1 ≤ 100000000) : Ap (Q62 x) (wrL x.lf1) := by
  have hl := jA x.dH
  rw [jw] at hb
  have hL:Ap (RY x 0) (wrQ (x.dH.map aS.lf)) := by
    refine Ap.of' (fun b hb=>by unfold RY; rfl) (Ap.loop aS.lf x.dH (fun p b=>Q54 p b) _ (by omega) (fun x hx=>by have h1 := mD hx; exact yw _ (by omega)) fun k s=>⟨fun y h=>?_,fun h=>?_⟩) rfl
    · obtain ⟨h1,h2⟩ := (dU x.dH k).1 y h
      simp only [CP,Mo.den,aJ,aK,h1,h2,cond_true,Option.bind_some,Option.bind_assoc]
    · simp only [CP,Mo.den,aJ,aK,(dU x.dH k).2 h,cond_false]
  refine Ap.of' (fun b hb=>?_) (Ap.bind (nT (x.fName)) (Ap.bind (fC ((x.dH.length:Int))) (Ap.bind hL (Ap.bind (XY (x.fF) (by omega)) (Ap.bind (fC (x.oH)) (Ap.bind (fC (x.lX)) Ap.nil)))))) ?_
  · simp only [Q62,afu,Mo.den,aJ,aK]
  · simp only [bK.lf1,lZ,wrL,wrF,List.length_map,ByteArray.append_empty,ByteArray.append_assoc]
end Go.Proofs.YtdnafbfmaphhhaaGreatDoor
set_option linter.unusedSimpArgs false
set_option linter.unusedVariables false
namespace Go.Proofs.YtdnafbfmaphhhaaGreatDoor
open Go.RowKit
theorem XZ (n:Nat) : ∀ x:aG,aV x.lf1 < n → aV x.lf1 ≤ 100000000 → Ap ((oM n).m1 x) (wrL x.lf1) := by
  induction n with
  | zero=>intro x h _; omega
  | succ n ih =>
    intro x h hb
    have hl := jC x.dK
    have hl1 := iM x.eu
    rw [iP] at h hb
    have hL:Ap (JC (oM n) x 0) (wrQ (x.dK.map aG.lf)) := by
      refine Ap.of' (fun b hb=>by unfold JC; rfl) (Ap.loop aG.lf x.dK (fun p b=>(oM n).m1 p b) _ (by omega) (fun x hx=>by have h1 := mF hx; exact (ih _ (by omega) (by omega)).to (by rw [aG.aU])) fun k s=>⟨fun y h=>?_,fun h=>?_⟩) rfl
      · obtain ⟨h1,h2⟩ := (dU x.dK k).1 y h
        simp only [xY,Mo.den,aJ,aK,h1,h2,cond_true,Option.bind_some,Option.bind_assoc]
      · simp only [xY,Mo.den,aJ,aK,(dU x.dK k).2 h,cond_false]
    have hL2:Ap (TK (oM n) x 0) (wrQ (x.eu.map lfI)) := by
      refine Ap.of' (fun b hb=>by unfold TK; rfl) (Ap.loop lfI x.eu (fun p b=>Q17 p b) _ (by omega) (fun x hx=>(fC x).to (by simp only [lfI,wrL,wrF,ByteArray.append_empty])) fun k s=>⟨fun y h=>?_,fun h=>?_⟩) rfl
      · obtain ⟨h1,h2⟩ := (dU x.eu k).1 y h
        simp only [DN,Mo.den,aJ,aK,h1,h2,cond_true,Option.bind_some,Option.bind_assoc]
      · simp only [DN,Mo.den,aJ,aK,(dU x.eu k).2 h,cond_false]
    refine Ap.of' (fun b hr=>?_) (Ap.bind (fC (x.aT)) (Ap.bind (nT (x.kJ)) (Ap.bind (mY (x.lY) (by omega)) (Ap.bind (mY (x.bU) (by omega)) (Ap.bind (mY (x.gW) (by omega)) (Ap.bind (DW (x.nY) (by omega)) (Ap.bind (yw (x.bG) (by omega)) (Ap.bind (nT (x.yL)) (Ap.bind (fC (x.fO)) (Ap.bind (fC ((x.dK.length:Int))) (Ap.bind hL (Ap.bind (fC ((x.eu.length:Int))) (Ap.bind hL2 (Ap.bind (l7 (x.kV)) Ap.nil)))))))))))))) ?_
    · simp only [oM,aco,Mo.den,aJ,aK]
    · simp only [aG.lf1,lZ,wrL,wrF,List.length_map,ByteArray.append_empty,ByteArray.append_assoc]
theorem acC (v:aG) (hb:aV v.lf1 ≤ 100000000) : Ap (Q24 v) (wrL v.lf1) := XZ FU v (jM (by omega)) hb
theorem acD (x:au) (hb:aV x.lf1 ≤ 100000000) : Ap (aii x) (wrL x.lf1) := by
  rw [mW] at hb
  refine Ap.of' (fun b hb=>?_) (Ap.bind (fC (x.bC)) (Ap.bind (fC (x.fO)) (Ap.bind (nT (x.jV)) (Ap.bind (fC (x.oI)) (Ap.bind (acC (x.iE) (by omega)) Ap.nil))))) ?_
  · simp only [aii,acp,Mo.den,aJ,aK]
  · simp only [au.lf1,lZ,wrL,wrF,ByteArray.append_empty,ByteArray.append_assoc]
theorem acE (x:au) (hb:aV x.lf1 ≤ 100000000) : acs x = some (wrL x.lf1) := by
  have h1 := tZ x.lf1
  have h2 := acD x hb ⟨⟨#[]⟩,false,true⟩ rfl (by show 0 + _ ≤ _; omega)
  simp only [acs,acr,Mo.den,aJ,aN,bf,aK,aQ,h2,Option.bind_some]
  exact congrArg some ByteArray.empty_append
end Go.Proofs.YtdnafbfmaphhhaaGreatDoor
set_option linter.unusedSimpArgs false
set_option linter.unusedVariables false
namespace Go.Proofs.YtdnafbfmaphhhaaGreatDoor
open Go.RowKit
theorem X0:Q31 = some true := by kernel_rfl
namespace T
theorem aio {p q:Prop} [Decidable p] [Decidable q] : Tot (bif decide p then some true else some (decide q)) (fun b=>b = false → ¬ p ∧ ¬ q) :=
  ite (fun h=>ret (by simp)) (fun h=>ret fun h2=>⟨of_decide_eq_false h,of_decide_eq_false h2⟩)
theorem orc {r:Bool} {p A:Prop} [Decidable p] (hr:r = false → A) : Tot (bif r then some true else some (decide p)) (fun b=>b = false → A ∧ ¬ p) :=
  ite (fun h=>ret (by simp)) (fun h=>ret fun h2=>⟨hr h,of_decide_eq_false h2⟩)
theorem ajw {r:Bool} {x:Bool} {A:Prop} (hr:r = true → A) : Tot (bif r then some x else some false) (fun b=>b = true → A ∧ x = true) :=
  ite (fun h=>ret fun h2=>⟨hr h,h2⟩) (fun h=>ret (by simp))
theorem ajx {r:Bool} {m:Option Bool} {A:Prop} {Q:Prop} (hr:r = true → A) (hm:Tot m (fun b=>b = true → Q)) : Tot (bif r then m.bind fun a=>some a else some false) (fun b=>b = true → A ∧ Q) :=
  ite (fun h=>bind hm fun a ha=>ret fun h2=>⟨hr h,ha h2⟩) (fun h=>ret (by simp))
end T
theorem DX (l:List Int) (most:Int) (hl:l.length ≤ 100000000) : Tot (Q29 l most) (fun b=>b = true → ∀ x ∈ l,0 ≤ x ∧ x ≤ most) := by
  have h1:Tot (Ry l most 0) (LP (fun _=>True) (fun _=>∀ x ∈ l,0 ≤ x ∧ x ≤ most)) := by
    refine T.zX l.length (by omega) (fun k s=>s = (k:Int) ∧ ∀ x ∈ l.take k,0 ≤ x ∧ x ≤ most) _ ⟨rfl,by simp⟩ ?_ ?_
    · rintro k s hk ⟨rfl,hs⟩
      have hx := List.getElem?_eq_getElem hk
      simp only [uN,KU,Mo.den,aJ,aN,bf,aK,aQ,ltt hx,gid hx,cond_true,Option.bind_some]
      refine T.bind T.aio fun b hb=>T.ite (fun _=>T.ret trivial) fun h=>T.ret ⟨inc k (by omega),fun x hx2=>?_⟩
      have hb := hb h
      rw [List.take_succ_eq_append_getElem hk] at hx2
      rcases List.mem_append.1 hx2 with h2 | h2
      · exact hs x h2
      · obtain rfl : x = l[k] := by simpa using h2
        omega
    · rintro s ⟨rfl,hs⟩
      simp only [uN,Mo.den,aJ,aN,bf,aK,aQ,ltn,cond_false]
      rw [List.take_length] at hs
      exact T.ret hs
  unfold Q29 afg
  simp only [Mo.den,aJ,aN,bf,aK,aQ]
  refine T.bind h1 ?_
  rintro (r | r) hr
  · exact T.ret (by simp)
  · exact T.ret fun _=>hr
theorem TS (m:ak) : Tot (Q9 m) (fun b=>b = true → m.aP.length ≤ 16384 ∧ 0 ≤ m.aA ∧ m.aA ≤ m.aP.length) := by
  unfold Q9 YU
  simp only [Mo.den,aJ,aN,bf,aK,aQ]
  refine T.ite (fun _=>T.ret (by simp)) fun h0=>?_
  have h0 := of_decide_eq_false h0
  refine T.bind (R := Any) ?_ ?_
  · refine T.zX m.aP.length (by omega) (fun k s => s.2.2 = (k : Int)) _ rfl ?_ ?_
    · rintro k ⟨a,b,i⟩ hk rfl
      have hx := List.getElem?_eq_getElem hk
      simp only [Q9,YU,uM,uK,BH,qg,uH,Ar,Aq,Mo.den,aJ,aN,bf,aK,aQ,ltt hx,gid hx,cond_true,Option.bind_some]
      refine T.bind (R := Any) (T.wk T.aio) fun r _=>T.bind (R := Any) (T.wk (T.orc (A := True) fun _=>trivial)) fun r _=>T.bind (R := Any) (T.wk (T.orc (A := True) fun _=>trivial)) fun r _=>T.ite (fun _=>T.ret trivial) fun _=>T.ret ?_
      exact inc k (by omega)
    · rintro ⟨a,b,i⟩ rfl
      simp only [Q9,YU,uM,uK,BH,qg,uH,Ar,Aq,Mo.den,aJ,aN,bf,aK,aQ,ltn,cond_false]
      exact T.ret trivial
  · rintro (r | r) _
    · exact T.ret (by simp)
    · simp only [Q9,YU,uM,uK,BH,qg,uH,Ar,Aq,Mo.den,aJ,aN,bf,aK,aQ,Option.bind_some]
      refine T.bind (T.ite (fun h=>T.ret (Q := fun b=>b = true → 0 ≤ m.aA ∧ m.aA ≤ m.aP.length) fun h2=>⟨of_decide_eq_true h,of_decide_eq_true h2⟩) (fun h=>T.ret (by simp))) fun b hb=>T.ret fun h=>⟨by omega,hb h⟩
theorem X3 (s n:Int) (hn:n ≤ 1000) : Tot (adi s n) Any := by
  unfold adi YV
  simp only [Mo.den,aJ,aN,bf,aK,aQ]
  refine T.bind (R := Any) (T.ae2 _ fun a k hk=>?_) fun r _=>T.any
  simp only [Fz,Mo.den,aJ,aN,bf,aK,aQ]
  refine T.ite (fun h=>T.grd (by omega) (T.ret ⟨rfl,?_⟩)) fun _=>T.ret trivial
  have := of_decide_eq_true h; omega
def maj (n:Int) : Int := if n < 1 ∨ 7 < n then 0 else n / 2 + 1
theorem EF (n:Int) : adl n = some (maj n) := by
  simp only [adl,YW,FB,Mo.den,aJ,aN,bf,aK,aQ,maj]
  by_cases h1:n < 1
  · rw [decide_eq_true h1,if_pos (.inl h1)]; rfl
  rw [decide_eq_false h1]
  by_cases h2 : 7 < n
  · rw [decide_eq_true h2,if_pos (.inr h2)]; rfl
  rw [decide_eq_false h2,if_neg (by omega)]
  simp only [cond_false,Option.bind_some]
  obtain ⟨k,rfl⟩ := Int.eq_ofNat_of_zero_le (show 0 ≤ n by omega)
  rw [show Int.tdiv (k:Int) 2 = (k:Int) / 2 from Int.tdiv_eq_ediv_of_nonneg (by omega),w64 (x := (k:Int) / 2) (by omega) (by omega),w64 (by omega) (by omega)]
/-- what is known of a member that is examined -/
structure Good (m:ak) : Prop where
  s1 : 1 ≤ m.dJ
  s7:m.dJ ≤ 7
  i0 : 0 ≤ m.fID
  i1:m.fID < m.dJ
  t0 : 0 ≤ m.bC
  tm : 0 ≤ m.gX
  lg:m.aP.length ≤ 200
  c0 : 0 ≤ m.aA
  c1:m.aA ≤ m.aP.length
  v0 : 0 ≤ m.fQ
  v1:m.fQ < yD .i64 1 m.dJ
  pr:m.dV = 2 → (m.fNext.length:Int) = m.dJ ∧ (m.bg.length:Int) = m.dJ ∧ (∀ x ∈ m.fNext,0 ≤ x ∧ x ≤ m.aP.length) ∧ ∀ x ∈ m.bg,0 ≤ x ∧ x ≤ m.aP.length
theorem acF (m:ak) (hb:aV m.lf1 ≤ 100000000) : Tot (agF m) (fun b=>b = true → Good m) := by
  rw [iY] at hb
  have hl1 := iM m.fNext
  have hl2 := iM m.bg
  simp only [agF,YZ,Mo.den,aJ,aN,bf,aK,aQ]
  refine T.ite (fun h200=>?_) fun _=>T.ret (by simp)
  have h200 := of_decide_eq_true h200
  refine T.bind (R := fun b=>b = true → Good m) ?_ fun b hb=>T.ret hb
  simp only [Q5,aiK,Rz,BI,LD,LC,Lu,Ls,Lr,Lp,Lm,Ll,Lj,Lh,Ld,Lc,La,KZ,KY,UL,UK,Mo.den,aJ,aN,bf,aK,aQ,EF,Option.bind_some]
  refine T.bind T.aio fun r h=>T.bind (T.orc h) fun r h=>T.bind (T.orc h) fun r h=>T.bind (T.orc h) fun r h=>T.bind (T.orc h) fun r h=>T.bind (T.orc h) fun r h=>T.bind (T.orc h) fun r h=>T.bind (T.orc h) fun r h=>T.ite (fun _=>T.ret (by simp)) fun hr=>?_
  have h := h hr
  refine T.bind (R := fun b=>b = false → 0 ≤ m.gX ∧ 0 ≤ m.fQ ∧ m.fQ < yD .i64 1 m.dJ ∧ m.aP.length ≤ 16384 ∧ 0 ≤ m.aA ∧ m.aA ≤ m.aP.length) ?_ fun r2 h2=>T.ite (fun _=>T.ret (by simp)) fun hr2=>?_
  · refine T.ite (fun _ => T.ret (by simp)) fun _ => T.ite (fun _ => T.ret (by simp)) fun _ => T.ite (fun _ => T.ret (by simp)) fun ht => T.ite (fun _ => T.ret (by simp)) fun hv => T.grd (by omega) (T.ite (fun _ => T.ret (by simp)) fun hw => ?_)
    have ht := of_decide_eq_false ht
    have hv := of_decide_eq_false hv
    have hw := of_decide_eq_false hw
    exact T.bind (TS m) fun b hb=>T.ret fun h=>⟨by omega,by omega,by omega,hb (by simpa using h)⟩
  have h2 := h2 hr2
  refine T.bind (R := Any) (T.ite (fun _=>T.ite (fun _=>T.any) fun _=>T.ite (fun _=>T.any) fun _=>T.grd (by omega) T.any) fun _=>T.any) fun _ _=>T.ite (fun _=>T.ret (by simp)) fun _=>?_
  refine T.bind (X3 _ _ (by omega)) fun v _=>?_
  have G:(m.dV = 2 → (m.fNext.length:Int) = m.dJ ∧ (m.bg.length:Int) = m.dJ ∧ (∀ x ∈ m.fNext,0 ≤ x ∧ x ≤ m.aP.length) ∧ ∀ x ∈ m.bg,0 ≤ x ∧ x ≤ m.aP.length) → Good m := fun hp=>⟨by omega,by omega,by omega,by omega,by omega,by omega,by omega,by omega,by omega,by omega,by omega,hp⟩
  refine T.bind (R := LP (fun b=>b = true → Good m) (fun _=>¬ m.dV = 2)) ?_ ?_
  · refine T.ite (fun h1 => ?_) fun _ => T.ite (fun h3 => ?_) fun h3 => T.ret (by show ¬ m.dV = 2; simpa using h3)
    · have h1 : m.dV = 1 := by simpa using h1
      refine T.bind (R := Any) (T.ite (fun _=>T.any) fun _=>T.any) fun _ _=>T.ite (fun _=>T.ret (by show false = true → _; simp)) fun _=>T.ret (by show ¬ m.dV = 2; omega)
    · refine T.bind (R := Any) (T.ite (fun _ => T.any) fun _ => T.any) fun r0 _ => T.bind (T.ajw (A := True) fun _ => trivial) fun r1 k1 => T.bind (T.ajw k1) fun r2 k2 => T.bind (T.ajx k2 (DX _ _ (by omega))) fun r3 k3 => T.bind (T.ajx k3 (DX _ _ (by omega))) fun r4 k4 => T.ret fun h5 => G fun _ => ?_
      have k := k4 h5
      exact ⟨by simpa using k.1.1.1.2,by simpa using k.1.1.2,k.1.2,k.2⟩
  · rintro (b | u) hb2
    · exact T.ret hb2
    · exact T.ite (fun _=>T.ret fun _=>G fun h=>absurd h hb2) fun _=>T.ret (by simp)
theorem iV (l:List au) (hb:bD (l.map au.lf) ≤ 100000000) : Q21 l l = some true := by
  have hl := jP l
  have e1:Tot (TL l l 0) (fun r=>r = .inr ()) := by
    refine T.ae1 l (by omega) _ (fun k x hx=>?_) ?_
    · have hm := rM (jZ hx)
      simp only [xZ,Mo.den,aJ,aN,bf,aK,aQ,ltt hx,gid hx,cond_true,Option.bind_some,acE x (by omega),decide_true,Bool.not_true,cond_false]; exact T.ret rfl
    · simp only [xZ,Mo.den,aJ,aN,bf,aK,aQ,ltn,cond_false]; exact T.ret rfl
  obtain ⟨_,e1,rfl⟩ := e1
  simp only [Q21,af7,Mo.den,aJ,aN,bf,aK,aQ,bne_self_eq_false,cond_false,e1,Option.bind_some]
end Go.Proofs.YtdnafbfmaphhhaaGreatDoor
set_option linter.unusedSimpArgs false
set_option linter.unusedVariables false
namespace Go.Proofs.YtdnafbfmaphhhaaGreatDoor
open Go.RowKit
/-- names -/
theorem mZ (s:ByteArray) : Q18 s = some (nameB s) := by
  unfold Q18 afh IW yO FD FC LJ LH
  simp only [Mo.den,aJ,aN,bf,aK,aQ]
  by_cases h0:s.size < 1
  · rw [decide_eq_true (show (s.size:Int) < 1 by omega),V4 s (by omega)]; rfl
  rw [decide_eq_false (show ¬ (s.size:Int) < 1 by omega)]; simp only [cond_false,Option.bind_some]
  by_cases h1 : 32 < s.size
  · rw [decide_eq_true (show (32:Int) < (s.size:Int) by omega),V3 s h1]; rfl
  rw [decide_eq_false (show ¬ (32:Int) < (s.size:Int) by omega)]; simp only [cond_false]
  have hz:lH s 0 = some s[0] := oN s 0 (by omega)
  rw [hz,Rt s (by omega) (by omega)]
  simp only [Option.bind_some]
  have e36:((s[0].toNat:Int) == 36) = (s[0].toNat == 36) := by rw [Bool.eq_iff_iff]; simp; omega
  rw [e36]
  cases hq:s[0].toNat == 36 with
  | true=>rfl
  | false =>
    simp only [cond_false,Bool.not_false,Bool.true_and]
    refine KL s.size (by omega) (fun n k=>k = n ∧ ∀ i (hi:i < s.size),i < n → Fq s[i].toNat = true) (fun r=>match r with | .inl _=>s.data.toList.all (fun c=>Fq c.toNat) = false | .inr _=>s.data.toList.all (fun c=>Fq c.toNat) = true) ⟨rfl,by omega⟩ ?_ ?_ ?_
    · rintro n k hn ⟨rfl,hv⟩
      simp only [iLt hn,cond_true,oN s n hn,Option.bind_some]
      have hc:Fq s[n].toNat = (decide (33 ≤ s[n].toNat) && decide (s[n].toNat ≤ 126) && !(s[n].toNat == 46)) := rfl
      have e46:((s[n].toNat:Int) == 46) = (s[n].toNat == 46) := by rw [Bool.eq_iff_iff]; simp; omega
      by_cases a1:s[n].toNat < 33
      · rw [decide_eq_true (show (s[n].toNat : Int) < 33 by omega)]; right
        exact ⟨_,rfl,Ru s _ n hn (by rw [hc,decide_eq_false (show ¬ 33 ≤ s[n].toNat by omega)]; rfl)⟩
      rw [decide_eq_false (show ¬ (s[n].toNat:Int) < 33 by omega)]; simp only [cond_false]
      by_cases a2 : 126 < s[n].toNat
      · rw [decide_eq_true (show (126 : Int) < (s[n].toNat : Int) by omega)]; right
        exact ⟨_,rfl,Ru s _ n hn (by rw [hc,decide_eq_false (show ¬ s[n].toNat ≤ 126 by omega),Bool.and_false]; rfl)⟩
      rw [decide_eq_false (show ¬ (126:Int) < (s[n].toNat:Int) by omega),e46]; simp only [cond_false,Option.bind_some]
      cases a3:s[n].toNat == 46 with
      | true=>right; exact ⟨_,rfl,Ru s _ n hn (by rw [hc,a3,Bool.not_true,Bool.and_false])⟩
      | false =>
        left
        refine ⟨_,rfl,inc n (by omega),fun i hi hl=>?_⟩
        rcases Nat.lt_succ_iff_lt_or_eq.1 hl with h3 | rfl
        · exact hv i hi h3
        · rw [hc,a3,decide_eq_true (show 33 ≤ s[i].toNat by omega),decide_eq_true (show s[i].toNat ≤ 126 by omega)]; rfl
    · rintro k ⟨rfl,hv⟩
      exact ⟨.inr (),by simp only [V5 (Nat.lt_irrefl _),cond_false],adb s _ fun i hi=>hv i hi hi⟩
    · rintro (u | u) h2
      · exact congrArg some h2.symm
      · exact congrArg some h2.symm
/-- a path -/
def acG (p:List ByteArray) : Bool := decide (1 ≤ p.length) && decide (p.length ≤ 16) && p.all nameB
theorem acH {α:Type} (f : α → Bool) {l:List α} {k:Nat} {x : α} (h:l[k]? = some x) : (l.take (k + 1)).all f = ((l.take k).all f && f x) := by
  have hk := TQ h
  have:l[k] = x := by rw [List.getElem?_eq_getElem hk] at h; injection h
  rw [List.take_succ_eq_append_getElem hk,List.all_append,this]; simp
theorem aip {α:Type} (f : α → Bool) {l:List α} {k:Nat} {x : α} (h:l[k]? = some x) (hf:f x = false) : l.all f = false := by
  rw [List.all_eq_false]; exact ⟨x,jZ h,by simp [hf]⟩
theorem yx (p:List ByteArray) : Q28 p = some (acG p) := by
  unfold Q28 afi RD BJ LK
  simp only [Mo.den,aJ,aN,bf,aK,aQ,acG]
  by_cases h0:p.length < 1
  · rw [decide_eq_true (show (p.length:Int) < 1 by omega),decide_eq_false (show ¬ 1 ≤ p.length by omega)]; rfl
  rw [decide_eq_false (show ¬ (p.length:Int) < 1 by omega),decide_eq_true (show 1 ≤ p.length by omega)]; simp only [cond_false,Option.bind_some,Bool.true_and]
  by_cases h1 : 16 < p.length
  · rw [decide_eq_true (show (16:Int) < (p.length:Int) by omega),decide_eq_false (show ¬ p.length ≤ 16 by omega)]; rfl
  rw [decide_eq_false (show ¬ (16:Int) < (p.length:Int) by omega),decide_eq_true (show p.length ≤ 16 by omega)]; simp only [cond_false,Bool.true_and]
  refine KL p.length (by omega) (fun n k=>k = n ∧ (p.take n).all nameB = true) (fun r=>match r with | .inl _=>p.all nameB = false | .inr _=>p.all nameB = true) ⟨rfl,by simp⟩ ?_ ?_ ?_
  · rintro n k hn ⟨rfl,hv⟩
    have hx := List.getElem?_eq_getElem hn
    simp only [iLt hn,cond_true,gid hx,Option.bind_some,mZ]
    cases hb:nameB p[n] with
    | false=>right; exact ⟨_,rfl,aip _ hx hb⟩
    | true=>left; exact ⟨_,rfl,inc n (by omega),by rw [acH _ hx,hv,hb]; rfl⟩
  · rintro k ⟨rfl,hv⟩
    exact ⟨.inr (),by simp only [V5 (Nat.lt_irrefl _),cond_false],by rw [List.take_length] at hv; exact hv⟩
  · rintro (u | u) h2
    · exact congrArg some h2.symm
    · exact congrArg some h2.symm
theorem rP (s:ByteArray) : agG s = some (nameB s) := by
  simp only [agG,Y0,Mo.den,aJ,aN,bf,aK,aQ,yx,Option.bind_some,acG,List.length_cons,List.length_nil,List.all_cons,List.all_nil,Bool.and_true]; rfl
/-- the missing value -/
def af8 (v:ah) : Bool := v.aT == 0 && v.jK == 0 && decide (v.fText = ⟨#[]⟩) && (v.bV.length:Int) == 0 && (v.bU.length:Int) == 0
theorem jQ (v:ah) : Q42 v = some (af8 v) := by
  simp only [Q42,afj,FP,FN,FM,LV,LU,Mo.den,aJ,aN,bf,aK,aQ,af8]
  cases v.aT == 0 <;> cases v.jK == 0 <;> cases decide (v.fText = ⟨#[]⟩) <;> cases (v.bV.length:Int) == 0 <;> rfl
/-- parts -/
def parts (v:ah) : List ah := (if v.aT = 6 then v.bV else []) ++ (if v.aT = 5 then v.bU.map aO.fValue else [])
theorem Ic (v:ah) (hb:aV v.lf1 ≤ 100000000) : Q12 v = some (parts v) := by
  have hl := fZ v.bV
  have hd := gZ v.bU
  rw [bQ] at hb
  have h0:IZ v 0 [] = some v.bV := by
    have:Tot (IZ v 0 []) (fun r=>r = v.bV) := by
      refine T.zX v.bV.length (by omega) (fun k s=>s = ((k:Int),v.bV.take k)) _ rfl ?_ ?_
      · rintro k s hk rfl
        have hx := List.getElem?_eq_getElem hk
        simp only [uV,Mo.den,aJ,aN,bf,aK,aQ,ltt hx,gid hx,cond_true,Option.bind_some]
        refine T.grd (by simp only [List.length_take,List.length_cons,List.length_nil]; omega) (T.ret ?_)
        show _ = _
        rw [inc k (by omega),List.take_succ_eq_append_getElem hk]
      · rintro s rfl
        simp only [uV,Mo.den,aJ,aN,bf,aK,aQ,ltn,cond_false]
        exact T.ret (show _ = _ by rw [List.take_length])
    obtain ⟨r,h,rfl⟩ := this; exact h
  have h1:∀ l0:List ah,l0.length ≤ 100000000 → I4 v 0 l0 = some (l0 ++ v.bU.map aO.fValue) := by
    intro l0 hl0
    have:Tot (I4 v 0 l0) (fun r=>r = l0 ++ v.bU.map aO.fValue) := by
      refine T.zX v.bU.length (by omega) (fun k s=>s = ((k:Int),l0 ++ (v.bU.take k).map aO.fValue)) _ (by simp) ?_ ?_
      · rintro k s hk rfl
        have hx := List.getElem?_eq_getElem hk
        simp only [yS,Mo.den,aJ,aN,bf,aK,aQ,ltt hx,gid hx,cond_true,Option.bind_some]
        refine T.grd (by simp only [List.length_append,List.length_map,List.length_take,List.length_cons,List.length_nil]; omega) (T.ret ?_)
        show _ = _
        rw [inc k (by omega),List.take_succ_eq_append_getElem hk,List.map_append,List.append_assoc]; rfl
      · rintro s rfl
        simp only [yS,Mo.den,aJ,aN,bf,aK,aQ,ltn,cond_false]
        exact T.ret (show _ = _ by rw [List.take_length])
    obtain ⟨r,h,rfl⟩ := this; exact h
  unfold Q12 afp RG BN I5 yT parts
  simp only [Mo.den,aJ,aN,bf,aK,aQ,h0]
  by_cases a:v.aT = 6
  · have b : v.aT ≠ 5 := by omega
    rw [show (v.aT == 6) = true by simpa using a,show (v.aT == 5) = false by simpa using b]
    simp [a]
  · rw [show (v.aT == 6) = false by simpa using a]
    by_cases b:v.aT = 5
    · rw [show (v.aT == 5) = true by simpa using b]; simp [a,b,h1]
    · rw [show (v.aT == 5) = false by simpa using b]; simp [a,b]
theorem DY {v x:ah} (h:x ∈ parts v) : aV x.lf1 < aV v.lf1 := by
  rw [bQ v]
  unfold parts at h
  rcases List.mem_append.1 h with h | h
  · split at h
    · have := ji h; omega
    · simp at h
  · split at h
    · obtain ⟨f,hf,rfl⟩ := List.mem_map.1 h
      have := ig hf; rw [gY] at this; omega
    · simp at h
theorem Ie (v:ah) : (parts v).length ≤ aV v.lf1 := by
  have hl := fZ v.bV
  have hd := gZ v.bU
  rw [bQ v]
  unfold parts
  rw [List.length_append]
  split <;> split <;> simp <;> omega
theorem TU (n:Nat) : ∀ (F:Nat) (v:ah) (m:Int),m ≤ n → n < F → aV v.lf1 ≤ 100000000 → n ≤ 100 → Tot ((FT F).m1 v m) Any := by
  induction n using Nat.strongRecOn with
  | _ n ih =>
    intro F v m hm hF hb hn
    obtain ⟨F,rfl⟩ : ∃ G,F = G + 1 := ⟨F - 1,by omega⟩
    have hpl := Ie v
    simp only [FT,Y8,RH,BO,Mo.den,aJ,aN,bf,aK,aQ,Ic v hb,Option.bind_some]
    by_cases h2:m < 2
    · rw [decide_eq_true h2]; exact T.any
    · rw [decide_eq_false h2]
      simp only [cond_false,Option.bind_some]
      refine T.ite (fun _=>T.any) (fun _=>T.bind (R := Any) ?_ (fun r _=>T.any))
      refine T.zX (parts v).length (by omega) (fun k s=>s.2 = (k:Int)) _ rfl ?_ ?_
      · rintro k ⟨a,i⟩ hk rfl
        have hx := List.getElem?_eq_getElem hk
        have hxb := DY (jZ hx)
        simp only [BP,Mo.den,aJ,aN,bf,aK,aQ,ltt hx,gid hx,cond_true,Option.bind_some]
        refine T.bind (ih (n - 1) (by omega) F _ _ (by rw [w64 (by omega) (by omega)]; omega) (by omega) (by omega) (by omega)) fun r _=>T.ret ?_
        exact inc k (by omega)
      · rintro ⟨a,i⟩ rfl
        simp only [BP,Mo.den,aJ,aN,bf,aK,aQ,ltn,cond_false]
        exact T.ret trivial
theorem X4 (n:Nat) : ∀ (F:Nat) (v:ah) (m:Int),m ≤ n → n < F → aV v.lf1 ≤ 100000000 → n ≤ 2000 → Tot ((FW F).m1 v m) (fun r=>1 ≤ r ∧ (r ≤ m ∨ r = 1)) := by
  induction n using Nat.strongRecOn with
  | _ n ih =>
    intro F v m hm hF hb hn
    obtain ⟨F,rfl⟩ : ∃ G,F = G + 1 := ⟨F - 1,by omega⟩
    have hpl := Ie v
    simp only [FW,Zc,Mo.den,aJ,aN,bf,aK,aQ,Ic v hb,Option.bind_some]
    refine T.bind (R := fun r=>1 ≤ r ∧ (r ≤ m ∨ r = 1)) ?_ (fun r h=>T.ret h)
    refine T.zX (parts v).length (by omega) (fun k s=>s.2 = (k:Int) ∧ 1 ≤ s.1 ∧ (s.1 ≤ m ∨ s.1 = 1)) _ ⟨rfl,by show (1:Int) ≤ 1; omega,.inr rfl⟩ ?_ ?_
    · rintro k ⟨a,i⟩ hk ⟨h1,h2,h3⟩
      obtain rfl:i = (k:Int) := h1
      have h2 : 1 ≤ a := h2
      have h3:a ≤ m ∨ a = 1 := h3
      have hx := List.getElem?_eq_getElem hk
      have hxb := DY (jZ hx)
      simp only [vg,BQ,Mo.den,aJ,aN,bf,aK,aQ,ltt hx,gid hx,cond_true,Option.bind_some]
      refine T.ite (fun h=>?_) (fun h=>T.ret ⟨h2,h3⟩)
      have h := of_decide_eq_true h
      refine T.bind (ih (n - 1) (by omega) F _ _ (by rw [w64 (by omega) (by omega)]; omega) (by omega) (by omega) (by omega)) fun r hr=>T.ret ?_
      rw [w64 (by omega) (by omega)] at hr
      exact ⟨inc k (by omega),by rw [w64 (by omega) (by omega)]; omega,by rw [w64 (by omega) (by omega)]; omega⟩
    · rintro ⟨a,i⟩ ⟨h1,h2,h3⟩
      obtain rfl:i = ((parts v).length:Int) := h1
      simp only [vg,BQ,Mo.den,aJ,aN,bf,aK,aQ,ltn,cond_false,Option.bind_some]
      exact T.ret ⟨h2,h3⟩
theorem X5 (v:ah) (hb:aV v.lf1 ≤ 100000000) : Tot (agJ v) Any := by
  simp only [agJ,Y9,Mo.den,aJ,aN,bf,aK,aQ,Q40]
  exact T.bind (TU 17 FU v 17 (by omega) (by have := kQ; omega) hb (by omega)) fun r _=>T.any
theorem X6 (v:ah) (hb:aV v.lf1 ≤ 100000000) : Tot (agL v) Any := by
  simp only [agL,Zd,Mo.den,aJ,aN,bf,aK,aQ,Q41]
  exact T.bind (X4 1025 FU v 1025 (by omega) (by have := kQ; omega) hb (by omega)) fun r _=>T.any
/-- text -/
theorem acI (s:ByteArray) (i:Nat) (n:Int) (hs:s.size ≤ 100000000) (hi:i ≤ 100000000) (h0 : 0 ≤ n) (h1:n ≤ 10) : Tot (Q39 s (i:Int) n) (fun b=>b = true → (i:Int) + n ≤ s.size) := by
  unfold Q39 afq
  simp only [Mo.den,aJ,aN,bf,aK,aQ]
  rw [w64 (by omega) (by omega)]
  refine T.ite (fun _=>T.ret (by simp)) (fun h=>?_)
  have h := of_decide_eq_false h
  obtain ⟨n,rfl⟩ := Int.eq_ofNat_of_zero_le h0
  refine T.bind (R := Any) ?_ ?_
  · refine T.XW n (by omega) _ (fun k hk => ?_) ?_
    · have e:lH s (IntKind.wrap .i64 ((i:Int) + (k:Int))) = some s[i + k] := by
        rw [w64 (by omega) (by omega),show (i:Int) + (k:Int) = ((i + k:Nat) : Int) by omega]; exact oN s _ (by omega)
      simp only [vw,L6,Mo.den,aJ,aN,bf,aK,aQ,iLt hk,cond_true,e,Option.bind_some]
      refine T.bind (R := Any) (T.ite (fun _=>T.any) (fun _=>T.any)) fun b _=>T.ite (fun _=>T.ret trivial) (fun _=>T.ret rfl)
    · simp only [vw,Mo.den,aJ,aN,bf,aK,aQ,ltn,cond_false]
      exact T.ret trivial
  · rintro (r | r) _
    · exact T.ret (by simp)
    · exact T.ret fun _=>by omega
theorem acJ (s:ByteArray) (hs:s.size ≤ 100000000) : Tot (Q1 s) Any := by
  unfold Q1 adu
  simp only [Mo.den,aJ,aN,bf,aK,aQ]
  refine T.bind (R := Any) ?_ (by rintro (r | r) _ <;> exact T.any)
  refine tC (fun v:Int=>0 ≤ v ∧ v ≤ s.size) (fun v:Int=>s.size - v.toNat) Any ?_ FU 0 ⟨by omega,by omega⟩ (by have := kQ; omega)
  rintro v ⟨h0,h1⟩
  obtain ⟨k,rfl⟩ := Int.eq_ofNat_of_zero_le h0
  have key:Tot (mQ s (k:Int)).den (LP (fun v'=>(k:Int) < v' ∧ v' ≤ s.size) Any) := by
    by_cases hk:k < s.size
    · simp only [mQ,Mo.den,aJ,aN,bf,aK,aQ,iLt hk,cond_true,oN s k hk,Option.bind_some]
      refine T.bind (R := LP (fun n:Int=>(n = 0 ∧ s[k].toNat < 128) ∨ (1 ≤ n ∧ n ≤ 3)) Any) ?_ ?_
      · simp only [Q1,adu,Ja,mQ,Cb,BZ,BX,BU,I9,vG,BR,I8,I7,Mo.den,aJ,aN,bf,aK,aQ]
        refine T.ite (fun h => T.ret (.inl ⟨rfl, by have := of_decide_eq_true h; omega⟩)) fun _ => T.bind (R := Any) (T.ite (fun _ => T.any) fun _ => T.any) fun b _ => T.ite (fun _ => T.ret (.inr (by omega))) fun _ =>
          T.bind (R := Any) (T.ite (fun _=>T.any) fun _=>T.any) fun b _=>T.ite (fun _=>T.ret (.inr (by omega))) fun _=>T.bind (R := Any) (T.ite (fun _=>T.any) fun _=>T.any) fun b _=>T.ite (fun _=>T.ret (.inr (by omega))) fun _=>T.ret trivial
      · rintro (n | u) hn
        · have hn:(n = 0 ∧ s[k].toNat < 128) ∨ (1 ≤ n ∧ n ≤ 3) := hn
          simp only
          rw [inc k (by omega)]
          refine T.bind (acI s (k + 1) n hs (by omega) (by omega) (by omega)) fun b hb=>T.ite (fun _=>T.ret trivial) fun h=>?_
          have hb := hb (by simpa using h)
          have e:∀ c:Nat,128 ≤ c → ((s[k].toNat:Int) == (c:Int)) = true → ∃ x,lH s ((k + 1:Nat) : Int) = some x := by
            intro c hc h
            have h:(s[k].toNat:Int) = c := by simpa using h
            exact ⟨_,oN s (k + 1) (by omega)⟩
          simp only [Q1,adu,Ja,mQ,Cb,BZ,BX,BU,I9,vG,BR,I8,I7,Mo.den,aJ,aN,bf,aK,aQ]
          rw [inc k (by omega)]
          refine T.bind (R := Any) (T.ite (fun h=>by obtain ⟨x,hx⟩ := e 224 (by omega) h; rw [hx]; exact T.any) fun _=>T.any) fun b1 _=>?_
          refine T.bind (R := Any) (T.ite (fun h=>T.any) fun _=>T.ite (fun h=>by obtain ⟨x,hx⟩ := e 237 (by omega) h; rw [hx]; exact T.any) fun _=>T.any) fun b2 _=>?_
          refine T.bind (R := Any) (T.ite (fun h=>T.any) fun _=>T.ite (fun h=>by obtain ⟨x,hx⟩ := e 240 (by omega) h; rw [hx]; exact T.any) fun _=>T.any) fun b3 _=>?_
          refine T.bind (R := Any) (T.ite (fun h=>T.any) fun _=>T.ite (fun h=>by obtain ⟨x,hx⟩ := e 244 (by omega) h; rw [hx]; exact T.any) fun _=>T.any) fun b4 _=>?_
          refine T.ite (fun _=>T.ret trivial) fun _=>T.ret ?_
          show (k:Int) < IntKind.wrap .i64 (IntKind.wrap .i64 ((k:Int) + n) + 1) ∧ IntKind.wrap .i64 (IntKind.wrap .i64 ((k:Int) + n) + 1) ≤ s.size
          rw [w64 (x := (k:Int) + n) (by omega) (by omega),w64 (by omega) (by omega)]; omega
        · exact T.ret trivial
    · simp only [mQ,Mo.den,aJ,aN,bf,aK,aQ,V5 hk,cond_false]
      exact T.ret trivial
  obtain ⟨r,h2,h3⟩ := key
  rcases r with v' | r
  · have h3:(k:Int) < v' ∧ v' ≤ s.size := h3
    exact .inl ⟨v',h2,⟨by omega,h3.2⟩,by omega⟩
  · exact .inr ⟨r,h2,trivial⟩
theorem TV (f:Nat) : (∀ v:ah,2 * aV v.lf1 + 1 < f → aV v.lf1 ≤ 100000000 → Tot ((qh f).m1 v true) Any) ∧ ∀ v:ah,2 * aV v.lf1 < f → aV v.lf1 ≤ 100000000 → Tot ((qh f).m2 v true) Any := by
  induction f with
  | zero=>exact ⟨fun v h=>by omega,fun v h=>by omega⟩
  | succ f ih =>
    refine ⟨fun v h hb=>?_,fun v h hb=>?_⟩
    · have hm2 := ih.2 v (by omega) hb
      have hl := fZ v.bV
      have hbv := bQ v
      simp only [qh,Q4,agO,RI,Cc,MP,MO,MN,ML,MK,MJ,MI,MH,MG,MF,MC,MB,UQ,UO,Mo.den,aJ,aN,bf,aK,aQ,Option.bind_some]
      refine T.bind (R := Any) (T.ite (fun _=>T.any) fun _=>T.any) fun _ _=>?_
      refine T.bind (R := Any) (T.ite (fun _=>T.any) fun _=>T.ite (fun _=>T.any) fun _=>T.any) fun _ _=>T.ite (fun _=>T.any) fun _=>?_
      refine T.bind (R := Any) (T.ite (fun _=>T.any) fun _=>T.any) fun _ _=>?_
      refine T.bind (R := Any) (T.ite (fun _=>T.any) fun _=>T.any) fun _ _=>?_
      refine T.bind (R := Any) (T.ite (fun _=>T.any) fun _=>T.any) fun _ _=>?_
      refine T.bind (R := Any) (T.ite (fun _=>T.any) fun _=>T.any) fun _ _=>?_
      refine T.bind (R := Any) (T.ite (fun _=>T.any) fun _=>T.any) fun _ _=>?_
      refine T.bind (R := Any) (T.ite (fun _=>T.any) fun _=>T.ite (fun _=>T.any) fun _=>T.any) fun _ _=>?_
      refine T.bind (R := Any) (T.ite (fun _=>T.any) fun _=>T.any) fun _ _=>?_
      refine T.bind (R := Any) (T.ite (fun _=>T.any) fun _=>T.any) fun _ _=>T.ite (fun _=>T.any) fun _=>?_
      refine T.ite (fun _=>T.bind (R := Any) (T.ite (fun _=>T.any) fun _=>T.any) fun _ _=>T.any) fun _=>T.ite (fun _=>T.any) fun _=>?_
      refine T.ite (fun _=>T.bind (R := Any) (T.ite (fun _=>T.bind (acJ _ (by omega)) fun _ _=>T.any) fun _=>T.any) fun _ _=>T.any) fun _=>T.ite (fun _=>T.any) fun _=>T.ite (fun _=>T.any) fun _=>?_
      refine T.bind (R := Any) ?_ (by rintro (r | r) _; exact T.any; exact T.bind hm2 fun _ _=>T.any)
      refine T.ae1 v.bV (by omega) _ (fun k x hx=>?_) ?_
      · have hxb := ji (jZ hx)
        simp only [ltt hx,gid hx,cond_true,Option.bind_some]
        exact T.bind (ih.1 x (by omega) (by omega)) fun b _=>T.ite (fun _=>T.ret trivial) fun _=>T.ret rfl
      · simp only [ltn,cond_false]; exact T.ret trivial
    · have hl := gZ v.bU
      have hbv := bQ v
      simp only [qh,Q11,Zh,Jc,yX,Jb,yV,F5,MV,MS,Mo.den,aJ,aN,bf,aK,aQ,mZ,cond_true,Option.bind_some,Bool.not_true,cond_false]
      refine T.bind (R := Any) ?_ (by rintro (r | r) _ <;> exact T.any)
      refine T.ae1 v.bU (by omega) _ (fun k x hx=>?_) ?_
      · have hxb := ig (jZ hx)
        have hk := TQ hx
        rw [gY] at hxb
        simp only [ltt hx,gid hx,cond_true,Option.bind_some]
        refine T.bind (R := Any) (T.ite (fun _=>T.any) fun _=>T.any) fun _ _=>?_
        refine T.bind (R := Any) (T.ite (fun _=>T.any) fun _=>T.bind (ih.1 x.fValue (by omega) (by omega)) fun _ _=>T.any) fun _ _=>T.ite (fun _=>T.ret trivial) fun _=>?_
        refine T.bind (R := Any) ?_ (by rintro (r | r) _; exact T.ret trivial; exact T.ret rfl)
        refine T.XW k (by omega) _ (fun j hj=>?_) ?_
        · have hy := List.getElem?_eq_getElem (show j < v.bU.length by omega)
          simp only [iLt hj,gid hy,cond_true,Option.bind_some]
          exact T.ite (fun _=>T.ret trivial) fun _=>T.ret rfl
        · simp only [ltn,cond_false]; exact T.ret trivial
      · simp only [ltn,cond_false]; exact T.ret trivial
theorem jR (v:ah) (hb:aV v.lf1 ≤ 100000000) : Tot (Q90 v) Any := by
  simp only [Q90,afr,Mo.den,aJ,aN,bf,aK,aQ,Q4]
  refine T.bind (X5 v hb) fun _ _=>T.ite (fun _=>T.bind (X6 v hb) fun _ _=>T.ite (fun _=>T.bind ((TV FU).1 v (by have := kQ; omega) hb) fun _ _=>T.any) fun _=>T.any) fun _=>T.any
end Go.Proofs.YtdnafbfmaphhhaaGreatDoor
