/- Printed by dec.py. -/
import Derived.Test.YtdnafbfmaphhhaaGreatDoorQV6
import Derived.Test.YtdnafbfmaphhhaaGreatDoorQV4
import Derived.Test.YtdnafbfmaphhhaaGreatDoorQVName
import Derived.Test.YtdnafbfmaphhhaaGreatDoorQV3
set_option linter.unusedSimpArgs false
set_option linter.unusedVariables false
namespace Go.Proofs.YtdnafbfmaphhhaaGreatDoor
open Go.RowKit
set_option maxRecDepth 20000
set_option maxHeartbeats 4000000
noncomputable section
structure XD where
 m1:(p_p:aO) → Option (aO)
 ok1:∀ p_p,FV (m1 p_p) 235 [.dat (aO.lf1 p_p)] (fun r=>.dat (aO.lf1 r))
 m2:(p_l:List aO) → Option (List aO)
 ok2:∀ p_l,FH (m2 p_l) 287 [.lf (.rows 25 (p_l.map aO.lf)),.raw (.func (.func 235) #[] #[])] [] (fun r=>.lf (.rows 25 (r.map aO.lf))) (fun _=>[])
def XE (R_:XD) (p_p:aO) : Mo (aO) :=
 .cl (zx p_p.dA) fun r0 _ =>
 .cl (qg p_p.fArg) fun r1 _ =>
 .ask (Q73 p_p.fArgs) fun r2 h0 =>
 .say [.ji [] (.lf (.rows 5 (r2.map ak.lf))) [],.rows (p_p.eG.cu.map dH.lf)] (okc (ae2 _ _ h0) (ok1 (by simp [dH.aZ] : p_p.eG.cu.map dH.lf = [] ++ (p_p.eG.cu.map dH.lf)))) <|
 .grd ((([] : List dH).length + p_p.eG.cu.length) * 16 ≤ 140737488355328) fun h1 =>
 .say [] (ok1 (cq_ dH.lf h1)) <|
 .cl (ahW p_p.fExpr) fun r3 _ =>
 .ask (R_.m2 p_p.bC) fun r4 h2 =>
 .say [.ji [] (.lf (.rows 25 (r4.map aO.lf))) [],.at_ 0 0,.frz 2] (ok1 (R_.ok2 _ _ h2)) <|
 .ret (bD 1) (aO.mk p_p.fOp r0 r1 r2 p_p.fN p_p.fM p_p.eG r3 r4)
theorem ae8 (R_:XD) (p_p:aO) : FV (Mo.den (XE R_ p_p)) 235 [.dat (aO.lf1 p_p)] (fun r=>.dat (aO.lf1 r)) := bZ Tryz.func235 (by kernel_rfl) (fun _=>rfl) (by kernel_rfl)
def KI (R_:XD) (p_l:List aO) : (Int × (List aO)) → Mo ((Int × (List aO)) ⊕ ((List aO))) := fun (v0,l0) =>
 .iB (decide ((v0:Int) < (p_l.length:Int))) (.ask (bP p_l v0) fun x0 h0 =>
 .say [.row (aO.lf1 x0)] (ok1 (aX aO.aZ h0)) <|
 .cl (R_.ok1 x0) fun r0 _ =>
 .ask (bP l0 v0) fun x1 h1 =>
 .say [.row (aO.lf1 x1),.rows ((l0.set v0.toNat r0).map aO.lf)] (okc (cO aO.aZ h1) (okc (st_ aO.aZ l0 v0.toNat r0) (ok1 ((aX aO.aZ h1).2)))) <|
 .rt [1,5,14,15,16] 1 (.inl (IntKind.wrap .i64 (v0 + 1),l0.set v0.toNat r0))) <|
 .rt [5] 1 (.inr (l0))
def ZB (R_:XD) (p_l:List aO) (v0:Int) (l0:List aO) : Option (((List aO))) := bM (fun v_=>(KI R_ p_l v_).den) FU (v0,l0)
def XF (R_:XD) (p_l:List aO) : Mo (List aO) :=
 .say [.num p_l.length] (ok1 (ln_ p_l aO.lf)) <|
 .ite ((p_l.length:Int) == 0) (fun c0 =>
 .say [.br true] (ok1 c0) <|
 .ret ⟨[.nil 0 25,.tod 0],[0],[],0⟩ ([])) fun c0 =>
 .say [.br false,.num p_l.length,.rows ((List.replicate (p_l.length:Int).toNat aO.z).map aO.lf),.num p_l.length] (okc c0 (okc (ln_ p_l aO.lf) (ok1 (rp_ aO.aZ (p_l.length:Int).toNat aO.z)))) <|
 .grd ((0:Int) ≤ (p_l.length:Int) ∧ 400 * (p_l.length:Int).toNat ≤ 281474976710656 ∧ (p_l.length:Int).toNat ≤ maxLen) fun h0 =>
 .say [] (okc (mk_ (p_l.length:Int) h0) (ok1 (ln_ p_l aO.lf))) <|
 .lp Tryz.f287 0 [1,1,1,0,1,0] 0 [1,5,14,15,16] 1 (.exit 0) (fun r_=>⟨[(5,.own 0)],[.row 47 25 (r_.map aO.lf)]⟩) (ZB R_ p_l 0 (List.replicate (p_l.length:Int).toNat aO.z)) (lW (fun (v0,l0)=>⟨[(1,.raw (.func (.func 235) #[] #[])),(5,.own 0),(14,.lf (.rows 25 (p_l.map aO.lf))),(15,.i_ (p_l.length:Int)),(16,.i_ v0)],[.row 47 25 (l0.map aO.lf)]⟩) (by kernel_rfl) rfl fun v_=>by kernel_rfl) fun r0 _ =>
 .ret ⟨[.frz 0],[0],[],0⟩ (r0)
theorem ae9 (R_:XD) (p_l:List aO) : FH (Mo.den (XF R_ p_l)) 287 [.lf (.rows 25 (p_l.map aO.lf)),.raw (.func (.func 235) #[] #[])] [] (fun r=>.lf (.rows 25 (r.map aO.lf))) (fun _=>[]) := gX Tryz.func287 (by kernel_rfl) (fun _=>rfl) (by kernel_rfl)
def mF:Nat → XD
 | 0=>{ m1 := fun p_p=>none,ok1 := fun _ _ h=>(by cases h),m2 := fun p_l=>none,ok2 := fun _ _ h=>(by cases h) }
 | n_ + 1=>{ m1 := fun p_p=>Mo.den (XE (mF n_) p_p),ok1 := fun p_p r h=>ae8 (mF n_) p_p r h,m2 := fun p_l=>Mo.den (XF (mF n_) p_l),ok2 := ae9 (mF n_) }
def alF (p_p:aO) : Option (aO) := (mF FU).m1 p_p
theorem ahX (p_p:aO) : FV (alF p_p) 235 [.dat (aO.lf1 p_p)] (fun r=>.dat (aO.lf1 r)) := (mF FU).ok1 p_p
def afa (p_x:aV) : Mo (aV) :=
 .cH [] (alE p_x.gB) fun r0 _ =>
 .ask (alF p_x.jc) fun r1 h0 =>
 .say [.res (.dat (aO.lf1 r1)),.at_ 0 0,.frz 2] (ok1 (ahX _ _ h0)) <|
 .ret (bD 1) (aV.acs (aV.aiK p_x r0) r1)
def ahY (p_x:aV) : Option (aV) := Mo.den (afa p_x)
theorem ZC (p_x:aV) : FV (ahY p_x) 188 [.dat (aV.lf1 p_x)] (fun r=>.dat (aV.lf1 r)) := bZ Tryz.func188 (by kernel_rfl) (fun _=>rfl) (by kernel_rfl)
def UR (p_l:List aV) : (Int × (List aV)) → Mo ((Int × (List aV)) ⊕ ((List aV))) := fun (v0,l0) =>
 .iB (decide ((v0:Int) < (p_l.length:Int))) (.ask (bP p_l v0) fun x0 h0 =>
 .say [.row (aV.lf1 x0)] (ok1 (aX aV.aZ h0)) <|
 .cl (ZC x0) fun r0 _ =>
 .ask (bP l0 v0) fun x1 h1 =>
 .say [.row (aV.lf1 x1),.rows ((l0.set v0.toNat r0).map aV.lf)] (okc (cO aV.aZ h1) (okc (st_ aV.aZ l0 v0.toNat r0) (ok1 ((aX aV.aZ h1).2)))) <|
 .rt [1,5,14,15,16] 1 (.inl (IntKind.wrap .i64 (v0 + 1),l0.set v0.toNat r0))) <|
 .rt [5] 1 (.inr (l0))
def afb (p_l:List aV) (v0:Int) (l0:List aV) : Option (((List aV))) := bM (fun v_=>(UR p_l v_).den) FU (v0,l0)
def ajx (p_l:List aV) : Mo (List aV) :=
 .say [.num p_l.length] (ok1 (ln_ p_l aV.lf)) <|
 .ite ((p_l.length:Int) == 0) (fun c0 =>
 .say [.br true] (okc c0 (ok1 (by simp [aV.aZ] : (([] : List aV).map aV.lf) = []))) <|
 .ret ⟨[.Hr 0 49 31,.kE 0 (([] : List aV).map aV.lf),.mvn 0],[0],[(1,0)],1⟩ (([] : List aV))) fun c0 =>
 .say [.br false,.num p_l.length,.rows ((List.replicate (p_l.length:Int).toNat aV.z).map aV.lf),.num p_l.length] (okc c0 (okc (ln_ p_l aV.lf) (ok1 (rp_ aV.aZ (p_l.length:Int).toNat aV.z)))) <|
 .grd ((0:Int) ≤ (p_l.length:Int) ∧ 456 * (p_l.length:Int).toNat ≤ 281474976710656 ∧ (p_l.length:Int).toNat ≤ maxLen) fun h0 =>
 .say [] (okc (mk_ (p_l.length:Int) h0) (ok1 (ln_ p_l aV.lf))) <|
 .lp Tryz.f231 0 [1,1,1,0,1,0] 0 [1,5,14,15,16] 1 (.exit 0) (fun r_=>⟨[(5,.own 0)],[.row 49 31 (r_.map aV.lf)]⟩) (afb p_l 0 (List.replicate (p_l.length:Int).toNat aV.z)) (lW (fun (v0,l0)=>⟨[(1,.raw (.func (.func 188) #[] #[])),(5,.own 0),(14,.lf (.rows 31 (p_l.map aV.lf))),(15,.i_ (p_l.length:Int)),(16,.i_ v0)],[.row 49 31 (l0.map aV.lf)]⟩) (by kernel_rfl) rfl fun v_=>by kernel_rfl) fun r0 _ =>
 .ret ⟨[.mvn 0],[0],[(1,0)],1⟩ (r0)
def Q92 (p_l:List aV) : Option (List aV) := Mo.den (ajx p_l)
theorem alG (p_l:List aV) : FH (Q92 p_l) 231 [.lf (.rows 31 (p_l.map aV.lf)),.raw (.func (.func 188) #[] #[])] [] (fun _=>.own 0) (fun r=>[.row 49 31 (r.map aV.lf)]) := gX Tryz.func231 (by kernel_rfl) (fun _=>rfl) (by kernel_rfl)
structure BF where
 m1:(p_s:aB) → Option (aB)
 ok1:∀ p_s,FV (m1 p_s) 232 [.dat (aB.lf1 p_s)] (fun r=>.dat (aB.lf1 r))
 m2:(p_l:List bH) → Option (List bH)
 ok2:∀ p_l,FH (m2 p_l) 283 [.lf (.rows 22 (p_l.map bH.lf)),.raw (.func (.func 284) #[] #[])] [] (fun r=>.lf (.rows 22 (r.map bH.lf))) (fun _=>[])
 m3:(p_l:List aB) → Option (List aB)
 ok3:∀ p_l,FH (m3 p_l) 285 [.lf (.rows 21 (p_l.map aB.lf)),.raw (.func (.func 232) #[] #[])] [] (fun r=>.lf (.rows 21 (r.map aB.lf))) (fun _=>[])
 m4:(p_p:bH) → Option (bH)
 ok4:∀ p_p,FV (m4 p_p) 284 [.dat (bH.lf1 p_p)] (fun r=>.dat (bH.lf1 r))
def XG (R_:BF) (p_s:aB) : Mo (aB) :=
 .cl (qg p_s.uH) fun r0 _ =>
 .cl (qg p_s.uI) fun r1 _ =>
 .cH [] (ae2 p_s.kH) fun r2 _ =>
 .cl (zx p_s.gG) fun r3 _ =>
 .cH [] (R_.ok2 p_s.dP) fun r4 _ =>
 .cH [] (R_.ok3 p_s.fH) fun r5 _ =>
 .ret (bD 1) (aB.mk p_s.kG p_s.lD r0 p_s.lF r1 r2 p_s.lG p_s.lH r3 r4 p_s.oC r5 p_s.iW)
theorem afc (R_:BF) (p_s:aB) : FV (Mo.den (XG R_ p_s)) 232 [.dat (aB.lf1 p_s)] (fun r=>.dat (aB.lf1 r)) := bZ Tryz.func232 (by kernel_rfl) (fun _=>rfl) (by kernel_rfl)
def KJ (R_:BF) (p_l:List bH) : (Int × (List bH)) → Mo ((Int × (List bH)) ⊕ ((List bH))) := fun (v0,l0) =>
 .iB (decide ((v0:Int) < (p_l.length:Int))) (.ask (bP p_l v0) fun x0 h0 =>
 .say [.row (bH.lf1 x0)] (ok1 (aX bH.aZ h0)) <|
 .cl (R_.ok4 x0) fun r0 _ =>
 .ask (bP l0 v0) fun x1 h1 =>
 .say [.row (bH.lf1 x1),.rows ((l0.set v0.toNat r0).map bH.lf)] (okc (cO bH.aZ h1) (okc (st_ bH.aZ l0 v0.toNat r0) (ok1 ((aX bH.aZ h1).2)))) <|
 .rt [1,5,14,15,16] 1 (.inl (IntKind.wrap .i64 (v0 + 1),l0.set v0.toNat r0))) <|
 .rt [5] 1 (.inr (l0))
def ZE (R_:BF) (p_l:List bH) (v0:Int) (l0:List bH) : Option (((List bH))) := bM (fun v_=>(KJ R_ p_l v_).den) FU (v0,l0)
def XH (R_:BF) (p_l:List bH) : Mo (List bH) :=
 .say [.num p_l.length] (ok1 (ln_ p_l bH.lf)) <|
 .ite ((p_l.length:Int) == 0) (fun c0 =>
 .say [.br true] (ok1 c0) <|
 .ret ⟨[.nil 0 22,.tod 0],[0],[],0⟩ ([])) fun c0 =>
 .say [.br false,.num p_l.length,.rows ((List.replicate (p_l.length:Int).toNat (bH.mk ⟨#[]⟩ aB.z)).map bH.lf),.num p_l.length] (okc c0 (okc (ln_ p_l bH.lf) (ok1 (rp_ bH.aZ (p_l.length:Int).toNat (bH.mk ⟨#[]⟩ aB.z))))) <|
 .grd ((0:Int) ≤ (p_l.length:Int) ∧ 328 * (p_l.length:Int).toNat ≤ 281474976710656 ∧ (p_l.length:Int).toNat ≤ maxLen) fun h0 =>
 .say [] (okc (mk_ (p_l.length:Int) h0) (ok1 (ln_ p_l bH.lf))) <|
 .lp Tryz.f283 0 [1,1,1,0,1,0] 0 [1,5,14,15,16] 1 (.exit 0) (fun r_=>⟨[(5,.own 0)],[.row 217 22 (r_.map bH.lf)]⟩) (ZE R_ p_l 0 (List.replicate (p_l.length:Int).toNat (bH.mk ⟨#[]⟩ aB.z))) (lW (fun (v0,l0)=>⟨[(1,.raw (.func (.func 284) #[] #[])),(5,.own 0),(14,.lf (.rows 22 (p_l.map bH.lf))),(15,.i_ (p_l.length:Int)),(16,.i_ v0)],[.row 217 22 (l0.map bH.lf)]⟩) (by kernel_rfl) rfl fun v_=>by kernel_rfl) fun r0 _ =>
 .ret ⟨[.frz 0],[0],[],0⟩ (r0)
theorem afd (R_:BF) (p_l:List bH) : FH (Mo.den (XH R_ p_l)) 283 [.lf (.rows 22 (p_l.map bH.lf)),.raw (.func (.func 284) #[] #[])] [] (fun r=>.lf (.rows 22 (r.map bH.lf))) (fun _=>[]) := gX Tryz.func283 (by kernel_rfl) (fun _=>rfl) (by kernel_rfl)
def UU (R_:BF) (p_l:List aB) : (Int × (List aB)) → Mo ((Int × (List aB)) ⊕ ((List aB))) := fun (v0,l0) =>
 .iB (decide ((v0:Int) < (p_l.length:Int))) (.ask (bP p_l v0) fun x0 h0 =>
 .say [.row (aB.lf1 x0)] (ok1 (aX aB.aZ h0)) <|
 .cl (R_.ok1 x0) fun r0 _ =>
 .ask (bP l0 v0) fun x1 h1 =>
 .say [.row (aB.lf1 x1),.rows ((l0.set v0.toNat r0).map aB.lf)] (okc (cO aB.aZ h1) (okc (st_ aB.aZ l0 v0.toNat r0) (ok1 ((aX aB.aZ h1).2)))) <|
 .rt [1,5,14,15,16] 1 (.inl (IntKind.wrap .i64 (v0 + 1),l0.set v0.toNat r0))) <|
 .rt [5] 1 (.inr (l0))
def afe (R_:BF) (p_l:List aB) (v0:Int) (l0:List aB) : Option (((List aB))) := bM (fun v_=>(UU R_ p_l v_).den) FU (v0,l0)
def aff (R_:BF) (p_l:List aB) : Mo (List aB) :=
 .say [.num p_l.length] (ok1 (ln_ p_l aB.lf)) <|
 .ite ((p_l.length:Int) == 0) (fun c0 =>
 .say [.br true] (ok1 c0) <|
 .ret ⟨[.nil 0 21,.tod 0],[0],[],0⟩ ([])) fun c0 =>
 .say [.br false,.num p_l.length,.rows ((List.replicate (p_l.length:Int).toNat aB.z).map aB.lf),.num p_l.length] (okc c0 (okc (ln_ p_l aB.lf) (ok1 (rp_ aB.aZ (p_l.length:Int).toNat aB.z)))) <|
 .grd ((0:Int) ≤ (p_l.length:Int) ∧ 312 * (p_l.length:Int).toNat ≤ 281474976710656 ∧ (p_l.length:Int).toNat ≤ maxLen) fun h0 =>
 .say [] (okc (mk_ (p_l.length:Int) h0) (ok1 (ln_ p_l aB.lf))) <|
 .lp Tryz.f285 0 [1,1,1,0,1,0] 0 [1,5,14,15,16] 1 (.exit 0) (fun r_=>⟨[(5,.own 0)],[.row 35 21 (r_.map aB.lf)]⟩) (afe R_ p_l 0 (List.replicate (p_l.length:Int).toNat aB.z)) (lW (fun (v0,l0)=>⟨[(1,.raw (.func (.func 232) #[] #[])),(5,.own 0),(14,.lf (.rows 21 (p_l.map aB.lf))),(15,.i_ (p_l.length:Int)),(16,.i_ v0)],[.row 35 21 (l0.map aB.lf)]⟩) (by kernel_rfl) rfl fun v_=>by kernel_rfl) fun r0 _ =>
 .ret ⟨[.frz 0],[0],[],0⟩ (r0)
theorem ahZ (R_:BF) (p_l:List aB) : FH (Mo.den (aff R_ p_l)) 285 [.lf (.rows 21 (p_l.map aB.lf)),.raw (.func (.func 232) #[] #[])] [] (fun r=>.lf (.rows 21 (r.map aB.lf))) (fun _=>[]) := gX Tryz.func285 (by kernel_rfl) (fun _=>rfl) (by kernel_rfl)
def XI (R_:BF) (p_p:bH) : Mo (bH) :=
 .say [.order [(true,0),(true,1),(true,2),(true,3),(false,4),(true,5),(false,6)] (some 6) []] ok0 <|
 .cl (R_.ok1 p_p.fG) fun r0 _ =>
 .ret (bD 1) (bH.mk p_p.fName r0)
theorem afg (R_:BF) (p_p:bH) : FV (Mo.den (XI R_ p_p)) 284 [.dat (bH.lf1 p_p)] (fun r=>.dat (bH.lf1 r)) := bZ Tryz.func284 (by kernel_rfl) (fun _=>rfl) (by kernel_rfl)
def iO:Nat → BF
 | 0=>{ m1 := fun p_s=>none,ok1 := fun _ _ h=>(by cases h),m2 := fun p_l=>none,ok2 := fun _ _ h=>(by cases h),m3 := fun p_l=>none,ok3 := fun _ _ h=>(by cases h),m4 := fun p_p=>none,ok4 := fun _ _ h=>(by cases h) }
 | n_ + 1=>{ m1 := fun p_s=>Mo.den (XG (iO n_) p_s),ok1 := fun p_s r h=>afc (iO n_) p_s r h,m2 := fun p_l=>Mo.den (XH (iO n_) p_l),ok2 := fun p_l r h=>afd (iO n_) p_l r h,m3 := fun p_l=>Mo.den (aff (iO n_) p_l),ok3 := fun p_l r h=>ahZ (iO n_) p_l r h,m4 := fun p_p=>Mo.den (XI (iO n_) p_p),ok4 := afg (iO n_) }
def alH (p_s:aB) : Option (aB) := (iO FU).m1 p_s
theorem ah0 (p_s:aB) : FV (alH p_s) 232 [.dat (aB.lf1 p_s)] (fun r=>.dat (aB.lf1 r)) := (iO FU).ok1 p_s
def afh (p_d:bQ) : Mo (bQ) :=
 .cH [] (alG p_d.dJ) fun r0 _ =>
 .ask (alH p_d.fG) fun r1 h0 =>
 .say [.res (.dat (aB.lf1 r1)),.at_ 0 0,.frz 2] (ok1 (ah0 _ _ h0)) <|
 .ret (bD 1) (bQ.mk p_d.fName r0 r1 p_d.pK p_d.mV)
def alI (p_d:bQ) : Option (bQ) := Mo.den (afh p_d)
theorem ah1 (p_d:bQ) : FV (alI p_d) 187 [.dat (bQ.lf1 p_d)] (fun r=>.dat (bQ.lf1 r)) := bZ Tryz.func187 (by kernel_rfl) (fun _=>rfl) (by kernel_rfl)
def afi (p_l:List Int) : Mo (List Int) :=
 .say [.rows (p_l.map lfI)] (ok1 (by simp [lfI,lfK] : p_l.map lfI = [] ++ (p_l.map lfI))) <|
 .grd ((([] : List Int).length + p_l.length) * 8 ≤ 140737488355328) fun h0 =>
 .say [] (ok1 (cq_ lfI h0)) <|
 .ret ⟨[.mvn 0],[0],[(1,0)],1⟩ (p_l)
def ah2 (p_l:List Int) : Option (List Int) := Mo.den (afi p_l)
theorem NV (p_l:List Int) : FH (ah2 p_l) 138 [.lf (.rows 1 (p_l.map lfI))] [] (fun _=>.own 0) (fun r=>[.row 3 1 (r.map lfI)]) := gX Tryz.func138 (by kernel_rfl) (fun _=>rfl) (by kernel_rfl)
structure XJ where
 m1:(p_w:aJ) → Option (aJ)
 ok1:∀ p_w,FV (m1 p_w) 137 [.dat (aJ.lf1 p_w)] (fun r=>.dat (aJ.lf1 r))
 m2:(p_l:List aJ) → Option (List aJ)
 ok2:∀ p_l,FH (m2 p_l) 189 [.lf (.rows 78 (p_l.map aJ.lf)),.raw (.func (.func 137) #[] #[])] [] (fun r=>.lf (.rows 78 (r.map aJ.lf))) (fun _=>[])
def XK (R_:XJ) (p_w:aJ) : Mo (aJ) :=
 .cl (qg p_w.mW) fun r0 _ =>
 .cl (qg p_w.bV) fun r1 _ =>
 .cl (qg p_w.gY) fun r2 _ =>
 .cl (ah1 p_w.oW) fun r3 _ =>
 .cl (ZC p_w.aW) fun r4 _ =>
 .cH [] (R_.ok2 p_w.dN) fun r5 _ =>
 .ask (ah2 p_w.eF) fun r6 h0 =>
 .say [.ji [] (.own 0) [.row 3 1 (r6.map lfI)],.at_ 0 0,.frz 2] (ok1 (NV _ _ h0)) <|
 .ret (bD 1) (aJ.mk p_w.aU p_w.kT r0 r1 r2 r3 r4 p_w.Az p_w.fC r5 r6 p_w.lI)
theorem afj (R_:XJ) (p_w:aJ) : FV (Mo.den (XK R_ p_w)) 137 [.dat (aJ.lf1 p_w)] (fun r=>.dat (aJ.lf1 r)) := bZ Tryz.func137 (by kernel_rfl) (fun _=>rfl) (by kernel_rfl)
def KL (R_:XJ) (p_l:List aJ) : (Int × (List aJ)) → Mo ((Int × (List aJ)) ⊕ ((List aJ))) := fun (v0,l0) =>
 .iB (decide ((v0:Int) < (p_l.length:Int))) (.ask (bP p_l v0) fun x0 h0 =>
 .say [.row (aJ.lf1 x0)] (ok1 (aX aJ.aZ h0)) <|
 .cl (R_.ok1 x0) fun r0 _ =>
 .ask (bP l0 v0) fun x1 h1 =>
 .say [.row (aJ.lf1 x1),.rows ((l0.set v0.toNat r0).map aJ.lf)] (okc (cO aJ.aZ h1) (okc (st_ aJ.aZ l0 v0.toNat r0) (ok1 ((aX aJ.aZ h1).2)))) <|
 .rt [1,5,14,15,16] 1 (.inl (IntKind.wrap .i64 (v0 + 1),l0.set v0.toNat r0))) <|
 .rt [5] 1 (.inr (l0))
def ZF (R_:XJ) (p_l:List aJ) (v0:Int) (l0:List aJ) : Option (((List aJ))) := bM (fun v_=>(KL R_ p_l v_).den) FU (v0,l0)
def XL (R_:XJ) (p_l:List aJ) : Mo (List aJ) :=
 .say [.num p_l.length] (ok1 (ln_ p_l aJ.lf)) <|
 .ite ((p_l.length:Int) == 0) (fun c0 =>
 .say [.br true] (ok1 c0) <|
 .ret ⟨[.nil 0 78,.tod 0],[0],[],0⟩ ([])) fun c0 =>
 .say [.br false,.num p_l.length,.rows ((List.replicate (p_l.length:Int).toNat aJ.z).map aJ.lf),.num p_l.length] (okc c0 (okc (ln_ p_l aJ.lf) (ok1 (rp_ aJ.aZ (p_l.length:Int).toNat aJ.z)))) <|
 .grd ((0:Int) ≤ (p_l.length:Int) ∧ 1168 * (p_l.length:Int).toNat ≤ 281474976710656 ∧ (p_l.length:Int).toNat ≤ maxLen) fun h0 =>
 .say [] (okc (mk_ (p_l.length:Int) h0) (ok1 (ln_ p_l aJ.lf))) <|
 .lp Tryz.f189 0 [1,1,1,0,1,0] 0 [1,5,14,15,16] 1 (.exit 0) (fun r_=>⟨[(5,.own 0)],[.row 52 78 (r_.map aJ.lf)]⟩) (ZF R_ p_l 0 (List.replicate (p_l.length:Int).toNat aJ.z)) (lW (fun (v0,l0)=>⟨[(1,.raw (.func (.func 137) #[] #[])),(5,.own 0),(14,.lf (.rows 78 (p_l.map aJ.lf))),(15,.i_ (p_l.length:Int)),(16,.i_ v0)],[.row 52 78 (l0.map aJ.lf)]⟩) (by kernel_rfl) rfl fun v_=>by kernel_rfl) fun r0 _ =>
 .ret ⟨[.frz 0],[0],[],0⟩ (r0)
theorem afk (R_:XJ) (p_l:List aJ) : FH (Mo.den (XL R_ p_l)) 189 [.lf (.rows 78 (p_l.map aJ.lf)),.raw (.func (.func 137) #[] #[])] [] (fun r=>.lf (.rows 78 (r.map aJ.lf))) (fun _=>[]) := gX Tryz.func189 (by kernel_rfl) (fun _=>rfl) (by kernel_rfl)
def mG:Nat → XJ
 | 0=>{ m1 := fun p_w=>none,ok1 := fun _ _ h=>(by cases h),m2 := fun p_l=>none,ok2 := fun _ _ h=>(by cases h) }
 | n_ + 1=>{ m1 := fun p_w=>Mo.den (XK (mG n_) p_w),ok1 := fun p_w r h=>afj (mG n_) p_w r h,m2 := fun p_l=>Mo.den (XL (mG n_) p_l),ok2 := afk (mG n_) }
def anc (p_w:aJ) : Option (aJ) := (mG FU).m1 p_w
theorem ah3 (p_w:aJ) : FV (anc p_w) 137 [.dat (aJ.lf1 p_w)] (fun r=>.dat (aJ.lf1 r)) := (mG FU).ok1 p_w
def afl (p_e:ay) : Mo (ay) :=
 .cl (ah3 p_e.iJ) fun r0 _ =>
 .ret (bD 1) (ay.mk p_e.bf p_e.fC p_e.kJ p_e.pO r0)
def ah4 (p_e:ay) : Option (ay) := Mo.den (afl p_e)
theorem ah5 (p_e:ay) : FV (ah4 p_e) 102 [.dat (ay.lf1 p_e)] (fun r=>.dat (ay.lf1 r)) := bZ Tryz.func102 (by kernel_rfl) (fun _=>rfl) (by kernel_rfl)
def UW (p_l:List ay) : (Int × (List ay)) → Mo ((Int × (List ay)) ⊕ ((List ay))) := fun (v0,l0) =>
 .iB (decide ((v0:Int) < (p_l.length:Int))) (.ask (bP p_l v0) fun x0 h0 =>
 .say [.row (ay.lf1 x0)] (ok1 (aX ay.aZ h0)) <|
 .cl (ah5 x0) fun r0 _ =>
 .ask (bP l0 v0) fun x1 h1 =>
 .say [.row (ay.lf1 x1),.rows ((l0.set v0.toNat r0).map ay.lf)] (okc (cO ay.aZ h1) (okc (st_ ay.aZ l0 v0.toNat r0) (ok1 ((aX ay.aZ h1).2)))) <|
 .rt [1,5,14,15,16] 1 (.inl (IntKind.wrap .i64 (v0 + 1),l0.set v0.toNat r0))) <|
 .rt [5] 1 (.inr (l0))
def afm (p_l:List ay) (v0:Int) (l0:List ay) : Option (((List ay))) := bM (fun v_=>(UW p_l v_).den) FU (v0,l0)
def ajy (p_l:List ay) : Mo (List ay) :=
 .say [.num p_l.length] (ok1 (ln_ p_l ay.lf)) <|
 .ite ((p_l.length:Int) == 0) (fun c0 =>
 .say [.br true] (okc c0 (ok1 (by simp [ay.aZ] : (([] : List ay).map ay.lf) = []))) <|
 .ret ⟨[.Hr 0 54 82,.kE 0 (([] : List ay).map ay.lf),.mvn 0],[0],[(1,0)],1⟩ (([] : List ay))) fun c0 =>
 .say [.br false,.num p_l.length,.rows ((List.replicate (p_l.length:Int).toNat (ay.mk 0 0 ⟨#[]⟩ 0 aJ.z)).map ay.lf),.num p_l.length] (okc c0 (okc (ln_ p_l ay.lf) (ok1 (rp_ ay.aZ (p_l.length:Int).toNat (ay.mk 0 0 ⟨#[]⟩ 0 aJ.z))))) <|
 .grd ((0:Int) ≤ (p_l.length:Int) ∧ 1208 * (p_l.length:Int).toNat ≤ 281474976710656 ∧ (p_l.length:Int).toNat ≤ maxLen) fun h0 =>
 .say [] (okc (mk_ (p_l.length:Int) h0) (ok1 (ln_ p_l ay.lf))) <|
 .lp Tryz.f101 0 [1,1,1,0,1,0] 0 [1,5,14,15,16] 1 (.exit 0) (fun r_=>⟨[(5,.own 0)],[.row 54 82 (r_.map ay.lf)]⟩) (afm p_l 0 (List.replicate (p_l.length:Int).toNat (ay.mk 0 0 ⟨#[]⟩ 0 aJ.z))) (lW (fun (v0,l0)=>⟨[(1,.raw (.func (.func 102) #[] #[])),(5,.own 0),(14,.lf (.rows 82 (p_l.map ay.lf))),(15,.i_ (p_l.length:Int)),(16,.i_ v0)],[.row 54 82 (l0.map ay.lf)]⟩) (by kernel_rfl) rfl fun v_=>by kernel_rfl) fun r0 _ =>
 .ret ⟨[.mvn 0],[0],[(1,0)],1⟩ (r0)
def Q77 (p_l:List ay) : Option (List ay) := Mo.den (ajy p_l)
theorem XM (p_l:List ay) : FH (Q77 p_l) 101 [.lf (.rows 82 (p_l.map ay.lf)),.raw (.func (.func 102) #[] #[])] [] (fun _=>.own 0) (fun r=>[.row 54 82 (r.map ay.lf)]) := gX Tryz.func101 (by kernel_rfl) (fun _=>rfl) (by kernel_rfl)
def afn (p_m:aj) : Mo (aj) :=
 .cH [] (XM p_m.aP) fun r0 _ =>
 .cH [] (NV p_m.fNext) fun r1 _ =>
 .cH [] (NV p_m.bg) fun r2 _ =>
 .ret ⟨[.kill 0,.kill 1,.mvn 2,.mvn 3,.mvn 4],[0],[(5,0),(6,1),(7,2)],3⟩ (aj.pV (aj.qx (aj.nJ p_m r0) r1) r2)
def ah6 (p_m:aj) : Option (aj) := Mo.den (afn p_m)
theorem ZG (p_m:aj) : FH (ah6 p_m) 103 [.dat (aj.lf1 p_m)] [] (fun r=>wF (.agg ((aj.lf1 r).map AV.lf)) [(8,.own 0),(10,.own 1),(11,.own 2)]) (fun r=>[.row 54 82 (r.aP.map ay.lf),.row 3 1 (r.fNext.map lfI),.row 3 1 (r.bg.map lfI)]) := gX Tryz.func103 (by kernel_rfl) (fun _=>rfl) (by kernel_rfl)
def XO (p_m:aj) (p_at:Int) : Mo (aj × bF) :=
 .say [.num p_m.aP.length] (okc (ln_ p_m.aP ay.lf) (ok1 (nK _ _ _:(p_m.aP.drop (if (p_m.aP.length:Int) < (if 0 > (if p_m.au > p_at then p_m.au else p_at) then 0 else (if p_m.au > p_at then p_m.au else p_at)) then (p_m.aP.length:Int) else (if 0 > (if p_m.au > p_at then p_m.au else p_at) then 0 else (if p_m.au > p_at then p_m.au else p_at))).toNat).map ay.lf = ((p_m.aP.map ay.lf).take ((p_m.aP.map ay.lf).length:Int).toNat).drop (if (p_m.aP.length:Int) < (if 0 > (if p_m.au > p_at then p_m.au else p_at) then 0 else (if p_m.au > p_at then p_m.au else p_at)) then (p_m.aP.length:Int) else (if 0 > (if p_m.au > p_at then p_m.au else p_at) then 0 else (if p_m.au > p_at then p_m.au else p_at))).toNat))) <|
 .grd ((0:Int) ≤ (if (p_m.aP.length:Int) < (if 0 > (if p_m.au > p_at then p_m.au else p_at) then 0 else (if p_m.au > p_at then p_m.au else p_at)) then (p_m.aP.length:Int) else (if 0 > (if p_m.au > p_at then p_m.au else p_at) then 0 else (if p_m.au > p_at then p_m.au else p_at))) ∧ (if (p_m.aP.length:Int) < (if 0 > (if p_m.au > p_at then p_m.au else p_at) then 0 else (if p_m.au > p_at then p_m.au else p_at)) then (p_m.aP.length:Int) else (if 0 > (if p_m.au > p_at then p_m.au else p_at) then 0 else (if p_m.au > p_at then p_m.au else p_at))) ≤ (p_m.aP.length:Int) ∧ (p_m.aP.length:Int) ≤ (p_m.aP.length:Int)) fun h0 =>
 .say [] (ok1 (MX _ _ h0:(0:Int) ≤ (if (p_m.aP.length:Int) < (if 0 > (if p_m.au > p_at then p_m.au else p_at) then 0 else (if p_m.au > p_at then p_m.au else p_at)) then (p_m.aP.length:Int) else (if 0 > (if p_m.au > p_at then p_m.au else p_at) then 0 else (if p_m.au > p_at then p_m.au else p_at))) ∧ (if (p_m.aP.length:Int) < (if 0 > (if p_m.au > p_at then p_m.au else p_at) then 0 else (if p_m.au > p_at then p_m.au else p_at)) then (p_m.aP.length:Int) else (if 0 > (if p_m.au > p_at then p_m.au else p_at) then 0 else (if p_m.au > p_at then p_m.au else p_at))) ≤ ((p_m.aP.map ay.lf).length:Int) ∧ ((p_m.aP.map ay.lf).length:Int) ≤ ((p_m.aP.map ay.lf).length:Int))) <|
 .ask (Q77 (p_m.aP.drop (if (p_m.aP.length:Int) < (if 0 > (if p_m.au > p_at then p_m.au else p_at) then 0 else (if p_m.au > p_at then p_m.au else p_at)) then (p_m.aP.length:Int) else (if 0 > (if p_m.au > p_at then p_m.au else p_at) then 0 else (if p_m.au > p_at then p_m.au else p_at))).toNat)) fun r0 h1 =>
 .say [.dL (.q 0 (.q 1 (.q 2 (.q 3 (.q 4 (.q 5 (.q 6 (.q 7 (.q 8 (.alt 9 (.q 10 (.l 11 (.l 12 .fin))) (.l 11 (.l 9 (.q 10 (.l 12 .fin)))))))))))))) (some 12) [3] [.rows ((p_m.aP.drop (if (p_m.aP.length:Int) < (if 0 > (if p_m.au > p_at then p_m.au else p_at) then 0 else (if p_m.au > p_at then p_m.au else p_at)) then (p_m.aP.length:Int) else (if 0 > (if p_m.au > p_at then p_m.au else p_at) then 0 else (if p_m.au > p_at then p_m.au else p_at))).toNat).map ay.lf),.both [.at_ 6 9,.resv 1,.ji [] (.own 0) [.row 54 82 (r0.map ay.lf)],.slot 3] [.at_ 6 11,.resv 1,.slot 3,.ji [] (.own 0) [.row 54 82 (r0.map ay.lf)]]] [2,4,5,6,7] 5 [(2,.ptr 0 0),(4,.ptr 1 0),(5,.ptr 2 0),(6,.i_ (if (p_m.aP.length:Int) < (if 0 > (if p_m.au > p_at then p_m.au else p_at) then 0 else (if p_m.au > p_at then p_m.au else p_at)) then (p_m.aP.length:Int) else (if 0 > (if p_m.au > p_at then p_m.au else p_at) then 0 else (if p_m.au > p_at then p_m.au else p_at)))),(7,.ptr 3 0)] [.box 25 (.dat (aj.lf1 p_m)),.box 25 (Z25),.box 67 (.agg [.i_ 0,.i_ 0,.i_ 0,.bI 82]),.box 67 (.agg [.i_ p_m.fID,.i_ p_m.bf,.i_ (if (p_m.aP.length:Int) < (if 0 > (if p_m.au > p_at then p_m.au else p_at) then 0 else (if p_m.au > p_at then p_m.au else p_at)) then (p_m.aP.length:Int) else (if 0 > (if p_m.au > p_at then p_m.au else p_at) then 0 else (if p_m.au > p_at then p_m.au else p_at))),.own 4]),.row 54 82 (r0.map ay.lf)],.rows ((p_m.aP.take (if (p_m.aP.length:Int) < (if 0 > (if p_m.au > p_at then p_m.au else p_at) then 0 else (if p_m.au > p_at then p_m.au else p_at)) then (p_m.aP.length:Int) else (if 0 > (if p_m.au > p_at then p_m.au else p_at) then 0 else (if p_m.au > p_at then p_m.au else p_at))).toNat).map ay.lf)] (okc (XM _ _ h1) (okc (rf_ ⟨[(2,.ptr 0 0),(4,.ptr 1 0),(5,.ptr 2 0),(6,.i_ (if (p_m.aP.length:Int) < (if 0 > (if p_m.au > p_at then p_m.au else p_at) then 0 else (if p_m.au > p_at then p_m.au else p_at)) then (p_m.aP.length:Int) else (if 0 > (if p_m.au > p_at then p_m.au else p_at) then 0 else (if p_m.au > p_at then p_m.au else p_at)))),(7,.ptr 3 0)],[.box 25 (.dat (aj.lf1 p_m)),.box 25 (Z25),.box 67 (.agg [.i_ 0,.i_ 0,.i_ 0,.bI 82]),.box 67 (.agg [.i_ p_m.fID,.i_ p_m.bf,.i_ (if (p_m.aP.length:Int) < (if 0 > (if p_m.au > p_at then p_m.au else p_at) then 0 else (if p_m.au > p_at then p_m.au else p_at)) then (p_m.aP.length:Int) else (if 0 > (if p_m.au > p_at then p_m.au else p_at) then 0 else (if p_m.au > p_at then p_m.au else p_at))),.own 4]),.row 54 82 (r0.map ay.lf)]⟩) (okc (XM _ _ h1) (okc (rf_ ⟨[(2,.ptr 0 0),(4,.ptr 1 0),(5,.ptr 2 0),(6,.i_ (if (p_m.aP.length:Int) < (if 0 > (if p_m.au > p_at then p_m.au else p_at) then 0 else (if p_m.au > p_at then p_m.au else p_at)) then (p_m.aP.length:Int) else (if 0 > (if p_m.au > p_at then p_m.au else p_at) then 0 else (if p_m.au > p_at then p_m.au else p_at)))),(7,.ptr 3 0)],[.box 25 (.dat (aj.lf1 p_m)),.box 25 (Z25),.box 67 (.agg [.i_ 0,.i_ 0,.i_ 0,.bI 82]),.box 67 (.agg [.i_ p_m.fID,.i_ p_m.bf,.i_ (if (p_m.aP.length:Int) < (if 0 > (if p_m.au > p_at then p_m.au else p_at) then 0 else (if p_m.au > p_at then p_m.au else p_at)) then (p_m.aP.length:Int) else (if 0 > (if p_m.au > p_at then p_m.au else p_at) then 0 else (if p_m.au > p_at then p_m.au else p_at))),.own 4]),.row 54 82 (r0.map ay.lf)]⟩) (ok1 (by first | (simp [ay.aZ]; done) | exact nK _ _ _:(p_m.aP.take (if (p_m.aP.length:Int) < (if 0 > (if p_m.au > p_at then p_m.au else p_at) then 0 else (if p_m.au > p_at then p_m.au else p_at)) then (p_m.aP.length:Int) else (if 0 > (if p_m.au > p_at then p_m.au else p_at) then 0 else (if p_m.au > p_at then p_m.au else p_at))).toNat).map ay.lf = ((p_m.aP.map ay.lf).take (if (p_m.aP.length:Int) < (if 0 > (if p_m.au > p_at then p_m.au else p_at) then 0 else (if p_m.au > p_at then p_m.au else p_at)) then (p_m.aP.length:Int) else (if 0 > (if p_m.au > p_at then p_m.au else p_at) then 0 else (if p_m.au > p_at then p_m.au else p_at))).toNat).drop (0:Int).toNat)))))) <|
 .grd ((0:Int) ≤ 0 ∧ 0 ≤ (if (p_m.aP.length:Int) < (if 0 > (if p_m.au > p_at then p_m.au else p_at) then 0 else (if p_m.au > p_at then p_m.au else p_at)) then (p_m.aP.length:Int) else (if 0 > (if p_m.au > p_at then p_m.au else p_at) then 0 else (if p_m.au > p_at then p_m.au else p_at))) ∧ (if (p_m.aP.length:Int) < (if 0 > (if p_m.au > p_at then p_m.au else p_at) then 0 else (if p_m.au > p_at then p_m.au else p_at)) then (p_m.aP.length:Int) else (if 0 > (if p_m.au > p_at then p_m.au else p_at) then 0 else (if p_m.au > p_at then p_m.au else p_at))) ≤ (p_m.aP.length:Int)) fun h2 =>
 .say [] (ok1 (by simpa using h2:(0:Int) ≤ 0 ∧ 0 ≤ (if (p_m.aP.length:Int) < (if 0 > (if p_m.au > p_at then p_m.au else p_at) then 0 else (if p_m.au > p_at then p_m.au else p_at)) then (p_m.aP.length:Int) else (if 0 > (if p_m.au > p_at then p_m.au else p_at) then 0 else (if p_m.au > p_at then p_m.au else p_at))) ∧ (if (p_m.aP.length:Int) < (if 0 > (if p_m.au > p_at then p_m.au else p_at) then 0 else (if p_m.au > p_at then p_m.au else p_at)) then (p_m.aP.length:Int) else (if 0 > (if p_m.au > p_at then p_m.au else p_at) then 0 else (if p_m.au > p_at then p_m.au else p_at))) ≤ ((p_m.aP.map ay.lf).length:Int))) <|
 .ask (ah6 (aj.nJ p_m (p_m.aP.take (if (p_m.aP.length:Int) < (if 0 > (if p_m.au > p_at then p_m.au else p_at) then 0 else (if p_m.au > p_at then p_m.au else p_at)) then (p_m.aP.length:Int) else (if 0 > (if p_m.au > p_at then p_m.au else p_at) then 0 else (if p_m.au > p_at then p_m.au else p_at))).toNat))) fun r1 h3 =>
 .say [.dL (.q 0 (.alt 1 (.alt 2 (.l 3 (.l 4 .fin)) (.l 3 (.l 2 (.l 4 .fin)))) (.l 2 (.l 1 (.l 3 (.l 4 .fin)))))) (some 4) [1] [.both [.ji [] (ag_ (aj.lf1 r1) [(8,.own 0),(10,.own 1),(11,.own 2)]) [.row 54 82 (r1.aP.map ay.lf),.row 3 1 (r1.fNext.map lfI),.row 3 1 (r1.bg.map lfI)],.both [] []] [.ji [] (ag_ (aj.lf1 r1) [(8,.own 0),(10,.own 1),(11,.own 2)]) [.row 54 82 (r1.aP.map ay.lf),.row 3 1 (r1.fNext.map lfI),.row 3 1 (r1.bg.map lfI)]]] [4,5] 8 [(4,.ptr 1 0),(5,.ptr 2 0)] [.box 25 (.dat (aj.lf1 (aj.nJ p_m (p_m.aP.take (if (p_m.aP.length:Int) < (if 0 > (if p_m.au > p_at then p_m.au else p_at) then 0 else (if p_m.au > p_at then p_m.au else p_at)) then (p_m.aP.length:Int) else (if 0 > (if p_m.au > p_at then p_m.au else p_at) then 0 else (if p_m.au > p_at then p_m.au else p_at))).toNat)))),.box 25 (ag_ (aj.lf1 r1) [(8,.own 5),(10,.own 6),(11,.own 7)]),.box 67 (.agg [.i_ p_m.fID,.i_ p_m.bf,.i_ (if (p_m.aP.length:Int) < (if 0 > (if p_m.au > p_at then p_m.au else p_at) then 0 else (if p_m.au > p_at then p_m.au else p_at)) then (p_m.aP.length:Int) else (if 0 > (if p_m.au > p_at then p_m.au else p_at) then 0 else (if p_m.au > p_at then p_m.au else p_at))),.own 4]),.box 67 (.agg [.i_ p_m.fID,.i_ p_m.bf,.i_ (if (p_m.aP.length:Int) < (if 0 > (if p_m.au > p_at then p_m.au else p_at) then 0 else (if p_m.au > p_at then p_m.au else p_at)) then (p_m.aP.length:Int) else (if 0 > (if p_m.au > p_at then p_m.au else p_at) then 0 else (if p_m.au > p_at then p_m.au else p_at))),.own 4]),.row 54 82 (r0.map ay.lf),.row 54 82 (r1.aP.map ay.lf),.row 3 1 (r1.fNext.map lfI),.row 3 1 (r1.bg.map lfI)]] (okc (ZG _ _ h3) (okc (rf_ ⟨[(4,.ptr 1 0),(5,.ptr 2 0)],[.box 25 (.dat (aj.lf1 (aj.nJ p_m (p_m.aP.take (if (p_m.aP.length:Int) < (if 0 > (if p_m.au > p_at then p_m.au else p_at) then 0 else (if p_m.au > p_at then p_m.au else p_at)) then (p_m.aP.length:Int) else (if 0 > (if p_m.au > p_at then p_m.au else p_at) then 0 else (if p_m.au > p_at then p_m.au else p_at))).toNat)))),.box 25 (ag_ (aj.lf1 r1) [(8,.own 5),(10,.own 6),(11,.own 7)]),.box 67 (.agg [.i_ p_m.fID,.i_ p_m.bf,.i_ (if (p_m.aP.length:Int) < (if 0 > (if p_m.au > p_at then p_m.au else p_at) then 0 else (if p_m.au > p_at then p_m.au else p_at)) then (p_m.aP.length:Int) else (if 0 > (if p_m.au > p_at then p_m.au else p_at) then 0 else (if p_m.au > p_at then p_m.au else p_at))),.own 4]),.box 67 (.agg [.i_ p_m.fID,.i_ p_m.bf,.i_ (if (p_m.aP.length:Int) < (if 0 > (if p_m.au > p_at then p_m.au else p_at) then 0 else (if p_m.au > p_at then p_m.au else p_at)) then (p_m.aP.length:Int) else (if 0 > (if p_m.au > p_at then p_m.au else p_at) then 0 else (if p_m.au > p_at then p_m.au else p_at))),.own 4]),.row 54 82 (r0.map ay.lf),.row 54 82 (r1.aP.map ay.lf),.row 3 1 (r1.fNext.map lfI),.row 3 1 (r1.bg.map lfI)]⟩) (okc (rf_ ⟨[(4,.ptr 1 0),(5,.ptr 2 0)],[.box 25 (.dat (aj.lf1 (aj.nJ p_m (p_m.aP.take (if (p_m.aP.length:Int) < (if 0 > (if p_m.au > p_at then p_m.au else p_at) then 0 else (if p_m.au > p_at then p_m.au else p_at)) then (p_m.aP.length:Int) else (if 0 > (if p_m.au > p_at then p_m.au else p_at) then 0 else (if p_m.au > p_at then p_m.au else p_at))).toNat)))),.box 25 (ag_ (aj.lf1 r1) [(8,.own 5),(10,.own 6),(11,.own 7)]),.box 67 (.agg [.i_ p_m.fID,.i_ p_m.bf,.i_ (if (p_m.aP.length:Int) < (if 0 > (if p_m.au > p_at then p_m.au else p_at) then 0 else (if p_m.au > p_at then p_m.au else p_at)) then (p_m.aP.length:Int) else (if 0 > (if p_m.au > p_at then p_m.au else p_at) then 0 else (if p_m.au > p_at then p_m.au else p_at))),.own 4]),.box 67 (.agg [.i_ p_m.fID,.i_ p_m.bf,.i_ (if (p_m.aP.length:Int) < (if 0 > (if p_m.au > p_at then p_m.au else p_at) then 0 else (if p_m.au > p_at then p_m.au else p_at)) then (p_m.aP.length:Int) else (if 0 > (if p_m.au > p_at then p_m.au else p_at) then 0 else (if p_m.au > p_at then p_m.au else p_at))),.own 4]),.row 54 82 (r0.map ay.lf),.row 54 82 (r1.aP.map ay.lf),.row 3 1 (r1.fNext.map lfI),.row 3 1 (r1.bg.map lfI)]⟩) (okc (ZG _ _ h3) (ok1 (rf_ ⟨[(4,.ptr 1 0),(5,.ptr 2 0)],[.box 25 (.dat (aj.lf1 (aj.nJ p_m (p_m.aP.take (if (p_m.aP.length:Int) < (if 0 > (if p_m.au > p_at then p_m.au else p_at) then 0 else (if p_m.au > p_at then p_m.au else p_at)) then (p_m.aP.length:Int) else (if 0 > (if p_m.au > p_at then p_m.au else p_at) then 0 else (if p_m.au > p_at then p_m.au else p_at))).toNat)))),.box 25 (ag_ (aj.lf1 r1) [(8,.own 5),(10,.own 6),(11,.own 7)]),.box 67 (.agg [.i_ p_m.fID,.i_ p_m.bf,.i_ (if (p_m.aP.length:Int) < (if 0 > (if p_m.au > p_at then p_m.au else p_at) then 0 else (if p_m.au > p_at then p_m.au else p_at)) then (p_m.aP.length:Int) else (if 0 > (if p_m.au > p_at then p_m.au else p_at) then 0 else (if p_m.au > p_at then p_m.au else p_at))),.own 4]),.box 67 (.agg [.i_ p_m.fID,.i_ p_m.bf,.i_ (if (p_m.aP.length:Int) < (if 0 > (if p_m.au > p_at then p_m.au else p_at) then 0 else (if p_m.au > p_at then p_m.au else p_at)) then (p_m.aP.length:Int) else (if 0 > (if p_m.au > p_at then p_m.au else p_at) then 0 else (if p_m.au > p_at then p_m.au else p_at))),.own 4]),.row 54 82 (r0.map ay.lf),.row 54 82 (r1.aP.map ay.lf),.row 3 1 (r1.fNext.map lfI),.row 3 1 (r1.bg.map lfI)]⟩)))))) <|
 .ret ⟨[.kill 0,.kill 1,.kill 2,.kill 3,.mvn 5,.mvn 6,.mvn 7,.mvn 4],[0,1],[(8,0),(9,1),(10,2),(11,3)],4⟩ (r1,bF.mk p_m.fID p_m.bf (if (p_m.aP.length:Int) < (if 0 > (if p_m.au > p_at then p_m.au else p_at) then 0 else (if p_m.au > p_at then p_m.au else p_at)) then (p_m.aP.length:Int) else (if 0 > (if p_m.au > p_at then p_m.au else p_at) then 0 else (if p_m.au > p_at then p_m.au else p_at))) r0)
def ah7 (p_m:aj) (p_at:Int) : Option (aj × bF) := Mo.den (XO p_m p_at)
theorem ZH (p_m:aj) (p_at:Int) : FH (ah7 p_m p_at) 73 [.dat (aj.lf1 p_m),.i_ p_at] [] (fun r=>.tup [wF (.agg ((aj.lf1 r.1).map AV.lf)) [(8,.own 0),(10,.own 1),(11,.own 2)],.agg [.i_ r.2.dX,.i_ r.2.bf,.i_ r.2.fAt,.own 3]]) (fun r=>[.row 54 82 (r.1.aP.map ay.lf),.row 3 1 (r.1.fNext.map lfI),.row 3 1 (r.1.bg.map lfI),.row 54 82 (r.2.aN.map ay.lf)]) := gX Tryz.func73 (by kernel_rfl) (fun _=>rfl) (by kernel_rfl)
def afo (p_l:List ay) : Mo (List ay) :=
 .say [.at_ 4 2,.tod 7] ok0 <|
 .cH [] (ZH (aj.nJ aj.z p_l) 0) fun r0 _ =>
 .ret ⟨[.kill 0,.kill 1,.kill 2,.kill 4,.kill 5,.mvn 3],[0],[(6,0)],1⟩ (r0.2.aN)
def ah8 (p_l:List ay) : Option (List ay) := Mo.den (afo p_l)
theorem ZI (p_l:List ay) : FH (ah8 p_l) 37 [.lf (.rows 82 (p_l.map ay.lf))] [] (fun _=>.own 0) (fun r=>[.row 54 82 (r.map ay.lf)]) := gX Tryz.func37 (by kernel_rfl) (fun _=>rfl) (by kernel_rfl)
def FD (p_b0:aI) (p_x:ah) (r0:Int) : Mo ((Int × Int × Int × Int × Int × Int × Int × Int × Int × Int × Int × Int × (List ay) × (List ay) × (List Int) × (List Int))) :=
 .ite (decide ((r0:Int) < (p_b0.aQ.aP.length:Int))) (fun c0 =>
 .say [.br true,.at_ 8 7,.frz 6,.frz 7,.frz 8,.tod 25] (ok1 c0) <|
 .cH [] (ZH p_b0.aQ r0) fun r1 _ =>
 .ret ⟨[.frz 13],[0,3],[(10,6),(11,7),(12,8)],10⟩ (r1.1.fID,r1.1.bW,r1.1.bf,r1.1.iy,r1.1.dh,r1.1.gK,r1.1.gu,r1.1.dY,r1.1.au,r1.2.dX,r1.2.bf,r1.2.fAt,r1.2.aN,r1.1.aP,r1.1.fNext,r1.1.bg)) fun c0 =>
 .say [.br false] (ok1 c0) <|
 .rt [0,3] 10 (p_b0.aQ.fID,p_b0.aQ.bW,p_b0.aQ.bf,p_b0.aQ.iy,p_b0.aQ.dh,p_b0.aQ.gK,p_b0.aQ.gu,p_b0.aQ.dY,p_b0.aQ.au,p_b0.eP.dX,p_b0.eP.bf,p_b0.eP.fAt,p_b0.eP.aN,p_b0.aQ.aP,p_b0.aQ.fNext,p_b0.aQ.bg)
def NW (p_b0:aI) (p_x:ah) (r0:Int) : Option ((Int × Int × Int × Int × Int × Int × Int × Int × Int × Int × Int × Int × (List ay) × (List ay) × (List Int) × (List Int))) := Mo.den (FD p_b0 p_x r0)
def FI (p_b0:aI) (p_x:ah) (r_:(Int × Int × Int × Int × Int × Int × Int × Int × Int × Int × Int × Int × (List ay) × (List ay) × (List Int) × (List Int))) : St := ⟨[(0,.ptr 0 0),(3,.ptr 5 0)],[.box 97 (.agg [.i_ r_.1,.i_ r_.2.1,.i_ r_.2.2.1,.i_ r_.2.2.2.1,.i_ r_.2.2.2.2.1,.i_ r_.2.2.2.2.2.1,.i_ r_.2.2.2.2.2.2.1,.i_ r_.2.2.2.2.2.2.2.1,.own 6,.i_ r_.2.2.2.2.2.2.2.2.1,.own 7,.own 8,.own 9,.i_ r_.2.2.2.2.2.2.2.2.2.1,.i_ r_.2.2.2.2.2.2.2.2.2.2.1,.i_ r_.2.2.2.2.2.2.2.2.2.2.2.1,.lf (.rows 82 (r_.2.2.2.2.2.2.2.2.2.2.2.2.1.map ay.lf))]),.dead,.dead,.dead,.dead,.box 63 (.dat (ah.lf1 p_x)),.row 54 82 (r_.2.2.2.2.2.2.2.2.2.2.2.2.2.1.map ay.lf),.row 3 1 (r_.2.2.2.2.2.2.2.2.2.2.2.2.2.2.1.map lfI),.row 3 1 (r_.2.2.2.2.2.2.2.2.2.2.2.2.2.2.2.map lfI),.row 63 9 (p_b0.dB.map ah.lf)]⟩
theorem afp {p_b0:aI} {p_x:ah} {r0:Int} {r_:(Int × Int × Int × Int × Int × Int × Int × Int × Int × Int × Int × Int × (List ay) × (List ay) × (List Int) × (List Int))} (h:NW p_b0 p_x r0 = some r_) : fK Tryz.f83 5 [1,0,1,1] (.normal) (FI p_b0 p_x r_) ⟨[(0,.ptr 0 0),(3,.ptr 5 0),(4,.i_ r0),(18,.lf (.bool (decide ((r0:Int) < (p_b0.aQ.aP.length:Int)))))],[.box 97 (ag_ (aI.lf1 p_b0) [(8,.own 6),(10,.own 7),(11,.own 8),(12,.own 9)]),.dead,.dead,.dead,.dead,.box 63 (.dat (ah.lf1 p_x)),.row 54 82 (p_b0.aQ.aP.map ay.lf),.row 3 1 (p_b0.aQ.fNext.map lfI),.row 3 1 (p_b0.aQ.bg.map lfI),.row 63 9 (p_b0.dB.map ah.lf)]⟩ :=
 jh dK (FD p_b0 p_x r0) (fun _=>.normal) (FI p_b0 p_x) (by kernel_rfl) h
def FK (p_b0:aI) (p_x:ah) (r0:(Int × Int × Int × Int × Int × Int × Int × Int × Int × Int × Int × Int × (List ay) × (List ay) × (List Int) × (List Int))) : Mo (((List ay))) :=
 .ite (decide ((IntKind.wrap .i64 ((r0.2.2.2.2.2.2.2.2.2.2.2.2.2.1.length:Int) - p_x.aW) : Int) < (p_x.aN.length:Int))) (fun c0 =>
 .say [.br true] (okc c0 (ok1 (nK _ _ _:(p_x.aN.drop (if (IntKind.wrap .i64 ((r0.2.2.2.2.2.2.2.2.2.2.2.2.2.1.length:Int) - p_x.aW)) > 0 then (IntKind.wrap .i64 ((r0.2.2.2.2.2.2.2.2.2.2.2.2.2.1.length:Int) - p_x.aW)) else 0).toNat).map ay.lf = ((p_x.aN.map ay.lf).take ((p_x.aN.map ay.lf).length:Int).toNat).drop (if (IntKind.wrap .i64 ((r0.2.2.2.2.2.2.2.2.2.2.2.2.2.1.length:Int) - p_x.aW)) > 0 then (IntKind.wrap .i64 ((r0.2.2.2.2.2.2.2.2.2.2.2.2.2.1.length:Int) - p_x.aW)) else 0).toNat))) <|
 .grd ((0:Int) ≤ (if (IntKind.wrap .i64 ((r0.2.2.2.2.2.2.2.2.2.2.2.2.2.1.length:Int) - p_x.aW)) > 0 then (IntKind.wrap .i64 ((r0.2.2.2.2.2.2.2.2.2.2.2.2.2.1.length:Int) - p_x.aW)) else 0) ∧ (if (IntKind.wrap .i64 ((r0.2.2.2.2.2.2.2.2.2.2.2.2.2.1.length:Int) - p_x.aW)) > 0 then (IntKind.wrap .i64 ((r0.2.2.2.2.2.2.2.2.2.2.2.2.2.1.length:Int) - p_x.aW)) else 0) ≤ (p_x.aN.length:Int) ∧ (p_x.aN.length:Int) ≤ (p_x.aN.length:Int)) fun h0 =>
 .say [] (ok1 (MX _ _ h0:(0:Int) ≤ (if (IntKind.wrap .i64 ((r0.2.2.2.2.2.2.2.2.2.2.2.2.2.1.length:Int) - p_x.aW)) > 0 then (IntKind.wrap .i64 ((r0.2.2.2.2.2.2.2.2.2.2.2.2.2.1.length:Int) - p_x.aW)) else 0) ∧ (if (IntKind.wrap .i64 ((r0.2.2.2.2.2.2.2.2.2.2.2.2.2.1.length:Int) - p_x.aW)) > 0 then (IntKind.wrap .i64 ((r0.2.2.2.2.2.2.2.2.2.2.2.2.2.1.length:Int) - p_x.aW)) else 0) ≤ ((p_x.aN.map ay.lf).length:Int) ∧ ((p_x.aN.map ay.lf).length:Int) ≤ ((p_x.aN.map ay.lf).length:Int))) <|
 .ask (ah8 (p_x.aN.drop (if (IntKind.wrap .i64 ((r0.2.2.2.2.2.2.2.2.2.2.2.2.2.1.length:Int) - p_x.aW)) > 0 then (IntKind.wrap .i64 ((r0.2.2.2.2.2.2.2.2.2.2.2.2.2.1.length:Int) - p_x.aW)) else 0).toNat)) fun r1 h1 =>
 .say [.dL (.q 0 (.q 1 (.q 2 (.q 3 (.q 5 (.q 6 (.q 7 (.q 8 (.q 9 (.alt 4 (.l 10 (.l 11 (.q 12 (.q 13 (.l 14 .fin))))) (.l 10 (.l 4 (.l 11 (.q 12 (.q 13 (.l 14 .fin)))))))))))))))) (some 14) [6,10] [.rows ((p_x.aN.drop (if (IntKind.wrap .i64 ((r0.2.2.2.2.2.2.2.2.2.2.2.2.2.1.length:Int) - p_x.aW)) > 0 then (IntKind.wrap .i64 ((r0.2.2.2.2.2.2.2.2.2.2.2.2.2.1.length:Int) - p_x.aW)) else 0).toNat).map ay.lf),.both [.at_ 16 4,.resv 1,.ji [] (.own 0) [.row 54 82 (r1.map ay.lf)],.rows ((r0.2.2.2.2.2.2.2.2.2.2.2.2.2.1 ++ r1).map ay.lf),.slot 10] [.at_ 16 10,.resv 1,.ji [] (.own 0) [.row 54 82 (r1.map ay.lf)],.rows ((r0.2.2.2.2.2.2.2.2.2.2.2.2.2.1 ++ r1).map ay.lf),.slot 10]] [0,3,5] 12 [(0,.ptr 0 0),(3,.ptr 5 0),(5,.ptr 0 0)] [.box 97 (.agg [.i_ r0.1,.i_ r0.2.1,.i_ r0.2.2.1,.i_ r0.2.2.2.1,.i_ r0.2.2.2.2.1,.i_ r0.2.2.2.2.2.1,.i_ r0.2.2.2.2.2.2.1,.i_ r0.2.2.2.2.2.2.2.1,.own 10,.i_ r0.2.2.2.2.2.2.2.2.1,.own 7,.own 8,.own 9,.i_ r0.2.2.2.2.2.2.2.2.2.1,.i_ r0.2.2.2.2.2.2.2.2.2.2.1,.i_ r0.2.2.2.2.2.2.2.2.2.2.2.1,.lf (.rows 82 (r0.2.2.2.2.2.2.2.2.2.2.2.2.1.map ay.lf))]),.dead,.dead,.dead,.dead,.box 63 (.dat (ah.lf1 p_x)),.dead,.row 3 1 (r0.2.2.2.2.2.2.2.2.2.2.2.2.2.2.1.map lfI),.row 3 1 (r0.2.2.2.2.2.2.2.2.2.2.2.2.2.2.2.map lfI),.row 63 9 (p_b0.dB.map ah.lf),.row 54 82 ((r0.2.2.2.2.2.2.2.2.2.2.2.2.2.1 ++ r1).map ay.lf),.row 54 82 (r1.map ay.lf)]] (okc (ZI _ _ h1) (ok1 (by simp [ay.aZ] : (r0.2.2.2.2.2.2.2.2.2.2.2.2.2.1 ++ r1).map ay.lf = (r0.2.2.2.2.2.2.2.2.2.2.2.2.2.1.map ay.lf) ++ (r1.map ay.lf)))) <|
 .grd ((r0.2.2.2.2.2.2.2.2.2.2.2.2.2.1.length + r1.length) * 1208 ≤ 140737488355328) fun h2 =>
 .say [] (okc (by simpa using h2:((r0.2.2.2.2.2.2.2.2.2.2.2.2.2.1.map ay.lf).length + (r1.map ay.lf).length) * 1208 ≤ 140737488355328) (okc (rf_ ⟨[(0,.ptr 0 0),(3,.ptr 5 0),(5,.ptr 0 0)],[.box 97 (.agg [.i_ r0.1,.i_ r0.2.1,.i_ r0.2.2.1,.i_ r0.2.2.2.1,.i_ r0.2.2.2.2.1,.i_ r0.2.2.2.2.2.1,.i_ r0.2.2.2.2.2.2.1,.i_ r0.2.2.2.2.2.2.2.1,.own 10,.i_ r0.2.2.2.2.2.2.2.2.1,.own 7,.own 8,.own 9,.i_ r0.2.2.2.2.2.2.2.2.2.1,.i_ r0.2.2.2.2.2.2.2.2.2.2.1,.i_ r0.2.2.2.2.2.2.2.2.2.2.2.1,.lf (.rows 82 (r0.2.2.2.2.2.2.2.2.2.2.2.2.1.map ay.lf))]),.dead,.dead,.dead,.dead,.box 63 (.dat (ah.lf1 p_x)),.dead,.row 3 1 (r0.2.2.2.2.2.2.2.2.2.2.2.2.2.2.1.map lfI),.row 3 1 (r0.2.2.2.2.2.2.2.2.2.2.2.2.2.2.2.map lfI),.row 63 9 (p_b0.dB.map ah.lf),.row 54 82 ((r0.2.2.2.2.2.2.2.2.2.2.2.2.2.1 ++ r1).map ay.lf),.row 54 82 (r1.map ay.lf)]⟩) (okc (ZI _ _ h1) (okc (by simp [ay.aZ] : (r0.2.2.2.2.2.2.2.2.2.2.2.2.2.1 ++ r1).map ay.lf = (r0.2.2.2.2.2.2.2.2.2.2.2.2.2.1.map ay.lf) ++ (r1.map ay.lf)) (okc (by simpa using h2:((r0.2.2.2.2.2.2.2.2.2.2.2.2.2.1.map ay.lf).length + (r1.map ay.lf).length) * 1208 ≤ 140737488355328) (ok1 (rf_ ⟨[(0,.ptr 0 0),(3,.ptr 5 0),(5,.ptr 0 0)],[.box 97 (.agg [.i_ r0.1,.i_ r0.2.1,.i_ r0.2.2.1,.i_ r0.2.2.2.1,.i_ r0.2.2.2.2.1,.i_ r0.2.2.2.2.2.1,.i_ r0.2.2.2.2.2.2.1,.i_ r0.2.2.2.2.2.2.2.1,.own 10,.i_ r0.2.2.2.2.2.2.2.2.1,.own 7,.own 8,.own 9,.i_ r0.2.2.2.2.2.2.2.2.2.1,.i_ r0.2.2.2.2.2.2.2.2.2.2.1,.i_ r0.2.2.2.2.2.2.2.2.2.2.2.1,.lf (.rows 82 (r0.2.2.2.2.2.2.2.2.2.2.2.2.1.map ay.lf))]),.dead,.dead,.dead,.dead,.box 63 (.dat (ah.lf1 p_x)),.dead,.row 3 1 (r0.2.2.2.2.2.2.2.2.2.2.2.2.2.2.1.map lfI),.row 3 1 (r0.2.2.2.2.2.2.2.2.2.2.2.2.2.2.2.map lfI),.row 63 9 (p_b0.dB.map ah.lf),.row 54 82 ((r0.2.2.2.2.2.2.2.2.2.2.2.2.2.1 ++ r1).map ay.lf),.row 54 82 (r1.map ay.lf)]⟩))))))) <|
 .ret ⟨[],[0,3,5],[(10,6)],10⟩ (r0.2.2.2.2.2.2.2.2.2.2.2.2.2.1 ++ r1)) fun c0 =>
 .say [.br false] (ok1 c0) <|
 .rt [0,3,5] 10 (r0.2.2.2.2.2.2.2.2.2.2.2.2.2.1)
def NY (p_b0:aI) (p_x:ah) (r0:(Int × Int × Int × Int × Int × Int × Int × Int × Int × Int × Int × Int × (List ay) × (List ay) × (List Int) × (List Int))) : Option (((List ay))) := Mo.den (FK p_b0 p_x r0)
def FM (p_b0:aI) (p_x:ah) (r0:(Int × Int × Int × Int × Int × Int × Int × Int × Int × Int × Int × Int × (List ay) × (List ay) × (List Int) × (List Int))) (r_:((List ay))) : St := ⟨[(0,.ptr 0 0),(3,.ptr 5 0),(5,.ptr 0 0)],[.box 97 (.agg [.i_ r0.1,.i_ r0.2.1,.i_ r0.2.2.1,.i_ r0.2.2.2.1,.i_ r0.2.2.2.2.1,.i_ r0.2.2.2.2.2.1,.i_ r0.2.2.2.2.2.2.1,.i_ r0.2.2.2.2.2.2.2.1,.own 6,.i_ r0.2.2.2.2.2.2.2.2.1,.own 7,.own 8,.own 9,.i_ r0.2.2.2.2.2.2.2.2.2.1,.i_ r0.2.2.2.2.2.2.2.2.2.2.1,.i_ r0.2.2.2.2.2.2.2.2.2.2.2.1,.lf (.rows 82 (r0.2.2.2.2.2.2.2.2.2.2.2.2.1.map ay.lf))]),.dead,.dead,.dead,.dead,.box 63 (.dat (ah.lf1 p_x)),.row 54 82 (r_.map ay.lf),.row 3 1 (r0.2.2.2.2.2.2.2.2.2.2.2.2.2.2.1.map lfI),.row 3 1 (r0.2.2.2.2.2.2.2.2.2.2.2.2.2.2.2.map lfI),.row 63 9 (p_b0.dB.map ah.lf)]⟩
theorem afq {p_b0:aI} {p_x:ah} {r0:(Int × Int × Int × Int × Int × Int × Int × Int × Int × Int × Int × Int × (List ay) × (List ay) × (List Int) × (List Int))} {r_:((List ay))} (h:NY p_b0 p_x r0 = some r_) : fK Tryz.f83 5 [1,1,1,0,1,1] (.normal) (FM p_b0 p_x r0 r_) ⟨[(0,.ptr 0 0),(3,.ptr 5 0),(5,.ptr 0 0),(6,.i_ (IntKind.wrap .i64 ((r0.2.2.2.2.2.2.2.2.2.2.2.2.2.1.length:Int) - p_x.aW))),(49,.lf (.bool (decide ((IntKind.wrap .i64 ((r0.2.2.2.2.2.2.2.2.2.2.2.2.2.1.length:Int) - p_x.aW) : Int) < (p_x.aN.length:Int)))))],[.box 97 (.agg [.i_ r0.1,.i_ r0.2.1,.i_ r0.2.2.1,.i_ r0.2.2.2.1,.i_ r0.2.2.2.2.1,.i_ r0.2.2.2.2.2.1,.i_ r0.2.2.2.2.2.2.1,.i_ r0.2.2.2.2.2.2.2.1,.own 6,.i_ r0.2.2.2.2.2.2.2.2.1,.own 7,.own 8,.own 9,.i_ r0.2.2.2.2.2.2.2.2.2.1,.i_ r0.2.2.2.2.2.2.2.2.2.2.1,.i_ r0.2.2.2.2.2.2.2.2.2.2.2.1,.lf (.rows 82 (r0.2.2.2.2.2.2.2.2.2.2.2.2.1.map ay.lf))]),.dead,.dead,.dead,.dead,.box 63 (.dat (ah.lf1 p_x)),.row 54 82 (r0.2.2.2.2.2.2.2.2.2.2.2.2.2.1.map ay.lf),.row 3 1 (r0.2.2.2.2.2.2.2.2.2.2.2.2.2.2.1.map lfI),.row 3 1 (r0.2.2.2.2.2.2.2.2.2.2.2.2.2.2.2.map lfI),.row 63 9 (p_b0.dB.map ah.lf)]⟩ :=
 jh dK (FK p_b0 p_x r0) (fun _=>.normal) (FM p_b0 p_x r0) (by kernel_rfl) h
def ajz (p_x:ah) (p_b0:aI) : Mo (aI) :=
 .ask (Q35 p_x p_b0) fun r0 h0 =>
 .say [.ji [0,1,2,3,4] (.i_ r0) [.box 97 (ag_ (aI.lf1 p_b0) [(8,.own 5),(10,.own 6),(11,.own 7),(12,.own 8)]),.dead,.dead,.dead,.dead,.row 54 82 (p_b0.aQ.aP.map ay.lf),.row 3 1 (p_b0.aQ.fNext.map lfI),.row 3 1 (p_b0.aQ.bg.map lfI),.row 63 9 (p_b0.dB.map ah.lf)],.num p_b0.aQ.aP.length] (okc (NU _ _ _ h0) (ok1 (ln_ p_b0.aQ.aP ay.lf))) <|
 .ask (NW p_b0 p_x r0) fun r1 h1 =>
 .say [.pt_ 1 [0,3,4,18] 10 (.normal) (FI p_b0 p_x r1),.order [(true,0),(true,1),(true,2),(true,3),(true,4),(true,5),(true,6),(true,7),(true,8)] none [],.num r1.2.2.2.2.2.2.2.2.2.2.2.2.2.1.length,.num p_x.aN.length] (okc (afp h1) (okc (ln_ r1.2.2.2.2.2.2.2.2.2.2.2.2.2.1 ay.lf) (ok1 (ln_ p_x.aN ay.lf)))) <|
 .ask (NY p_b0 p_x r1) fun r2 h2 =>
 .say [.pt_ 1 [0,3,5,6,49] 10 (.normal) (FM p_b0 p_x r1 r2),.num p_x.aN.length,.order [(true,0),(true,1),(true,2),(true,3),(true,4),(true,5),(true,6),(true,7),(true,8),(true,9),(true,10),(true,11),(false,12)] (some 12) []] (okc (afq h2) (ok1 (ln_ p_x.aN ay.lf))) <|
 .cH [0,6,7,8,9] (NT p_x true (IntKind.wrap .i64 (p_x.aW + (p_x.aN.length:Int))) (aI.mk (aj.mk r1.1 r1.2.1 r1.2.2.1 r1.2.2.2.1 r1.2.2.2.2.1 r1.2.2.2.2.2.1 r1.2.2.2.2.2.2.1 r1.2.2.2.2.2.2.2.1 r2 (if (if (IntKind.wrap .i64 (p_x.aW + (p_x.aN.length:Int))) < p_x.au then (IntKind.wrap .i64 (p_x.aW + (p_x.aN.length:Int))) else p_x.au) > r1.2.2.2.2.2.2.2.2.1 then (if (IntKind.wrap .i64 (p_x.aW + (p_x.aN.length:Int))) < p_x.au then (IntKind.wrap .i64 (p_x.aW + (p_x.aN.length:Int))) else p_x.au) else r1.2.2.2.2.2.2.2.2.1) r1.2.2.2.2.2.2.2.2.2.2.2.2.2.2.1 r1.2.2.2.2.2.2.2.2.2.2.2.2.2.2.2) p_b0.dB (bF.mk r1.2.2.2.2.2.2.2.2.2.1 r1.2.2.2.2.2.2.2.2.2.2.1 r1.2.2.2.2.2.2.2.2.2.2.2.1 r1.2.2.2.2.2.2.2.2.2.2.2.2.1))) fun r3 _ =>
 .ret ⟨[.kill 5,.mvn 10,.mvn 11,.mvn 12,.mvn 13],[],[(14,5),(15,6),(16,7),(17,8)],9⟩ (r3)
def Q49 (p_x:ah) (p_b0:aI) : Option (aI) := Mo.den (ajz p_x p_b0)
theorem alJ (p_x:ah) (p_b0:aI) : FH (Q49 p_x p_b0) 83 [.ptr 0 0,.dat (ah.lf1 p_x)] [.box 97 (ag_ (aI.lf1 p_b0) [(8,.own 1),(10,.own 2),(11,.own 3),(12,.own 4)]),.row 54 82 (p_b0.aQ.aP.map ay.lf),.row 3 1 (p_b0.aQ.fNext.map lfI),.row 3 1 (p_b0.aQ.bg.map lfI),.row 63 9 (p_b0.dB.map ah.lf)] (fun _=>.tup []) (fun r=>[.box 97 (ag_ (aI.lf1 r) [(8,.own 5),(10,.own 6),(11,.own 7),(12,.own 8)]),.dead,.dead,.dead,.dead,.row 54 82 (r.aQ.aP.map ay.lf),.row 3 1 (r.aQ.fNext.map lfI),.row 3 1 (r.aQ.bg.map lfI),.row 63 9 (r.dB.map ah.lf)]) := gX Tryz.func83 (by kernel_rfl) (fun _=>rfl) (by kernel_rfl)
def UY (p_b0:aI) (p_x:ah) : Mo (Bool) :=
 .say [.order [(true,0),(true,1),(true,2),(true,3),(true,4),(true,5),(true,6),(true,7),(true,8),(true,9),(true,10),(true,11),(true,12),(true,13)] none []] ok0 <|
 .iG 10007 (p_x.bf == p_b0.aQ.bf) (.rt [0,3,4,31] 6 (p_b0.aQ.dh == 2)) <|
 .rt [0,3,4,31] 6 (false)
def FN (p_b0:aI) (p_x:ah) : Mo ((Int × Int × Int × Int × Int × Int × Int × Int × Int × (List ay) × (List Int) × (List Int))) :=
 .ite (decide ((p_b0.aQ.bf:Int) < p_x.bf)) (fun c0 =>
 .say [.br true,.order [(true,0),(true,1),(true,2),(true,4),(true,5),(false,3),(false,6),(true,7),(false,8)] (some 8) [0,6,7,8,9,10,11],.at_ 14 6,.frz 6,.frz 7,.frz 8,.tod 42] (ok1 c0) <|
 .cH [] (NR p_b0.aQ p_x.bf) fun r0 _ =>
 .ret ⟨[],[0,3,4],[(9,6),(10,7),(11,8)],9⟩ (r0.fID,r0.bW,r0.bf,r0.iy,r0.dh,r0.gK,r0.gu,r0.dY,r0.au,r0.aP,r0.fNext,r0.bg)) fun c0 =>
 .say [.br false] (ok1 c0) <|
 .rt [0,3,4] 9 (p_b0.aQ.fID,p_b0.aQ.bW,p_b0.aQ.bf,p_b0.aQ.iy,p_b0.aQ.dh,p_b0.aQ.gK,p_b0.aQ.gu,p_b0.aQ.dY,p_b0.aQ.au,p_b0.aQ.aP,p_b0.aQ.fNext,p_b0.aQ.bg)
def NZ (p_b0:aI) (p_x:ah) : Option ((Int × Int × Int × Int × Int × Int × Int × Int × Int × (List ay) × (List Int) × (List Int))) := Mo.den (FN p_b0 p_x)
def zy (p_b0:aI) (p_x:ah) (r_:(Int × Int × Int × Int × Int × Int × Int × Int × Int × (List ay) × (List Int) × (List Int))) : St := ⟨[(0,.ptr 0 0),(3,.ptr 5 0),(4,.ptr 0 0)],[.box 97 (ag_ (aI.lf1 p_b0) [(0,.i_ r_.1),(1,.i_ r_.2.1),(2,.i_ r_.2.2.1),(3,.i_ r_.2.2.2.1),(4,.i_ r_.2.2.2.2.1),(5,.i_ r_.2.2.2.2.2.1),(6,.i_ r_.2.2.2.2.2.2.1),(7,.i_ r_.2.2.2.2.2.2.2.1),(8,.own 6),(9,.i_ r_.2.2.2.2.2.2.2.2.1),(10,.own 7),(11,.own 8),(12,.own 4)]),.dead,.dead,.dead,.row 63 9 (p_b0.dB.map ah.lf),.box 63 (.dat (ah.lf1 p_x)),.row 54 82 (r_.2.2.2.2.2.2.2.2.2.1.map ay.lf),.row 3 1 (r_.2.2.2.2.2.2.2.2.2.2.1.map lfI),.row 3 1 (r_.2.2.2.2.2.2.2.2.2.2.2.map lfI)]⟩
theorem afr {p_b0:aI} {p_x:ah} {r_:(Int × Int × Int × Int × Int × Int × Int × Int × Int × (List ay) × (List Int) × (List Int))} (h:NZ p_b0 p_x = some r_) : fK Tryz.f45 5 [1,1,1,1,0,1] (.normal) (zy p_b0 p_x r_) ⟨[(0,.ptr 0 0),(3,.ptr 5 0),(4,.ptr 0 0),(38,.lf (.bool (decide ((p_b0.aQ.bf:Int) < p_x.bf))))],[.box 97 (ag_ (aI.lf1 p_b0) [(8,.own 6),(10,.own 7),(11,.own 8),(12,.own 4)]),.dead,.dead,.dead,.row 63 9 (p_b0.dB.map ah.lf),.box 63 (.dat (ah.lf1 p_x)),.row 54 82 (p_b0.aQ.aP.map ay.lf),.row 3 1 (p_b0.aQ.fNext.map lfI),.row 3 1 (p_b0.aQ.bg.map lfI)]⟩ :=
 jh dK (FN p_b0 p_x) (fun _=>.normal) (zy p_b0 p_x) (by kernel_rfl) h
def KN (p_b0:aI) (p_x:ah) (r0:(Int × Int × Int × Int × Int × Int × Int × Int × Int × (List ay) × (List Int) × (List Int))) : Mo ((Int × Int)) :=
 .iB (r0.2.2.2.2.1 == 1) (.rt [0,3,4] 9 (0,0)) <|
 .rt [0,3,4] 9 (r0.2.2.2.2.1,r0.2.2.2.2.2.2.2.1)
def N7 (p_b0:aI) (p_x:ah) (r0:(Int × Int × Int × Int × Int × Int × Int × Int × Int × (List ay) × (List Int) × (List Int))) : Option ((Int × Int)) := Mo.den (KN p_b0 p_x r0)
def ajA (p_x:ah) (p_b0:aI) : Mo (aI) :=
 .say [.order [(true,0),(true,1),(true,2),(true,3),(true,4),(true,5),(true,6)] none []] ok0 <|
 .iB (decide ((p_x.bf:Int) < p_b0.aQ.bf)) (.cH [0,1,2,3,4] (NT p_x false 0 p_b0) fun r0 _ =>
 .ret ⟨[.kill 5,.mvn 6,.mvn 7,.mvn 8,.mvn 9],[],[(10,5),(11,6),(12,7),(13,8)],9⟩ (r0)) <|
 .jp Tryz.f45 5 [1,1,1,0,0] 15 [0,3,4] 6 (.normal) (fun r_=>⟨[(0,.ptr 0 0),(3,.ptr 5 0),(4,.ptr 0 0),(31,.b_ r_)],[.box 97 (ag_ (aI.lf1 p_b0) [(8,.own 1),(10,.own 2),(11,.own 3),(12,.own 4)]),.row 54 82 (p_b0.aQ.aP.map ay.lf),.row 3 1 (p_b0.aQ.fNext.map lfI),.row 3 1 (p_b0.aQ.bg.map lfI),.row 63 9 (p_b0.dB.map ah.lf),.box 63 (.dat (ah.lf1 p_x))]⟩) ⟨[(0,.ptr 0 0),(3,.ptr 5 0),(4,.ptr 0 0)],[.box 97 (ag_ (aI.lf1 p_b0) [(8,.own 1),(10,.own 2),(11,.own 3),(12,.own 4)]),.row 54 82 (p_b0.aQ.aP.map ay.lf),.row 3 1 (p_b0.aQ.fNext.map lfI),.row 3 1 (p_b0.aQ.bg.map lfI),.row 63 9 (p_b0.dB.map ah.lf),.box 63 (.dat (ah.lf1 p_x))]⟩ (UY p_b0 p_x).den (jW (by kernel_rfl)) fun r1 _ =>
 .ite (r1) (fun c0 =>
 .say [.br true] (ok1 c0) <|
 .ret ⟨[.kill 5,.mvn 1,.mvn 2,.mvn 3,.mvn 4],[],[(6,5),(7,6),(8,7),(9,8)],9⟩ (p_b0)) fun c0 =>
 .say [.br false,.order [(true,0),(true,1),(true,2),(true,3),(true,4),(true,5),(true,6)] none []] (ok1 c0) <|
 .ask (NZ p_b0 p_x) fun r2 h0 =>
 .say [.part [.mvn 1,.mvn 2,.mvn 3] 1 [0,3,4,38] 9 (.normal) (zy p_b0 p_x r2).T (zy p_b0 p_x r2).H] (ok1 (afr h0)) <|
 .jp Tryz.f45 5 [1,1,1,1,1,0,1] 1 [0,3,4,51] 9 (.normal) (fun r_=>⟨[(0,.ptr 0 0),(3,.ptr 5 0),(4,.ptr 0 0)],[.box 97 (ag_ (aI.lf1 p_b0) [(0,.i_ r2.1),(1,.i_ r2.2.1),(2,.i_ r2.2.2.1),(3,.i_ r2.2.2.2.1),(4,.i_ r_.1),(5,.i_ r2.2.2.2.2.2.1),(6,.i_ r2.2.2.2.2.2.2.1),(7,.i_ r_.2),(8,.own 6),(9,.i_ r2.2.2.2.2.2.2.2.2.1),(10,.own 7),(11,.own 8),(12,.own 4)]),.dead,.dead,.dead,.row 63 9 (p_b0.dB.map ah.lf),.box 63 (.dat (ah.lf1 p_x)),.row 54 82 (r2.2.2.2.2.2.2.2.2.2.1.map ay.lf),.row 3 1 (r2.2.2.2.2.2.2.2.2.2.2.1.map lfI),.row 3 1 (r2.2.2.2.2.2.2.2.2.2.2.2.map lfI)]⟩) ⟨[(0,.ptr 0 0),(3,.ptr 5 0),(4,.ptr 0 0),(51,.lf (.bool (r2.2.2.2.2.1 == 1)))],[.box 97 (ag_ (aI.lf1 p_b0) [(0,.i_ r2.1),(1,.i_ r2.2.1),(2,.i_ r2.2.2.1),(3,.i_ r2.2.2.2.1),(4,.i_ r2.2.2.2.2.1),(5,.i_ r2.2.2.2.2.2.1),(6,.i_ r2.2.2.2.2.2.2.1),(7,.i_ r2.2.2.2.2.2.2.2.1),(8,.own 6),(9,.i_ r2.2.2.2.2.2.2.2.2.1),(10,.own 7),(11,.own 8),(12,.own 4)]),.dead,.dead,.dead,.row 63 9 (p_b0.dB.map ah.lf),.box 63 (.dat (ah.lf1 p_x)),.row 54 82 (r2.2.2.2.2.2.2.2.2.2.1.map ay.lf),.row 3 1 (r2.2.2.2.2.2.2.2.2.2.2.1.map lfI),.row 3 1 (r2.2.2.2.2.2.2.2.2.2.2.2.map lfI)]⟩ (N7 p_b0 p_x r2) (jW (by kernel_rfl)) fun r3 _ =>
 .cH [0,6,7,8,4] (ahS p_x (aI.mk (aj.mk r2.1 r2.2.1 r2.2.2.1 r2.2.2.2.1 r3.1 p_x.bK (IntKind.wrap .i64 (10 + (IntKind.wrap .i64 (3 * r2.1)))) r3.2 r2.2.2.2.2.2.2.2.2.2.1 r2.2.2.2.2.2.2.2.2.1 r2.2.2.2.2.2.2.2.2.2.2.1 r2.2.2.2.2.2.2.2.2.2.2.2) p_b0.dB p_b0.eP)) fun r4 _ =>
 .ite (r4) (fun c1 =>
 .say [.br true,.order [(true,0),(true,1),(true,2),(true,3),(true,4),(true,7),(true,8),(true,9),(false,5),(true,6),(true,10),(true,11),(false,12)] (some 12) [],.num (((aI.mk (aj.mk r2.1 r2.2.1 r2.2.2.1 r2.2.2.2.1 r3.1 p_x.bK (IntKind.wrap .i64 (10 + (IntKind.wrap .i64 (3 * r2.1)))) r3.2 r2.2.2.2.2.2.2.2.2.2.1 r2.2.2.2.2.2.2.2.2.1 r2.2.2.2.2.2.2.2.2.2.2.1 r2.2.2.2.2.2.2.2.2.2.2.2) p_b0.dB p_b0.eP).aQ).aP).length] (okc c1 (ok1 (ln_ (((aI.mk (aj.mk r2.1 r2.2.1 r2.2.2.1 r2.2.2.2.1 r3.1 p_x.bK (IntKind.wrap .i64 (10 + (IntKind.wrap .i64 (3 * r2.1)))) r3.2 r2.2.2.2.2.2.2.2.2.2.1 r2.2.2.2.2.2.2.2.2.1 r2.2.2.2.2.2.2.2.2.2.2.1 r2.2.2.2.2.2.2.2.2.2.2.2) p_b0.dB p_b0.eP).aQ).aP) ay.lf))) <|
 .cH [0,9,10,11,12] (NT p_x false (if (if (IntKind.wrap .i64 (p_x.aW - 1)) < ((((aI.mk (aj.mk r2.1 r2.2.1 r2.2.2.1 r2.2.2.2.1 r3.1 p_x.bK (IntKind.wrap .i64 (10 + (IntKind.wrap .i64 (3 * r2.1)))) r3.2 r2.2.2.2.2.2.2.2.2.2.1 r2.2.2.2.2.2.2.2.2.1 r2.2.2.2.2.2.2.2.2.2.2.1 r2.2.2.2.2.2.2.2.2.2.2.2) p_b0.dB p_b0.eP).aQ).aP).length:Int) then (IntKind.wrap .i64 (p_x.aW - 1)) else ((((aI.mk (aj.mk r2.1 r2.2.1 r2.2.2.1 r2.2.2.2.1 r3.1 p_x.bK (IntKind.wrap .i64 (10 + (IntKind.wrap .i64 (3 * r2.1)))) r3.2 r2.2.2.2.2.2.2.2.2.2.1 r2.2.2.2.2.2.2.2.2.1 r2.2.2.2.2.2.2.2.2.2.2.1 r2.2.2.2.2.2.2.2.2.2.2.2) p_b0.dB p_b0.eP).aQ).aP).length:Int)) > 0 then (if (IntKind.wrap .i64 (p_x.aW - 1)) < ((((aI.mk (aj.mk r2.1 r2.2.1 r2.2.2.1 r2.2.2.2.1 r3.1 p_x.bK (IntKind.wrap .i64 (10 + (IntKind.wrap .i64 (3 * r2.1)))) r3.2 r2.2.2.2.2.2.2.2.2.2.1 r2.2.2.2.2.2.2.2.2.1 r2.2.2.2.2.2.2.2.2.2.2.1 r2.2.2.2.2.2.2.2.2.2.2.2) p_b0.dB p_b0.eP).aQ).aP).length:Int) then (IntKind.wrap .i64 (p_x.aW - 1)) else ((((aI.mk (aj.mk r2.1 r2.2.1 r2.2.2.1 r2.2.2.2.1 r3.1 p_x.bK (IntKind.wrap .i64 (10 + (IntKind.wrap .i64 (3 * r2.1)))) r3.2 r2.2.2.2.2.2.2.2.2.2.1 r2.2.2.2.2.2.2.2.2.1 r2.2.2.2.2.2.2.2.2.2.2.1 r2.2.2.2.2.2.2.2.2.2.2.2) p_b0.dB p_b0.eP).aQ).aP).length:Int)) else 0) (aI.mk ((aI.mk (aj.mk r2.1 r2.2.1 r2.2.2.1 r2.2.2.2.1 r3.1 p_x.bK (IntKind.wrap .i64 (10 + (IntKind.wrap .i64 (3 * r2.1)))) r3.2 r2.2.2.2.2.2.2.2.2.2.1 r2.2.2.2.2.2.2.2.2.1 r2.2.2.2.2.2.2.2.2.2.2.1 r2.2.2.2.2.2.2.2.2.2.2.2) p_b0.dB p_b0.eP).aQ) ((aI.mk (aj.mk r2.1 r2.2.1 r2.2.2.1 r2.2.2.2.1 r3.1 p_x.bK (IntKind.wrap .i64 (10 + (IntKind.wrap .i64 (3 * r2.1)))) r3.2 r2.2.2.2.2.2.2.2.2.2.1 r2.2.2.2.2.2.2.2.2.1 r2.2.2.2.2.2.2.2.2.2.2.1 r2.2.2.2.2.2.2.2.2.2.2.2) p_b0.dB p_b0.eP).dB) ((aI.mk (aj.mk r2.1 r2.2.1 r2.2.2.1 r2.2.2.2.1 r3.1 p_x.bK (IntKind.wrap .i64 (10 + (IntKind.wrap .i64 (3 * r2.1)))) r3.2 r2.2.2.2.2.2.2.2.2.2.1 r2.2.2.2.2.2.2.2.2.1 r2.2.2.2.2.2.2.2.2.2.2.1 r2.2.2.2.2.2.2.2.2.2.2.2) p_b0.dB p_b0.eP).eP))) fun r5 _ =>
 .ret ⟨[.kill 5,.mvn 13,.mvn 14,.mvn 15,.mvn 16],[],[(17,5),(18,6),(19,7),(20,8)],9⟩ (r5)) fun c1 =>
 .say [.br false] (ok1 c1) <|
 .cH [0,9,10,11,12] (alJ p_x (aI.mk ((aI.mk (aj.mk r2.1 r2.2.1 r2.2.2.1 r2.2.2.2.1 r3.1 p_x.bK (IntKind.wrap .i64 (10 + (IntKind.wrap .i64 (3 * r2.1)))) r3.2 r2.2.2.2.2.2.2.2.2.2.1 r2.2.2.2.2.2.2.2.2.1 r2.2.2.2.2.2.2.2.2.2.2.1 r2.2.2.2.2.2.2.2.2.2.2.2) p_b0.dB p_b0.eP).aQ) ((aI.mk (aj.mk r2.1 r2.2.1 r2.2.2.1 r2.2.2.2.1 r3.1 p_x.bK (IntKind.wrap .i64 (10 + (IntKind.wrap .i64 (3 * r2.1)))) r3.2 r2.2.2.2.2.2.2.2.2.2.1 r2.2.2.2.2.2.2.2.2.1 r2.2.2.2.2.2.2.2.2.2.2.1 r2.2.2.2.2.2.2.2.2.2.2.2) p_b0.dB p_b0.eP).dB) ((aI.mk (aj.mk r2.1 r2.2.1 r2.2.2.1 r2.2.2.2.1 r3.1 p_x.bK (IntKind.wrap .i64 (10 + (IntKind.wrap .i64 (3 * r2.1)))) r3.2 r2.2.2.2.2.2.2.2.2.2.1 r2.2.2.2.2.2.2.2.2.1 r2.2.2.2.2.2.2.2.2.2.2.1 r2.2.2.2.2.2.2.2.2.2.2.2) p_b0.dB p_b0.eP).eP))) fun r6 _ =>
 .ret ⟨[.kill 5,.mvn 13,.mvn 14,.mvn 15,.mvn 16],[],[(17,5),(18,6),(19,7),(20,8)],9⟩ (r6)
def Q44 (p_x:ah) (p_b0:aI) : Option (aI) := Mo.den (ajA p_x p_b0)
theorem alK (p_x:ah) (p_b0:aI) : FH (Q44 p_x p_b0) 45 [.ptr 0 0,.dat (ah.lf1 p_x)] [.box 97 (ag_ (aI.lf1 p_b0) [(8,.own 1),(10,.own 2),(11,.own 3),(12,.own 4)]),.row 54 82 (p_b0.aQ.aP.map ay.lf),.row 3 1 (p_b0.aQ.fNext.map lfI),.row 3 1 (p_b0.aQ.bg.map lfI),.row 63 9 (p_b0.dB.map ah.lf)] (fun _=>.tup []) (fun r=>[.box 97 (ag_ (aI.lf1 r) [(8,.own 5),(10,.own 6),(11,.own 7),(12,.own 8)]),.dead,.dead,.dead,.dead,.row 54 82 (r.aQ.aP.map ay.lf),.row 3 1 (r.aQ.fNext.map lfI),.row 3 1 (r.aQ.bg.map lfI),.row 63 9 (r.dB.map ah.lf)]) := gX Tryz.func45 (by kernel_rfl) (fun _=>rfl) (by kernel_rfl)
def zA (p_m:aj) (p_x:ah) : Mo (Bool) :=
 .iG 8003 (p_m.dh != 2) (.rt [2,3,4,24] 6 (true)) <|
 .rt [2,3,4,24] 6 (decide ((p_x.bf:Int) < p_m.bf))
def zB (p_m:aj) (p_x:ah) (r0:Bool) : Mo (Bool) :=
 .iG 8010 (r0) (.rt [2,3,4,36] 6 (true)) <|
 .ite (p_x.fOK) (fun c0 =>
 .say [.gd 8013 true,.num p_m.aP.length] (okc c0 (ok1 (ln_ p_m.aP ay.lf))) <|
 .rt [2,3,4,36] 6 (decide (((p_m.aP.length:Int) : Int) < p_x.aW))) fun c0 =>
 .say [.gd 8013 false] (ok1 c0) <|
 .rt [2,3,4,36] 6 (false)
def tV (p_m:aj) (p_x:ah) : Mo (Bool) :=
 .ite (decide ((p_x.bK:Int) < 0)) (fun c0 =>
 .say [.gd 14002 true] (ok1 c0) <|
 .rt [2,3,4,5,48] 6 (true)) fun c0 =>
 .say [.gd 14002 false,.num p_m.fNext.length] (okc c0 (ok1 (ln_ p_m.fNext lfI))) <|
 .rt [2,3,4,5,48] 6 (decide (((p_m.fNext.length:Int) : Int) ≤ p_x.bK))
def tX (p_m:aj) (p_x:ah) (r0:Bool) : Mo (Bool) :=
 .ite (r0) (fun c0 =>
 .say [.gd 14009 true] (ok1 c0) <|
 .rt [2,3,4,5,55] 6 (true)) fun c0 =>
 .say [.gd 14009 false,.num p_m.bg.length] (okc c0 (ok1 (ln_ p_m.bg lfI))) <|
 .rt [2,3,4,5,55] 6 (decide (((p_m.bg.length:Int) : Int) ≤ p_x.bK))
def tY (p_m:aj) (p_x:ah) : Mo (((List Int) × (List Int))) :=
 .ite (p_x.fOK) (fun c0 =>
 .say [.br true,.order [(true,0),(true,1),(true,2),(true,3),(true,4),(true,5),(true,6),(true,7),(true,8),(true,9),(true,10),(true,11),(false,12)] (some 12) []] (ok1 c0) <|
 .ask (bP p_m.bg p_x.bK) fun x0 h0 =>
 .say [.row (lfI x0)] (okc (cO lI_ h0) (ok1 ((aX lI_ h0).2))) <|
 .ask (bP p_m.bg p_x.bK) fun x1 h1 =>
 .say [.row (lfI x1),.rows ((p_m.bg.set p_x.bK.toNat (if p_x.aW > x0 then p_x.aW else x0)).map lfI),.order [(true,0),(true,1),(true,2),(true,3),(true,4),(true,5),(true,6),(true,7),(true,8),(true,9),(true,10),(true,11),(true,12),(true,13),(true,14),(false,15)] (some 15) []] (okc (cO lI_ h1) (okc (st_ lI_ p_m.bg p_x.bK.toNat (if p_x.aW > x0 then p_x.aW else x0)) (ok1 ((aX lI_ h1).2)))) <|
 .ask (bP p_m.fNext p_x.bK) fun x2 h2 =>
 .say [.row (lfI x2)] (okc (cO lI_ h2) (ok1 ((aX lI_ h2).2))) <|
 .ask (bP (p_m.bg.set p_x.bK.toNat (if p_x.aW > x0 then p_x.aW else x0)) p_x.bK) fun x3 h3 =>
 .say [.row (lfI x3)] (okc (cO lI_ h3) (ok1 ((aX lI_ h3).2))) <|
 .ask (bP p_m.fNext p_x.bK) fun x4 h4 =>
 .say [.row (lfI x4),.rows ((p_m.fNext.set p_x.bK.toNat (if x3 > x2 then x3 else x2)).map lfI)] (okc (cO lI_ h4) (okc (st_ lI_ p_m.fNext p_x.bK.toNat (if x3 > x2 then x3 else x2)) (ok1 ((aX lI_ h4).2)))) <|
 .ret ⟨[.kill 4],[2,4],[],6⟩ (p_m.fNext.set p_x.bK.toNat (if x3 > x2 then x3 else x2),p_m.bg.set p_x.bK.toNat (if p_x.aW > x0 then p_x.aW else x0))) fun c0 =>
 .say [.br false,.order [(true,0),(true,1),(true,2),(true,3),(true,4),(true,5),(true,6),(true,7),(true,8),(true,9),(true,10),(true,11),(true,12),(true,13),(true,14),(true,15),(true,16),(true,17),(false,18)] (some 18) []] (ok1 c0) <|
 .ask (bP p_m.fNext p_x.bK) fun x5 h5 =>
 .say [.row (lfI x5)] (okc (cO lI_ h5) (ok1 ((aX lI_ h5).2))) <|
 .ask (bP p_m.bg p_x.bK) fun x6 h6 =>
 .say [.row (lfI x6)] (okc (cO lI_ h6) (ok1 ((aX lI_ h6).2))) <|
 .ask (bP p_m.fNext p_x.bK) fun x7 h7 =>
 .say [.row (lfI x7),.rows ((p_m.fNext.set p_x.bK.toNat (if x6 > (if p_x.aW < x5 then p_x.aW else x5) then x6 else (if p_x.aW < x5 then p_x.aW else x5))).map lfI)] (okc (cO lI_ h7) (okc (st_ lI_ p_m.fNext p_x.bK.toNat (if x6 > (if p_x.aW < x5 then p_x.aW else x5) then x6 else (if p_x.aW < x5 then p_x.aW else x5))) (ok1 ((aX lI_ h7).2)))) <|
 .ret ⟨[.kill 4],[2,4],[],6⟩ (p_m.fNext.set p_x.bK.toNat (if x6 > (if p_x.aW < x5 then p_x.aW else x5) then x6 else (if p_x.aW < x5 then p_x.aW else x5)),p_m.bg)
def ZJ (p_m:aj) (p_x:ah) : Mo (aj) :=
 .ite (decide ((p_m.bf:Int) < p_x.bf)) (fun c0 =>
 .say [.br true,.at_ 6 3,.frz 0,.frz 1,.frz 2,.tod 11] (ok1 c0) <|
 .cH [] (NR p_m p_x.bf) fun r0 _ =>
 .ret ⟨[.kill 3,.kill 4,.kill 5,.mvn 6,.mvn 7,.mvn 8],[0],[(9,3),(10,4),(11,5)],6⟩ (r0)) fun c0 =>
 .say [.br false] (ok1 c0) <|
 .sj Tryz.f84 3 [1,1,0,0] [0,1,2,3,4,5,6,7,8,9] 3 10 [2,3,4] 6 (fun r_=>⟨[(2,.ptr 3 0),(3,.ptr 4 0),(4,.ptr 5 0),(24,.b_ r_)],[.row 54 82 (p_m.aP.map ay.lf),.row 3 1 (p_m.fNext.map lfI),.row 3 1 (p_m.bg.map lfI),.box 25 (ag_ (aj.lf1 p_m) [(8,.own 0),(10,.own 1),(11,.own 2)]),.box 63 (.dat (ah.lf1 p_x)),.box 25 (Z25)]⟩) ⟨[(2,.ptr 3 0),(3,.ptr 4 0),(4,.ptr 5 0)],[.row 54 82 (p_m.aP.map ay.lf),.row 3 1 (p_m.fNext.map lfI),.row 3 1 (p_m.bg.map lfI),.box 25 (ag_ (aj.lf1 p_m) [(8,.own 0),(10,.own 1),(11,.own 2)]),.box 63 (.dat (ah.lf1 p_x)),.box 25 (Z25)]⟩ (zA p_m p_x).den (sW (by kernel_rfl)) fun r1 _ =>
 .sj Tryz.f84 3 [1,1,0,0] [10,11,12,13,14,15,16,17,18,19,20,21] 3 12 [2,3,4,24] 6 (fun r_=>⟨[(2,.ptr 3 0),(3,.ptr 4 0),(4,.ptr 5 0),(36,.b_ r_)],[.row 54 82 (p_m.aP.map ay.lf),.row 3 1 (p_m.fNext.map lfI),.row 3 1 (p_m.bg.map lfI),.box 25 (ag_ (aj.lf1 p_m) [(8,.own 0),(10,.own 1),(11,.own 2)]),.box 63 (.dat (ah.lf1 p_x)),.box 25 (Z25)]⟩) ⟨[(2,.ptr 3 0),(3,.ptr 4 0),(4,.ptr 5 0),(24,.b_ r1)],[.row 54 82 (p_m.aP.map ay.lf),.row 3 1 (p_m.fNext.map lfI),.row 3 1 (p_m.bg.map lfI),.box 25 (ag_ (aj.lf1 p_m) [(8,.own 0),(10,.own 1),(11,.own 2)]),.box 63 (.dat (ah.lf1 p_x)),.box 25 (Z25)]⟩ (zB p_m p_x r1).den (sW (by kernel_rfl)) fun r2 _ =>
 .iB (r2) (.ret ⟨[.kill 3,.kill 4,.kill 5,.mvn 0,.mvn 1,.mvn 2],[0],[(6,3),(7,4),(8,5)],6⟩ (p_m)) <|
 .sj Tryz.f84 3 [1,1,1,1,0,0] [0,1,2,3,4,5,6,7,8] 6 9 [2,3,4,5] 6 (fun r_=>⟨[(2,.ptr 3 0),(3,.ptr 4 0),(4,.ptr 5 0),(5,.i_ p_x.bK),(48,.b_ r_)],[.row 54 82 (p_m.aP.map ay.lf),.row 3 1 (p_m.fNext.map lfI),.row 3 1 (p_m.bg.map lfI),.box 25 (ag_ (aj.lf1 p_m) [(8,.own 0),(10,.own 1),(11,.own 2)]),.box 63 (.dat (ah.lf1 p_x)),.box 25 (Z25)]⟩) ⟨[(2,.ptr 3 0),(3,.ptr 4 0),(4,.ptr 5 0),(5,.i_ p_x.bK)],[.row 54 82 (p_m.aP.map ay.lf),.row 3 1 (p_m.fNext.map lfI),.row 3 1 (p_m.bg.map lfI),.box 25 (ag_ (aj.lf1 p_m) [(8,.own 0),(10,.own 1),(11,.own 2)]),.box 63 (.dat (ah.lf1 p_x)),.box 25 (Z25)]⟩ (tV p_m p_x).den (sW (by kernel_rfl)) fun r3 _ =>
 .sj Tryz.f84 3 [1,1,1,1,0,0] [9,10,11,12,13,14,15] 6 7 [2,3,4,5,48] 6 (fun r_=>⟨[(2,.ptr 3 0),(3,.ptr 4 0),(4,.ptr 5 0),(5,.i_ p_x.bK),(55,.b_ r_)],[.row 54 82 (p_m.aP.map ay.lf),.row 3 1 (p_m.fNext.map lfI),.row 3 1 (p_m.bg.map lfI),.box 25 (ag_ (aj.lf1 p_m) [(8,.own 0),(10,.own 1),(11,.own 2)]),.box 63 (.dat (ah.lf1 p_x)),.box 25 (Z25)]⟩) ⟨[(2,.ptr 3 0),(3,.ptr 4 0),(4,.ptr 5 0),(5,.i_ p_x.bK),(48,.b_ r3)],[.row 54 82 (p_m.aP.map ay.lf),.row 3 1 (p_m.fNext.map lfI),.row 3 1 (p_m.bg.map lfI),.box 25 (ag_ (aj.lf1 p_m) [(8,.own 0),(10,.own 1),(11,.own 2)]),.box 63 (.dat (ah.lf1 p_x)),.box 25 (Z25)]⟩ (tX p_m p_x r3).den (sW (by kernel_rfl)) fun r4 _ =>
 .iB (r4) (.ret ⟨[.kill 3,.kill 4,.kill 5,.mvn 0,.mvn 1,.mvn 2],[0],[(6,3),(7,4),(8,5)],6⟩ (p_m)) <|
 .jp Tryz.f84 3 [1,1,1,1,1,0,1] 1 [2,3,4,5,58] 6 (.normal) (fun r_=>⟨[(2,.ptr 3 0),(4,.ptr 5 0)],[.row 54 82 (p_m.aP.map ay.lf),.row 3 1 (r_.1.map lfI),.row 3 1 (r_.2.map lfI),.box 25 (ag_ (aj.lf1 p_m) [(8,.own 0),(10,.own 1),(11,.own 2)]),.dead,.box 25 (Z25)]⟩) ⟨[(2,.ptr 3 0),(3,.ptr 4 0),(4,.ptr 5 0),(5,.i_ p_x.bK),(58,.b_ p_x.fOK)],[.row 54 82 (p_m.aP.map ay.lf),.row 3 1 (p_m.fNext.map lfI),.row 3 1 (p_m.bg.map lfI),.box 25 (ag_ (aj.lf1 p_m) [(8,.own 0),(10,.own 1),(11,.own 2)]),.box 63 (.dat (ah.lf1 p_x)),.box 25 (Z25)]⟩ (tY p_m p_x).den (jW (by kernel_rfl)) fun r5 _ =>
 .ret ⟨[.kill 3,.kill 5,.mvn 0,.mvn 1,.mvn 2],[0],[(6,3),(7,4),(8,5)],6⟩ (aj.pV (aj.qx p_m r5.1) r5.2)
def Q46 (p_m:aj) (p_x:ah) : Option (aj) := Mo.den (ZJ p_m p_x)
theorem alL (p_m:aj) (p_x:ah) : FH (Q46 p_m p_x) 84 [wF (.agg ((aj.lf1 p_m).map AV.lf)) [(8,.own 0),(10,.own 1),(11,.own 2)],.dat (ah.lf1 p_x)] [.row 54 82 (p_m.aP.map ay.lf),.row 3 1 (p_m.fNext.map lfI),.row 3 1 (p_m.bg.map lfI)] (fun r=>wF (.agg ((aj.lf1 r).map AV.lf)) [(8,.own 3),(10,.own 4),(11,.own 5)]) (fun r=>[.dead,.dead,.dead,.row 54 82 (r.aP.map ay.lf),.row 3 1 (r.fNext.map lfI),.row 3 1 (r.bg.map lfI)]) := gX Tryz.func84 (by kernel_rfl) (fun _=>rfl) (by kernel_rfl)
def abh (p_x:Int) : Mo ((Int × Int)) :=
 .ite (decide ((4294967296:Int) ≤ p_x)) (fun c0 =>
 .say [.br true] (okc c0 (ok1 (by decide:(0:Int) ≤ 32))) <|
 .rt [0,2] 0 (fP .u64 p_x 32,32)) fun c0 =>
 .say [.br false] (ok1 c0) <|
 .rt [0,2] 0 (p_x,0)
def abj (r0:(Int × Int)) : Mo ((Int × Int)) :=
 .ite (decide ((65536:Int) ≤ r0.1)) (fun c0 =>
 .say [.br true] (okc c0 (ok1 (by decide:(0:Int) ≤ 16))) <|
 .rt [0,2] 0 (fP .u64 r0.1 16,IntKind.wrap .i64 (r0.2 + 16))) fun c0 =>
 .say [.br false] (ok1 c0) <|
 .rt [0,2] 0 (r0.1,r0.2)
def XP (r0:(Int × Int)) : Mo ((Int × Int)) :=
 .ite (decide ((256:Int) ≤ r0.1)) (fun c0 =>
 .say [.br true] (okc c0 (ok1 (by decide:(0:Int) ≤ 8))) <|
 .rt [0,2] 0 (fP .u64 r0.1 8,IntKind.wrap .i64 (r0.2 + 8))) fun c0 =>
 .say [.br false] (ok1 c0) <|
 .rt [0,2] 0 (r0.1,r0.2)
def alM (p_x:Int) : Mo (Int) :=
 .jp Tryz.f149 0 [1,0,1] 1 [0,2,4] 0 (.normal) (fun r_=>⟨[(0,.lf (.int .u64 r_.1)),(2,.i_ r_.2)],[]⟩) ⟨[(0,.lf (.int .u64 p_x)),(2,.i_ 0),(4,.lf (.bool (decide ((4294967296:Int) ≤ p_x))))],[]⟩ (abh p_x).den (jW (by kernel_rfl)) fun r0 _ =>
 .jp Tryz.f149 0 [1,1,0,1] 1 [0,2,8] 0 (.normal) (fun r_=>⟨[(0,.lf (.int .u64 r_.1)),(2,.i_ r_.2)],[]⟩) ⟨[(0,.lf (.int .u64 r0.1)),(2,.i_ r0.2),(8,.lf (.bool (decide ((65536:Int) ≤ r0.1))))],[]⟩ (abj r0).den (jW (by kernel_rfl)) fun r1 _ =>
 .jp Tryz.f149 0 [1,1,1,0,1] 1 [0,2,14] 0 (.normal) (fun r_=>⟨[(0,.lf (.int .u64 r_.1)),(2,.i_ r_.2)],[]⟩) ⟨[(0,.lf (.int .u64 r1.1)),(2,.i_ r1.2),(14,.lf (.bool (decide ((256:Int) ≤ r1.1))))],[]⟩ (XP r1).den (jW (by kernel_rfl)) fun r2 _ =>
 .ask (lZ ⟨#[0,1,2,2,3,3,3,3,4,4,4,4,4,4,4,4,5,5,5,5,5,5,5,5,5,5,5,5,5,5,5,5,6,6,6,6,6,6,6,6,6,6,6,6,6,6,6,6,6,6,6,6,6,6,6,6,6,6,6,6,6,6,6,6,7,7,7,7,7,7,7,7,7,7,7,7,7,7,7,7,7,7,7,7,7,7,7,7,7,7,7,7,7,7,7,7,7,7,7,7,7,7,7,7,7,7,7,7,7,7,7,7,7,7,7,7,7,7,7,7,7,7,7,7,7,7,7,7,8,8,8,8,8,8,8,8,8,8,8,8,8,8,8,8,8,8,8,8,8,8,8,8,8,8,8,8,8,8,8,8,8,8,8,8,8,8,8,8,8,8,8,8,8,8,8,8,8,8,8,8,8,8,8,8,8,8,8,8,8,8,8,8,8,8,8,8,8,8,8,8,8,8,8,8,8,8,8,8,8,8,8,8,8,8,8,8,8,8,8,8,8,8,8,8,8,8,8,8,8,8,8,8,8,8,8,8,8,8,8,8,8,8,8,8,8,8,8,8,8,8,8,8,8,8,8,8]⟩ (IntKind.wrap .u8 r2.1)) fun b0 h0 =>
 .say [.byt b0] (ok1 (iK h0)) <|
 .ret (bD 1) (IntKind.wrap .i64 (r2.2 + (IntKind.wrap .i64 (b0.toNat:Int))))
def anM (p_x:Int) : Option (Int) := Mo.den (alM p_x)
theorem ah9 (p_x:Int) : FV (anM p_x) 149 [.lf (.int .u64 p_x)] (fun r=>.i_ r) := bZ Tryz.func149 (by kernel_rfl) (fun _=>rfl) (by kernel_rfl)
def alN (p_x:Int) : Mo (Int) :=
 .say [.br false] (ok1 (rfl:false = false)) <|
 .cl (ah9 p_x) fun r0 _ =>
 .ret (bD 1) (r0)
def ane (p_x:Int) : Option (Int) := Mo.den (alN p_x)
theorem aia (p_x:Int) : FV (ane p_x) 105 [.lf (.int .u64 p_x)] (fun r=>.i_ r) := bZ Tryz.func105 (by kernel_rfl) (fun _=>rfl) (by kernel_rfl)
def afs (p_x:Int) : Mo (Bool) :=
 .ret (bD 1) (p_x != p_x)
def anf (p_x:Int) : Option (Bool) := Mo.den (afs p_x)
theorem ZK (p_x:Int) : FV (anf p_x) 195 [.i_ p_x] (fun r=>.b_ r) := bZ Tryz.func195 (by kernel_rfl) (fun _=>rfl) (by kernel_rfl)
def KO (p_x:Int) (p_y:Int) : Mo (Bool) :=
 .cl (ZK p_x) fun r0 _ =>
 .iG 4002 (r0) (.cl (ZK p_y) fun r1 _ =>
 .rt [0,1,4,11] 0 (!r1)) <|
 .rt [0,1,4,11] 0 (false)
def KP (p_x:Int) (p_y:Int) (r0:Bool) : Mo (Bool) :=
 .iG 4007 (r0) (.rt [4,16] 0 (true)) <|
 .rt [4,16] 0 (decide ((p_x:Int) < p_y))
def FP (r0:Bool) : Mo (Unit) :=
 .rt [4] 0 ()
def aft (p_x:Int) (p_y:Int) : Mo (Bool) :=
 .sj Tryz.f145 0 [1,0] [0,1,2,3,4,5,6] 1 7 [0,1,4] 0 (fun r_=>⟨[(0,.i_ p_x),(1,.i_ p_y),(4,.b_ false),(11,.b_ r_)],[]⟩) ⟨[(0,.i_ p_x),(1,.i_ p_y),(4,.b_ false)],[]⟩ (KO p_x p_y).den (sW (by kernel_rfl)) fun r0 _ =>
 .sj Tryz.f145 0 [1,0] [7,8,9,10,11] 1 5 [0,1,4,11] 0 (fun r_=>⟨[(4,.b_ false),(16,.b_ r_)],[]⟩) ⟨[(0,.i_ p_x),(1,.i_ p_y),(4,.b_ false),(11,.b_ r0)],[]⟩ (KP p_x p_y r0).den (sW (by kernel_rfl)) fun r1 _ =>
 .sj Tryz.f145 0 [1,0] [12] 1 1 [4,16] 0 (fun r_=>⟨[(4,.b_ r1)],[]⟩) ⟨[(4,.b_ false),(16,.b_ r1)],[]⟩ (FP r1).den (sW (by kernel_rfl)) fun r2 _ =>
 .ret (bD 1) (r1)
def aib (p_x:Int) (p_y:Int) : Option (Bool) := Mo.den (aft p_x p_y)
theorem aic (p_x:Int) (p_y:Int) : FV (aib p_x p_y) 145 [.i_ p_x,.i_ p_y] (fun r=>.b_ r) := bZ Tryz.func145 (by kernel_rfl) (fun _=>rfl) (by kernel_rfl)
def UZ (l0:List Int) (p_a:Int) (p_b:Int) (v0:Int) (v1:Int) : Mo (Bool) :=
 .ite (decide ((p_a:Int) < v1)) (fun c0 =>
 .say [] (ok1 c0) <|
 .ask (bP l0 v1) fun x0 h0 =>
 .say [] (okc (cO lI_ h0) (ok1 ((aX lI_ h0).2))) <|
 .ask (bP l0 (IntKind.wrap .i64 (v1 - 1))) fun x1 h1 =>
 .say [] (okc (cO lI_ h1) (ok1 ((aX lI_ h1).2))) <|
 .ask (aib x0 x1) fun r0 h2 =>
 .say [.dL (.q 0 (.q 1 (.q 2 (.q 3 (.q 4 (.q 5 (.q 6 (.q 7 (.q 8 (.q 9 (.q 10 (.q 11 (.q 12 (.l 13 (.q 14 .fin))))))))))))))) (some 13) [] [.gd 10003 true,.row (lfI x0),.row (lfI x1),.res (.b_ r0)] [0,1,2,6,7,30] 1 [(0,.own 0),(1,.i_ p_a),(2,.i_ p_b),(6,.i_ v0),(7,.i_ v1),(30,.b_ r0)] [.row 3 1 (l0.map lfI)]] (okc (aic _ _ _ h2) (ok1 (rf_ ⟨[(0,.own 0),(1,.i_ p_a),(2,.i_ p_b),(6,.i_ v0),(7,.i_ v1),(30,.b_ r0)],[.row 3 1 (l0.map lfI)]⟩))) <|
 .rt [0,1,2,6,7,30] 1 (r0)) fun c0 =>
 .say [.dL (.q 0 (.q 1 (.q 2 (.q 3 (.q 4 (.q 5 (.q 6 (.q 7 (.q 8 (.q 9 (.q 10 (.q 11 (.q 12 (.l 13 (.q 14 .fin))))))))))))))) (some 13) [] [.gd 10003 false] [0,1,2,6,7,30] 1 [(0,.own 0),(1,.i_ p_a),(2,.i_ p_b),(6,.i_ v0),(7,.i_ v1),(30,.b_ false)] [.row 3 1 (l0.map lfI)]] (okc c0 (ok1 (rf_ ⟨[(0,.own 0),(1,.i_ p_a),(2,.i_ p_b),(6,.i_ v0),(7,.i_ v1),(30,.b_ false)],[.row 3 1 (l0.map lfI)]⟩))) <|
 .rt [0,1,2,6,7,30] 1 (false)
def XQ (l0:List Int) (p_a:Int) (p_b:Int) (v0:Int) (v1:Int) : Option (Bool) := Mo.den (UZ l0 p_a p_b v0 v1)
def U0 (p_a:Int) (p_b:Int) (v0:Int) : (Int × (List Int)) → Mo ((Int × (List Int)) ⊕ ((List Int))) := fun (v1,l0) =>
 .jp Tryz.f139 1 [1,0,0,1,0,0,1,0,0,0,0] 15 [0,1,2,6,7] 1 (.normal) (fun r_=>⟨[(0,.own 0),(1,.i_ p_a),(2,.i_ p_b),(6,.i_ v0),(7,.i_ v1),(30,.b_ r_)],[.row 3 1 (l0.map lfI)]⟩) ⟨[(0,.own 0),(1,.i_ p_a),(2,.i_ p_b),(6,.i_ v0),(7,.i_ v1)],[.row 3 1 (l0.map lfI)]⟩ (XQ l0 p_a p_b v0 v1) (jW (by kernel_rfl)) fun r0 _ =>
 .iB (r0) (.ask (bP l0 (IntKind.wrap .i64 (v1 - 1))) fun x0 h0 =>
 .say [] (okc (cO lI_ h0) (ok1 ((aX lI_ h0).2))) <|
 .ask (bP l0 v1) fun x1 h1 =>
 .say [] (okc (cO lI_ h1) (ok1 ((aX lI_ h1).2))) <|
 .ask (bP l0 v1) fun x2 h2 =>
 .say [] (okc (cO lI_ h2) (okc (st_ lI_ l0 v1.toNat x0) (ok1 ((aX lI_ h2).2)))) <|
 .ask (bP (l0.set v1.toNat x0) (IntKind.wrap .i64 (v1 - 1))) fun x3 h3 =>
 .say [.dL (.q 0 (.q 1 (.q 2 (.q 3 (.q 4 (.q 5 (.q 6 (.q 7 (.q 10 (.q 11 (.alt 8 (.alt 9 (.l 12 (.l 13 (.l 14 (.l 15 (.l 16 (.l 17 .fin)))))) (.l 12 (.alt 9 (.l 13 (.l 14 (.l 15 (.l 16 (.l 17 .fin))))) (.l 13 (.l 9 (.l 14 (.l 15 (.l 16 (.l 17 .fin))))))))) (.l 12 (.alt 8 (.alt 9 (.l 13 (.l 14 (.l 15 (.l 16 (.l 17 .fin))))) (.l 13 (.l 9 (.l 14 (.l 15 (.l 16 (.l 17 .fin))))))) (.l 13 (.l 8 (.l 9 (.l 14 (.l 15 (.l 16 (.l 17 .fin)))))))))))))))))))) (some 17) [0] [.both [.both [.row (lfI x0),.row (lfI x1),.row (lfI x2),.rows ((l0.set v1.toNat x0).map lfI),.row (lfI x3),.rows (((l0.set v1.toNat x0).set ((IntKind.wrap .i64 (v1 - 1)).toNat) x1).map lfI)] [.both [.row (lfI x0),.row (lfI x1),.row (lfI x2),.rows ((l0.set v1.toNat x0).map lfI),.row (lfI x3),.rows (((l0.set v1.toNat x0).set ((IntKind.wrap .i64 (v1 - 1)).toNat) x1).map lfI)] [.row (lfI x1),.row (lfI x0),.row (lfI x2),.rows ((l0.set v1.toNat x0).map lfI),.row (lfI x3),.rows (((l0.set v1.toNat x0).set ((IntKind.wrap .i64 (v1 - 1)).toNat) x1).map lfI)]]] [.both [.both [.row (lfI x0),.row (lfI x1),.row (lfI x2),.rows ((l0.set v1.toNat x0).map lfI),.row (lfI x3),.rows (((l0.set v1.toNat x0).set ((IntKind.wrap .i64 (v1 - 1)).toNat) x1).map lfI)] [.row (lfI x1),.row (lfI x0),.row (lfI x2),.rows ((l0.set v1.toNat x0).map lfI),.row (lfI x3),.rows (((l0.set v1.toNat x0).set ((IntKind.wrap .i64 (v1 - 1)).toNat) x1).map lfI)]] [.row (lfI x1),.row (lfI x0),.row (lfI x2),.rows ((l0.set v1.toNat x0).map lfI),.row (lfI x3),.rows (((l0.set v1.toNat x0).set ((IntKind.wrap .i64 (v1 - 1)).toNat) x1).map lfI)]]] [0,1,2,6,7] 1 [(0,.own 0),(1,.i_ p_a),(2,.i_ p_b),(6,.i_ v0),(7,.i_ v1)] [.row 3 1 (((l0.set v1.toNat x0).set ((IntKind.wrap .i64 (v1 - 1)).toNat) x1).map lfI)]] (okc (cO lI_ h3) (okc (st_ lI_ (l0.set v1.toNat x0) ((IntKind.wrap .i64 (v1 - 1)).toNat) x1) (okc ((aX lI_ h3).2) (okc (rf_ ⟨[(0,.own 0),(1,.i_ p_a),(2,.i_ p_b),(6,.i_ v0),(7,.i_ v1)],[.row 3 1 (((l0.set v1.toNat x0).set ((IntKind.wrap .i64 (v1 - 1)).toNat) x1).map lfI)]⟩) (okc (cO lI_ h1) (okc ((aX lI_ h0).2) (okc ((aX lI_ h1).2) (okc (cO lI_ h2) (okc (st_ lI_ l0 v1.toNat x0) (okc ((aX lI_ h2).2) (okc (cO lI_ h3) (okc (st_ lI_ (l0.set v1.toNat x0) ((IntKind.wrap .i64 (v1 - 1)).toNat) x1) (okc ((aX lI_ h3).2) (okc (rf_ ⟨[(0,.own 0),(1,.i_ p_a),(2,.i_ p_b),(6,.i_ v0),(7,.i_ v1)],[.row 3 1 (((l0.set v1.toNat x0).set ((IntKind.wrap .i64 (v1 - 1)).toNat) x1).map lfI)]⟩) (okc ((aX lI_ h1).2) (okc ((aX lI_ h0).2) (okc (cO lI_ h2) (okc (st_ lI_ l0 v1.toNat x0) (okc ((aX lI_ h2).2) (okc (cO lI_ h3) (okc (st_ lI_ (l0.set v1.toNat x0) ((IntKind.wrap .i64 (v1 - 1)).toNat) x1) (okc ((aX lI_ h3).2) (okc (rf_ ⟨[(0,.own 0),(1,.i_ p_a),(2,.i_ p_b),(6,.i_ v0),(7,.i_ v1)],[.row 3 1 (((l0.set v1.toNat x0).set ((IntKind.wrap .i64 (v1 - 1)).toNat) x1).map lfI)]⟩) (okc (cO lI_ h1) (okc (cO lI_ h0) (okc ((aX lI_ h0).2) (okc ((aX lI_ h1).2) (okc (cO lI_ h2) (okc (st_ lI_ l0 v1.toNat x0) (okc ((aX lI_ h2).2) (okc (cO lI_ h3) (okc (st_ lI_ (l0.set v1.toNat x0) ((IntKind.wrap .i64 (v1 - 1)).toNat) x1) (okc ((aX lI_ h3).2) (okc (rf_ ⟨[(0,.own 0),(1,.i_ p_a),(2,.i_ p_b),(6,.i_ v0),(7,.i_ v1)],[.row 3 1 (((l0.set v1.toNat x0).set ((IntKind.wrap .i64 (v1 - 1)).toNat) x1).map lfI)]⟩) (okc ((aX lI_ h1).2) (okc ((aX lI_ h0).2) (okc (cO lI_ h2) (okc (st_ lI_ l0 v1.toNat x0) (okc ((aX lI_ h2).2) (okc (cO lI_ h3) (okc (st_ lI_ (l0.set v1.toNat x0) ((IntKind.wrap .i64 (v1 - 1)).toNat) x1) (okc ((aX lI_ h3).2) (okc (rf_ ⟨[(0,.own 0),(1,.i_ p_a),(2,.i_ p_b),(6,.i_ v0),(7,.i_ v1)],[.row 3 1 (((l0.set v1.toNat x0).set ((IntKind.wrap .i64 (v1 - 1)).toNat) x1).map lfI)]⟩) (okc ((aX lI_ h1).2) (okc (cO lI_ h0) (okc ((aX lI_ h0).2) (okc (cO lI_ h2) (okc (st_ lI_ l0 v1.toNat x0) (okc ((aX lI_ h2).2) (okc (cO lI_ h3) (okc (st_ lI_ (l0.set v1.toNat x0) ((IntKind.wrap .i64 (v1 - 1)).toNat) x1) (okc ((aX lI_ h3).2) (ok1 (rf_ ⟨[(0,.own 0),(1,.i_ p_a),(2,.i_ p_b),(6,.i_ v0),(7,.i_ v1)],[.row 3 1 (((l0.set v1.toNat x0).set ((IntKind.wrap .i64 (v1 - 1)).toNat) x1).map lfI)]⟩)))))))))))))))))))))))))))))))))))))))))))))))))))))) <|
 .rt [0,1,2,6,7] 1 (.inl (IntKind.wrap .i64 (v1 - 1),(l0.set v1.toNat x0).set ((IntKind.wrap .i64 (v1 - 1)).toNat) x1))) <|
 .rt [0,1,2,6] 1 (.inr (l0))
def XR (p_a:Int) (p_b:Int) (v0:Int) (v1:Int) (l0:List Int) : Option (((List Int))) := bM (fun v_=>(U0 p_a p_b v0 v_).den) FU (v1,l0)
def KQ (p_a:Int) (p_b:Int) : (Int × (List Int)) → Mo ((Int × (List Int)) ⊕ ((List Int))) := fun (v0,l0) =>
 .iB (decide ((v0:Int) < p_b)) (.lp Tryz.f139 1 [1,0,0,1,0,0,1,0] 0 [0,1,2,6,7] 1 (.exit 2) (fun r_=>⟨[(0,.own 0),(1,.i_ p_a),(2,.i_ p_b),(6,.i_ v0)],[.row 3 1 (r_.map lfI)]⟩) (XR p_a p_b v0 v0 l0) (lW (fun (v1,l1)=>⟨[(0,.own 0),(1,.i_ p_a),(2,.i_ p_b),(6,.i_ v0),(7,.i_ v1)],[.row 3 1 (l1.map lfI)]⟩) (by kernel_rfl) rfl fun v_=>by kernel_rfl) fun r0 _ =>
 .rt [0,1,2,6] 1 (.inl (IntKind.wrap .i64 (v0 + 1),r0))) <|
 .rt [] 1 (.inr (l0))
def ZL (p_a:Int) (p_b:Int) (v0:Int) (l0:List Int) : Option (((List Int))) := bM (fun v_=>(KQ p_a p_b v_).den) FU (v0,l0)
def ajB (p_a:Int) (p_b:Int) (p_s0:List Int) : Mo (List Int) :=
 .lp Tryz.f139 1 [1,0] 0 [0,1,2,6] 1 (.exit 0) (fun r_=>⟨[],[.row 3 1 (r_.map lfI)]⟩) (ZL p_a p_b (IntKind.wrap .i64 (p_a + 1)) p_s0) (lW (fun (v0,l0)=>⟨[(0,.own 0),(1,.i_ p_a),(2,.i_ p_b),(6,.i_ v0)],[.row 3 1 (l0.map lfI)]⟩) (by kernel_rfl) rfl fun v_=>by kernel_rfl) fun r0 _ =>
 .rt [] 1 (r0)
def Q33 (p_a:Int) (p_b:Int) (p_s0:List Int) : Option (List Int) := Mo.den (ajB p_a p_b p_s0)
theorem alO (p_a:Int) (p_b:Int) (p_s0:List Int) : FH (Q33 p_a p_b p_s0) 139 [.own 0,.i_ p_a,.i_ p_b] [.row 3 1 (p_s0.map lfI)] (fun _=>.tup []) (fun r=>[.row 3 1 (r.map lfI)]) := gX Tryz.func139 (by kernel_rfl) (fun _=>rfl) (by kernel_rfl)
structure afu where
 m1:(p_a:Int) → (p_b:Int) → (p_limit:Int) → (p_s0:List Int) → Option (List Int)
 ok1:∀ p_a p_b p_limit p_s0,FH (m1 p_a p_b p_limit p_s0) 104 [.own 0,.i_ p_a,.i_ p_b,.i_ p_limit] [.row 3 1 (p_s0.map lfI)] (fun _=>.tup []) (fun r=>[.row 3 1 (r.map lfI)])
def U1 (R_:afu) (p_a:Int) (p_b:Int) (p_limit:Int) (p_s0:List Int) : Unit → Mo (Unit ⊕ ((List Int))) := fun _ =>
 .say [.br true] ok0 <|
 .ite (decide ((IntKind.wrap .i64 (p_b - p_a) : Int) ≤ 12)) (fun c0 =>
 .say [] (ok1 c0) <|
 .cH [0] (alO p_a p_b p_s0) fun r0 _ =>
 .rt [] 1 (.inr (r0))) fun c0 =>
 .stop
def afv (R_:afu) (p_a:Int) (p_b:Int) (p_limit:Int) (p_s0:List Int) : Option (((List Int))) := bM (fun v_=>(U1 R_ p_a p_b p_limit p_s0 v_).den) FU ()
def ZM (R_:afu) (p_a:Int) (p_b:Int) (p_limit:Int) (p_s0:List Int) : Mo (List Int) :=
 .lp Tryz.f104 1 [1,1,0] 0 [0,1,2,3,8,9] 1 (.ret) (fun r_=>⟨[],[.row 3 1 (r_.map lfI)]⟩) (afv R_ p_a p_b p_limit p_s0) (lW (fun _=>⟨[(0,.own 0),(1,.i_ p_a),(2,.i_ p_b),(3,.i_ p_limit),(8,.b_ true),(9,.b_ true)],[.row 3 1 (p_s0.map lfI)]⟩) (by kernel_rfl) rfl fun v_=>by kernel_rfl) fun r0 _ =>
 .rt [] 1 (r0)
theorem aie (R_:afu) (p_a:Int) (p_b:Int) (p_limit:Int) (p_s0:List Int) : FH (Mo.den (ZM R_ p_a p_b p_limit p_s0)) 104 [.own 0,.i_ p_a,.i_ p_b,.i_ p_limit] [.row 3 1 (p_s0.map lfI)] (fun _=>.tup []) (fun r=>[.row 3 1 (r.map lfI)]) := gX Tryz.func104 (by kernel_rfl) (fun _=>rfl) (by kernel_rfl)
def BG:Nat → afu
 | 0=>{ m1 := fun p_a p_b p_limit p_s0=>none,ok1 := fun _ _ _ _ _ h=>(by cases h) }
 | n_ + 1=>{ m1 := fun p_a p_b p_limit p_s0=>Mo.den (ZM (BG n_) p_a p_b p_limit p_s0),ok1 := aie (BG n_) }
def Q81 (p_a:Int) (p_b:Int) (p_limit:Int) (p_s0:List Int) : Option (List Int) := (BG FU).m1 p_a p_b p_limit p_s0
theorem alP (p_a:Int) (p_b:Int) (p_limit:Int) (p_s0:List Int) : FH (Q81 p_a p_b p_limit p_s0) 104 [.own 0,.i_ p_a,.i_ p_b,.i_ p_limit] [.row 3 1 (p_s0.map lfI)] (fun _=>.tup []) (fun r=>[.row 3 1 (r.map lfI)]) := (BG FU).ok1 p_a p_b p_limit p_s0
def afw (p_s0:List Int) : Mo (List Int) :=
 .say [.num p_s0.length] (ok1 (ln_ p_s0 lfI)) <|
 .cl (aia (IntKind.wrap .u64 (p_s0.length:Int))) fun r0 _ =>
 .cH [0] (alP 0 (p_s0.length:Int) r0 p_s0) fun r1 _ =>
 .rt [] 1 (r1)
def aif (p_s0:List Int) : Option (List Int) := Mo.den (afw p_s0)
theorem aii (p_s0:List Int) : FH (aif p_s0) 76 [.own 0] [.row 3 1 (p_s0.map lfI)] (fun _=>.tup []) (fun r=>[.row 3 1 (r.map lfI)]) := gX Tryz.func76 (by kernel_rfl) (fun _=>rfl) (by kernel_rfl)
def FQ (p_m:aj) (r0:Int) : Mo (Bool) :=
 .iG 6003 (p_m.dh != 2) (.rt [1,2,3,15] 5 (true)) <|
 .rt [1,2,3,15] 5 (r0 == 0)
def FT (p_m:aj) (r0:Int) (r1:Bool) : Mo (Bool) :=
 .ite (r1) (fun c0 =>
 .say [.gd 6007 true] (ok1 c0) <|
 .rt [1,2,3,22] 5 (true)) fun c0 =>
 .say [.gd 6007 false,.num p_m.bg.length] (okc c0 (ok1 (ln_ p_m.bg lfI))) <|
 .rt [1,2,3,22] 5 (decide (((p_m.bg.length:Int) : Int) < r0))
def KR (p_m:aj) (v0:Int) : Mo (Bool) :=
 .say [.order [(true,0),(true,1),(true,2),(true,3),(true,4),(true,5),(true,6),(true,7),(true,8),(true,9),(true,10),(true,11),(true,12),(true,13),(true,14),(true,15),(true,16),(true,17),(true,18),(true,19)] none []] ok0 <|
 .iG 16004 (decide ((p_m.au:Int) < v0)) (.iG 16008 (decide ((0:Int) < v0)) (.ask (bP p_m.aP (IntKind.wrap .i64 (v0 - 1))) fun x0 h0 =>
 .say [.row (ay.lf1 x0)] (okc (cO ay.aZ h0) (ok1 ((aX ay.aZ h0).2))) <|
 .rt [1,2,5,59] 6 (x0.bf != p_m.bf)) <|
 .rt [1,2,5,59] 6 (false)) <|
 .rt [1,2,5,59] 6 (false)
def BH (p_m:aj) : (Int) → Mo ((Int) ⊕ (Int)) := fun (v0) =>
 .jp Tryz.f38 3 [1,1,1,1,1,1,0,0,0,0,0] 21 [1,2,5] 6 (.normal) (fun r_=>⟨[(1,.ptr 3 0),(2,.ptr 4 0),(5,.i_ v0),(59,.b_ r_)],[.row 54 82 (p_m.aP.map ay.lf),.row 3 1 (p_m.fNext.map lfI),.dead,.box 25 (ag_ (aj.lf1 p_m) [(8,.own 0),(10,.own 1)]),.box 25 (Z25),.dead]⟩) ⟨[(1,.ptr 3 0),(2,.ptr 4 0),(5,.i_ v0)],[.row 54 82 (p_m.aP.map ay.lf),.row 3 1 (p_m.fNext.map lfI),.dead,.box 25 (ag_ (aj.lf1 p_m) [(8,.own 0),(10,.own 1)]),.box 25 (Z25),.dead]⟩ (KR p_m v0).den (jW (by kernel_rfl)) fun r0 _ =>
 .iB (r0) (.rt [1,2,5] 6 (.inl (IntKind.wrap .i64 (v0 - 1)))) <|
 .rt [1,2,5] 6 (.inr (v0))
def Dq (p_m:aj) (v0:Int) : Option (Int) := bM (fun v_=>(BH p_m v_).den) FU (v0)
def KT (p_m:aj) : (Int) → St := fun (v0)=>⟨[(1,.ptr 3 0),(2,.ptr 4 0),(5,.i_ v0)],[.row 54 82 (p_m.aP.map ay.lf),.row 3 1 (p_m.fNext.map lfI),.dead,.box 25 (ag_ (aj.lf1 p_m) [(8,.own 0),(10,.own 1)]),.box 25 (Z25),.dead]⟩
def tZ (p_m:aj) (r_:Int) : St := ⟨[(1,.ptr 3 0),(2,.ptr 4 0),(5,.i_ r_)],[.row 54 82 (p_m.aP.map ay.lf),.row 3 1 (p_m.fNext.map lfI),.dead,.box 25 (ag_ (aj.lf1 p_m) [(8,.own 0),(10,.own 1)]),.box 25 (Z25),.dead]⟩
theorem abk {p_m:aj} {v0:Int} {r_:Int} (h:Dq p_m v0 = some r_) : fK Tryz.f38 3 [1,1,1,1,1,1,0,0] (.exit 0) (tZ p_m r_) (KT p_m (v0)) :=
 dO dK (body := (Code.sub (bodyC Tryz.f38) [1,1,1,1,1,1,0,0,0])) (by kernel_rfl) (BH p_m) (KT p_m) (fun _=>.exit 0) (tZ p_m) (fun r_=>rfl) (fun v_=>by kernel_rfl) h
def afx (p_m:aj) : Mo (aj) :=
 .cl (Zy p_m.bW) fun r0 _ =>
 .sj Tryz.f38 3 [1,1,0,0] [0,1,2,3,4,5,6] 2 7 [1,2,3] 5 (fun r_=>⟨[(1,.ptr 3 0),(2,.ptr 4 0),(3,.i_ r0),(15,.b_ r_)],[.row 54 82 (p_m.aP.map ay.lf),.row 3 1 (p_m.fNext.map lfI),.row 3 1 (p_m.bg.map lfI),.box 25 (ag_ (aj.lf1 p_m) [(8,.own 0),(10,.own 1),(11,.own 2)]),.box 25 (Z25)]⟩) ⟨[(1,.ptr 3 0),(2,.ptr 4 0),(3,.i_ r0)],[.row 54 82 (p_m.aP.map ay.lf),.row 3 1 (p_m.fNext.map lfI),.row 3 1 (p_m.bg.map lfI),.box 25 (ag_ (aj.lf1 p_m) [(8,.own 0),(10,.own 1),(11,.own 2)]),.box 25 (Z25)]⟩ (FQ p_m r0).den (sW (by kernel_rfl)) fun r1 _ =>
 .sj Tryz.f38 3 [1,1,0,0] [7,8,9,10,11,12,13] 2 7 [1,2,3,15] 5 (fun r_=>⟨[(1,.ptr 3 0),(2,.ptr 4 0),(3,.i_ r0),(22,.b_ r_)],[.row 54 82 (p_m.aP.map ay.lf),.row 3 1 (p_m.fNext.map lfI),.row 3 1 (p_m.bg.map lfI),.box 25 (ag_ (aj.lf1 p_m) [(8,.own 0),(10,.own 1),(11,.own 2)]),.box 25 (Z25)]⟩) ⟨[(1,.ptr 3 0),(2,.ptr 4 0),(3,.i_ r0),(15,.b_ r1)],[.row 54 82 (p_m.aP.map ay.lf),.row 3 1 (p_m.fNext.map lfI),.row 3 1 (p_m.bg.map lfI),.box 25 (ag_ (aj.lf1 p_m) [(8,.own 0),(10,.own 1),(11,.own 2)]),.box 25 (Z25)]⟩ (FT p_m r0 r1).den (sW (by kernel_rfl)) fun r2 _ =>
 .ite (r2) (fun c0 =>
 .say [.br true] (ok1 c0) <|
 .ret ⟨[.frz 2,.kill 3,.kill 4,.mvn 0,.mvn 1],[0],[(5,3),(6,4)],5⟩ (p_m)) fun c0 =>
 .say [.br false,.at_ 10 2,.frz 2] (ok1 c0) <|
 .cH [] (agV p_m.bg) fun r3 _ =>
 .ask (aif r3) fun r4 h0 =>
 .say [.ji [5] (.tup []) [.row 3 1 (r4.map lfI)],.order [(true,0),(true,1),(true,2),(true,3),(true,4),(true,5),(true,6),(true,7),(true,8),(true,9),(true,10),(true,11)] none [],.num r4.length] (okc (aii _ _ h0) (ok1 (ln_ r4 lfI))) <|
 .ask (bP r4 (IntKind.wrap .i64 ((r4.length:Int) - r0))) fun x0 h1 =>
 .say [.row (lfI x0),.num p_m.aP.length] (okc (cO lI_ h1) (okc ((aX lI_ h1).2) (ok1 (ln_ p_m.aP ay.lf)))) <|
 .ask (Dq p_m (if (p_m.aP.length:Int) < x0 then (p_m.aP.length:Int) else x0)) fun r5 h2 =>
 .say [.part [.kill 5] 0 [1,2,5] 6 (.exit 0) (tZ p_m r5).T (tZ p_m r5).H] (ok1 (abk h2)) <|
 .ret ⟨[.kill 3,.kill 4,.mvn 0,.mvn 1],[0],[(6,3),(7,4)],5⟩ (aj.jR p_m (if p_m.au > r5 then p_m.au else r5))
def Q38 (p_m:aj) : Option (aj) := Mo.den (afx p_m)
theorem alQ (p_m:aj) : FH (Q38 p_m) 38 [wF (.agg ((aj.lf1 p_m).map AV.lf)) [(8,.own 0),(10,.own 1),(11,.own 2)]] [.row 54 82 (p_m.aP.map ay.lf),.row 3 1 (p_m.fNext.map lfI),.row 3 1 (p_m.bg.map lfI)] (fun r=>wF (.agg ((aj.lf1 r).map AV.lf)) [(8,.own 3),(10,.own 4)]) (fun r=>[.dead,.dead,.dead,.row 54 82 (r.aP.map ay.lf),.row 3 1 (r.fNext.map lfI)]) := gX Tryz.func38 (by kernel_rfl) (fun _=>rfl) (by kernel_rfl)
def afy (p_x:ah) (p_b0:aI) : Mo (aI) :=
 .say [.order [(true,0),(true,1),(true,2),(true,3),(true,5),(false,4),(false,6),(false,7),(true,8),(true,9),(false,10)] (some 10) [1,2,3,6,7,8,9,10]] ok0 <|
 .cH [1,2,3] (alL p_b0.aQ p_x) fun r0 _ =>
 .cH [6,7,8] (alQ r0) fun r1 _ =>
 .ret ⟨[.kill 5,.mvn 9,.mvn 10,.mvn 4],[],[(11,5),(12,6),(13,7)],8⟩ (aI.mk r1 p_b0.dB p_b0.eP)
def alR (p_x:ah) (p_b0:aI) : Option (aI) := Mo.den (afy p_x p_b0)
theorem aij (p_x:ah) (p_b0:aI) : FH (alR p_x p_b0) 46 [.ptr 0 0,.dat (ah.lf1 p_x)] [.box 97 (ag_ (aI.lf1 p_b0) [(8,.own 1),(10,.own 2),(11,.own 3),(12,.own 4)]),.row 54 82 (p_b0.aQ.aP.map ay.lf),.row 3 1 (p_b0.aQ.fNext.map lfI),.row 3 1 (p_b0.aQ.bg.map lfI),.row 63 9 (p_b0.dB.map ah.lf)] (fun _=>.tup []) (fun r=>[.box 97 (ag_ (aI.lf1 r) [(8,.own 5),(10,.own 6),(12,.own 7)]),.dead,.dead,.dead,.dead,.row 54 82 (r.aQ.aP.map ay.lf),.row 3 1 (r.aQ.fNext.map lfI),.row 63 9 (r.dB.map ah.lf)]) := gX Tryz.func46 (by kernel_rfl) (fun _=>rfl) (by kernel_rfl)
def nO (p_m:aj) (p_x:ah) : Mo (Bool) :=
 .iG 4005 (p_x.fTo != p_m.fID) (.rt [2,3,4,6,20] 4 (true)) <|
 .rt [2,3,4,6,20] 4 (p_x.bK == p_m.fID)
def nP (p_m:aj) (p_x:ah) (r0:Bool) : Mo (Bool) :=
 .iG 4012 (r0) (.rt [2,3,4,6,25] 4 (true)) <|
 .rt [2,3,4,6,25] 4 (decide ((p_x.bK:Int) < 0))
def kX (p_m:aj) (p_x:ah) (r0:Bool) : Mo (Bool) :=
 .iG 4017 (r0) (.rt [2,3,4,6,32] 4 (true)) <|
 .rt [2,3,4,6,32] 4 (decide ((p_m.bW:Int) ≤ p_x.bK))
def FW (p_m:aj) (p_x:ah) : Mo (aj × (List ah) × bF) :=
 .sj Tryz.f16 0 [1,0,0] [0,1,2,3,4,5,6,7,8,9,10,11] 1 12 [2,3,4,6] 4 (fun r_=>⟨[(2,.ptr 0 0),(3,.ptr 1 0),(4,.ptr 2 0),(6,.ptr 3 0),(20,.b_ r_)],[.box 25 (.dat (aj.lf1 p_m)),.box 63 (.dat (ah.lf1 p_x)),.box 25 (Z25),.box 67 (.agg [.i_ 0,.i_ 0,.i_ 0,.bI 82])]⟩) ⟨[(2,.ptr 0 0),(3,.ptr 1 0),(4,.ptr 2 0),(6,.ptr 3 0)],[.box 25 (.dat (aj.lf1 p_m)),.box 63 (.dat (ah.lf1 p_x)),.box 25 (Z25),.box 67 (.agg [.i_ 0,.i_ 0,.i_ 0,.bI 82])]⟩ (nO p_m p_x).den (sW (by kernel_rfl)) fun r0 _ =>
 .sj Tryz.f16 0 [1,0,0] [12,13,14,15,16] 1 5 [2,3,4,6,20] 4 (fun r_=>⟨[(2,.ptr 0 0),(3,.ptr 1 0),(4,.ptr 2 0),(6,.ptr 3 0),(25,.b_ r_)],[.box 25 (.dat (aj.lf1 p_m)),.box 63 (.dat (ah.lf1 p_x)),.box 25 (Z25),.box 67 (.agg [.i_ 0,.i_ 0,.i_ 0,.bI 82])]⟩) ⟨[(2,.ptr 0 0),(3,.ptr 1 0),(4,.ptr 2 0),(6,.ptr 3 0),(20,.b_ r0)],[.box 25 (.dat (aj.lf1 p_m)),.box 63 (.dat (ah.lf1 p_x)),.box 25 (Z25),.box 67 (.agg [.i_ 0,.i_ 0,.i_ 0,.bI 82])]⟩ (nP p_m p_x r0).den (sW (by kernel_rfl)) fun r1 _ =>
 .sj Tryz.f16 0 [1,0,0] [17,18,19,20,21,22,23] 1 7 [2,3,4,6,25] 4 (fun r_=>⟨[(2,.ptr 0 0),(3,.ptr 1 0),(4,.ptr 2 0),(6,.ptr 3 0),(32,.b_ r_)],[.box 25 (.dat (aj.lf1 p_m)),.box 63 (.dat (ah.lf1 p_x)),.box 25 (Z25),.box 67 (.agg [.i_ 0,.i_ 0,.i_ 0,.bI 82])]⟩) ⟨[(2,.ptr 0 0),(3,.ptr 1 0),(4,.ptr 2 0),(6,.ptr 3 0),(25,.b_ r1)],[.box 25 (.dat (aj.lf1 p_m)),.box 63 (.dat (ah.lf1 p_x)),.box 25 (Z25),.box 67 (.agg [.i_ 0,.i_ 0,.i_ 0,.bI 82])]⟩ (kX p_m p_x r1).den (sW (by kernel_rfl)) fun r2 _ =>
 .iB (r2) (.cH [] (qc p_m) fun r3 _ =>
 .ask (UC) fun r4 h0 =>
 .say [.res (.dat (bF.lf1 r4)),.at_ 0 0,.frz 4,.frz 5,.frz 6] (ok1 (tN  _ h0)) <|
 .ret ⟨[.nil 1 9,.tod 1],[0,1,2],[],0⟩ (r3,[],r4)) <|
 .iB (p_x.aU == 1) (.cH [] (qc p_m) fun r5 _ =>
 .ask (UC) fun r6 h1 =>
 .say [.res (.dat (bF.lf1 r6)),.at_ 32 3,.OQ 7 12 63,.kE 8 (([] : List ah).map ah.lf)] (okc (tN  _ h1) (ok1 (by simp [ah.aZ] : (([] : List ah).map ah.lf) = []))) <|
 .ask (alp p_x (aI.mk r5 ([] : List ah) r6)) fun r7 h2 =>
 .say [.ji [7,4,5,6,8] (.tup []) [.box 97 (.dat (aI.lf1 r7)),.dead,.dead,.dead,.dead],.order [(true,0),(true,1),(true,2),(true,3),(true,4),(true,5),(true,6),(true,7),(true,8),(true,9),(true,10),(true,11),(false,12),(true,13),(false,14)] (some 14) [2]] (ok1 (ahK _ _ _ h2)) <|
 .ret (bD 3) (r7.aQ,r7.dB,r7.eP)) <|
 .iB (p_x.aU == 2) (.cH [] (qc p_m) fun r8 _ =>
 .ask (UC) fun r9 h3 =>
 .say [.res (.dat (bF.lf1 r9)),.at_ 32 3,.OQ 7 12 63,.kE 8 (([] : List ah).map ah.lf)] (okc (tN  _ h3) (ok1 (by simp [ah.aZ] : (([] : List ah).map ah.lf) = []))) <|
 .ask (alz p_x (aI.mk r8 ([] : List ah) r9)) fun r10 h4 =>
 .say [.ji [7,4,5,6,8] (.tup []) [.box 97 (ag_ (aI.lf1 r10) [(12,.own 5)]),.dead,.dead,.dead,.dead,.row 63 9 (r10.dB.map ah.lf)],.order [(true,0),(true,1),(true,2),(true,3),(true,4),(true,5),(true,6),(true,7),(true,8),(true,9),(true,10),(true,11),(false,12),(true,13),(false,14)] (some 14) [2],.at_ 0 0,.frz 9] (ok1 (ahO _ _ _ h4)) <|
 .ret (bD 3) (r10.aQ,r10.dB,r10.eP)) <|
 .iB (p_x.aU == 3) (.cH [] (qc p_m) fun r11 _ =>
 .ask (UC) fun r12 h5 =>
 .say [.res (.dat (bF.lf1 r12)),.at_ 32 3,.OQ 7 12 63,.kE 8 (([] : List ah).map ah.lf)] (okc (tN  _ h5) (ok1 (by simp [ah.aZ] : (([] : List ah).map ah.lf) = []))) <|
 .ask (Q44 p_x (aI.mk r11 ([] : List ah) r12)) fun r13 h6 =>
 .say [.ji [7,4,5,6,8] (.tup []) [.box 97 (ag_ (aI.lf1 r13) [(8,.own 5),(10,.own 6),(11,.own 7),(12,.own 8)]),.dead,.dead,.dead,.dead,.row 54 82 (r13.aQ.aP.map ay.lf),.row 3 1 (r13.aQ.fNext.map lfI),.row 3 1 (r13.aQ.bg.map lfI),.row 63 9 (r13.dB.map ah.lf)],.order [(true,0),(true,1),(true,2),(true,3),(true,4),(true,5),(true,6),(true,7),(true,8),(true,9),(true,10),(true,11),(false,12),(true,13),(false,14)] (some 14) [2],.at_ 0 0,.frz 9,.frz 10,.frz 11,.frz 12] (ok1 (alK _ _ _ h6)) <|
 .ret (bD 3) (r13.aQ,r13.dB,r13.eP)) <|
 .iB (p_x.aU == 4) (.cH [] (qc p_m) fun r14 _ =>
 .ask (UC) fun r15 h7 =>
 .say [.res (.dat (bF.lf1 r15)),.at_ 32 3,.OQ 7 12 63,.kE 8 (([] : List ah).map ah.lf)] (okc (tN  _ h7) (ok1 (by simp [ah.aZ] : (([] : List ah).map ah.lf) = []))) <|
 .ask (alR p_x (aI.mk r14 ([] : List ah) r15)) fun r16 h8 =>
 .say [.ji [7,4,5,6,8] (.tup []) [.box 97 (ag_ (aI.lf1 r16) [(8,.own 5),(10,.own 6),(12,.own 7)]),.dead,.dead,.dead,.dead,.row 54 82 (r16.aQ.aP.map ay.lf),.row 3 1 (r16.aQ.fNext.map lfI),.row 63 9 (r16.dB.map ah.lf)],.order [(true,0),(true,1),(true,2),(true,3),(true,4),(true,5),(true,6),(true,7),(true,8),(true,9),(true,10),(true,11),(false,12),(true,13),(false,14)] (some 14) [2],.at_ 0 0,.frz 9,.frz 10,.frz 11] (ok1 (aij _ _ _ h8)) <|
 .ret (bD 3) (r16.aQ,r16.dB,r16.eP)) <|
 .cH [] (qc p_m) fun r17 _ =>
 .ask (UC) fun r18 h9 =>
 .say [.res (.dat (bF.lf1 r18)),.at_ 0 0,.frz 4,.frz 5,.frz 6] (ok1 (tN  _ h9)) <|
 .ret ⟨[.nil 1 9,.tod 1],[0,1,2],[],0⟩ (r17,[],r18)
def Q45 (p_m:aj) (p_x:ah) : Option (aj × (List ah) × bF) := Mo.den (FW p_m p_x)
theorem afz (p_m:aj) (p_x:ah) : FV (Q45 p_m p_x) 16 [.dat (aj.lf1 p_m),.dat (ah.lf1 p_x)] (fun r=>.tup [.dat (aj.lf1 r.1),.lf (.rows 9 (r.2.1.map ah.lf)),.dat (bF.lf1 r.2.2)]) := bZ Tryz.func16 (by kernel_rfl) (fun _=>rfl) (by kernel_rfl)
def alS (p_m:aj) (p_e:ay) : Mo (aj × Int) :=
 .say [.br true] ok0 <|
 .ite (p_m.dh != 2) (fun c0 =>
 .say [] (ok1 c0) <|
 .ret (bD 2) (aj.z,25)) fun c0 =>
 .stop
def ang (p_m:aj) (p_e:ay) : Option (aj × Int) := Mo.den (alS p_m p_e)
theorem N8 (p_m:aj) (p_e:ay) : FV (ang p_m p_e) 12 [.dat (aj.lf1 p_m),.dat (ay.lf1 p_e)] (fun r=>.tup [.dat (aj.lf1 r.1),.i_ r.2]) := bZ Tryz.func12 (by kernel_rfl) (fun _=>rfl) (by kernel_rfl)
def alT (p_m:aj) : Mo (aj × List ah) :=
 .say [.br true] ok0 <|
 .ite (decide ((1:Int) < p_m.gu)) (fun c0 =>
 .say [] (ok1 c0) <|
 .ask (ahI p_m) fun r0 h0 =>
 .say [.ji [] (ag_ (aj.lf1 r0) [(8,.own 0),(10,.own 1),(11,.own 2)]) [.row 54 82 (r0.aP.map ay.lf),.row 3 1 (r0.fNext.map lfI),.row 3 1 (r0.bg.map lfI)],.at_ 0 0,.frz 2,.frz 3,.frz 4] (ok1 (qc _ _ h0)) <|
 .ret ⟨[.nil 1 9,.tod 1],[0,1],[],0⟩ (aj.kU r0 (IntKind.wrap .i64 (r0.gu - 1)),[])) fun c0 =>
 .stop
def anN (p_m:aj) : Option (aj × List ah) := Mo.den (alT p_m)
theorem aik (p_m:aj) : FV (anN p_m) 20 [.dat (aj.lf1 p_m)] (fun r=>.tup [.dat (aj.lf1 r.1),.lf (.rows 9 (r.2.map ah.lf))]) := bZ Tryz.func20 (by kernel_rfl) (fun _=>rfl) (by kernel_rfl)
def U2 (r0:aj × (List ah) × bF) (r1:aj × Int) (r2:aj × List ah) : Mo (Bool) :=
 .say [.num r0.1.aP.length] (ok1 (ln_ r0.1.aP ay.lf)) <|
 .iG 18004 ((r0.1.aP.length:Int) == 1) (.ret ⟨[.kill 3],[5,6,8,9,10,46],[],7⟩ (r0.1.au == 1)) <|
 .ret ⟨[.kill 3],[5,6,8,9,10,46],[],7⟩ (false)
def afA (r0:aj × (List ah) × bF) (r1:aj × Int) (r2:aj × List ah) : Option (Bool) := Mo.den (U2 r0 r1 r2)
def zC (r0:aj × (List ah) × bF) (r1:aj × Int) (r2:aj × List ah) (r_:Bool) : St := ⟨[(5,.lf (.rows 9 (r0.2.1.map ah.lf))),(6,.ptr 4 0),(8,.i_ r1.2),(9,.ptr 6 0),(10,.lf (.rows 9 (r2.2.map ah.lf))),(46,.b_ r_)],[.dead,.dead,.dead,.dead,.box 67 (.agg [.i_ r0.2.2.dX,.i_ r0.2.2.bf,.i_ r0.2.2.fAt,.lf (.rows 82 (r0.2.2.aN.map ay.lf))]),.dead,.box 25 (.agg ((aj.lf1 r2.1).map AV.lf))]⟩
theorem afB {r0:aj × (List ah) × bF} {r1:aj × Int} {r2:aj × List ah} {r_:Bool} (h:afA r0 r1 r2 = some r_) : PE Tryz.f11 0 [1,1,1,1,1,1,1,0] [0,1,2,3,4,5,6,7,8] (zC r0 r1 r2 r_) ⟨[(4,.ptr 3 0),(5,.lf (.rows 9 (r0.2.1.map ah.lf))),(6,.ptr 4 0),(8,.i_ r1.2),(9,.ptr 6 0),(10,.lf (.rows 9 (r2.2.map ah.lf)))],[.dead,.dead,.dead,.box 25 (.agg ((aj.lf1 r0.1).map AV.lf)),.box 67 (.agg [.i_ r0.2.2.dX,.i_ r0.2.2.bf,.i_ r0.2.2.fAt,.lf (.rows 82 (r0.2.2.aN.map ay.lf))]),.dead,.box 25 (.agg ((aj.lf1 r2.1).map AV.lf))]⟩ :=
 YK dK (U2 r0 r1 r2) (zC r0 r1 r2) (by kernel_rfl) h
def afC (r0:aj × (List ah) × bF) (r1:aj × Int) (r2:aj × List ah) (r3:Bool) : Mo (Bool) :=
 .ite (r3) (fun c0 =>
 .say [.gd 18009 true,.num r0.2.1.length] (okc c0 (ok1 (ln_ r0.2.1 ah.lf))) <|
 .rt [5,6,8,9,10,51] 7 ((r0.2.1.length:Int) == 1)) fun c0 =>
 .say [.gd 18009 false] (ok1 c0) <|
 .rt [5,6,8,9,10,51] 7 (false)
def abl (r0:aj × (List ah) × bF) (r1:aj × Int) (r2:aj × List ah) (r3:Bool) : Mo (Bool) :=
 .iG 18014 (r3) (.ask (bP r0.2.1 0) fun x0 h0 =>
 .say [.row (ah.lf1 x0)] (ok1 (aX ah.aZ h0)) <|
 .rt [5,6,8,9,10,57] 7 (x0.fOK)) <|
 .rt [5,6,8,9,10,57] 7 (false)
def abm (r0:aj × (List ah) × bF) (r1:aj × Int) (r2:aj × List ah) (r3:Bool) : Mo (Bool) :=
 .iG 18020 (r3) (.ask (bP r0.2.1 0) fun x0 h0 =>
 .say [.row (ah.lf1 x0)] (ok1 (aX ah.aZ h0)) <|
 .rt [6,8,9,10,64] 7 (x0.aW == 1)) <|
 .rt [6,8,9,10,64] 7 (false)
def abn (r0:aj × (List ah) × bF) (r1:aj × Int) (r2:aj × List ah) (r3:Bool) : Mo (Bool) :=
 .iG 18027 (r3) (.ret ⟨[.kill 4],[8,9,10,69],[],7⟩ (r0.2.2.dX == (-1))) <|
 .ret ⟨[.kill 4],[8,9,10,69],[],7⟩ (false)
def abo (r0:aj × Int) (r1:aj × List ah) (r2:Bool) : Mo (Bool) :=
 .iG 18032 (r2) (.rt [9,10,73] 7 (r0.2 == 25)) <|
 .rt [9,10,73] 7 (false)
def abp (r0:aj × List ah) (r1:Bool) : Mo (Bool) :=
 .iG 18036 (r1) (.ret ⟨[.kill 6],[10,78],[],7⟩ (r0.1.gu == 12)) <|
 .ret ⟨[.kill 6],[10,78],[],7⟩ (false)
def abq (r0:aj × List ah) (r1:Bool) : Mo (Bool) :=
 .ite (r1) (fun c0 =>
 .say [.gd 18041 true,.num r0.2.length] (okc c0 (ok1 (ln_ r0.2 ah.lf))) <|
 .rt [83] 7 ((r0.2.length:Int) == 0)) fun c0 =>
 .say [.gd 18041 false] (ok1 c0) <|
 .rt [83] 7 (false)
def abr (r0:Bool) : Mo (Unit) :=
 .rt [0] 7 ()
def anh  : Mo (Bool) :=
 .cl (ahr 1 3) fun r0 _ =>
 .iB (r0.2 != 0) (.ret (bD 1) (false)) <|
 .ask (alc 1 1) fun r1 h0 =>
 .say [.res (.dat (ay.lf1 r1)),.at_ 12 2,.VK 1 ([r1].map ay.lf)] (okc (NK _ _ _ h0) (ok1 (by simp [ay.aZ] : [r1].map ay.lf = [(ay.lf1 r1)]))) <|
 .cl (afz r0.1 (ah.acu (ah.jR (ah.iV (ah.iR (ah.sTo ah.z 1) 3) 1) 1) [r1])) fun r2 _ =>
 .ask (alc 0 1) fun r3 h1 =>
 .say [] (ok1 (NK _ _ _ h1)) <|
 .ask (ang r0.1 r3) fun r4 h2 =>
 .say [.dL (.q 0 (.alt 1 (.alt 2 (.q 3 (.q 4 (.q 5 (.l 6 (.l 7 (.q 8 .fin)))))) (.l 6 (.l 2 (.q 3 (.q 4 (.q 5 (.l 7 (.q 8 .fin)))))))) (.l 6 (.l 1 (.l 2 (.q 3 (.q 4 (.q 5 (.l 7 (.q 8 .fin)))))))))) none [5] [.both [.at_ 14 1,.resv 1,.res (.dat (ay.lf1 r3)),.both [.res (.tup [.dat (aj.lf1 r4.1),.i_ r4.2]),.slot 5] [.slot 5,.res (.tup [.dat (aj.lf1 r4.1),.i_ r4.2])]] [.at_ 14 6,.resv 1,.slot 5,.res (.dat (ay.lf1 r3)),.res (.tup [.dat (aj.lf1 r4.1),.i_ r4.2])]] [1,4,5,6,8] 6 [(1,.ptr 0 0),(4,.ptr 3 0),(5,.lf (.rows 9 (r2.2.1.map ah.lf))),(6,.ptr 4 0),(8,.i_ r4.2)] [.box 25 (.agg ((aj.lf1 r0.1).map AV.lf)),.dead,.box 63 (.agg [.i_ 0,.i_ 1,.i_ 3,.i_ 1,.i_ 0,.i_ 0,.i_ 1,.lf (.rows 82 ([r1].map ay.lf)),.b_ false]),.box 25 (.agg ((aj.lf1 r2.1).map AV.lf)),.box 67 (.agg [.i_ r2.2.2.dX,.i_ r2.2.2.bf,.i_ r2.2.2.fAt,.lf (.rows 82 (r2.2.2.aN.map ay.lf))]),.box 25 (.agg ((aj.lf1 r4.1).map AV.lf))]] (okc (N8 _ _ _ h2) (okc (rf_ ⟨[(1,.ptr 0 0),(4,.ptr 3 0),(5,.lf (.rows 9 (r2.2.1.map ah.lf))),(6,.ptr 4 0),(8,.i_ r4.2)],[.box 25 (.agg ((aj.lf1 r0.1).map AV.lf)),.dead,.box 63 (.agg [.i_ 0,.i_ 1,.i_ 3,.i_ 1,.i_ 0,.i_ 0,.i_ 1,.lf (.rows 82 ([r1].map ay.lf)),.b_ false]),.box 25 (.agg ((aj.lf1 r2.1).map AV.lf)),.box 67 (.agg [.i_ r2.2.2.dX,.i_ r2.2.2.bf,.i_ r2.2.2.fAt,.lf (.rows 82 (r2.2.2.aN.map ay.lf))]),.box 25 (.agg ((aj.lf1 r4.1).map AV.lf))]⟩) (okc (N8 _ _ _ h2) (okc (rf_ ⟨[(1,.ptr 0 0),(4,.ptr 3 0),(5,.lf (.rows 9 (r2.2.1.map ah.lf))),(6,.ptr 4 0),(8,.i_ r4.2)],[.box 25 (.agg ((aj.lf1 r0.1).map AV.lf)),.dead,.box 63 (.agg [.i_ 0,.i_ 1,.i_ 3,.i_ 1,.i_ 0,.i_ 0,.i_ 1,.lf (.rows 82 ([r1].map ay.lf)),.b_ false]),.box 25 (.agg ((aj.lf1 r2.1).map AV.lf)),.box 67 (.agg [.i_ r2.2.2.dX,.i_ r2.2.2.bf,.i_ r2.2.2.fAt,.lf (.rows 82 (r2.2.2.aN.map ay.lf))]),.box 25 (.agg ((aj.lf1 r4.1).map AV.lf))]⟩) (okc (NK _ _ _ h1) (okc (N8 _ _ _ h2) (ok1 (rf_ ⟨[(1,.ptr 0 0),(4,.ptr 3 0),(5,.lf (.rows 9 (r2.2.1.map ah.lf))),(6,.ptr 4 0),(8,.i_ r4.2)],[.box 25 (.agg ((aj.lf1 r0.1).map AV.lf)),.dead,.box 63 (.agg [.i_ 0,.i_ 1,.i_ 3,.i_ 1,.i_ 0,.i_ 0,.i_ 1,.lf (.rows 82 ([r1].map ay.lf)),.b_ false]),.box 25 (.agg ((aj.lf1 r2.1).map AV.lf)),.box 67 (.agg [.i_ r2.2.2.dX,.i_ r2.2.2.bf,.i_ r2.2.2.fAt,.lf (.rows 82 (r2.2.2.aN.map ay.lf))]),.box 25 (.agg ((aj.lf1 r4.1).map AV.lf))]⟩)))))))) <|
 .cl (aik r0.1) fun r5 _ =>
 .ask (afA r2 r4 r5) fun r6 h3 =>
 .say [.seg 8 [.kill 0,.kill 2,.kill 5] 9 [4,5,6,8,9,10] 7 (zC r2 r4 r5 r6).T (zC r2 r4 r5 r6).H] (ok1 (afB h3)) <|
 .sj Tryz.f11 0 [1,1,1,1,1,1,1,0] [9,10,11,12,13] 8 5 [5,6,8,9,10,46] 7 (fun r_=>⟨[(5,.lf (.rows 9 (r2.2.1.map ah.lf))),(6,.ptr 4 0),(8,.i_ r4.2),(9,.ptr 6 0),(10,.lf (.rows 9 (r5.2.map ah.lf))),(51,.b_ r_)],[.dead,.dead,.dead,.dead,.box 67 (.agg [.i_ r2.2.2.dX,.i_ r2.2.2.bf,.i_ r2.2.2.fAt,.lf (.rows 82 (r2.2.2.aN.map ay.lf))]),.dead,.box 25 (.agg ((aj.lf1 r5.1).map AV.lf))]⟩) ⟨[(5,.lf (.rows 9 (r2.2.1.map ah.lf))),(6,.ptr 4 0),(8,.i_ r4.2),(9,.ptr 6 0),(10,.lf (.rows 9 (r5.2.map ah.lf))),(46,.b_ r6)],[.dead,.dead,.dead,.dead,.box 67 (.agg [.i_ r2.2.2.dX,.i_ r2.2.2.bf,.i_ r2.2.2.fAt,.lf (.rows 82 (r2.2.2.aN.map ay.lf))]),.dead,.box 25 (.agg ((aj.lf1 r5.1).map AV.lf))]⟩ (afC r2 r4 r5 r6).den (sW (by kernel_rfl)) fun r7 _ =>
 .sj Tryz.f11 0 [1,1,1,1,1,1,1,0] [14,15,16,17,18,19] 8 6 [5,6,8,9,10,51] 7 (fun r_=>⟨[(5,.lf (.rows 9 (r2.2.1.map ah.lf))),(6,.ptr 4 0),(8,.i_ r4.2),(9,.ptr 6 0),(10,.lf (.rows 9 (r5.2.map ah.lf))),(57,.b_ r_)],[.dead,.dead,.dead,.dead,.box 67 (.agg [.i_ r2.2.2.dX,.i_ r2.2.2.bf,.i_ r2.2.2.fAt,.lf (.rows 82 (r2.2.2.aN.map ay.lf))]),.dead,.box 25 (.agg ((aj.lf1 r5.1).map AV.lf))]⟩) ⟨[(5,.lf (.rows 9 (r2.2.1.map ah.lf))),(6,.ptr 4 0),(8,.i_ r4.2),(9,.ptr 6 0),(10,.lf (.rows 9 (r5.2.map ah.lf))),(51,.b_ r7)],[.dead,.dead,.dead,.dead,.box 67 (.agg [.i_ r2.2.2.dX,.i_ r2.2.2.bf,.i_ r2.2.2.fAt,.lf (.rows 82 (r2.2.2.aN.map ay.lf))]),.dead,.box 25 (.agg ((aj.lf1 r5.1).map AV.lf))]⟩ (abl r2 r4 r5 r7).den (sW (by kernel_rfl)) fun r8 _ =>
 .sj Tryz.f11 0 [1,1,1,1,1,1,1,0] [20,21,22,23,24,25,26] 8 7 [5,6,8,9,10,57] 7 (fun r_=>⟨[(6,.ptr 4 0),(8,.i_ r4.2),(9,.ptr 6 0),(10,.lf (.rows 9 (r5.2.map ah.lf))),(64,.b_ r_)],[.dead,.dead,.dead,.dead,.box 67 (.agg [.i_ r2.2.2.dX,.i_ r2.2.2.bf,.i_ r2.2.2.fAt,.lf (.rows 82 (r2.2.2.aN.map ay.lf))]),.dead,.box 25 (.agg ((aj.lf1 r5.1).map AV.lf))]⟩) ⟨[(5,.lf (.rows 9 (r2.2.1.map ah.lf))),(6,.ptr 4 0),(8,.i_ r4.2),(9,.ptr 6 0),(10,.lf (.rows 9 (r5.2.map ah.lf))),(57,.b_ r8)],[.dead,.dead,.dead,.dead,.box 67 (.agg [.i_ r2.2.2.dX,.i_ r2.2.2.bf,.i_ r2.2.2.fAt,.lf (.rows 82 (r2.2.2.aN.map ay.lf))]),.dead,.box 25 (.agg ((aj.lf1 r5.1).map AV.lf))]⟩ (abm r2 r4 r5 r8).den (sW (by kernel_rfl)) fun r9 _ =>
 .sj Tryz.f11 0 [1,1,1,1,1,1,1,0] [27,28,29,30,31] 8 5 [6,8,9,10,64] 7 (fun r_=>⟨[(8,.i_ r4.2),(9,.ptr 6 0),(10,.lf (.rows 9 (r5.2.map ah.lf))),(69,.b_ r_)],[.dead,.dead,.dead,.dead,.dead,.dead,.box 25 (.agg ((aj.lf1 r5.1).map AV.lf))]⟩) ⟨[(6,.ptr 4 0),(8,.i_ r4.2),(9,.ptr 6 0),(10,.lf (.rows 9 (r5.2.map ah.lf))),(64,.b_ r9)],[.dead,.dead,.dead,.dead,.box 67 (.agg [.i_ r2.2.2.dX,.i_ r2.2.2.bf,.i_ r2.2.2.fAt,.lf (.rows 82 (r2.2.2.aN.map ay.lf))]),.dead,.box 25 (.agg ((aj.lf1 r5.1).map AV.lf))]⟩ (abn r2 r4 r5 r9).den (sW (by kernel_rfl)) fun r10 _ =>
 .sj Tryz.f11 0 [1,1,1,1,1,1,1,0] [32,33,34,35] 8 4 [8,9,10,69] 7 (fun r_=>⟨[(9,.ptr 6 0),(10,.lf (.rows 9 (r5.2.map ah.lf))),(73,.b_ r_)],[.dead,.dead,.dead,.dead,.dead,.dead,.box 25 (.agg ((aj.lf1 r5.1).map AV.lf))]⟩) ⟨[(8,.i_ r4.2),(9,.ptr 6 0),(10,.lf (.rows 9 (r5.2.map ah.lf))),(69,.b_ r10)],[.dead,.dead,.dead,.dead,.dead,.dead,.box 25 (.agg ((aj.lf1 r5.1).map AV.lf))]⟩ (abo r4 r5 r10).den (sW (by kernel_rfl)) fun r11 _ =>
 .sj Tryz.f11 0 [1,1,1,1,1,1,1,0] [36,37,38,39,40] 8 5 [9,10,73] 7 (fun r_=>⟨[(10,.lf (.rows 9 (r5.2.map ah.lf))),(78,.b_ r_)],[.dead,.dead,.dead,.dead,.dead,.dead,.dead]⟩) ⟨[(9,.ptr 6 0),(10,.lf (.rows 9 (r5.2.map ah.lf))),(73,.b_ r11)],[.dead,.dead,.dead,.dead,.dead,.dead,.box 25 (.agg ((aj.lf1 r5.1).map AV.lf))]⟩ (abp r5 r11).den (sW (by kernel_rfl)) fun r12 _ =>
 .sj Tryz.f11 0 [1,1,1,1,1,1,1,0] [41,42,43,44,45] 8 5 [10,78] 7 (fun r_=>⟨[(83,.b_ r_)],[.dead,.dead,.dead,.dead,.dead,.dead,.dead]⟩) ⟨[(10,.lf (.rows 9 (r5.2.map ah.lf))),(78,.b_ r12)],[.dead,.dead,.dead,.dead,.dead,.dead,.dead]⟩ (abq r5 r12).den (sW (by kernel_rfl)) fun r13 _ =>
 .sj Tryz.f11 0 [1,1,1,1,1,1,1,0] [46] 8 1 [83] 7 (fun r_=>⟨[(0,.b_ r13)],[.dead,.dead,.dead,.dead,.dead,.dead,.dead]⟩) ⟨[(83,.b_ r13)],[.dead,.dead,.dead,.dead,.dead,.dead,.dead]⟩ (abr r13).den (sW (by kernel_rfl)) fun r14 _ =>
 .ret (bD 1) (r13)
def Q40  : Option (Bool) := Mo.den (anh )
theorem afD:FV (Q40 ) 11 [] (fun r=>.b_ r) := bZ Tryz.func11 (by kernel_rfl) (fun _=>rfl) (by kernel_rfl)
def alU  : Mo (bF) :=
 .ret (bD 1) (bF.mk (-1) 0 0 [])
def ani  : Option (bF) := Mo.den (alU )
theorem mX:FV (ani ) 47 [] (fun r=>.dat (bF.lf1 r)) := bZ Tryz.func47 (by kernel_rfl) (fun _=>rfl) (by kernel_rfl)
def KU (p_m:aj) (p_term:Int) : Mo (aj) :=
 .iB (p_m.dh == 2) (.cl (NJ p_m.fID) fun r0 _ =>
 .rt [1,2,4] 2 (aj.kU p_m r0)) <|
 .rt [1,2,4] 2 (p_m)
def afE (p_m:aj) (p_term:Int) : Mo (aj) :=
 .iB (decide ((p_term:Int) ≤ p_m.bf)) (.ret (bD 1) (p_m)) <|
 .jp Tryz.f85 0 [1,1,0,1] 1 [1,2,4,12] 2 (.normal) (fun r_=>⟨[(1,.i_ p_term),(2,.ptr 0 0),(4,.ptr 1 0)],[.box 25 (.dat (aj.lf1 r_)),.box 25 (Z25)]⟩) ⟨[(1,.i_ p_term),(2,.ptr 0 0),(4,.ptr 1 0),(12,.lf (.bool (p_m.dh == 2)))],[.box 25 (.dat (aj.lf1 p_m)),.box 25 (Z25)]⟩ (KU p_m p_term).den (jW (by kernel_rfl)) fun r0 _ =>
 .ret (bD 1) (aj.jR (aj.nJ (aj.kU (aj.pR (aj.IK (aj.iV (aj.aiL (aj.sID aj.z r0.fID) r0.bW) p_term) (-1)) (-1)) r0.gu) r0.aP) r0.au)
def alV (p_m:aj) (p_term:Int) : Option (aj) := Mo.den (afE p_m p_term)
theorem Dt (p_m:aj) (p_term:Int) : FV (alV p_m p_term) 85 [.dat (aj.lf1 p_m),.i_ p_term] (fun r=>.dat (aj.lf1 r)) := bZ Tryz.func85 (by kernel_rfl) (fun _=>rfl) (by kernel_rfl)
def afF (p_m:aj) : Mo (Int) :=
 .say [.num p_m.aP.length] (ok1 (ln_ p_m.aP ay.lf)) <|
 .ite ((p_m.aP.length:Int) == 0) (fun c0 =>
 .say [.br true] (ok1 c0) <|
 .ret (bD 1) (0)) fun c0 =>
 .say [.br false,.num p_m.aP.length] (okc c0 (ok1 (ln_ p_m.aP ay.lf))) <|
 .ask (bP p_m.aP (IntKind.wrap .i64 ((p_m.aP.length:Int) - 1))) fun x0 h0 =>
 .say [.row (ay.lf1 x0)] (ok1 (aX ay.aZ h0)) <|
 .ret (bD 1) (x0.bf)
def afG (p_m:aj) : Option (Int) := Mo.den (afF p_m)
theorem uf (p_m:aj) : FV (afG p_m) 86 [.dat (aj.lf1 p_m)] (fun r=>.i_ r) := bZ Tryz.func86 (by kernel_rfl) (fun _=>rfl) (by kernel_rfl)
end
end Go.Proofs.YtdnafbfmaphhhaaGreatDoor
set_option linter.unusedSimpArgs false
set_option linter.unusedVariables false
namespace Go.Proofs.YtdnafbfmaphhhaaGreatDoor
open Go.RowKit
set_option maxRecDepth 20000
set_option maxHeartbeats 4000000
noncomputable section
def U3 (p_x:ah) (r0:aj) : Mo (Bool) :=
 .ask (afG r0) fun r1 h0 =>
 .say [] (ok1 (uf _ _ h0)) <|
 .ite (decide ((r1:Int) < p_x.jd)) (fun c0 =>
 .say [.dL (.q 0 (.q 1 (.q 2 (.l 3 (.q 4 (.q 5 (.q 6 (.alt 7 (.l 8 (.l 9 (.q 10 (.q 11 (.q 12 (.q 14 (.alt 13 (.l 15 (.q 16 (.q 17 (.q 18 (.q 19 (.q 20 .fin)))))) (.l 15 (.q 16 (.l 13 (.q 17 (.q 18 (.q 19 (.q 20 .fin)))))))))))))) (.l 8 (.alt 7 (.l 9 (.q 10 (.q 11 (.q 12 (.q 14 (.alt 13 (.l 15 (.q 16 (.q 17 (.q 18 (.q 19 (.q 20 .fin)))))) (.l 15 (.q 16 (.l 13 (.q 17 (.q 18 (.q 19 (.q 20 .fin))))))))))))) (.l 9 (.l 7 (.q 10 (.q 11 (.q 12 (.q 14 (.alt 13 (.l 15 (.q 16 (.q 17 (.q 18 (.q 19 (.q 20 .fin)))))) (.l 15 (.q 16 (.l 13 (.q 17 (.q 18 (.q 19 (.q 20 .fin)))))))))))))))))))))))) none [] [.res (.i_ r1),.gd 10005 true,.both [.both [] []] [.both [.both [] []] [.both [] []]]] [2,3,4,6] 3 [(2,.ptr 0 0),(3,.ptr 1 0),(4,.ptr 2 0),(6,.b_ true)] [.box 25 (.dat (aj.lf1 r0)),.box 63 (.dat (ah.lf1 p_x)),.box 25 (Z25)]] (okc c0 (okc (rf_ ⟨[(2,.ptr 0 0),(3,.ptr 1 0),(4,.ptr 2 0),(6,.b_ true)],[.box 25 (.dat (aj.lf1 r0)),.box 63 (.dat (ah.lf1 p_x)),.box 25 (Z25)]⟩) (okc (rf_ ⟨[(2,.ptr 0 0),(3,.ptr 1 0),(4,.ptr 2 0),(6,.b_ true)],[.box 25 (.dat (aj.lf1 r0)),.box 63 (.dat (ah.lf1 p_x)),.box 25 (Z25)]⟩) (okc (rf_ ⟨[(2,.ptr 0 0),(3,.ptr 1 0),(4,.ptr 2 0),(6,.b_ true)],[.box 25 (.dat (aj.lf1 r0)),.box 63 (.dat (ah.lf1 p_x)),.box 25 (Z25)]⟩) (okc (rf_ ⟨[(2,.ptr 0 0),(3,.ptr 1 0),(4,.ptr 2 0),(6,.b_ true)],[.box 25 (.dat (aj.lf1 r0)),.box 63 (.dat (ah.lf1 p_x)),.box 25 (Z25)]⟩) (okc (rf_ ⟨[(2,.ptr 0 0),(3,.ptr 1 0),(4,.ptr 2 0),(6,.b_ true)],[.box 25 (.dat (aj.lf1 r0)),.box 63 (.dat (ah.lf1 p_x)),.box 25 (Z25)]⟩) (ok1 (rf_ ⟨[(2,.ptr 0 0),(3,.ptr 1 0),(4,.ptr 2 0),(6,.b_ true)],[.box 25 (.dat (aj.lf1 r0)),.box 63 (.dat (ah.lf1 p_x)),.box 25 (Z25)]⟩)))))))) <|
 .rt [2,3,4,6] 3 (true)) fun c0 =>
 .say [] (ok1 c0) <|
 .ask (afG r0) fun r2 h1 =>
 .say [] (ok1 (uf _ _ h1)) <|
 .ite (p_x.jd == r2) (fun c1 =>
 .say [.dL (.q 0 (.q 1 (.q 2 (.l 3 (.q 4 (.q 5 (.q 6 (.alt 7 (.l 8 (.l 9 (.q 10 (.q 11 (.q 12 (.q 14 (.alt 13 (.l 15 (.q 16 (.q 17 (.q 18 (.q 19 (.q 20 .fin)))))) (.l 15 (.q 16 (.l 13 (.q 17 (.q 18 (.q 19 (.q 20 .fin)))))))))))))) (.l 8 (.alt 7 (.l 9 (.q 10 (.q 11 (.q 12 (.q 14 (.alt 13 (.l 15 (.q 16 (.q 17 (.q 18 (.q 19 (.q 20 .fin)))))) (.l 15 (.q 16 (.l 13 (.q 17 (.q 18 (.q 19 (.q 20 .fin))))))))))))) (.l 9 (.l 7 (.q 10 (.q 11 (.q 12 (.q 14 (.alt 13 (.l 15 (.q 16 (.q 17 (.q 18 (.q 19 (.q 20 .fin)))))) (.l 15 (.q 16 (.l 13 (.q 17 (.q 18 (.q 19 (.q 20 .fin)))))))))))))))))))))))) none [] [.res (.i_ r1),.gd 10005 false,.both [.res (.i_ r2),.gd 10011 true,.both [.num r0.aP.length] [.num r0.aP.length]] [.both [.res (.i_ r2),.gd 10011 true,.both [.num r0.aP.length] [.num r0.aP.length]] [.res (.i_ r2),.gd 10011 true,.both [.num r0.aP.length] [.num r0.aP.length]]]] [2,3,4,6] 3 [(2,.ptr 0 0),(3,.ptr 1 0),(4,.ptr 2 0),(6,.lf (.bool (decide (((r0.aP.length:Int) : Int) ≤ p_x.aW))))] [.box 25 (.dat (aj.lf1 r0)),.box 63 (.dat (ah.lf1 p_x)),.box 25 (Z25)]] (okc c1 (okc (ln_ r0.aP ay.lf) (okc (rf_ ⟨[(2,.ptr 0 0),(3,.ptr 1 0),(4,.ptr 2 0),(6,.lf (.bool (decide (((r0.aP.length:Int) : Int) ≤ p_x.aW))))],[.box 25 (.dat (aj.lf1 r0)),.box 63 (.dat (ah.lf1 p_x)),.box 25 (Z25)]⟩) (okc (ln_ r0.aP ay.lf) (okc (rf_ ⟨[(2,.ptr 0 0),(3,.ptr 1 0),(4,.ptr 2 0),(6,.lf (.bool (decide (((r0.aP.length:Int) : Int) ≤ p_x.aW))))],[.box 25 (.dat (aj.lf1 r0)),.box 63 (.dat (ah.lf1 p_x)),.box 25 (Z25)]⟩) (okc (uf _ _ h1) (okc c1 (okc (ln_ r0.aP ay.lf) (okc (rf_ ⟨[(2,.ptr 0 0),(3,.ptr 1 0),(4,.ptr 2 0),(6,.lf (.bool (decide (((r0.aP.length:Int) : Int) ≤ p_x.aW))))],[.box 25 (.dat (aj.lf1 r0)),.box 63 (.dat (ah.lf1 p_x)),.box 25 (Z25)]⟩) (okc (ln_ r0.aP ay.lf) (okc (rf_ ⟨[(2,.ptr 0 0),(3,.ptr 1 0),(4,.ptr 2 0),(6,.lf (.bool (decide (((r0.aP.length:Int) : Int) ≤ p_x.aW))))],[.box 25 (.dat (aj.lf1 r0)),.box 63 (.dat (ah.lf1 p_x)),.box 25 (Z25)]⟩) (okc (uf _ _ h1) (okc c1 (okc (ln_ r0.aP ay.lf) (okc (rf_ ⟨[(2,.ptr 0 0),(3,.ptr 1 0),(4,.ptr 2 0),(6,.lf (.bool (decide (((r0.aP.length:Int) : Int) ≤ p_x.aW))))],[.box 25 (.dat (aj.lf1 r0)),.box 63 (.dat (ah.lf1 p_x)),.box 25 (Z25)]⟩) (okc (ln_ r0.aP ay.lf) (ok1 (rf_ ⟨[(2,.ptr 0 0),(3,.ptr 1 0),(4,.ptr 2 0),(6,.lf (.bool (decide (((r0.aP.length:Int) : Int) ≤ p_x.aW))))],[.box 25 (.dat (aj.lf1 r0)),.box 63 (.dat (ah.lf1 p_x)),.box 25 (Z25)]⟩)))))))))))))))))) <|
 .rt [2,3,4,6] 3 (decide (((r0.aP.length:Int) : Int) ≤ p_x.aW))) fun c1 =>
 .say [.dL (.q 0 (.q 1 (.q 2 (.l 3 (.q 4 (.q 5 (.q 6 (.alt 7 (.l 8 (.l 9 (.q 10 (.q 11 (.q 12 (.q 14 (.alt 13 (.l 15 (.q 16 (.q 17 (.q 18 (.q 19 (.q 20 .fin)))))) (.l 15 (.q 16 (.l 13 (.q 17 (.q 18 (.q 19 (.q 20 .fin)))))))))))))) (.l 8 (.alt 7 (.l 9 (.q 10 (.q 11 (.q 12 (.q 14 (.alt 13 (.l 15 (.q 16 (.q 17 (.q 18 (.q 19 (.q 20 .fin)))))) (.l 15 (.q 16 (.l 13 (.q 17 (.q 18 (.q 19 (.q 20 .fin))))))))))))) (.l 9 (.l 7 (.q 10 (.q 11 (.q 12 (.q 14 (.alt 13 (.l 15 (.q 16 (.q 17 (.q 18 (.q 19 (.q 20 .fin)))))) (.l 15 (.q 16 (.l 13 (.q 17 (.q 18 (.q 19 (.q 20 .fin)))))))))))))))))))))))) none [] [.res (.i_ r1),.gd 10005 false,.both [.res (.i_ r2),.gd 10011 false,.both [] []] [.both [.res (.i_ r2),.gd 10011 false,.both [] []] [.res (.i_ r2),.gd 10011 false,.both [] []]]] [2,3,4,6] 3 [(2,.ptr 0 0),(3,.ptr 1 0),(4,.ptr 2 0),(6,.b_ false)] [.box 25 (.dat (aj.lf1 r0)),.box 63 (.dat (ah.lf1 p_x)),.box 25 (Z25)]] (okc c1 (okc (rf_ ⟨[(2,.ptr 0 0),(3,.ptr 1 0),(4,.ptr 2 0),(6,.b_ false)],[.box 25 (.dat (aj.lf1 r0)),.box 63 (.dat (ah.lf1 p_x)),.box 25 (Z25)]⟩) (okc (rf_ ⟨[(2,.ptr 0 0),(3,.ptr 1 0),(4,.ptr 2 0),(6,.b_ false)],[.box 25 (.dat (aj.lf1 r0)),.box 63 (.dat (ah.lf1 p_x)),.box 25 (Z25)]⟩) (okc (uf _ _ h1) (okc c1 (okc (rf_ ⟨[(2,.ptr 0 0),(3,.ptr 1 0),(4,.ptr 2 0),(6,.b_ false)],[.box 25 (.dat (aj.lf1 r0)),.box 63 (.dat (ah.lf1 p_x)),.box 25 (Z25)]⟩) (okc (rf_ ⟨[(2,.ptr 0 0),(3,.ptr 1 0),(4,.ptr 2 0),(6,.b_ false)],[.box 25 (.dat (aj.lf1 r0)),.box 63 (.dat (ah.lf1 p_x)),.box 25 (Z25)]⟩) (okc (uf _ _ h1) (okc c1 (okc (rf_ ⟨[(2,.ptr 0 0),(3,.ptr 1 0),(4,.ptr 2 0),(6,.b_ false)],[.box 25 (.dat (aj.lf1 r0)),.box 63 (.dat (ah.lf1 p_x)),.box 25 (Z25)]⟩) (ok1 (rf_ ⟨[(2,.ptr 0 0),(3,.ptr 1 0),(4,.ptr 2 0),(6,.b_ false)],[.box 25 (.dat (aj.lf1 r0)),.box 63 (.dat (ah.lf1 p_x)),.box 25 (Z25)]⟩)))))))))))) <|
 .rt [2,3,4,6] 3 (false)
def U4 (p_x:ah) (r0:aj) (r1:Bool) : Mo (Bool) :=
 .iG 12005 (p_x.bf == r0.bf) (.iG 12009 (r0.iy == (-1)) (.rt [2,3,4,6,52] 3 (true)) <|
 .rt [2,3,4,6,52] 3 (r0.iy == p_x.bK)) <|
 .rt [2,3,4,6,52] 3 (false)
def KW (p_x:ah) (r0:aj) (r1:Bool) (r2:Bool) : Mo (Bool) :=
 .iG 12017 (r2) (.rt [2,3,4,55] 3 (r1)) <|
 .rt [2,3,4,55] 3 (false)
def KX (p_x:ah) (r0:aj) (r1:Bool) : Mo (Unit) :=
 .rt [2,3,4,7] 3 ()
def BI (p_x:ah) (r0:aj) (r1:Bool) : Mo (aj) :=
 .iB (r1) (.cl (NJ r0.fID) fun r2 _ =>
 .rt [2,3,4,7] 3 (aj.kU (aj.IK r0 p_x.bK) r2)) <|
 .rt [2,3,4,7] 3 (r0)
def N9 (p_x:ah) (r0:aj) (r1:Bool) : Option (aj) := Mo.den (BI p_x r0 r1)
def BJ (p_x:ah) (r0:Bool) (r_:aj) : St := ⟨[(2,.ptr 0 0),(3,.ptr 1 0),(4,.ptr 2 0),(7,.b_ r0)],[.box 25 (.dat (aj.lf1 r_)),.box 63 (.dat (ah.lf1 p_x)),.box 25 (Z25)]⟩
theorem abt {p_x:ah} {r0:aj} {r1:Bool} {r_:aj} (h:N9 p_x r0 r1 = some r_) : fK Tryz.f48 0 [1,1,1,1,1,0,1] (.normal) (BJ p_x r1 r_) ⟨[(2,.ptr 0 0),(3,.ptr 1 0),(4,.ptr 2 0),(7,.b_ r1),(56,.b_ r1)],[.box 25 (.dat (aj.lf1 r0)),.box 63 (.dat (ah.lf1 p_x)),.box 25 (Z25)]⟩ :=
 jh dK (BI p_x r0 r1) (fun _=>.normal) (BJ p_x r1) (by kernel_rfl) h
def ajC (p_m:aj) (p_x:ah) : Mo (aj × List ah) :=
 .iB (p_x.aU != 1) (.ret ⟨[.nil 1 9,.tod 1],[0,1],[],0⟩ (p_m,[])) <|
 .cl (Dt p_m p_x.bf) fun r0 _ =>
 .jp Tryz.f48 0 [1,1,1,0] 15 [2,3,4] 3 (.normal) (fun r_=>⟨[(2,.ptr 0 0),(3,.ptr 1 0),(4,.ptr 2 0),(6,.b_ r_)],[.box 25 (.dat (aj.lf1 r0)),.box 63 (.dat (ah.lf1 p_x)),.box 25 (Z25)]⟩) ⟨[(2,.ptr 0 0),(3,.ptr 1 0),(4,.ptr 2 0)],[.box 25 (.dat (aj.lf1 r0)),.box 63 (.dat (ah.lf1 p_x)),.box 25 (Z25)]⟩ (U3 p_x r0).den (jW (by kernel_rfl)) fun r1 _ =>
 .sj Tryz.f48 0 [1,1,1,1,0] [0,1,2,3,4,5,6,7,8,9,10,11,12,13,14,15,16] 5 17 [2,3,4,6] 3 (fun r_=>⟨[(2,.ptr 0 0),(3,.ptr 1 0),(4,.ptr 2 0),(6,.b_ r1),(52,.b_ r_)],[.box 25 (.dat (aj.lf1 r0)),.box 63 (.dat (ah.lf1 p_x)),.box 25 (Z25)]⟩) ⟨[(2,.ptr 0 0),(3,.ptr 1 0),(4,.ptr 2 0),(6,.b_ r1)],[.box 25 (.dat (aj.lf1 r0)),.box 63 (.dat (ah.lf1 p_x)),.box 25 (Z25)]⟩ (U4 p_x r0 r1).den (sW (by kernel_rfl)) fun r2 _ =>
 .sj Tryz.f48 0 [1,1,1,1,0] [17,18,19] 5 3 [2,3,4,6,52] 3 (fun r_=>⟨[(2,.ptr 0 0),(3,.ptr 1 0),(4,.ptr 2 0),(55,.b_ r_)],[.box 25 (.dat (aj.lf1 r0)),.box 63 (.dat (ah.lf1 p_x)),.box 25 (Z25)]⟩) ⟨[(2,.ptr 0 0),(3,.ptr 1 0),(4,.ptr 2 0),(6,.b_ r1),(52,.b_ r2)],[.box 25 (.dat (aj.lf1 r0)),.box 63 (.dat (ah.lf1 p_x)),.box 25 (Z25)]⟩ (KW p_x r0 r1 r2).den (sW (by kernel_rfl)) fun r3 _ =>
 .sj Tryz.f48 0 [1,1,1,1,0] [20] 5 1 [2,3,4,55] 3 (fun r_=>⟨[(2,.ptr 0 0),(3,.ptr 1 0),(4,.ptr 2 0),(7,.b_ r3)],[.box 25 (.dat (aj.lf1 r0)),.box 63 (.dat (ah.lf1 p_x)),.box 25 (Z25)]⟩) ⟨[(2,.ptr 0 0),(3,.ptr 1 0),(4,.ptr 2 0),(55,.b_ r3)],[.box 25 (.dat (aj.lf1 r0)),.box 63 (.dat (ah.lf1 p_x)),.box 25 (Z25)]⟩ (KX p_x r0 r3).den (sW (by kernel_rfl)) fun r4 _ =>
 .ask (N9 p_x r0 r3) fun r5 h0 =>
 .say [.pt_ 1 [2,3,4,7,56] 3 (.normal) (BJ p_x r3 r5),.dL (.q 0 (.q 1 (.q 2 (.q 3 (.q 4 (.q 5 (.q 6 (.q 7 (.q 8 (.alt 9 (.l 10 (.q 11 .fin)) (.l 10 (.l 9 (.q 11 .fin))))))))))))) none [2,3] [.both [.at_ 20 9,.resv 1,.slot 3] [.at_ 20 10,.resv 1,.slot 3]] [4,5] 4 [(4,.ptr 2 0),(5,.own 3)] [.box 25 (.dat (aj.lf1 r5)),.box 63 (.dat (ah.lf1 p_x)),.box 25 (.agg ((aj.lf1 r5).map AV.lf)),.row 63 9 [(ah.lf1 (ah.sOK (ah.iV (ah.iR (ah.sTo (ah.jl ah.z r5.fID) p_x.bK) 2) r5.bf) r3))]],.at_ 0 0,.VK 3 ([ah.sOK (ah.iV (ah.iR (ah.sTo (ah.jl ah.z r5.fID) p_x.bK) 2) r5.bf) r3].map ah.lf)] (okc (abt h0) (okc (rf_ ⟨[(4,.ptr 2 0),(5,.own 3)],[.box 25 (.dat (aj.lf1 r5)),.box 63 (.dat (ah.lf1 p_x)),.box 25 (.agg ((aj.lf1 r5).map AV.lf)),.row 63 9 [(ah.lf1 (ah.sOK (ah.iV (ah.iR (ah.sTo (ah.jl ah.z r5.fID) p_x.bK) 2) r5.bf) r3))]]⟩) (okc (rf_ ⟨[(4,.ptr 2 0),(5,.own 3)],[.box 25 (.dat (aj.lf1 r5)),.box 63 (.dat (ah.lf1 p_x)),.box 25 (.agg ((aj.lf1 r5).map AV.lf)),.row 63 9 [(ah.lf1 (ah.sOK (ah.iV (ah.iR (ah.sTo (ah.jl ah.z r5.fID) p_x.bK) 2) r5.bf) r3))]]⟩) (ok1 (by simp [ah.aZ] : [ah.sOK (ah.iV (ah.iR (ah.sTo (ah.jl ah.z r5.fID) p_x.bK) 2) r5.bf) r3].map ah.lf = [(ah.lf1 (ah.sOK (ah.iV (ah.iR (ah.sTo (ah.jl ah.z r5.fID) p_x.bK) 2) r5.bf) r3))]))))) <|
 .ret (bD 2) (r5,[ah.sOK (ah.iV (ah.iR (ah.sTo (ah.jl ah.z r5.fID) p_x.bK) 2) r5.bf) r3])
def Q50 (p_m:aj) (p_x:ah) : Option (aj × List ah) := Mo.den (ajC p_m p_x)
theorem alW (p_m:aj) (p_x:ah) : FV (Q50 p_m p_x) 48 [.dat (aj.lf1 p_m),.dat (ah.lf1 p_x)] (fun r=>.tup [.dat (aj.lf1 r.1),.lf (.rows 9 (r.2.map ah.lf))]) := bZ Tryz.func48 (by kernel_rfl) (fun _=>rfl) (by kernel_rfl)
def afH (l0:List Int) (l1:List Int) (p_m:aj) (v0:Int) : Mo (((List Int))) :=
 .say [.num p_m.aP.length,.rows ((l0 ++ [(p_m.aP.length:Int)]).map lfI)] (okc (ln_ p_m.aP ay.lf) (ok1 (ap_ lI_ l0 ((p_m.aP.length:Int))))) <|
 .grd ((l0.length + [(p_m.aP.length:Int)].length) * 8 ≤ 140737488355328) fun h0 =>
 .say [] (ok1 (cp_ lfI h0)) <|
 .ite (v0 == p_m.fID) (fun c0 =>
 .say [.br true,.num p_m.aP.length,.rows ((l1 ++ [(p_m.aP.length:Int)]).map lfI)] (okc c0 (okc (ln_ p_m.aP ay.lf) (ok1 (ap_ lI_ l1 ((p_m.aP.length:Int)))))) <|
 .grd ((l1.length + [(p_m.aP.length:Int)].length) * 8 ≤ 140737488355328) fun h1 =>
 .say [] (ok1 (cp_ lfI h1)) <|
 .ret ⟨[.kill 4,.kill 6],[1,2,3],[(5,2),(7,3)],8⟩ (l1 ++ [(p_m.aP.length:Int)])) fun c0 =>
 .say [.br false,.rows ((l1 ++ [0]).map lfI)] (okc c0 (ok1 (ap_ lI_ l1 0))) <|
 .grd ((l1.length + [0].length) * 8 ≤ 140737488355328) fun h2 =>
 .say [] (ok1 (cp_ lfI h2)) <|
 .ret ⟨[.kill 4,.kill 6],[1,2,3],[(5,2),(7,3)],8⟩ (l1 ++ [0])
def U5 (p_m:aj) : (Int × (List Int) × (List Int)) → Mo ((Int × (List Int) × (List Int)) ⊕ ((List Int) × (List Int))) := fun (v0,l0,l1) =>
 .iB (decide ((v0:Int) < p_m.bW)) (.jp Tryz.f87 0 [1,1,1,1,1,1,0,1,0,0,1,0] 8 [1,2,3] 4 (.normal) (fun r_=>⟨[(1,.ptr 0 0),(2,.ptr 1 0),(3,.i_ v0)],[.box 25 (ag_ (aj.lf1 p_m) [(4,.i_ 2),(5,.i_ p_m.fID),(6,.i_ 1),(10,.own 2),(11,.own 3)]),.box 25 (Z25),.row 3 1 ((l0 ++ [(p_m.aP.length:Int)]).map lfI),.row 3 1 (r_.map lfI),.dead,.dead,.dead,.dead]⟩) ⟨[(1,.ptr 0 0),(2,.ptr 1 0),(3,.i_ v0)],[.box 25 (ag_ (aj.lf1 p_m) [(4,.i_ 2),(5,.i_ p_m.fID),(6,.i_ 1),(10,.own 2),(11,.own 3)]),.box 25 (Z25),.row 3 1 (l0.map lfI),.row 3 1 (l1.map lfI)]⟩ (afH l0 l1 p_m v0).den (jW (by kernel_rfl)) fun r0 _ =>
 .rt [1,2,3] 4 (.inl (IntKind.wrap .i64 (v0 + 1),l0 ++ [(p_m.aP.length:Int)],r0))) <|
 .rt [1,2] 4 (.inr (l0,l1))
def afI (p_m:aj) (v0:Int) (l0:List Int) (l1:List Int) : Option (((List Int) × (List Int))) := bM (fun v_=>(U5 p_m v_).den) FU (v0,l0,l1)
def U6 (p_m:aj) : (Int × (List Int) × (List Int)) → St := fun (v0,l0,l1)=>⟨[(1,.ptr 0 0),(2,.ptr 1 0),(3,.i_ v0)],[.box 25 (ag_ (aj.lf1 p_m) [(4,.i_ 2),(5,.i_ p_m.fID),(6,.i_ 1),(10,.own 2),(11,.own 3)]),.box 25 (Z25),.row 3 1 (l0.map lfI),.row 3 1 (l1.map lfI)]⟩
def zD (p_m:aj) (r_:((List Int) × (List Int))) : St := ⟨[(1,.ptr 0 0),(2,.ptr 1 0)],[.box 25 (ag_ (aj.lf1 p_m) [(4,.i_ 2),(5,.i_ p_m.fID),(6,.i_ 1),(10,.own 2),(11,.own 3)]),.box 25 (Z25),.row 3 1 (r_.1.map lfI),.row 3 1 (r_.2.map lfI)]⟩
theorem afJ {p_m:aj} {v0:Int} {l0:List Int} {l1:List Int} {r_:((List Int) × (List Int))} (h:afI p_m v0 l0 l1 = some r_) : fK Tryz.f87 0 [1,1,1,1,1,1,0,1,0] (.exit 0) (zD p_m r_) (U6 p_m (v0,l0,l1)) :=
 dO dK (body := (Code.sub (bodyC Tryz.f87) [1,1,1,1,1,1,0,1,0,0])) (by kernel_rfl) (U5 p_m) (U6 p_m) (fun _=>.exit 0) (zD p_m) (fun r_=>rfl) (fun v_=>by kernel_rfl) h
def anj (p_m:aj) : Mo (aj) :=
 .say [] (okc (by simp [lfI,lfK] : (([] : List Int).map lfI) = []) (ok1 (by simp [lfI,lfK] : (([] : List Int).map lfI) = []))) <|
 .ask (afI p_m 0 ([] : List Int) ([] : List Int)) fun r0 h0 =>
 .say [.part [.OQ 0 10 3,.OQ 0 11 3,.kE 2 (([] : List Int).map lfI),.kE 3 (([] : List Int).map lfI)] 0 [1,2,3] 4 (.exit 0) (zD p_m r0).T (zD p_m r0).H,.at_ 0 0,.frz 2,.frz 3] (ok1 (afJ h0)) <|
 .ret (bD 1) (aj.pV (aj.qx (aj.kU (aj.pR (aj.Py p_m 2) p_m.fID) 1) r0.1) r0.2)
def Q67 (p_m:aj) : Option (aj) := Mo.den (anj p_m)
theorem alX (p_m:aj) : FV (Q67 p_m) 87 [.dat (aj.lf1 p_m)] (fun r=>.dat (aj.lf1 r)) := bZ Tryz.func87 (by kernel_rfl) (fun _=>rfl) (by kernel_rfl)
def KY (p_m:aj) (p_x:ah) : Mo (Bool) :=
 .iG 12003 (p_m.dh != 1) (.rt [2,3,4,27] 3 (true)) <|
 .rt [2,3,4,27] 3 (p_x.bf != p_m.bf)
def KZ (p_m:aj) (p_x:ah) (r0:Bool) : Mo (Bool) :=
 .iG 12010 (r0) (.rt [2,3,4,32] 3 (true)) <|
 .rt [2,3,4,32] 3 (!p_x.fOK)
def afK (p_m:aj) (p_x:ah) : Mo (aj) :=
 .iB (p_x.aU != 2) (.ret (bD 1) (p_m)) <|
 .iB (decide ((p_m.bf:Int) < p_x.bf)) (.cl (Dt p_m p_x.bf) fun r0 _ =>
 .ret (bD 1) (r0)) <|
 .sj Tryz.f49 0 [1,1,1,0,0] [0,1,2,3,4,5,6,7,8,9] 5 10 [2,3,4] 3 (fun r_=>⟨[(2,.ptr 0 0),(3,.ptr 1 0),(4,.ptr 2 0),(27,.b_ r_)],[.box 25 (.dat (aj.lf1 p_m)),.box 63 (.dat (ah.lf1 p_x)),.box 25 (Z25)]⟩) ⟨[(2,.ptr 0 0),(3,.ptr 1 0),(4,.ptr 2 0)],[.box 25 (.dat (aj.lf1 p_m)),.box 63 (.dat (ah.lf1 p_x)),.box 25 (Z25)]⟩ (KY p_m p_x).den (sW (by kernel_rfl)) fun r1 _ =>
 .sj Tryz.f49 0 [1,1,1,0,0] [10,11,12,13,14] 5 5 [2,3,4,27] 3 (fun r_=>⟨[(2,.ptr 0 0),(3,.ptr 1 0),(4,.ptr 2 0),(32,.b_ r_)],[.box 25 (.dat (aj.lf1 p_m)),.box 63 (.dat (ah.lf1 p_x)),.box 25 (Z25)]⟩) ⟨[(2,.ptr 0 0),(3,.ptr 1 0),(4,.ptr 2 0),(27,.b_ r1)],[.box 25 (.dat (aj.lf1 p_m)),.box 63 (.dat (ah.lf1 p_x)),.box 25 (Z25)]⟩ (KZ p_m p_x r1).den (sW (by kernel_rfl)) fun r2 _ =>
 .ite (r2) (fun c0 =>
 .say [.br true] (ok1 c0) <|
 .ret (bD 1) (p_m)) fun c0 =>
 .say [.br false,.order [(true,0),(true,1),(true,2),(true,3),(true,4),(true,5),(true,6),(false,7)] (some 7) []] (ok1 c0) <|
 .grd ((0:Int) ≤ p_x.bK) fun h0 =>
 .say [] (ok1 h0) <|
 .ask (Q94 (bJ .or .i64 p_m.dY (nD .i64 1 p_x.bK)) p_m.bW) fun r3 h1 =>
 .say [] (ok1 (acH _ _ _ h1)) <|
 .ask (Q93 p_m.bW) fun r4 h2 =>
 .say [.dL (.q 0 (.q 1 (.q 2 (.q 3 (.q 5 (.q 6 (.l 4 (.l 7 (.q 8 .fin))))))))) (some 7) [] [.res (.i_ r3),.res (.i_ r4)] [2,4,49] 3 [(2,.ptr 0 0),(4,.ptr 2 0),(49,.lf (.bool (decide ((r4:Int) ≤ r3))))] [.box 25 (.dat (aj.lf1 (aj.pU p_m (bJ .or .i64 p_m.dY (nD .i64 1 p_x.bK))))),.box 63 (.dat (ah.lf1 p_x)),.box 25 (Z25)]] (okc (WB _ _ h2) (ok1 (rf_ ⟨[(2,.ptr 0 0),(4,.ptr 2 0),(49,.lf (.bool (decide ((r4:Int) ≤ r3))))],[.box 25 (.dat (aj.lf1 (aj.pU p_m (bJ .or .i64 p_m.dY (nD .i64 1 p_x.bK))))),.box 63 (.dat (ah.lf1 p_x)),.box 25 (Z25)]⟩))) <|
 .iB (decide ((r4:Int) ≤ r3)) (.cl (alX (aj.pU p_m (bJ .or .i64 p_m.dY (nD .i64 1 p_x.bK)))) fun r5 _ =>
 .ret (bD 1) (r5)) <|
 .ret (bD 1) (aj.pU p_m (bJ .or .i64 p_m.dY (nD .i64 1 p_x.bK)))
def alY (p_m:aj) (p_x:ah) : Option (aj) := Mo.den (afK p_m p_x)
theorem ail (p_m:aj) (p_x:ah) : FV (alY p_m p_x) 49 [.dat (aj.lf1 p_m),.dat (ah.lf1 p_x)] (fun r=>.dat (aj.lf1 r)) := bZ Tryz.func49 (by kernel_rfl) (fun _=>rfl) (by kernel_rfl)
def afL (p_m:aj) (p_x:ah) (p_ok:Bool) (p_index:Int) : Mo (List ah) :=
 .say [.at_ 0 0,.VK 2 ([ah.sOK (ah.nI (ah.iV (ah.iR (ah.sTo (ah.jl ah.z p_m.fID) p_x.bK) 4) p_m.bf) p_index) p_ok].map ah.lf)] (ok1 (by simp [ah.aZ] : [ah.sOK (ah.nI (ah.iV (ah.iR (ah.sTo (ah.jl ah.z p_m.fID) p_x.bK) 4) p_m.bf) p_index) p_ok].map ah.lf = [(ah.lf1 (ah.sOK (ah.nI (ah.iV (ah.iR (ah.sTo (ah.jl ah.z p_m.fID) p_x.bK) 4) p_m.bf) p_index) p_ok))])) <|
 .ret (bD 1) ([ah.sOK (ah.nI (ah.iV (ah.iR (ah.sTo (ah.jl ah.z p_m.fID) p_x.bK) 4) p_m.bf) p_index) p_ok])
def ain (p_m:aj) (p_x:ah) (p_ok:Bool) (p_index:Int) : Option (List ah) := Mo.den (afL p_m p_x p_ok p_index)
theorem zF (p_m:aj) (p_x:ah) (p_ok:Bool) (p_index:Int) : FV (ain p_m p_x p_ok p_index) 57 [.dat (aj.lf1 p_m),.dat (ah.lf1 p_x),.b_ p_ok,.i_ p_index] (fun r=>.lf (.rows 9 (r.map ah.lf))) := bZ Tryz.func57 (by kernel_rfl) (fun _=>rfl) (by kernel_rfl)
def La (p_m:aj) (p_x:ah) : Mo (aj) :=
 .iB (decide ((p_m.bf:Int) < p_x.bf)) (.cl (Dt p_m p_x.bf) fun r0 _ =>
 .rt [2,3,4] 3 (r0)) <|
 .iB (p_m.dh == 1) (.rt [2,3,4] 3 (aj.pU (aj.Py p_m 0) 0)) <|
 .rt [2,3,4] 3 (p_m)
def afM (p_m:aj) (p_x:ah) : Mo (aj) :=
 .jp Tryz.f58 0 [1,0,1] 1 [2,3,4,9] 3 (.normal) (fun r_=>⟨[(2,.ptr 0 0),(3,.ptr 1 0),(4,.ptr 2 0)],[.box 25 (.dat (aj.lf1 r_)),.box 63 (.dat (ah.lf1 p_x)),.box 25 (Z25)]⟩) ⟨[(2,.ptr 0 0),(3,.ptr 1 0),(4,.ptr 2 0),(9,.lf (.bool (decide ((p_m.bf:Int) < p_x.bf))))],[.box 25 (.dat (aj.lf1 p_m)),.box 63 (.dat (ah.lf1 p_x)),.box 25 (Z25)]⟩ (La p_m p_x).den (jW (by kernel_rfl)) fun r0 _ =>
 .ret (bD 1) (aj.kU (aj.pR r0 p_x.bK) (IntKind.wrap .i64 (10 + (IntKind.wrap .i64 (3 * r0.fID)))))
def aio (p_m:aj) (p_x:ah) : Option (aj) := Mo.den (afM p_m p_x)
theorem aip (p_m:aj) (p_x:ah) : FV (aio p_m p_x) 58 [.dat (aj.lf1 p_m),.dat (ah.lf1 p_x)] (fun r=>.dat (aj.lf1 r)) := bZ Tryz.func58 (by kernel_rfl) (fun _=>rfl) (by kernel_rfl)
def afN (p_a:ay) (p_b:ay) : Mo (Bool) :=
 .iG 4005 (p_a.bf == p_b.bf) (.ret (bD 1) (p_a.fC == p_b.fC)) <|
 .ret (bD 1) (false)
def aiq (p_a:ay) (p_b:ay) : Option (Bool) := Mo.den (afN p_a p_b)
theorem air (p_a:ay) (p_b:ay) : FV (aiq p_a p_b) 65 [.dat (ay.lf1 p_a),.dat (ay.lf1 p_b)] (fun r=>.b_ r) := bZ Tryz.func65 (by kernel_rfl) (fun _=>rfl) (by kernel_rfl)
def FX (p_m:aj) (p_x:ah) (v0:Int) : Mo (Bool) :=
 .say [] (ok1 (ln_ p_m.aP ay.lf)) <|
 .ite (decide ((IntKind.wrap .i64 (p_x.aW + v0) : Int) < (p_m.aP.length:Int))) (fun c0 =>
 .say [] (ok1 c0) <|
 .ask (bP p_m.aP (IntKind.wrap .i64 (p_x.aW + v0))) fun x0 h0 =>
 .say [] (ok1 (aX ay.aZ h0)) <|
 .ask (bP p_x.aN v0) fun x1 h1 =>
 .say [] (ok1 (aX ay.aZ h1)) <|
 .ask (aiq x0 x1) fun r0 h2 =>
 .say [.dL (.q 0 (.q 1 (.q 2 (.q 3 (.q 4 (.q 5 (.q 6 (.q 7 (.q 8 (.q 9 (.q 10 (.q 11 (.q 12 (.q 13 (.q 14 (.q 15 (.l 16 (.q 17 (.q 18 .fin))))))))))))))))))) (some 16) [] [.num p_m.aP.length,.gd 12005 true,.row (ay.lf1 x0),.row (ay.lf1 x1),.res (.b_ r0)] [2,3,5,6,36] 2 [(2,.ptr 0 0),(3,.ptr 1 0),(5,.i_ v0),(6,.i_ (IntKind.wrap .i64 (p_x.aW + v0))),(36,.lf (.bool (!r0)))] [.box 25 (.dat (aj.lf1 p_m)),.box 63 (.dat (ah.lf1 p_x))]] (okc (air _ _ _ h2) (ok1 (rf_ ⟨[(2,.ptr 0 0),(3,.ptr 1 0),(5,.i_ v0),(6,.i_ (IntKind.wrap .i64 (p_x.aW + v0))),(36,.lf (.bool (!r0)))],[.box 25 (.dat (aj.lf1 p_m)),.box 63 (.dat (ah.lf1 p_x))]⟩))) <|
 .rt [2,3,5,6,36] 2 (!r0)) fun c0 =>
 .say [.dL (.q 0 (.q 1 (.q 2 (.q 3 (.q 4 (.q 5 (.q 6 (.q 7 (.q 8 (.q 9 (.q 10 (.q 11 (.q 12 (.q 13 (.q 14 (.q 15 (.l 16 (.q 17 (.q 18 .fin))))))))))))))))))) (some 16) [] [.num p_m.aP.length,.gd 12005 false] [2,3,5,6,36] 2 [(2,.ptr 0 0),(3,.ptr 1 0),(5,.i_ v0),(6,.i_ (IntKind.wrap .i64 (p_x.aW + v0))),(36,.b_ false)] [.box 25 (.dat (aj.lf1 p_m)),.box 63 (.dat (ah.lf1 p_x))]] (okc c0 (ok1 (rf_ ⟨[(2,.ptr 0 0),(3,.ptr 1 0),(5,.i_ v0),(6,.i_ (IntKind.wrap .i64 (p_x.aW + v0))),(36,.b_ false)],[.box 25 (.dat (aj.lf1 p_m)),.box 63 (.dat (ah.lf1 p_x))]⟩))) <|
 .rt [2,3,5,6,36] 2 (false)
def zG (p_m:aj) (p_x:ah) : (Int) → Mo ((Int) ⊕ (Int) ⊕ Unit) := fun (v0) =>
 .say [.num p_x.aN.length] (ok1 (ln_ p_x.aN ay.lf)) <|
 .iB (decide ((v0:Int) < (p_x.aN.length:Int))) (.jp Tryz.f59 0 [1,0,1,0,0,1,0,0,1,0] 17 [2,3,5,6] 2 (.normal) (fun r_=>⟨[(2,.ptr 0 0),(3,.ptr 1 0),(5,.i_ v0),(6,.i_ (IntKind.wrap .i64 (p_x.aW + v0))),(36,.b_ r_)],[.box 25 (.dat (aj.lf1 p_m)),.box 63 (.dat (ah.lf1 p_x))]⟩) ⟨[(2,.ptr 0 0),(3,.ptr 1 0),(5,.i_ v0),(6,.i_ (IntKind.wrap .i64 (p_x.aW + v0)))],[.box 25 (.dat (aj.lf1 p_m)),.box 63 (.dat (ah.lf1 p_x))]⟩ (FX p_m p_x v0).den (jW (by kernel_rfl)) fun r0 _ =>
 .iB (r0) (.ret ⟨[.kill 0,.kill 1],[4],[],2⟩ (.inr (.inl (IntKind.wrap .i64 (p_x.aW + v0))))) <|
 .rt [2,3,5] 2 (.inl (IntKind.wrap .i64 (v0 + 1)))) <|
 .ret ⟨[.kill 0,.kill 1],[],[],2⟩ (.inr (.inr (())))
def FY (p_m:aj) (p_x:ah) (v0:Int) : Option ((Int) ⊕ Unit) := bM (fun v_=>(zG p_m p_x v_).den) FU (v0)
def U7 (p_m:aj) (p_x:ah) : (Int) → St := fun (v0)=>⟨[(2,.ptr 0 0),(3,.ptr 1 0),(5,.i_ v0)],[.box 25 (.dat (aj.lf1 p_m)),.box 63 (.dat (ah.lf1 p_x))]⟩
def zH (r_:(Int) ⊕ Unit) : Exit := match r_ with
 | .inl o_=>.ret
 | .inr (o_)=>.exit 0
def zI  (r_:(Int) ⊕ Unit) : St := match r_ with
 | .inl o_=>⟨[(4,.i_ o_)],[.dead,.dead]⟩
 | .inr (o_)=>⟨[],[.dead,.dead]⟩
theorem U8 {p_m:aj} {p_x:ah} {v0:Int} {r_:(Int) ⊕ Unit} (h:FY p_m p_x v0 = some r_) : fK Tryz.f59 0 [1,0,1,0] (zH r_) (zI r_) (U7 p_m p_x (v0)) :=
 dO dK (body := (Code.sub (bodyC Tryz.f59) [1,0,1,0,0])) (by kernel_rfl) (zG p_m p_x) (U7 p_m p_x) zH zI (fun r_=>by rcases r_ with _ | _ <;> rfl) (fun v_=>by kernel_rfl) h
def ZN (p_m:aj) (p_x:ah) : Mo (Int) :=
 .eU (FY p_m p_x 0) (fun o0 h0 =>
 .say [.pt_ 0 [2,3,5] 2 (zH (.inl o0)) (zI (.inl o0))] (ok1 (U8 h0)) <|
 .ret (bD 1) (o0)) fun o1 h0 =>
 .say [.pt_ 0 [2,3,5] 2 (zH (.inr (o1))) (zI (.inr (o1)))] (ok1 (U8 h0)) <|
 .ret (bD 1) ((-1))
def Q25 (p_m:aj) (p_x:ah) : Option (Int) := Mo.den (ZN p_m p_x)
theorem alZ (p_m:aj) (p_x:ah) : FV (Q25 p_m p_x) 59 [.dat (aj.lf1 p_m),.dat (ah.lf1 p_x)] (fun r=>.i_ r) := bZ Tryz.func59 (by kernel_rfl) (fun _=>rfl) (by kernel_rfl)
def Lc (p_l:List ay) (p_n:Int) : Mo (Bool) :=
 .ite (decide ((p_n:Int) < 1)) (fun c0 =>
 .say [.gd 4002 true] (ok1 c0) <|
 .rt [0,1,12] 0 (true)) fun c0 =>
 .say [.gd 4002 false,.num p_l.length] (okc c0 (ok1 (ln_ p_l ay.lf))) <|
 .rt [0,1,12] 0 (decide (((p_l.length:Int) : Int) < p_n))
def afO (p_l:List ay) (p_n:Int) : Mo (Int) :=
 .jp Tryz.f55 0 [1,0,0] 9 [0,1] 0 (.normal) (fun r_=>⟨[(0,.lf (.rows 82 (p_l.map ay.lf))),(1,.i_ p_n),(12,.b_ r_)],[]⟩) ⟨[(0,.lf (.rows 82 (p_l.map ay.lf))),(1,.i_ p_n)],[]⟩ (Lc p_l p_n).den (jW (by kernel_rfl)) fun r0 _ =>
 .iB (r0) (.ret (bD 1) (0)) <|
 .ask (bP p_l (IntKind.wrap .i64 (p_n - 1))) fun x0 h0 =>
 .say [.row (ay.lf1 x0)] (ok1 (aX ay.aZ h0)) <|
 .ret (bD 1) (x0.bf)
def al0 (p_l:List ay) (p_n:Int) : Option (Int) := Mo.den (afO p_l p_n)
theorem ais (p_l:List ay) (p_n:Int) : FV (al0 p_l p_n) 55 [.lf (.rows 82 (p_l.map ay.lf)),.i_ p_n] (fun r=>.i_ r) := bZ Tryz.func55 (by kernel_rfl) (fun _=>rfl) (by kernel_rfl)
def afP (p_m:aj) (p_at:Int) : Mo (aj × bF) :=
 .say [.num p_m.aP.length,.order [(true,0),(true,1),(true,2),(true,3),(true,4),(true,5),(false,6),(true,7),(false,8)] (some 8) [4],.rows ((p_m.aP.drop (if (p_m.aP.length:Int) < (if 0 > (if p_m.au > p_at then p_m.au else p_at) then 0 else (if p_m.au > p_at then p_m.au else p_at)) then (p_m.aP.length:Int) else (if 0 > (if p_m.au > p_at then p_m.au else p_at) then 0 else (if p_m.au > p_at then p_m.au else p_at))).toNat).map ay.lf),.rows ((p_m.aP.drop (if (p_m.aP.length:Int) < (if 0 > (if p_m.au > p_at then p_m.au else p_at) then 0 else (if p_m.au > p_at then p_m.au else p_at)) then (p_m.aP.length:Int) else (if 0 > (if p_m.au > p_at then p_m.au else p_at) then 0 else (if p_m.au > p_at then p_m.au else p_at))).toNat).map ay.lf),.rows ((p_m.aP.take (if (p_m.aP.length:Int) < (if 0 > (if p_m.au > p_at then p_m.au else p_at) then 0 else (if p_m.au > p_at then p_m.au else p_at)) then (p_m.aP.length:Int) else (if 0 > (if p_m.au > p_at then p_m.au else p_at) then 0 else (if p_m.au > p_at then p_m.au else p_at))).toNat).map ay.lf),.rows ((p_m.aP.take (if (p_m.aP.length:Int) < (if 0 > (if p_m.au > p_at then p_m.au else p_at) then 0 else (if p_m.au > p_at then p_m.au else p_at)) then (p_m.aP.length:Int) else (if 0 > (if p_m.au > p_at then p_m.au else p_at) then 0 else (if p_m.au > p_at then p_m.au else p_at))).toNat).map ay.lf),.order [(true,0),(true,1),(false,2),(false,3)] (some 3) [1]] (okc (ln_ p_m.aP ay.lf) (ok1 (nK _ _ _:(p_m.aP.drop (if (p_m.aP.length:Int) < (if 0 > (if p_m.au > p_at then p_m.au else p_at) then 0 else (if p_m.au > p_at then p_m.au else p_at)) then (p_m.aP.length:Int) else (if 0 > (if p_m.au > p_at then p_m.au else p_at) then 0 else (if p_m.au > p_at then p_m.au else p_at))).toNat).map ay.lf = ((p_m.aP.map ay.lf).take ((p_m.aP.map ay.lf).length:Int).toNat).drop (if (p_m.aP.length:Int) < (if 0 > (if p_m.au > p_at then p_m.au else p_at) then 0 else (if p_m.au > p_at then p_m.au else p_at)) then (p_m.aP.length:Int) else (if 0 > (if p_m.au > p_at then p_m.au else p_at) then 0 else (if p_m.au > p_at then p_m.au else p_at))).toNat))) <|
 .grd ((0:Int) ≤ (if (p_m.aP.length:Int) < (if 0 > (if p_m.au > p_at then p_m.au else p_at) then 0 else (if p_m.au > p_at then p_m.au else p_at)) then (p_m.aP.length:Int) else (if 0 > (if p_m.au > p_at then p_m.au else p_at) then 0 else (if p_m.au > p_at then p_m.au else p_at))) ∧ (if (p_m.aP.length:Int) < (if 0 > (if p_m.au > p_at then p_m.au else p_at) then 0 else (if p_m.au > p_at then p_m.au else p_at)) then (p_m.aP.length:Int) else (if 0 > (if p_m.au > p_at then p_m.au else p_at) then 0 else (if p_m.au > p_at then p_m.au else p_at))) ≤ (p_m.aP.length:Int) ∧ (p_m.aP.length:Int) ≤ (p_m.aP.length:Int)) fun h0 =>
 .say [] (okc (MX _ _ h0:(0:Int) ≤ (if (p_m.aP.length:Int) < (if 0 > (if p_m.au > p_at then p_m.au else p_at) then 0 else (if p_m.au > p_at then p_m.au else p_at)) then (p_m.aP.length:Int) else (if 0 > (if p_m.au > p_at then p_m.au else p_at) then 0 else (if p_m.au > p_at then p_m.au else p_at))) ∧ (if (p_m.aP.length:Int) < (if 0 > (if p_m.au > p_at then p_m.au else p_at) then 0 else (if p_m.au > p_at then p_m.au else p_at)) then (p_m.aP.length:Int) else (if 0 > (if p_m.au > p_at then p_m.au else p_at) then 0 else (if p_m.au > p_at then p_m.au else p_at))) ≤ ((p_m.aP.map ay.lf).length:Int) ∧ ((p_m.aP.map ay.lf).length:Int) ≤ ((p_m.aP.map ay.lf).length:Int)) (ok1 (by simp [ay.aZ] : (p_m.aP.drop (if (p_m.aP.length:Int) < (if 0 > (if p_m.au > p_at then p_m.au else p_at) then 0 else (if p_m.au > p_at then p_m.au else p_at)) then (p_m.aP.length:Int) else (if 0 > (if p_m.au > p_at then p_m.au else p_at) then 0 else (if p_m.au > p_at then p_m.au else p_at))).toNat).map ay.lf = [] ++ ((p_m.aP.drop (if (p_m.aP.length:Int) < (if 0 > (if p_m.au > p_at then p_m.au else p_at) then 0 else (if p_m.au > p_at then p_m.au else p_at)) then (p_m.aP.length:Int) else (if 0 > (if p_m.au > p_at then p_m.au else p_at) then 0 else (if p_m.au > p_at then p_m.au else p_at))).toNat).map ay.lf)))) <|
 .grd ((([] : List ay).length + (p_m.aP.drop (if (p_m.aP.length:Int) < (if 0 > (if p_m.au > p_at then p_m.au else p_at) then 0 else (if p_m.au > p_at then p_m.au else p_at)) then (p_m.aP.length:Int) else (if 0 > (if p_m.au > p_at then p_m.au else p_at) then 0 else (if p_m.au > p_at then p_m.au else p_at))).toNat).length) * 1208 ≤ 140737488355328) fun h1 =>
 .say [] (okc (cq_ ay.lf h1) (ok1 (by first | (simp [ay.aZ]; done) | exact nK _ _ _:(p_m.aP.take (if (p_m.aP.length:Int) < (if 0 > (if p_m.au > p_at then p_m.au else p_at) then 0 else (if p_m.au > p_at then p_m.au else p_at)) then (p_m.aP.length:Int) else (if 0 > (if p_m.au > p_at then p_m.au else p_at) then 0 else (if p_m.au > p_at then p_m.au else p_at))).toNat).map ay.lf = ((p_m.aP.map ay.lf).take (if (p_m.aP.length:Int) < (if 0 > (if p_m.au > p_at then p_m.au else p_at) then 0 else (if p_m.au > p_at then p_m.au else p_at)) then (p_m.aP.length:Int) else (if 0 > (if p_m.au > p_at then p_m.au else p_at) then 0 else (if p_m.au > p_at then p_m.au else p_at))).toNat).drop (0:Int).toNat))) <|
 .grd ((0:Int) ≤ 0 ∧ 0 ≤ (if (p_m.aP.length:Int) < (if 0 > (if p_m.au > p_at then p_m.au else p_at) then 0 else (if p_m.au > p_at then p_m.au else p_at)) then (p_m.aP.length:Int) else (if 0 > (if p_m.au > p_at then p_m.au else p_at) then 0 else (if p_m.au > p_at then p_m.au else p_at))) ∧ (if (p_m.aP.length:Int) < (if 0 > (if p_m.au > p_at then p_m.au else p_at) then 0 else (if p_m.au > p_at then p_m.au else p_at)) then (p_m.aP.length:Int) else (if 0 > (if p_m.au > p_at then p_m.au else p_at) then 0 else (if p_m.au > p_at then p_m.au else p_at))) ≤ (p_m.aP.length:Int)) fun h2 =>
 .say [] (okc (by simpa using h2:(0:Int) ≤ 0 ∧ 0 ≤ (if (p_m.aP.length:Int) < (if 0 > (if p_m.au > p_at then p_m.au else p_at) then 0 else (if p_m.au > p_at then p_m.au else p_at)) then (p_m.aP.length:Int) else (if 0 > (if p_m.au > p_at then p_m.au else p_at) then 0 else (if p_m.au > p_at then p_m.au else p_at))) ∧ (if (p_m.aP.length:Int) < (if 0 > (if p_m.au > p_at then p_m.au else p_at) then 0 else (if p_m.au > p_at then p_m.au else p_at)) then (p_m.aP.length:Int) else (if 0 > (if p_m.au > p_at then p_m.au else p_at) then 0 else (if p_m.au > p_at then p_m.au else p_at))) ≤ ((p_m.aP.map ay.lf).length:Int)) (ok1 (by simp [ay.aZ] : (p_m.aP.take (if (p_m.aP.length:Int) < (if 0 > (if p_m.au > p_at then p_m.au else p_at) then 0 else (if p_m.au > p_at then p_m.au else p_at)) then (p_m.aP.length:Int) else (if 0 > (if p_m.au > p_at then p_m.au else p_at) then 0 else (if p_m.au > p_at then p_m.au else p_at))).toNat).map ay.lf = [] ++ ((p_m.aP.take (if (p_m.aP.length:Int) < (if 0 > (if p_m.au > p_at then p_m.au else p_at) then 0 else (if p_m.au > p_at then p_m.au else p_at)) then (p_m.aP.length:Int) else (if 0 > (if p_m.au > p_at then p_m.au else p_at) then 0 else (if p_m.au > p_at then p_m.au else p_at))).toNat).map ay.lf)))) <|
 .grd ((([] : List ay).length + (p_m.aP.take (if (p_m.aP.length:Int) < (if 0 > (if p_m.au > p_at then p_m.au else p_at) then 0 else (if p_m.au > p_at then p_m.au else p_at)) then (p_m.aP.length:Int) else (if 0 > (if p_m.au > p_at then p_m.au else p_at) then 0 else (if p_m.au > p_at then p_m.au else p_at))).toNat).length) * 1208 ≤ 140737488355328) fun h3 =>
 .say [] (ok1 (cq_ ay.lf h3)) <|
 .ret ⟨[.kill 0,.kill 1,.kill 2,.kill 3,.mvn 5,.mvn 4],[0,1],[(6,0),(7,1)],2⟩ (aj.nJ p_m (p_m.aP.take (if (p_m.aP.length:Int) < (if 0 > (if p_m.au > p_at then p_m.au else p_at) then 0 else (if p_m.au > p_at then p_m.au else p_at)) then (p_m.aP.length:Int) else (if 0 > (if p_m.au > p_at then p_m.au else p_at) then 0 else (if p_m.au > p_at then p_m.au else p_at))).toNat),bF.mk p_m.fID p_m.bf (if (p_m.aP.length:Int) < (if 0 > (if p_m.au > p_at then p_m.au else p_at) then 0 else (if p_m.au > p_at then p_m.au else p_at)) then (p_m.aP.length:Int) else (if 0 > (if p_m.au > p_at then p_m.au else p_at) then 0 else (if p_m.au > p_at then p_m.au else p_at))) (p_m.aP.drop (if (p_m.aP.length:Int) < (if 0 > (if p_m.au > p_at then p_m.au else p_at) then 0 else (if p_m.au > p_at then p_m.au else p_at)) then (p_m.aP.length:Int) else (if 0 > (if p_m.au > p_at then p_m.au else p_at) then 0 else (if p_m.au > p_at then p_m.au else p_at))).toNat))
def al1 (p_m:aj) (p_at:Int) : Option (aj × bF) := Mo.den (afP p_m p_at)
theorem ait (p_m:aj) (p_at:Int) : FH (al1 p_m p_at) 60 [.dat (aj.lf1 p_m),.i_ p_at] [] (fun r=>.tup [wF (.agg ((aj.lf1 r.1).map AV.lf)) [(8,.own 0)],.agg [.i_ r.2.dX,.i_ r.2.bf,.i_ r.2.fAt,.own 1]]) (fun r=>[.row 54 82 (r.1.aP.map ay.lf),.row 54 82 (r.2.aN.map ay.lf)]) := gX Tryz.func60 (by kernel_rfl) (fun _=>rfl) (by kernel_rfl)
def U9 (p_m:aj) (p_x:ah) : Mo (Bool) :=
 .iG 8005 (p_x.bf == p_m.bf) (.rt [2,3,4,6,31] 4 (p_m.dh == 2)) <|
 .rt [2,3,4,6,31] 4 (false)
def Va (p_x:ah) (r0:aj) (r1:Int) : Mo (Bool) :=
 .say [.order [(true,0),(true,1),(true,2),(true,3),(true,4),(true,5),(true,6),(true,7),(true,8),(true,9),(true,10),(true,12),(true,13),(false,11),(true,14),(true,15),(true,16),(true,17),(true,18),(true,19),(true,20),(true,21),(false,22),(true,23),(true,24),(true,25),(true,26),(true,27),(true,28),(true,29)] none [],.num r0.aP.length] (ok1 (ln_ r0.aP ay.lf)) <|
 .iG 18006 (decide (((r0.aP.length:Int) : Int) < p_x.aW)) (.rt [2,3,4,6,7,8,75] 4 (true)) <|
 .cl (ais r0.aP p_x.aW) fun r2 _ =>
 .iG 18016 (r2 != p_x.jd) (.rt [2,3,4,6,7,8,75] 4 (true)) <|
 .iG 18019 (decide ((0:Int) ≤ r1)) (.iG 18026 (decide ((r1:Int) < r0.au)) (.rt [2,3,4,6,7,8,75] 4 (true)) <|
 .rt [2,3,4,6,7,8,75] 4 (decide ((16384:Int) < (IntKind.wrap .i64 (p_x.aW + (p_x.aN.length:Int)))))) <|
 .rt [2,3,4,6,7,8,75] 4 (decide ((16384:Int) < (IntKind.wrap .i64 (p_x.aW + (p_x.aN.length:Int)))))
def XT (p_x:ah) (r0:aj) (r1:Int) : Option (Bool) := Mo.den (Va p_x r0 r1)
def BK (p_x:ah) (r0:aj) (r1:Int) (r2:bF) : Mo ((aj × bF)) :=
 .iB (decide ((0:Int) ≤ r1)) (.cH [] (ait r0 r1) fun r3 _ =>
 .ret ⟨[.frz 5,.norm 0,.frz 6,.norm 4],[2,3,4,6,7,9],[],5⟩ (r3.1,r3.2)) <|
 .ret ⟨[.norm 4],[2,3,4,6,7,9],[],5⟩ (r0,r2)
def Du (p_x:ah) (r0:aj) (r1:Int) (r2:bF) : Option ((aj × bF)) := Mo.den (BK p_x r0 r1 r2)
def BL (p_x:ah) (r_:(aj × bF)) : St := ⟨[(2,.ptr 0 0),(3,.ptr 1 0),(4,.ptr 2 0),(6,.ptr 3 0),(7,.i_ (IntKind.wrap .i64 (p_x.aW + (p_x.aN.length:Int)))),(9,.ptr 4 0)],[.box 25 (.dat (aj.lf1 r_.1)),.box 63 (.dat (ah.lf1 p_x)),.box 25 (Z25),.box 67 (.agg [.i_ 0,.i_ 0,.i_ 0,.bI 82]),.box 67 (.dat (bF.lf1 r_.2))]⟩
theorem abu {p_x:ah} {r0:aj} {r1:Int} {r2:bF} {r_:(aj × bF)} (h:Du p_x r0 r1 r2 = some r_) : fK Tryz.f27 0 [1,1,1,1,1,1,1,1,0,1] (.normal) (BL p_x r_) ⟨[(2,.ptr 0 0),(3,.ptr 1 0),(4,.ptr 2 0),(6,.ptr 3 0),(7,.i_ (IntKind.wrap .i64 (p_x.aW + (p_x.aN.length:Int)))),(8,.i_ r1),(9,.ptr 4 0),(91,.lf (.bool (decide ((0:Int) ≤ r1))))],[.box 25 (.dat (aj.lf1 r0)),.box 63 (.dat (ah.lf1 p_x)),.box 25 (Z25),.box 67 (.agg [.i_ 0,.i_ 0,.i_ 0,.bI 82]),.box 67 (.agg [.i_ r2.dX,.i_ r2.bf,.i_ r2.fAt,.lf (.rows 82 (r2.aN.map ay.lf))])]⟩ :=
 jh dK (BK p_x r0 r1 r2) (fun _=>.normal) (BL p_x) (by kernel_rfl) h
def Ld (l0:List ay) (p_x:ah) (r0:(aj × bF)) (v0:Int) : Mo (((List ay))) :=
 .say [.num r0.1.aP.length] (ok1 (ln_ r0.1.aP ay.lf)) <|
 .iB (decide (((r0.1.aP.length:Int) : Int) ≤ (IntKind.wrap .i64 (p_x.aW + v0)))) (.ask (bP p_x.aN v0) fun x0 h0 =>
 .say [.row (ay.lf1 x0),.rows ((l0 ++ [x0]).map ay.lf)] (okc (aX ay.aZ h0) (ok1 (ap_ ay.aZ l0 x0))) <|
 .grd ((l0.length + [x0].length) * 1208 ≤ 140737488355328) fun h1 =>
 .say [] (ok1 (cp_ ay.lf h1)) <|
 .ret ⟨[],[2,3,4,6,7,9,10,11],[(7,5)],6⟩ (l0 ++ [x0])) <|
 .rt [2,3,4,6,7,9,10,11] 6 (l0)
def BM (p_x:ah) (r0:(aj × bF)) : (Int × (List ay)) → Mo ((Int × (List ay)) ⊕ ((List ay))) := fun (v0,l0) =>
 .say [.num p_x.aN.length] (ok1 (ln_ p_x.aN ay.lf)) <|
 .iB (decide ((v0:Int) < (p_x.aN.length:Int))) (.jp Tryz.f27 0 [1,1,1,1,1,1,1,1,1,1,1,0,1,0,0,1,0] 8 [2,3,4,6,7,9,10,11] 6 (.normal) (fun r_=>⟨[(2,.ptr 0 0),(3,.ptr 1 0),(4,.ptr 2 0),(6,.ptr 3 0),(7,.i_ (IntKind.wrap .i64 (p_x.aW + (p_x.aN.length:Int)))),(9,.ptr 4 0),(10,.own 5),(11,.i_ v0)],[.box 25 (.dat (aj.lf1 r0.1)),.box 63 (.dat (ah.lf1 p_x)),.box 25 (Z25),.box 67 (.agg [.i_ 0,.i_ 0,.i_ 0,.bI 82]),.box 67 (.dat (bF.lf1 r0.2)),.row 54 82 (r_.map ay.lf)]⟩) ⟨[(2,.ptr 0 0),(3,.ptr 1 0),(4,.ptr 2 0),(6,.ptr 3 0),(7,.i_ (IntKind.wrap .i64 (p_x.aW + (p_x.aN.length:Int)))),(9,.ptr 4 0),(10,.own 5),(11,.i_ v0)],[.box 25 (.dat (aj.lf1 r0.1)),.box 63 (.dat (ah.lf1 p_x)),.box 25 (Z25),.box 67 (.agg [.i_ 0,.i_ 0,.i_ 0,.bI 82]),.box 67 (.dat (bF.lf1 r0.2)),.row 54 82 (l0.map ay.lf)]⟩ (Ld l0 p_x r0 v0).den (jW (by kernel_rfl)) fun r1 _ =>
 .rt [2,3,4,6,7,9,10,11] 6 (.inl (IntKind.wrap .i64 (v0 + 1),r1))) <|
 .rt [2,3,4,6,7,9,10] 6 (.inr (l0))
def Dv (p_x:ah) (r0:(aj × bF)) (v0:Int) (l0:List ay) : Option (((List ay))) := bM (fun v_=>(BM p_x r0 v_).den) FU (v0,l0)
def ajD (p_m:aj) (p_x:ah) : Mo (aj × (List ah) × bF) :=
 .ite (decide ((p_x.bf:Int) < p_m.bf)) (fun c0 =>
 .say [.br true,.order [(true,0),(true,1),(true,2),(false,3),(false,4),(false,5),(true,6),(false,7)] (some 7) [2]] (ok1 c0) <|
 .cl (zF p_m p_x false 0) fun r0 _ =>
 .cl (mX) fun r1 _ =>
 .ret (bD 3) (p_m,r0,r1)) fun c0 =>
 .say [.br false] (ok1 c0) <|
 .jp Tryz.f27 0 [1,1,0,0] 13 [2,3,4,6] 4 (.normal) (fun r_=>⟨[(2,.ptr 0 0),(3,.ptr 1 0),(4,.ptr 2 0),(6,.ptr 3 0),(31,.b_ r_)],[.box 25 (.dat (aj.lf1 p_m)),.box 63 (.dat (ah.lf1 p_x)),.box 25 (Z25),.box 67 (.agg [.i_ 0,.i_ 0,.i_ 0,.bI 82])]⟩) ⟨[(2,.ptr 0 0),(3,.ptr 1 0),(4,.ptr 2 0),(6,.ptr 3 0)],[.box 25 (.dat (aj.lf1 p_m)),.box 63 (.dat (ah.lf1 p_x)),.box 25 (Z25),.box 67 (.agg [.i_ 0,.i_ 0,.i_ 0,.bI 82])]⟩ (U9 p_m p_x).den (jW (by kernel_rfl)) fun r2 _ =>
 .ite (r2) (fun c1 =>
 .say [.br true,.order [(true,0),(false,1),(false,2),(true,3),(false,4)] (some 4) [2]] (ok1 c1) <|
 .cl (mX) fun r3 _ =>
 .ret ⟨[.nil 1 9,.tod 1],[0,1,2],[],0⟩ (p_m,[],r3)) fun c1 =>
 .say [.br false] (ok1 c1) <|
 .ask (aio p_m p_x) fun r4 h0 =>
 .say [.res (.dat (aj.lf1 r4)),.num p_x.aN.length] (okc (aip _ _ _ h0) (ok1 (ln_ p_x.aN ay.lf))) <|
 .cl (alZ r4 p_x) fun r5 _ =>
 .jp Tryz.f27 0 [1,1,1,1,1,1,0,0] 23 [2,3,4,6,7,8] 4 (.normal) (fun r_=>⟨[(2,.ptr 0 0),(3,.ptr 1 0),(4,.ptr 2 0),(6,.ptr 3 0),(7,.i_ (IntKind.wrap .i64 (p_x.aW + (p_x.aN.length:Int)))),(8,.i_ r5),(75,.b_ r_)],[.box 25 (.dat (aj.lf1 r4)),.box 63 (.dat (ah.lf1 p_x)),.box 25 (Z25),.box 67 (.agg [.i_ 0,.i_ 0,.i_ 0,.bI 82])]⟩) ⟨[(2,.ptr 0 0),(3,.ptr 1 0),(4,.ptr 2 0),(6,.ptr 3 0),(7,.i_ (IntKind.wrap .i64 (p_x.aW + (p_x.aN.length:Int)))),(8,.i_ r5)],[.box 25 (.dat (aj.lf1 r4)),.box 63 (.dat (ah.lf1 p_x)),.box 25 (Z25),.box 67 (.agg [.i_ 0,.i_ 0,.i_ 0,.bI 82])]⟩ (XT p_x r4 r5) (jW (by kernel_rfl)) fun r6 _ =>
 .ite (r6) (fun c2 =>
 .say [.br true,.order [(true,0),(true,1),(true,2),(true,3),(true,4),(true,5),(true,6),(true,7),(true,8),(true,9),(true,10),(false,11),(false,12),(false,13),(true,14),(false,15)] (some 15) [2],.num r4.aP.length] (okc c2 (ok1 (ln_ r4.aP ay.lf))) <|
 .cl (zF r4 p_x false (if 0 > (if (IntKind.wrap .i64 (p_x.aW - 1)) < (r4.aP.length:Int) then (IntKind.wrap .i64 (p_x.aW - 1)) else (r4.aP.length:Int)) then 0 else (if (IntKind.wrap .i64 (p_x.aW - 1)) < (r4.aP.length:Int) then (IntKind.wrap .i64 (p_x.aW - 1)) else (r4.aP.length:Int)))) fun r7 _ =>
 .cl (mX) fun r8 _ =>
 .ret (bD 3) (r4,r7,r8)) fun c2 =>
 .say [.br false] (ok1 c2) <|
 .cl (mX) fun r9 _ =>
 .ask (Du p_x r4 r5 r9) fun r10 h1 =>
 .say [.pt_ 1 [2,3,4,6,7,8,9,91] 5 (.normal) (BL p_x r10),.rows (r10.1.aP.map ay.lf)] (okc (abu h1) (ok1 (by simp [ay.aZ] : r10.1.aP.map ay.lf = [] ++ (r10.1.aP.map ay.lf)))) <|
 .grd ((([] : List ay).length + r10.1.aP.length) * 1208 ≤ 140737488355328) fun h2 =>
 .say [] (ok1 (cq_ ay.lf h2)) <|
 .lp Tryz.f27 0 [1,1,1,1,1,1,1,1,1,1,1,0,1,0] 0 [2,3,4,6,7,9,10,11] 6 (.exit 0) (fun r_=>⟨[(2,.ptr 0 0),(3,.ptr 1 0),(4,.ptr 2 0),(6,.ptr 3 0),(7,.i_ (IntKind.wrap .i64 (p_x.aW + (p_x.aN.length:Int)))),(9,.ptr 4 0),(10,.own 5)],[.box 25 (.dat (aj.lf1 r10.1)),.box 63 (.dat (ah.lf1 p_x)),.box 25 (Z25),.box 67 (.agg [.i_ 0,.i_ 0,.i_ 0,.bI 82]),.box 67 (.dat (bF.lf1 r10.2)),.row 54 82 (r_.map ay.lf)]⟩) (Dv p_x r10 0 r10.1.aP) (lW (fun (v0,l0)=>⟨[(2,.ptr 0 0),(3,.ptr 1 0),(4,.ptr 2 0),(6,.ptr 3 0),(7,.i_ (IntKind.wrap .i64 (p_x.aW + (p_x.aN.length:Int)))),(9,.ptr 4 0),(10,.own 5),(11,.i_ v0)],[.box 25 (.dat (aj.lf1 r10.1)),.box 63 (.dat (ah.lf1 p_x)),.box 25 (Z25),.box 67 (.agg [.i_ 0,.i_ 0,.i_ 0,.bI 82]),.box 67 (.dat (bF.lf1 r10.2)),.row 54 82 (l0.map ay.lf)]⟩) (by kernel_rfl) rfl fun v_=>by kernel_rfl) fun r11 _ =>
 .ask (ain (aj.jR (aj.nJ r10.1 r11) (if (if (IntKind.wrap .i64 (p_x.aW + (p_x.aN.length:Int))) < p_x.au then (IntKind.wrap .i64 (p_x.aW + (p_x.aN.length:Int))) else p_x.au) > r10.1.au then (if (IntKind.wrap .i64 (p_x.aW + (p_x.aN.length:Int))) < p_x.au then (IntKind.wrap .i64 (p_x.aW + (p_x.aN.length:Int))) else p_x.au) else r10.1.au)) p_x true (IntKind.wrap .i64 (p_x.aW + (p_x.aN.length:Int)))) fun r12 h3 =>
 .say [.dL (.q 2 (.q 3 (.q 5 (.alt 0 (.l 1 (.l 4 (.l 6 (.q 7 (.l 8 .fin))))) (.l 1 (.alt 0 (.l 4 (.l 6 (.q 7 (.l 8 .fin)))) (.l 4 (.l 0 (.l 6 (.q 7 (.l 8 .fin))))))))))) (some 8) [0,2,5] [.both [.at_ 46 4,.frz 5,.res (.lf (.rows 9 (r12.map ah.lf)))] [.both [.at_ 46 4,.frz 5,.res (.lf (.rows 9 (r12.map ah.lf)))] [.at_ 46 4,.frz 5,.res (.lf (.rows 9 (r12.map ah.lf)))]]] [4,5,6] 6 [(4,.ptr 2 0),(5,.lf (.rows 9 (r12.map ah.lf))),(6,.ptr 3 0)] [.box 25 (ag_ (aj.lf1 r10.1) [(8,.lf (.rows 82 (r11.map ay.lf))),(9,.i_ (if (if (IntKind.wrap .i64 (p_x.aW + (p_x.aN.length:Int))) < p_x.au then (IntKind.wrap .i64 (p_x.aW + (p_x.aN.length:Int))) else p_x.au) > r10.1.au then (if (IntKind.wrap .i64 (p_x.aW + (p_x.aN.length:Int))) < p_x.au then (IntKind.wrap .i64 (p_x.aW + (p_x.aN.length:Int))) else p_x.au) else r10.1.au))]),.box 63 (.dat (ah.lf1 p_x)),.box 25 (ag_ (aj.lf1 r10.1) [(8,.lf (.rows 82 (r11.map ay.lf))),(9,.i_ (if (if (IntKind.wrap .i64 (p_x.aW + (p_x.aN.length:Int))) < p_x.au then (IntKind.wrap .i64 (p_x.aW + (p_x.aN.length:Int))) else p_x.au) > r10.1.au then (if (IntKind.wrap .i64 (p_x.aW + (p_x.aN.length:Int))) < p_x.au then (IntKind.wrap .i64 (p_x.aW + (p_x.aN.length:Int))) else p_x.au) else r10.1.au))]),.box 67 (.agg [.i_ r10.2.dX,.i_ r10.2.bf,.i_ r10.2.fAt,.lf (.rows 82 (r10.2.aN.map ay.lf))]),.box 67 (.dat (bF.lf1 r10.2)),.dead]] (okc (zF _ _ _ _ _ h3) (okc (rf_ ⟨[(4,.ptr 2 0),(5,.lf (.rows 9 (r12.map ah.lf))),(6,.ptr 3 0)],[.box 25 (ag_ (aj.lf1 r10.1) [(8,.lf (.rows 82 (r11.map ay.lf))),(9,.i_ (if (if (IntKind.wrap .i64 (p_x.aW + (p_x.aN.length:Int))) < p_x.au then (IntKind.wrap .i64 (p_x.aW + (p_x.aN.length:Int))) else p_x.au) > r10.1.au then (if (IntKind.wrap .i64 (p_x.aW + (p_x.aN.length:Int))) < p_x.au then (IntKind.wrap .i64 (p_x.aW + (p_x.aN.length:Int))) else p_x.au) else r10.1.au))]),.box 63 (.dat (ah.lf1 p_x)),.box 25 (ag_ (aj.lf1 r10.1) [(8,.lf (.rows 82 (r11.map ay.lf))),(9,.i_ (if (if (IntKind.wrap .i64 (p_x.aW + (p_x.aN.length:Int))) < p_x.au then (IntKind.wrap .i64 (p_x.aW + (p_x.aN.length:Int))) else p_x.au) > r10.1.au then (if (IntKind.wrap .i64 (p_x.aW + (p_x.aN.length:Int))) < p_x.au then (IntKind.wrap .i64 (p_x.aW + (p_x.aN.length:Int))) else p_x.au) else r10.1.au))]),.box 67 (.agg [.i_ r10.2.dX,.i_ r10.2.bf,.i_ r10.2.fAt,.lf (.rows 82 (r10.2.aN.map ay.lf))]),.box 67 (.dat (bF.lf1 r10.2)),.dead]⟩) (okc (zF _ _ _ _ _ h3) (okc (rf_ ⟨[(4,.ptr 2 0),(5,.lf (.rows 9 (r12.map ah.lf))),(6,.ptr 3 0)],[.box 25 (ag_ (aj.lf1 r10.1) [(8,.lf (.rows 82 (r11.map ay.lf))),(9,.i_ (if (if (IntKind.wrap .i64 (p_x.aW + (p_x.aN.length:Int))) < p_x.au then (IntKind.wrap .i64 (p_x.aW + (p_x.aN.length:Int))) else p_x.au) > r10.1.au then (if (IntKind.wrap .i64 (p_x.aW + (p_x.aN.length:Int))) < p_x.au then (IntKind.wrap .i64 (p_x.aW + (p_x.aN.length:Int))) else p_x.au) else r10.1.au))]),.box 63 (.dat (ah.lf1 p_x)),.box 25 (ag_ (aj.lf1 r10.1) [(8,.lf (.rows 82 (r11.map ay.lf))),(9,.i_ (if (if (IntKind.wrap .i64 (p_x.aW + (p_x.aN.length:Int))) < p_x.au then (IntKind.wrap .i64 (p_x.aW + (p_x.aN.length:Int))) else p_x.au) > r10.1.au then (if (IntKind.wrap .i64 (p_x.aW + (p_x.aN.length:Int))) < p_x.au then (IntKind.wrap .i64 (p_x.aW + (p_x.aN.length:Int))) else p_x.au) else r10.1.au))]),.box 67 (.agg [.i_ r10.2.dX,.i_ r10.2.bf,.i_ r10.2.fAt,.lf (.rows 82 (r10.2.aN.map ay.lf))]),.box 67 (.dat (bF.lf1 r10.2)),.dead]⟩) (okc (zF _ _ _ _ _ h3) (ok1 (rf_ ⟨[(4,.ptr 2 0),(5,.lf (.rows 9 (r12.map ah.lf))),(6,.ptr 3 0)],[.box 25 (ag_ (aj.lf1 r10.1) [(8,.lf (.rows 82 (r11.map ay.lf))),(9,.i_ (if (if (IntKind.wrap .i64 (p_x.aW + (p_x.aN.length:Int))) < p_x.au then (IntKind.wrap .i64 (p_x.aW + (p_x.aN.length:Int))) else p_x.au) > r10.1.au then (if (IntKind.wrap .i64 (p_x.aW + (p_x.aN.length:Int))) < p_x.au then (IntKind.wrap .i64 (p_x.aW + (p_x.aN.length:Int))) else p_x.au) else r10.1.au))]),.box 63 (.dat (ah.lf1 p_x)),.box 25 (ag_ (aj.lf1 r10.1) [(8,.lf (.rows 82 (r11.map ay.lf))),(9,.i_ (if (if (IntKind.wrap .i64 (p_x.aW + (p_x.aN.length:Int))) < p_x.au then (IntKind.wrap .i64 (p_x.aW + (p_x.aN.length:Int))) else p_x.au) > r10.1.au then (if (IntKind.wrap .i64 (p_x.aW + (p_x.aN.length:Int))) < p_x.au then (IntKind.wrap .i64 (p_x.aW + (p_x.aN.length:Int))) else p_x.au) else r10.1.au))]),.box 67 (.agg [.i_ r10.2.dX,.i_ r10.2.bf,.i_ r10.2.fAt,.lf (.rows 82 (r10.2.aN.map ay.lf))]),.box 67 (.dat (bF.lf1 r10.2)),.dead]⟩))))))) <|
 .ret (bD 3) (aj.jR (aj.nJ r10.1 r11) (if (if (IntKind.wrap .i64 (p_x.aW + (p_x.aN.length:Int))) < p_x.au then (IntKind.wrap .i64 (p_x.aW + (p_x.aN.length:Int))) else p_x.au) > r10.1.au then (if (IntKind.wrap .i64 (p_x.aW + (p_x.aN.length:Int))) < p_x.au then (IntKind.wrap .i64 (p_x.aW + (p_x.aN.length:Int))) else p_x.au) else r10.1.au),r12,r10.2)
def Q21 (p_m:aj) (p_x:ah) : Option (aj × (List ah) × bF) := Mo.den (ajD p_m p_x)
theorem al2 (p_m:aj) (p_x:ah) : FV (Q21 p_m p_x) 27 [.dat (aj.lf1 p_m),.dat (ah.lf1 p_x)] (fun r=>.tup [.dat (aj.lf1 r.1),.lf (.rows 9 (r.2.1.map ah.lf)),.dat (bF.lf1 r.2.2)]) := bZ Tryz.func27 (by kernel_rfl) (fun _=>rfl) (by kernel_rfl)
def Lh (p_i:Int) (p_l:List Int) : Mo (Bool) :=
 .ite (decide ((p_i:Int) < 0)) (fun c0 =>
 .say [.gd 4002 true] (ok1 c0) <|
 .rt [0,1,12] 0 (true)) fun c0 =>
 .say [.gd 4002 false,.num p_l.length] (okc c0 (ok1 (ln_ p_l lfI))) <|
 .rt [0,1,12] 0 (decide (((p_l.length:Int) : Int) ≤ p_i))
def afQ (p_l:List Int) (p_i:Int) : Mo (Int) :=
 .jp Tryz.f54 0 [1,0,0] 9 [0,1] 0 (.normal) (fun r_=>⟨[(0,.lf (.rows 1 (p_l.map lfI))),(1,.i_ p_i),(12,.b_ r_)],[]⟩) ⟨[(0,.lf (.rows 1 (p_l.map lfI))),(1,.i_ p_i)],[]⟩ (Lh p_i p_l).den (jW (by kernel_rfl)) fun r0 _ =>
 .iB (r0) (.ret (bD 1) (0)) <|
 .ask (bP p_l p_i) fun x0 h0 =>
 .say [.row (lfI x0)] (ok1 (aX lI_ h0)) <|
 .ret (bD 1) (x0)
def aiu (p_l:List Int) (p_i:Int) : Option (Int) := Mo.den (afQ p_l p_i)
theorem zJ (p_l:List Int) (p_i:Int) : FV (aiu p_l p_i) 54 [.lf (.rows 1 (p_l.map lfI)),.i_ p_i] (fun r=>.i_ r) := bZ Tryz.func54 (by kernel_rfl) (fun _=>rfl) (by kernel_rfl)
def Vb (p_i:Int) (p_l:List Int) (p_n:Int) : Mo (Bool) :=
 .ite (decide ((0:Int) ≤ p_i)) (fun c0 =>
 .say [.gd 8002 true,.num p_l.length] (okc c0 (ok1 (ln_ p_l lfI))) <|
 .rt [1,2,7,18] 1 (decide ((p_i:Int) < (p_l.length:Int)))) fun c0 =>
 .say [.gd 8002 false] (ok1 c0) <|
 .rt [1,2,7,18] 1 (false)
def FZ (p_i:Int) (p_l:List Int) (p_n:Int) (r0:Bool) : Mo (((List Int))) :=
 .iB (r0) (.ask (bP p_l p_i) fun x0 h0 =>
 .say [.row (lfI x0),.rows ((p_l.set p_i.toNat p_n).map lfI)] (okc (cO lI_ h0) (okc (st_ lI_ p_l p_i.toNat p_n) (ok1 ((aX lI_ h0).2)))) <|
 .rt [7] 1 (p_l.set p_i.toNat p_n)) <|
 .rt [7] 1 (p_l)
def XU (p_i:Int) (p_l:List Int) (p_n:Int) (r0:Bool) : Option (((List Int))) := Mo.den (FZ p_i p_l p_n r0)
def F5  (r_:((List Int))) : St := ⟨[(7,.own 0)],[.row 3 1 (r_.map lfI)]⟩
theorem afR {p_i:Int} {p_l:List Int} {p_n:Int} {r0:Bool} {r_:((List Int))} (h:XU p_i p_l p_n r0 = some r_) : fK Tryz.f40 0 [1,1,1,0,1] (.normal) (F5 r_) ⟨[(1,.i_ p_i),(2,.i_ p_n),(7,.own 0),(18,.b_ r0)],[.row 3 1 (p_l.map lfI)]⟩ :=
 jh dK (FZ p_i p_l p_n r0) (fun _=>.normal) F5 (by kernel_rfl) h
def ajE (p_l:List Int) (p_i:Int) (p_n:Int) : Mo (List Int) :=
 .say [.rows (p_l.map lfI)] (ok1 (by simp [lfI,lfK] : p_l.map lfI = [] ++ (p_l.map lfI))) <|
 .grd ((([] : List Int).length + p_l.length) * 8 ≤ 140737488355328) fun h0 =>
 .say [] (ok1 (cq_ lfI h0)) <|
 .jp Tryz.f40 0 [1,1,1,0,0] 13 [1,2,7] 1 (.normal) (fun r_=>⟨[(1,.i_ p_i),(2,.i_ p_n),(7,.own 0),(18,.b_ r_)],[.row 3 1 (p_l.map lfI)]⟩) ⟨[(1,.i_ p_i),(2,.i_ p_n),(7,.own 0)],[.row 3 1 (p_l.map lfI)]⟩ (Vb p_i p_l p_n).den (jW (by kernel_rfl)) fun r0 _ =>
 .ask (XU p_i p_l p_n r0) fun r1 h1 =>
 .say [.pt_ 1 [1,2,7,18] 1 (.normal) (F5 r1),.at_ 0 0,.frz 0] (ok1 (afR h1)) <|
 .ret (bD 1) (r1)
def Q58 (p_l:List Int) (p_i:Int) (p_n:Int) : Option (List Int) := Mo.den (ajE p_l p_i p_n)
theorem XV (p_l:List Int) (p_i:Int) (p_n:Int) : FV (Q58 p_l p_i p_n) 40 [.lf (.rows 1 (p_l.map lfI)),.i_ p_i,.i_ p_n] (fun r=>.lf (.rows 1 (r.map lfI))) := bZ Tryz.func40 (by kernel_rfl) (fun _=>rfl) (by kernel_rfl)
def zK (p_m:aj) (p_x:ah) : Mo (Bool) :=
 .iG 8003 (p_m.dh != 2) (.rt [2,3,4,24] 3 (true)) <|
 .rt [2,3,4,24] 3 (decide ((p_x.bf:Int) < p_m.bf))
def zL (p_m:aj) (p_x:ah) (r0:Bool) : Mo (Bool) :=
 .iG 8010 (r0) (.rt [2,3,4,36] 3 (true)) <|
 .ite (p_x.fOK) (fun c0 =>
 .say [.gd 8013 true,.num p_m.aP.length] (okc c0 (ok1 (ln_ p_m.aP ay.lf))) <|
 .rt [2,3,4,36] 3 (decide (((p_m.aP.length:Int) : Int) < p_x.aW))) fun c0 =>
 .say [.gd 8013 false] (ok1 c0) <|
 .rt [2,3,4,36] 3 (false)
def ZO (p_m:aj) (p_x:ah) : Mo (aj) :=
 .iB (decide ((p_m.bf:Int) < p_x.bf)) (.cl (Dt p_m p_x.bf) fun r0 _ =>
 .ret (bD 1) (r0)) <|
 .sj Tryz.f50 0 [1,1,0,0] [0,1,2,3,4,5,6,7,8,9] 3 10 [2,3,4] 3 (fun r_=>⟨[(2,.ptr 0 0),(3,.ptr 1 0),(4,.ptr 2 0),(24,.b_ r_)],[.box 25 (.dat (aj.lf1 p_m)),.box 63 (.dat (ah.lf1 p_x)),.box 25 (Z25)]⟩) ⟨[(2,.ptr 0 0),(3,.ptr 1 0),(4,.ptr 2 0)],[.box 25 (.dat (aj.lf1 p_m)),.box 63 (.dat (ah.lf1 p_x)),.box 25 (Z25)]⟩ (zK p_m p_x).den (sW (by kernel_rfl)) fun r1 _ =>
 .sj Tryz.f50 0 [1,1,0,0] [10,11,12,13,14,15,16,17,18,19,20,21] 3 12 [2,3,4,24] 3 (fun r_=>⟨[(2,.ptr 0 0),(3,.ptr 1 0),(4,.ptr 2 0),(36,.b_ r_)],[.box 25 (.dat (aj.lf1 p_m)),.box 63 (.dat (ah.lf1 p_x)),.box 25 (Z25)]⟩) ⟨[(2,.ptr 0 0),(3,.ptr 1 0),(4,.ptr 2 0),(24,.b_ r1)],[.box 25 (.dat (aj.lf1 p_m)),.box 63 (.dat (ah.lf1 p_x)),.box 25 (Z25)]⟩ (zL p_m p_x r1).den (sW (by kernel_rfl)) fun r2 _ =>
 .iB (r2) (.ret (bD 1) (p_m)) <|
 .ite (p_x.fOK) (fun c0 =>
 .say [.br true,.order [(true,0),(true,1),(true,2),(true,3),(true,4),(true,5),(true,7),(true,8),(false,6),(true,9),(false,10),(true,11),(false,12)] (some 12) []] (ok1 c0) <|
 .cl (zJ p_m.bg p_x.bK) fun r3 _ =>
 .ask (Q58 p_m.bg p_x.bK (if p_x.aW > r3 then p_x.aW else r3)) fun r4 h0 =>
 .say [.res (.lf (.rows 1 (r4.map lfI))),.order [(true,0),(true,1),(true,2),(true,3),(true,4),(true,5),(true,7),(true,8),(true,9),(false,6),(false,10),(true,11),(false,12),(true,13),(false,14)] (some 14) []] (ok1 (XV _ _ _ _ h0)) <|
 .cl (zJ p_m.fNext p_x.bK) fun r5 _ =>
 .cl (zJ r4 p_x.bK) fun r6 _ =>
 .cl (XV p_m.fNext p_x.bK (if r6 > r5 then r6 else r5)) fun r7 _ =>
 .ret (bD 1) (aj.pV (aj.qx p_m r7) r4)) fun c0 =>
 .say [.br false,.order [(true,0),(true,1),(true,2),(true,3),(true,4),(true,5),(true,7),(true,8),(true,9),(true,11),(true,12),(false,6),(false,10),(true,13),(true,14),(false,15),(true,16),(false,17)] (some 17) []] (ok1 c0) <|
 .cl (zJ p_m.bg p_x.bK) fun r8 _ =>
 .cl (zJ p_m.fNext p_x.bK) fun r9 _ =>
 .cl (XV p_m.fNext p_x.bK (if (if p_x.aW < r9 then p_x.aW else r9) > r8 then (if p_x.aW < r9 then p_x.aW else r9) else r8)) fun r10 _ =>
 .ret (bD 1) (aj.qx p_m r10)
def Q68 (p_m:aj) (p_x:ah) : Option (aj) := Mo.den (ZO p_m p_x)
theorem al3 (p_m:aj) (p_x:ah) : FV (Q68 p_m p_x) 50 [.dat (aj.lf1 p_m),.dat (ah.lf1 p_x)] (fun r=>.dat (aj.lf1 r)) := bZ Tryz.func50 (by kernel_rfl) (fun _=>rfl) (by kernel_rfl)
def Vd (p_m:aj) (v0:Int) (v1:Int) (v2:Int) : Mo (Int) :=
 .ask (bP p_m.bg v2) fun x0 h0 =>
 .say [.row (lfI x0)] (ok1 (aX lI_ h0)) <|
 .iB (decide ((v0:Int) ≤ x0)) (.rt [1,2,3,4,5] 2 (IntKind.wrap .i64 (v1 + 1))) <|
 .rt [1,2,3,4,5] 2 (v1)
def F6 (p_m:aj) (v0:Int) : (Int × Int) → Mo ((Int × Int) ⊕ (Int)) := fun (v1,v2) =>
 .say [.num p_m.bg.length] (ok1 (ln_ p_m.bg lfI)) <|
 .iB (decide ((v2:Int) < (p_m.bg.length:Int))) (.jp Tryz.f25 0 [1,1,0,1,0,0,1,0,0,1,0,1,0,0,1,0] 12 [1,2,3,4,5] 2 (.normal) (fun r_=>⟨[(1,.ptr 0 0),(2,.ptr 1 0),(3,.i_ v0),(4,.i_ r_),(5,.i_ v2)],[.box 25 (.dat (aj.lf1 p_m)),.box 25 (Z25)]⟩) ⟨[(1,.ptr 0 0),(2,.ptr 1 0),(3,.i_ v0),(4,.i_ v1),(5,.i_ v2)],[.box 25 (.dat (aj.lf1 p_m)),.box 25 (Z25)]⟩ (Vd p_m v0 v1 v2).den (jW (by kernel_rfl)) fun r0 _ =>
 .rt [1,2,3,4,5] 2 (.inl (r0,IntKind.wrap .i64 (v2 + 1)))) <|
 .rt [1,2,3,4] 2 (.inr (v1))
def Oa (p_m:aj) (v0:Int) (v1:Int) (v2:Int) : Option (Int) := bM (fun v_=>(F6 p_m v0 v_).den) FU (v1,v2)
def Lj (p_m:aj) (r0:Int) (v0:Int) : Mo (Bool) :=
 .ask (Q93 p_m.bW) fun r1 h0 =>
 .say [] (ok1 (WB _ _ h0)) <|
 .ite (decide ((r1:Int) ≤ r0)) (fun c0 =>
 .say [] (ok1 c0) <|
 .ask (bP p_m.aP (IntKind.wrap .i64 (v0 - 1))) fun x0 h1 =>
 .say [.dL (.q 0 (.q 1 (.q 2 (.l 3 (.q 4 (.q 5 (.q 6 (.q 8 (.q 9 (.q 13 (.alt 7 (.alt 10 (.q 11 (.alt 12 (.l 14 (.q 15 (.q 16 .fin))) (.l 14 (.l 12 (.q 15 (.q 16 .fin)))))) (.l 14 (.l 10 (.q 11 (.l 12 (.q 15 (.q 16 .fin))))))) (.l 14 (.l 7 (.l 10 (.q 11 (.l 12 (.q 15 (.q 16 .fin)))))))))))))))))) none [] [.res (.i_ r1),.gd 26005 true,.both [.both [.row (ay.lf1 x0),.both [] []] [.row (ay.lf1 x0)]] [.row (ay.lf1 x0)]] [1,2,3,51] 2 [(1,.ptr 0 0),(2,.ptr 1 0),(3,.i_ v0),(51,.lf (.bool (x0.bf == p_m.bf)))] [.box 25 (.dat (aj.lf1 p_m)),.box 25 (Z25)]] (okc (aX ay.aZ h1) (okc (rf_ ⟨[(1,.ptr 0 0),(2,.ptr 1 0),(3,.i_ v0),(51,.lf (.bool (x0.bf == p_m.bf)))],[.box 25 (.dat (aj.lf1 p_m)),.box 25 (Z25)]⟩) (okc (rf_ ⟨[(1,.ptr 0 0),(2,.ptr 1 0),(3,.i_ v0),(51,.lf (.bool (x0.bf == p_m.bf)))],[.box 25 (.dat (aj.lf1 p_m)),.box 25 (Z25)]⟩) (okc (aX ay.aZ h1) (okc (rf_ ⟨[(1,.ptr 0 0),(2,.ptr 1 0),(3,.i_ v0),(51,.lf (.bool (x0.bf == p_m.bf)))],[.box 25 (.dat (aj.lf1 p_m)),.box 25 (Z25)]⟩) (okc (aX ay.aZ h1) (ok1 (rf_ ⟨[(1,.ptr 0 0),(2,.ptr 1 0),(3,.i_ v0),(51,.lf (.bool (x0.bf == p_m.bf)))],[.box 25 (.dat (aj.lf1 p_m)),.box 25 (Z25)]⟩)))))))) <|
 .rt [1,2,3,51] 2 (x0.bf == p_m.bf)) fun c0 =>
 .say [.dL (.q 0 (.q 1 (.q 2 (.l 3 (.q 4 (.q 5 (.q 6 (.q 8 (.q 9 (.q 13 (.alt 7 (.alt 10 (.q 11 (.alt 12 (.l 14 (.q 15 (.q 16 .fin))) (.l 14 (.l 12 (.q 15 (.q 16 .fin)))))) (.l 14 (.l 10 (.q 11 (.l 12 (.q 15 (.q 16 .fin))))))) (.l 14 (.l 7 (.l 10 (.q 11 (.l 12 (.q 15 (.q 16 .fin)))))))))))))))))) none [] [.res (.i_ r1),.gd 26005 false,.both [.both [.both [] []] []] []] [1,2,3,51] 2 [(1,.ptr 0 0),(2,.ptr 1 0),(3,.i_ v0),(51,.b_ false)] [.box 25 (.dat (aj.lf1 p_m)),.box 25 (Z25)]] (okc c0 (okc (rf_ ⟨[(1,.ptr 0 0),(2,.ptr 1 0),(3,.i_ v0),(51,.b_ false)],[.box 25 (.dat (aj.lf1 p_m)),.box 25 (Z25)]⟩) (okc (rf_ ⟨[(1,.ptr 0 0),(2,.ptr 1 0),(3,.i_ v0),(51,.b_ false)],[.box 25 (.dat (aj.lf1 p_m)),.box 25 (Z25)]⟩) (okc (rf_ ⟨[(1,.ptr 0 0),(2,.ptr 1 0),(3,.i_ v0),(51,.b_ false)],[.box 25 (.dat (aj.lf1 p_m)),.box 25 (Z25)]⟩) (ok1 (rf_ ⟨[(1,.ptr 0 0),(2,.ptr 1 0),(3,.i_ v0),(51,.b_ false)],[.box 25 (.dat (aj.lf1 p_m)),.box 25 (Z25)]⟩)))))) <|
 .rt [1,2,3,51] 2 (false)
def BN (p_m:aj) : (Int) → Mo ((Int) ⊕ (Int) ⊕ Unit) := fun (v0) =>
 .iB (decide ((p_m.au:Int) < v0)) (.lp Tryz.f25 0 [1,1,0,1,0,0,1,0,0,1,0,1,0] 0 [1,2,3,4,5] 2 (.exit 2) (fun r_=>⟨[(1,.ptr 0 0),(2,.ptr 1 0),(3,.i_ v0),(4,.i_ r_)],[.box 25 (.dat (aj.lf1 p_m)),.box 25 (Z25)]⟩) (Oa p_m v0 0 0) (lW (fun (v1,v2)=>⟨[(1,.ptr 0 0),(2,.ptr 1 0),(3,.i_ v0),(4,.i_ v1),(5,.i_ v2)],[.box 25 (.dat (aj.lf1 p_m)),.box 25 (Z25)]⟩) (by kernel_rfl) rfl fun v_=>by kernel_rfl) fun r0 _ =>
 .jp Tryz.f25 0 [1,1,0,1,0,0,1,0,0,1,1,0] 31 [1,2,3,4] 2 (.normal) (fun r_=>⟨[(1,.ptr 0 0),(2,.ptr 1 0),(3,.i_ v0),(51,.b_ r_)],[.box 25 (.dat (aj.lf1 p_m)),.box 25 (Z25)]⟩) ⟨[(1,.ptr 0 0),(2,.ptr 1 0),(3,.i_ v0),(4,.i_ r0)],[.box 25 (.dat (aj.lf1 p_m)),.box 25 (Z25)]⟩ (Lj p_m r0 v0).den (jW (by kernel_rfl)) fun r1 _ =>
 .iB (r1) (.ret ⟨[.kill 0],[2],[],2⟩ (.inr (.inl (v0)))) <|
 .rt [1,2,3] 2 (.inl (IntKind.wrap .i64 (v0 - 1)))) <|
 .rt [1,2] 2 (.inr (.inr (())))
def Dw (p_m:aj) (v0:Int) : Option ((Int) ⊕ Unit) := bM (fun v_=>(BN p_m v_).den) FU (v0)
def Ll (p_m:aj) : (Int) → St := fun (v0)=>⟨[(1,.ptr 0 0),(2,.ptr 1 0),(3,.i_ v0)],[.box 25 (.dat (aj.lf1 p_m)),.box 25 (Z25)]⟩
def ug (r_:(Int) ⊕ Unit) : Exit := match r_ with
 | .inl o_=>.ret
 | .inr (o_)=>.exit 0
def uh (p_m:aj) (r_:(Int) ⊕ Unit) : St := match r_ with
 | .inl o_=>⟨[(2,.ptr 1 0)],[.dead,.box 25 (ag_ (aj.lf1 p_m) [(9,.i_ o_)])]⟩
 | .inr (o_)=>⟨[(1,.ptr 0 0),(2,.ptr 1 0)],[.box 25 (.dat (aj.lf1 p_m)),.box 25 (Z25)]⟩
theorem Lm {p_m:aj} {v0:Int} {r_:(Int) ⊕ Unit} (h:Dw p_m v0 = some r_) : fK Tryz.f25 0 [1,1,0,1,0] (ug r_) (uh p_m r_) (Ll p_m (v0)) :=
 dO dK (body := (Code.sub (bodyC Tryz.f25) [1,1,0,1,0,0])) (by kernel_rfl) (BN p_m) (Ll p_m) ug (uh p_m) (fun r_=>by rcases r_ with _ | _ <;> rfl) (fun v_=>by kernel_rfl) h
def afS (p_m:aj) : Mo (aj) :=
 .ite (p_m.dh != 2) (fun c0 =>
 .say [.br true] (ok1 c0) <|
 .ret (bD 1) (p_m)) fun c0 =>
 .say [.br false,.num p_m.aP.length] (okc c0 (ok1 (ln_ p_m.aP ay.lf))) <|
 .eU (Dw p_m (p_m.aP.length:Int)) (fun o0 h0 =>
 .say [.pt_ 0 [1,2,3] 2 (ug (.inl o0)) (uh p_m (.inl o0))] (ok1 (Lm h0)) <|
 .ret (bD 1) (aj.jR p_m o0)) fun o1 h0 =>
 .say [.pt_ 0 [1,2,3] 2 (ug (.inr (o1))) (uh p_m (.inr (o1)))] (ok1 (Lm h0)) <|
 .ret (bD 1) (p_m)
def Q16 (p_m:aj) : Option (aj) := Mo.den (afS p_m)
theorem al4 (p_m:aj) : FV (Q16 p_m) 25 [.dat (aj.lf1 p_m)] (fun r=>.dat (aj.lf1 r)) := bZ Tryz.func25 (by kernel_rfl) (fun _=>rfl) (by kernel_rfl)
def nR (p_m:aj) (p_x:ah) : Mo (Bool) :=
 .iG 4005 (p_x.fTo != p_m.fID) (.rt [2,3,4,6,20] 4 (true)) <|
 .rt [2,3,4,6,20] 4 (p_x.bK == p_m.fID)
def nS (p_m:aj) (p_x:ah) (r0:Bool) : Mo (Bool) :=
 .iG 4012 (r0) (.rt [2,3,4,6,25] 4 (true)) <|
 .rt [2,3,4,6,25] 4 (decide ((p_x.bK:Int) < 0))
def kY (p_m:aj) (p_x:ah) (r0:Bool) : Mo (Bool) :=
 .iG 4017 (r0) (.rt [2,3,4,6,32] 4 (true)) <|
 .rt [2,3,4,6,32] 4 (decide ((p_m.bW:Int) ≤ p_x.bK))
def F7 (p_m:aj) (p_x:ah) : Mo (aj × (List ah) × bF) :=
 .sj Tryz.f17 0 [1,0,0] [0,1,2,3,4,5,6,7,8,9,10,11] 1 12 [2,3,4,6] 4 (fun r_=>⟨[(2,.ptr 0 0),(3,.ptr 1 0),(4,.ptr 2 0),(6,.ptr 3 0),(20,.b_ r_)],[.box 25 (.dat (aj.lf1 p_m)),.box 63 (.dat (ah.lf1 p_x)),.box 25 (Z25),.box 67 (.agg [.i_ 0,.i_ 0,.i_ 0,.bI 82])]⟩) ⟨[(2,.ptr 0 0),(3,.ptr 1 0),(4,.ptr 2 0),(6,.ptr 3 0)],[.box 25 (.dat (aj.lf1 p_m)),.box 63 (.dat (ah.lf1 p_x)),.box 25 (Z25),.box 67 (.agg [.i_ 0,.i_ 0,.i_ 0,.bI 82])]⟩ (nR p_m p_x).den (sW (by kernel_rfl)) fun r0 _ =>
 .sj Tryz.f17 0 [1,0,0] [12,13,14,15,16] 1 5 [2,3,4,6,20] 4 (fun r_=>⟨[(2,.ptr 0 0),(3,.ptr 1 0),(4,.ptr 2 0),(6,.ptr 3 0),(25,.b_ r_)],[.box 25 (.dat (aj.lf1 p_m)),.box 63 (.dat (ah.lf1 p_x)),.box 25 (Z25),.box 67 (.agg [.i_ 0,.i_ 0,.i_ 0,.bI 82])]⟩) ⟨[(2,.ptr 0 0),(3,.ptr 1 0),(4,.ptr 2 0),(6,.ptr 3 0),(20,.b_ r0)],[.box 25 (.dat (aj.lf1 p_m)),.box 63 (.dat (ah.lf1 p_x)),.box 25 (Z25),.box 67 (.agg [.i_ 0,.i_ 0,.i_ 0,.bI 82])]⟩ (nS p_m p_x r0).den (sW (by kernel_rfl)) fun r1 _ =>
 .sj Tryz.f17 0 [1,0,0] [17,18,19,20,21,22,23] 1 7 [2,3,4,6,25] 4 (fun r_=>⟨[(2,.ptr 0 0),(3,.ptr 1 0),(4,.ptr 2 0),(6,.ptr 3 0),(32,.b_ r_)],[.box 25 (.dat (aj.lf1 p_m)),.box 63 (.dat (ah.lf1 p_x)),.box 25 (Z25),.box 67 (.agg [.i_ 0,.i_ 0,.i_ 0,.bI 82])]⟩) ⟨[(2,.ptr 0 0),(3,.ptr 1 0),(4,.ptr 2 0),(6,.ptr 3 0),(25,.b_ r1)],[.box 25 (.dat (aj.lf1 p_m)),.box 63 (.dat (ah.lf1 p_x)),.box 25 (Z25),.box 67 (.agg [.i_ 0,.i_ 0,.i_ 0,.bI 82])]⟩ (kY p_m p_x r1).den (sW (by kernel_rfl)) fun r2 _ =>
 .ite (r2) (fun c0 =>
 .say [.br true,.order [(true,0),(false,1),(false,2),(true,3),(false,4)] (some 4) [2]] (ok1 c0) <|
 .cl (mX) fun r3 _ =>
 .ret ⟨[.nil 1 9,.tod 1],[0,1,2],[],0⟩ (p_m,[],r3)) fun c0 =>
 .say [.br false] (ok1 c0) <|
 .iB (p_x.aU == 1) (.ask (Q50 p_m p_x) fun r4 h0 =>
 .say [.res (.tup [.dat (aj.lf1 r4.1),.lf (.rows 9 (r4.2.map ah.lf))]),.order [(true,0),(true,1),(false,2),(false,3),(true,4),(false,5)] (some 5) [2]] (ok1 (alW _ _ _ h0)) <|
 .cl (mX) fun r5 _ =>
 .ret (bD 3) (r4.1,r4.2,r5)) <|
 .iB (p_x.aU == 2) (.cl (ail p_m p_x) fun r6 _ =>
 .cl (mX) fun r7 _ =>
 .ret ⟨[.nil 1 9,.tod 1],[0,1,2],[],0⟩ (r6,[],r7)) <|
 .iB (p_x.aU == 3) (.cl (al2 p_m p_x) fun r8 _ =>
 .ret (bD 3) (r8.1,r8.2.1,r8.2.2)) <|
 .ite (p_x.aU == 4) (fun c1 =>
 .say [.br true] (ok1 c1) <|
 .cl (al3 p_m p_x) fun r9 _ =>
 .cl (al4 r9) fun r10 _ =>
 .cl (mX) fun r11 _ =>
 .ret ⟨[.nil 1 9,.tod 1],[0,1,2],[],0⟩ (r10,[],r11)) fun c1 =>
 .say [.br false,.order [(true,0),(false,1),(false,2),(true,3),(false,4)] (some 4) [2]] (ok1 c1) <|
 .cl (mX) fun r12 _ =>
 .ret ⟨[.nil 1 9,.tod 1],[0,1,2],[],0⟩ (p_m,[],r12)
def Q26 (p_m:aj) (p_x:ah) : Option (aj × (List ah) × bF) := Mo.den (F7 p_m p_x)
theorem al5 (p_m:aj) (p_x:ah) : FV (Q26 p_m p_x) 17 [.dat (aj.lf1 p_m),.dat (ah.lf1 p_x)] (fun r=>.tup [.dat (aj.lf1 r.1),.lf (.rows 9 (r.2.1.map ah.lf)),.dat (bF.lf1 r.2.2)]) := bZ Tryz.func17 (by kernel_rfl) (fun _=>rfl) (by kernel_rfl)
def zM (p_a:List Int) (p_b:List Int) : (Int) → Mo ((Int) ⊕ (Unit ⊕ Unit)) := fun (v0) =>
 .say [.num p_a.length] (ok1 (ln_ p_a lfI)) <|
 .ite (decide ((v0:Int) < (p_a.length:Int))) (fun c0 =>
 .say [.br true,.order [(true,0),(true,1),(true,2),(true,3),(true,4),(true,5),(true,6),(true,7),(true,8)] none []] (ok1 c0) <|
 .ask (bP p_a v0) fun x0 h0 =>
 .say [.row (lfI x0)] (ok1 (aX lI_ h0)) <|
 .ask (bP p_b v0) fun x1 h1 =>
 .say [.row (lfI x1)] (ok1 (aX lI_ h1)) <|
 .iB (x0 != x1) (.rt [4] 0 (.inr (.inl ()))) <|
 .rt [0,1,5] 0 (.inl (IntKind.wrap .i64 (v0 + 1)))) fun c0 =>
 .say [.br false] (ok1 c0) <|
 .rt [] 0 (.inr (.inr (())))
def XW (p_a:List Int) (p_b:List Int) (v0:Int) : Option (Unit ⊕ Unit) := bM (fun v_=>(zM p_a p_b v_).den) FU (v0)
def Ve (p_a:List Int) (p_b:List Int) : (Int) → St := fun (v0)=>⟨[(0,.lf (.rows 1 (p_a.map lfI))),(1,.lf (.rows 1 (p_b.map lfI))),(5,.i_ v0)],[]⟩
def zN (r_:Unit ⊕ Unit) : Exit := match r_ with
 | .inl o_=>.ret
 | .inr (o_)=>.exit 0
def zO  (r_:Unit ⊕ Unit) : St := match r_ with
 | .inl o_=>⟨[(4,.b_ false)],[]⟩
 | .inr (o_)=>⟨[],[]⟩
theorem Vf {p_a:List Int} {p_b:List Int} {v0:Int} {r_:Unit ⊕ Unit} (h:XW p_a p_b v0 = some r_) : fK Tryz.f41 0 [1,1,0,1,0] (zN r_) (zO r_) (Ve p_a p_b (v0)) :=
 dO dK (body := (Code.sub (bodyC Tryz.f41) [1,1,0,1,0,0])) (by kernel_rfl) (zM p_a p_b) (Ve p_a p_b) zN zO (fun r_=>by rcases r_ with _ | _ <;> rfl) (fun v_=>by kernel_rfl) h
def ajF (p_a:List Int) (p_b:List Int) : Mo (Bool) :=
 .say [.num p_a.length,.num p_b.length] (okc (ln_ p_a lfI) (ok1 (ln_ p_b lfI))) <|
 .iB ((p_a.length:Int) != (p_b.length:Int)) (.ret (bD 1) (false)) <|
 .eU (XW p_a p_b 0) (fun o0 h0 =>
 .say [.pt_ 0 [0,1,5] 0 (zN (.inl o0)) (zO (.inl o0))] (ok1 (Vf h0)) <|
 .ret (bD 1) (false)) fun o1 h0 =>
 .say [.pt_ 0 [0,1,5] 0 (zN (.inr (o1))) (zO (.inr (o1)))] (ok1 (Vf h0)) <|
 .ret (bD 1) (true)
def Q32 (p_a:List Int) (p_b:List Int) : Option (Bool) := Mo.den (ajF p_a p_b)
theorem afT (p_a:List Int) (p_b:List Int) : FV (Q32 p_a p_b) 41 [.lf (.rows 1 (p_a.map lfI)),.lf (.rows 1 (p_b.map lfI))] (fun r=>.b_ r) := bZ Tryz.func41 (by kernel_rfl) (fun _=>rfl) (by kernel_rfl)
structure Oc where
 m1:(p_x:aJ) → (p_b0:aA) → Option (aA)
 ok1:∀ p_x p_b0,FH (m1 p_x p_b0) 125 [.ptr 0 0,.dat (aJ.lf1 p_x)] [.box 124 (.dat (aA.lf1 p_b0))] (fun _=>.tup []) (fun r=>[.box 124 (.dat (aA.lf1 r))])
def zQ (R_:Oc) (p_x:aJ) : (Int × aA) → Mo ((Int × aA) ⊕ (aA)) := fun (v0,s11024) =>
 .say [.num p_x.dN.length] (ok1 (ln_ p_x.dN aJ.lf)) <|
 .iB (decide ((v0:Int) < (p_x.dN.length:Int))) (.ask (bP p_x.dN v0) fun x0 h0 =>
 .say [.row (aJ.lf1 x0)] (ok1 (aX aJ.aZ h0)) <|
 .cH [0] (R_.ok1 x0 s11024) fun r0 _ =>
 .rt [0,3,4] 2 (.inl (IntKind.wrap .i64 (v0 + 1),r0))) <|
 .rt [0,3] 2 (.inr (s11024))
def Oe (R_:Oc) (p_x:aJ) (v0:Int) (s11024:aA) : Option (aA) := bM (fun v_=>(zQ R_ p_x v_).den) FU (v0,s11024)
def Vg (R_:Oc) (p_x:aJ) : (Int × aA) → St := fun (v0,s11024)=>⟨[(0,.ptr 0 0),(3,.ptr 1 0),(4,.i_ v0)],[.box 124 (.dat (aA.lf1 s11024)),.box 52 (.dat (aJ.lf1 p_x))]⟩
def F8 (p_x:aJ) (r_:aA) : St := ⟨[(0,.ptr 0 0),(3,.ptr 1 0)],[.box 124 (.dat (aA.lf1 r_)),.box 52 (.dat (aJ.lf1 p_x))]⟩
theorem afU {R_:Oc} {p_x:aJ} {v0:Int} {s11024:aA} {r_:aA} (h:Oe R_ p_x v0 s11024 = some r_) : fK Tryz.f125 1 [1,1,1,1,1,1,1,1,1,1,1,0,1,0] (.exit 0) (F8 p_x r_) (Vg R_ p_x (v0,s11024)) :=
 dO dK (body := (Code.sub (bodyC Tryz.f125) [1,1,1,1,1,1,1,1,1,1,1,0,1,0,0])) (by kernel_rfl) (zQ R_ p_x) (Vg R_ p_x) (fun _=>.exit 0) (F8 p_x) (fun r_=>rfl) (fun v_=>by kernel_rfl) h
def F9 (R_:Oc) (p_x:aJ) : (Int × aA) → Mo ((Int × aA) ⊕ (aA)) := fun (v0,s11067) =>
 .say [.num p_x.eF.length] (ok1 (ln_ p_x.eF lfI)) <|
 .iB (decide ((v0:Int) < (p_x.eF.length:Int))) (.ask (bP p_x.eF v0) fun x0 h0 =>
 .say [.row (lfI x0)] (ok1 (aX lI_ h0)) <|
 .cH [0] (fD x0 s11067) fun r0 _ =>
 .rt [0,3,5] 2 (.inl (IntKind.wrap .i64 (v0 + 1),r0))) <|
 .rt [0,3] 2 (.inr (s11067))
def XY (R_:Oc) (p_x:aJ) (v0:Int) (s11067:aA) : Option (aA) := bM (fun v_=>(F9 R_ p_x v_).den) FU (v0,s11067)
def afV (R_:Oc) (p_x:aJ) (p_b0:aA) : Mo (aA) :=
 .cH [0] (fD p_x.aU p_b0) fun r0 _ =>
 .cH [0] (oO p_x.kT r0) fun r1 _ =>
 .cH [0] (vM p_x.mW r1) fun r2 _ =>
 .cH [0] (vM p_x.bV r2) fun r3 _ =>
 .cH [0] (vM p_x.gY r3) fun r4 _ =>
 .cH [0] (WX p_x.oW r4) fun r5 _ =>
 .cH [0] (Ny p_x.aW r5) fun r6 _ =>
 .cH [0] (oO p_x.Az r6) fun r7 _ =>
 .ask (Q20 p_x.fC r7) fun r8 h0 =>
 .say [.ji [0] (.tup []) [.box 124 (.dat (aA.lf1 r8))],.num p_x.dN.length] (okc (fD _ _ _ h0) (ok1 (ln_ p_x.dN aJ.lf))) <|
 .cH [0] (fD (p_x.dN.length:Int) r8) fun r9 _ =>
 .ask (Oe R_ p_x 0 r9) fun r10 h1 =>
 .say [.pt_ 0 [0,3,4] 2 (.exit 0) (F8 p_x r10),.num p_x.eF.length] (okc (afU h1) (ok1 (ln_ p_x.eF lfI))) <|
 .cH [0] (fD (p_x.eF.length:Int) r10) fun r11 _ =>
 .lp Tryz.f125 1 [1,1,1,1,1,1,1,1,1,1,1,1,1,0,1,0] 0 [0,3,5] 2 (.exit 2) (fun r_=>⟨[(0,.ptr 0 0),(3,.ptr 1 0)],[.box 124 (.dat (aA.lf1 r_)),.box 52 (.dat (aJ.lf1 p_x))]⟩) (XY R_ p_x 0 r11) (lW (fun (v0,s11067)=>⟨[(0,.ptr 0 0),(3,.ptr 1 0),(5,.i_ v0)],[.box 124 (.dat (aA.lf1 s11067)),.box 52 (.dat (aJ.lf1 p_x))]⟩) (by kernel_rfl) rfl fun v_=>by kernel_rfl) fun r12 _ =>
 .cH [0] (pW p_x.lI r12) fun r13 _ =>
 .ret ⟨[.kill 1],[],[],1⟩ (r13)
theorem aiv (R_:Oc) (p_x:aJ) (p_b0:aA) : FH (Mo.den (afV R_ p_x p_b0)) 125 [.ptr 0 0,.dat (aJ.lf1 p_x)] [.box 124 (.dat (aA.lf1 p_b0))] (fun _=>.tup []) (fun r=>[.box 124 (.dat (aA.lf1 r))]) := gX Tryz.func125 (by kernel_rfl) (fun _=>rfl) (by kernel_rfl)
def qh:Nat → Oc
 | 0=>{ m1 := fun p_x p_b0=>none,ok1 := fun _ _ _ h=>(by cases h) }
 | n_ + 1=>{ m1 := fun p_x p_b0=>Mo.den (afV (qh n_) p_x p_b0),ok1 := aiv (qh n_) }
def Q30 (p_x:aJ) (p_b0:aA) : Option (aA) := (qh FU).m1 p_x p_b0
theorem al6 (p_x:aJ) (p_b0:aA) : FH (Q30 p_x p_b0) 125 [.ptr 0 0,.dat (aJ.lf1 p_x)] [.box 124 (.dat (aA.lf1 p_b0))] (fun _=>.tup []) (fun r=>[.box 124 (.dat (aA.lf1 r))]) := (qh FU).ok1 p_x p_b0
def afW (p_e:ay) (p_b0:aA) : Mo (aA) :=
 .cH [0] (fD p_e.bf p_b0) fun r0 _ =>
 .cH [0] (fD p_e.fC r0) fun r1 _ =>
 .cH [0] (oO p_e.kJ r1) fun r2 _ =>
 .cH [0] (fD p_e.pO r2) fun r3 _ =>
 .cH [0] (al6 p_e.iJ r3) fun r4 _ =>
 .ret ⟨[.kill 1],[],[],1⟩ (r4)
def al7 (p_e:ay) (p_b0:aA) : Option (aA) := Mo.den (afW p_e p_b0)
theorem aiw (p_e:ay) (p_b0:aA) : FH (al7 p_e p_b0) 92 [.ptr 0 0,.dat (ay.lf1 p_e)] [.box 124 (.dat (aA.lf1 p_b0))] (fun _=>.tup []) (fun r=>[.box 124 (.dat (aA.lf1 r))]) := gX Tryz.func92 (by kernel_rfl) (fun _=>rfl) (by kernel_rfl)
def afX (p_e:ay) : Mo (ByteArray) :=
 .say [.at_ 6 1,.norm 1] ok0 <|
 .cH [1] (aiw p_e (aA.mk ⟨#[]⟩ false true)) fun r0 _ =>
 .ret (bD 1) (r0.fS)
def afY (p_e:ay) : Option (ByteArray) := Mo.den (afX p_e)
theorem ZP (p_e:ay) : FV (afY p_e) 61 [.dat (ay.lf1 p_e)] (fun r=>.lf (.str r)) := bZ Tryz.func61 (by kernel_rfl) (fun _=>rfl) (by kernel_rfl)
def zS (p_a:List ay) (p_b:List ay) : (Int) → Mo ((Int) ⊕ (Unit ⊕ Unit)) := fun (v0) =>
 .say [.num p_a.length] (ok1 (ln_ p_a ay.lf)) <|
 .iB (decide ((v0:Int) < (p_a.length:Int))) (.ask (bP p_a v0) fun x0 h0 =>
 .say [] (ok1 (aX ay.aZ h0)) <|
 .ask (bP p_b v0) fun x1 h1 =>
 .say [] (ok1 (aX ay.aZ h1)) <|
 .ask (afY x0) fun r0 h2 =>
 .say [] (ok1 (ZP _ _ h2)) <|
 .ask (afY x1) fun r1 h3 =>
 .say [.dL (.q 0 (.q 1 (.q 2 (.q 3 (.q 5 (.q 6 (.q 7 (.q 8 (.l 4 (.l 9 (.q 10 .fin))))))))))) (some 9) [] [.row (ay.lf1 x0),.row (ay.lf1 x1),.res (.lf (.str r0)),.res (.lf (.str r1))] [0,1,5,27] 0 [(0,.lf (.rows 82 (p_a.map ay.lf))),(1,.lf (.rows 82 (p_b.map ay.lf))),(5,.i_ v0),(27,.lf (.bool (!decide ((r0:ByteArray) = (r1:ByteArray)))))] []] (okc (ZP _ _ h3) (ok1 (rf_ ⟨[(0,.lf (.rows 82 (p_a.map ay.lf))),(1,.lf (.rows 82 (p_b.map ay.lf))),(5,.i_ v0),(27,.lf (.bool (!decide ((r0:ByteArray) = (r1:ByteArray)))))],[]⟩))) <|
 .iB (!decide ((r0:ByteArray) = (r1:ByteArray))) (.rt [4] 0 (.inr (.inl ()))) <|
 .rt [0,1,5] 0 (.inl (IntKind.wrap .i64 (v0 + 1)))) <|
 .rt [] 0 (.inr (.inr (())))
def XZ (p_a:List ay) (p_b:List ay) (v0:Int) : Option (Unit ⊕ Unit) := bM (fun v_=>(zS p_a p_b v_).den) FU (v0)
def Vh (p_a:List ay) (p_b:List ay) : (Int) → St := fun (v0)=>⟨[(0,.lf (.rows 82 (p_a.map ay.lf))),(1,.lf (.rows 82 (p_b.map ay.lf))),(5,.i_ v0)],[]⟩
def zT (r_:Unit ⊕ Unit) : Exit := match r_ with
 | .inl o_=>.ret
 | .inr (o_)=>.exit 0
def zU  (r_:Unit ⊕ Unit) : St := match r_ with
 | .inl o_=>⟨[(4,.b_ false)],[]⟩
 | .inr (o_)=>⟨[],[]⟩
theorem Vj {p_a:List ay} {p_b:List ay} {v0:Int} {r_:Unit ⊕ Unit} (h:XZ p_a p_b v0 = some r_) : fK Tryz.f28 0 [1,1,0,1,0] (zT r_) (zU r_) (Vh p_a p_b (v0)) :=
 dO dK (body := (Code.sub (bodyC Tryz.f28) [1,1,0,1,0,0])) (by kernel_rfl) (zS p_a p_b) (Vh p_a p_b) zT zU (fun r_=>by rcases r_ with _ | _ <;> rfl) (fun v_=>by kernel_rfl) h
def ajG (p_a:List ay) (p_b:List ay) : Mo (Bool) :=
 .say [.num p_a.length,.num p_b.length] (okc (ln_ p_a ay.lf) (ok1 (ln_ p_b ay.lf))) <|
 .iB ((p_a.length:Int) != (p_b.length:Int)) (.ret (bD 1) (false)) <|
 .eU (XZ p_a p_b 0) (fun o0 h0 =>
 .say [.pt_ 0 [0,1,5] 0 (zT (.inl o0)) (zU (.inl o0))] (ok1 (Vj h0)) <|
 .ret (bD 1) (false)) fun o1 h0 =>
 .say [.pt_ 0 [0,1,5] 0 (zT (.inr (o1))) (zU (.inr (o1)))] (ok1 (Vj h0)) <|
 .ret (bD 1) (true)
def Q27 (p_a:List ay) (p_b:List ay) : Option (Bool) := Mo.den (ajG p_a p_b)
theorem X0 (p_a:List ay) (p_b:List ay) : FV (Q27 p_a p_b) 28 [.lf (.rows 82 (p_a.map ay.lf)),.lf (.rows 82 (p_b.map ay.lf))] (fun r=>.b_ r) := bZ Tryz.func28 (by kernel_rfl) (fun _=>rfl) (by kernel_rfl)
def Vk (p_a:aj) (p_b:aj) : Mo (Bool) :=
 .iG 4005 (p_a.fID == p_b.fID) (.rt [2,3,4,16] 2 (p_a.bW == p_b.bW)) <|
 .rt [2,3,4,16] 2 (false)
def Vl (p_a:aj) (p_b:aj) (r0:Bool) : Mo (Bool) :=
 .iG 4012 (r0) (.rt [2,3,4,23] 2 (p_a.bf == p_b.bf)) <|
 .rt [2,3,4,23] 2 (false)
def Lp (p_a:aj) (p_b:aj) (r0:Bool) : Mo (Bool) :=
 .iG 4019 (r0) (.rt [2,3,4,30] 2 (p_a.iy == p_b.iy)) <|
 .rt [2,3,4,30] 2 (false)
def Lr (p_a:aj) (p_b:aj) (r0:Bool) : Mo (Bool) :=
 .iG 4026 (r0) (.rt [2,3,4,37] 2 (p_a.dh == p_b.dh)) <|
 .rt [2,3,4,37] 2 (false)
def Ls (p_a:aj) (p_b:aj) (r0:Bool) : Mo (Bool) :=
 .iG 4033 (r0) (.rt [2,3,4,44] 2 (p_a.gK == p_b.gK)) <|
 .rt [2,3,4,44] 2 (false)
def Lu (p_a:aj) (p_b:aj) (r0:Bool) : Mo (Bool) :=
 .iG 4040 (r0) (.rt [2,3,4,51] 2 (p_a.gu == p_b.gu)) <|
 .rt [2,3,4,51] 2 (false)
def LC (p_a:aj) (p_b:aj) (r0:Bool) : Mo (Bool) :=
 .iG 4047 (r0) (.rt [2,3,4,58] 2 (p_a.dY == p_b.dY)) <|
 .rt [2,3,4,58] 2 (false)
def LD (p_a:aj) (p_b:aj) (r0:Bool) : Mo (Bool) :=
 .iG 4054 (r0) (.rt [2,3,4,65] 2 (p_a.au == p_b.au)) <|
 .rt [2,3,4,65] 2 (false)
def LG (p_a:aj) (p_b:aj) (r0:Bool) : Mo (Bool) :=
 .iG 4061 (r0) (.cl (afT p_a.fNext p_b.fNext) fun r1 _ =>
 .rt [2,3,4,72] 2 (r1)) <|
 .rt [2,3,4,72] 2 (false)
def LH (p_a:aj) (p_b:aj) (r0:Bool) : Mo (Bool) :=
 .iG 4068 (r0) (.cl (afT p_a.bg p_b.bg) fun r1 _ =>
 .rt [2,3,4,79] 2 (r1)) <|
 .rt [2,3,4,79] 2 (false)
def LJ (p_a:aj) (p_b:aj) (r0:Bool) : Mo (Bool) :=
 .iG 4075 (r0) (.cl (X0 p_a.aP p_b.aP) fun r1 _ =>
 .ret ⟨[.kill 0,.kill 1],[4,86],[],2⟩ (r1)) <|
 .ret ⟨[.kill 0,.kill 1],[4,86],[],2⟩ (false)
def LK (r0:Bool) : Mo (Unit) :=
 .rt [4] 2 ()
def ajH (p_a:aj) (p_b:aj) : Mo (Bool) :=
 .sj Tryz.f14 0 [1,0] [0,1,2,3,4,5,6,7,8,9,10,11] 1 12 [2,3,4] 2 (fun r_=>⟨[(2,.ptr 0 0),(3,.ptr 1 0),(4,.b_ false),(16,.b_ r_)],[.box 25 (.dat (aj.lf1 p_a)),.box 25 (.dat (aj.lf1 p_b))]⟩) ⟨[(2,.ptr 0 0),(3,.ptr 1 0),(4,.b_ false)],[.box 25 (.dat (aj.lf1 p_a)),.box 25 (.dat (aj.lf1 p_b))]⟩ (Vk p_a p_b).den (sW (by kernel_rfl)) fun r0 _ =>
 .sj Tryz.f14 0 [1,0] [12,13,14,15,16,17,18] 1 7 [2,3,4,16] 2 (fun r_=>⟨[(2,.ptr 0 0),(3,.ptr 1 0),(4,.b_ false),(23,.b_ r_)],[.box 25 (.dat (aj.lf1 p_a)),.box 25 (.dat (aj.lf1 p_b))]⟩) ⟨[(2,.ptr 0 0),(3,.ptr 1 0),(4,.b_ false),(16,.b_ r0)],[.box 25 (.dat (aj.lf1 p_a)),.box 25 (.dat (aj.lf1 p_b))]⟩ (Vl p_a p_b r0).den (sW (by kernel_rfl)) fun r1 _ =>
 .sj Tryz.f14 0 [1,0] [19,20,21,22,23,24,25] 1 7 [2,3,4,23] 2 (fun r_=>⟨[(2,.ptr 0 0),(3,.ptr 1 0),(4,.b_ false),(30,.b_ r_)],[.box 25 (.dat (aj.lf1 p_a)),.box 25 (.dat (aj.lf1 p_b))]⟩) ⟨[(2,.ptr 0 0),(3,.ptr 1 0),(4,.b_ false),(23,.b_ r1)],[.box 25 (.dat (aj.lf1 p_a)),.box 25 (.dat (aj.lf1 p_b))]⟩ (Lp p_a p_b r1).den (sW (by kernel_rfl)) fun r2 _ =>
 .sj Tryz.f14 0 [1,0] [26,27,28,29,30,31,32] 1 7 [2,3,4,30] 2 (fun r_=>⟨[(2,.ptr 0 0),(3,.ptr 1 0),(4,.b_ false),(37,.b_ r_)],[.box 25 (.dat (aj.lf1 p_a)),.box 25 (.dat (aj.lf1 p_b))]⟩) ⟨[(2,.ptr 0 0),(3,.ptr 1 0),(4,.b_ false),(30,.b_ r2)],[.box 25 (.dat (aj.lf1 p_a)),.box 25 (.dat (aj.lf1 p_b))]⟩ (Lr p_a p_b r2).den (sW (by kernel_rfl)) fun r3 _ =>
 .sj Tryz.f14 0 [1,0] [33,34,35,36,37,38,39] 1 7 [2,3,4,37] 2 (fun r_=>⟨[(2,.ptr 0 0),(3,.ptr 1 0),(4,.b_ false),(44,.b_ r_)],[.box 25 (.dat (aj.lf1 p_a)),.box 25 (.dat (aj.lf1 p_b))]⟩) ⟨[(2,.ptr 0 0),(3,.ptr 1 0),(4,.b_ false),(37,.b_ r3)],[.box 25 (.dat (aj.lf1 p_a)),.box 25 (.dat (aj.lf1 p_b))]⟩ (Ls p_a p_b r3).den (sW (by kernel_rfl)) fun r4 _ =>
 .sj Tryz.f14 0 [1,0] [40,41,42,43,44,45,46] 1 7 [2,3,4,44] 2 (fun r_=>⟨[(2,.ptr 0 0),(3,.ptr 1 0),(4,.b_ false),(51,.b_ r_)],[.box 25 (.dat (aj.lf1 p_a)),.box 25 (.dat (aj.lf1 p_b))]⟩) ⟨[(2,.ptr 0 0),(3,.ptr 1 0),(4,.b_ false),(44,.b_ r4)],[.box 25 (.dat (aj.lf1 p_a)),.box 25 (.dat (aj.lf1 p_b))]⟩ (Lu p_a p_b r4).den (sW (by kernel_rfl)) fun r5 _ =>
 .sj Tryz.f14 0 [1,0] [47,48,49,50,51,52,53] 1 7 [2,3,4,51] 2 (fun r_=>⟨[(2,.ptr 0 0),(3,.ptr 1 0),(4,.b_ false),(58,.b_ r_)],[.box 25 (.dat (aj.lf1 p_a)),.box 25 (.dat (aj.lf1 p_b))]⟩) ⟨[(2,.ptr 0 0),(3,.ptr 1 0),(4,.b_ false),(51,.b_ r5)],[.box 25 (.dat (aj.lf1 p_a)),.box 25 (.dat (aj.lf1 p_b))]⟩ (LC p_a p_b r5).den (sW (by kernel_rfl)) fun r6 _ =>
 .sj Tryz.f14 0 [1,0] [54,55,56,57,58,59,60] 1 7 [2,3,4,58] 2 (fun r_=>⟨[(2,.ptr 0 0),(3,.ptr 1 0),(4,.b_ false),(65,.b_ r_)],[.box 25 (.dat (aj.lf1 p_a)),.box 25 (.dat (aj.lf1 p_b))]⟩) ⟨[(2,.ptr 0 0),(3,.ptr 1 0),(4,.b_ false),(58,.b_ r6)],[.box 25 (.dat (aj.lf1 p_a)),.box 25 (.dat (aj.lf1 p_b))]⟩ (LD p_a p_b r6).den (sW (by kernel_rfl)) fun r7 _ =>
 .sj Tryz.f14 0 [1,0] [61,62,63,64,65,66,67] 1 7 [2,3,4,65] 2 (fun r_=>⟨[(2,.ptr 0 0),(3,.ptr 1 0),(4,.b_ false),(72,.b_ r_)],[.box 25 (.dat (aj.lf1 p_a)),.box 25 (.dat (aj.lf1 p_b))]⟩) ⟨[(2,.ptr 0 0),(3,.ptr 1 0),(4,.b_ false),(65,.b_ r7)],[.box 25 (.dat (aj.lf1 p_a)),.box 25 (.dat (aj.lf1 p_b))]⟩ (LG p_a p_b r7).den (sW (by kernel_rfl)) fun r8 _ =>
 .sj Tryz.f14 0 [1,0] [68,69,70,71,72,73,74] 1 7 [2,3,4,72] 2 (fun r_=>⟨[(2,.ptr 0 0),(3,.ptr 1 0),(4,.b_ false),(79,.b_ r_)],[.box 25 (.dat (aj.lf1 p_a)),.box 25 (.dat (aj.lf1 p_b))]⟩) ⟨[(2,.ptr 0 0),(3,.ptr 1 0),(4,.b_ false),(72,.b_ r8)],[.box 25 (.dat (aj.lf1 p_a)),.box 25 (.dat (aj.lf1 p_b))]⟩ (LH p_a p_b r8).den (sW (by kernel_rfl)) fun r9 _ =>
 .sj Tryz.f14 0 [1,0] [75,76,77,78,79,80,81] 1 7 [2,3,4,79] 2 (fun r_=>⟨[(4,.b_ false),(86,.b_ r_)],[.dead,.dead]⟩) ⟨[(2,.ptr 0 0),(3,.ptr 1 0),(4,.b_ false),(79,.b_ r9)],[.box 25 (.dat (aj.lf1 p_a)),.box 25 (.dat (aj.lf1 p_b))]⟩ (LJ p_a p_b r9).den (sW (by kernel_rfl)) fun r10 _ =>
 .sj Tryz.f14 0 [1,0] [82] 1 1 [4,86] 2 (fun r_=>⟨[(4,.b_ r10)],[.dead,.dead]⟩) ⟨[(4,.b_ false),(86,.b_ r10)],[.dead,.dead]⟩ (LK r10).den (sW (by kernel_rfl)) fun r11 _ =>
 .ret (bD 1) (r10)
def Q15 (p_a:aj) (p_b:aj) : Option (Bool) := Mo.den (ajH p_a p_b)
theorem al8 (p_a:aj) (p_b:aj) : FV (Q15 p_a p_b) 14 [.dat (aj.lf1 p_a),.dat (aj.lf1 p_b)] (fun r=>.b_ r) := bZ Tryz.func14 (by kernel_rfl) (fun _=>rfl) (by kernel_rfl)
def Og (p_a:List ah) (p_b:List ah) (v0:Int) (x0:ah) (x1:ah) : Mo (Bool) :=
 .iG 16005 (x0.bK != x1.bK) (.rt [0,1,5,6,7,38] 2 (true)) <|
 .rt [0,1,5,6,7,38] 2 (x0.fTo != x1.fTo)
def Oh (p_a:List ah) (p_b:List ah) (r0:Bool) (v0:Int) (x0:ah) (x1:ah) : Mo (Bool) :=
 .iG 16012 (r0) (.rt [0,1,5,6,7,45] 2 (true)) <|
 .rt [0,1,5,6,7,45] 2 (x0.aU != x1.aU)
def Gf (p_a:List ah) (p_b:List ah) (r0:Bool) (v0:Int) (x0:ah) (x1:ah) : Mo (Bool) :=
 .iG 16019 (r0) (.rt [0,1,5,6,7,52] 2 (true)) <|
 .rt [0,1,5,6,7,52] 2 (x0.bf != x1.bf)
def Gg (p_a:List ah) (p_b:List ah) (r0:Bool) (v0:Int) (x0:ah) (x1:ah) : Mo (Bool) :=
 .iG 16026 (r0) (.rt [0,1,5,6,7,59] 2 (true)) <|
 .rt [0,1,5,6,7,59] 2 (x0.aW != x1.aW)
def Gi (p_a:List ah) (p_b:List ah) (r0:Bool) (v0:Int) (x0:ah) (x1:ah) : Mo (Bool) :=
 .iG 16033 (r0) (.rt [0,1,5,6,7,66] 2 (true)) <|
 .rt [0,1,5,6,7,66] 2 (x0.jd != x1.jd)
def Gj (p_a:List ah) (p_b:List ah) (r0:Bool) (v0:Int) (x0:ah) (x1:ah) : Mo (Bool) :=
 .iG 16040 (r0) (.rt [0,1,5,6,7,73] 2 (true)) <|
 .rt [0,1,5,6,7,73] 2 (x0.au != x1.au)
def Gl (p_a:List ah) (p_b:List ah) (r0:Bool) (v0:Int) (x0:ah) (x1:ah) : Mo (Bool) :=
 .iG 16047 (r0) (.rt [0,1,5,6,7,80] 2 (true)) <|
 .rt [0,1,5,6,7,80] 2 (!(x0.fOK == x1.fOK))
def Gm (p_a:List ah) (p_b:List ah) (r0:Bool) (v0:Int) (x0:ah) (x1:ah) : Mo (Bool) :=
 .iG 16054 (r0) (.ret ⟨[.kill 0,.kill 1],[0,1,5,88],[],2⟩ (true)) <|
 .cl (X0 x0.aN x1.aN) fun r1 _ =>
 .ret ⟨[.kill 0,.kill 1],[0,1,5,88],[],2⟩ (!r1)
def zV (p_a:List ah) (p_b:List ah) : (Int) → Mo ((Int) ⊕ (Unit ⊕ Unit)) := fun (v0) =>
 .say [.num p_a.length] (ok1 (ln_ p_a ah.lf)) <|
 .iB (decide ((v0:Int) < (p_a.length:Int))) (.ask (bP p_a v0) fun x0 h0 =>
 .say [] (ok1 (aX ah.aZ h0)) <|
 .ask (bP p_b v0) fun x1 h1 =>
 .say [.dL (.q 0 (.q 1 (.q 2 (.q 3 (.q 4 (.q 5 (.q 6 (.q 7 (.alt 8 (.l 9 (.l 10 (.l 11 .fin))) (.l 9 (.l 8 (.l 10 (.l 11 .fin))))))))))))) (some 11) [0,1] [.row (ah.lf1 x0),.row (ah.lf1 x1),.both [.at_ 14 8,.resv 2,.slot 0,.slot 1] [.at_ 14 9,.resv 2,.slot 1,.slot 0]] [0,1,5,6,7] 2 [(0,.lf (.rows 9 (p_a.map ah.lf))),(1,.lf (.rows 9 (p_b.map ah.lf))),(5,.i_ v0),(6,.ptr 0 0),(7,.ptr 1 0)] [.box 63 (.agg ((ah.lf1 x0).map AV.lf)),.box 63 (.agg ((ah.lf1 x1).map AV.lf))]] (okc (aX ah.aZ h1) (okc (rf_ ⟨[(0,.lf (.rows 9 (p_a.map ah.lf))),(1,.lf (.rows 9 (p_b.map ah.lf))),(5,.i_ v0),(6,.ptr 0 0),(7,.ptr 1 0)],[.box 63 (.agg ((ah.lf1 x0).map AV.lf)),.box 63 (.agg ((ah.lf1 x1).map AV.lf))]⟩) (ok1 (rf_ ⟨[(0,.lf (.rows 9 (p_a.map ah.lf))),(1,.lf (.rows 9 (p_b.map ah.lf))),(5,.i_ v0),(6,.ptr 0 0),(7,.ptr 1 0)],[.box 63 (.agg ((ah.lf1 x0).map AV.lf)),.box 63 (.agg ((ah.lf1 x1).map AV.lf))]⟩)))) <|
 .sj Tryz.f18 0 [1,1,0,1,0,0,1,0,0,1,0] [0,1,2,3,4,5,6,7,8,9,10,11] 7 12 [0,1,5,6,7] 2 (fun r_=>⟨[(0,.lf (.rows 9 (p_a.map ah.lf))),(1,.lf (.rows 9 (p_b.map ah.lf))),(5,.i_ v0),(6,.ptr 0 0),(7,.ptr 1 0),(38,.b_ r_)],[.box 63 (.agg ((ah.lf1 x0).map AV.lf)),.box 63 (.agg ((ah.lf1 x1).map AV.lf))]⟩) ⟨[(0,.lf (.rows 9 (p_a.map ah.lf))),(1,.lf (.rows 9 (p_b.map ah.lf))),(5,.i_ v0),(6,.ptr 0 0),(7,.ptr 1 0)],[.box 63 (.agg ((ah.lf1 x0).map AV.lf)),.box 63 (.agg ((ah.lf1 x1).map AV.lf))]⟩ (Og p_a p_b v0 x0 x1).den (sW (by kernel_rfl)) fun r0 _ =>
 .sj Tryz.f18 0 [1,1,0,1,0,0,1,0,0,1,0] [12,13,14,15,16,17,18] 7 7 [0,1,5,6,7,38] 2 (fun r_=>⟨[(0,.lf (.rows 9 (p_a.map ah.lf))),(1,.lf (.rows 9 (p_b.map ah.lf))),(5,.i_ v0),(6,.ptr 0 0),(7,.ptr 1 0),(45,.b_ r_)],[.box 63 (.agg ((ah.lf1 x0).map AV.lf)),.box 63 (.agg ((ah.lf1 x1).map AV.lf))]⟩) ⟨[(0,.lf (.rows 9 (p_a.map ah.lf))),(1,.lf (.rows 9 (p_b.map ah.lf))),(5,.i_ v0),(6,.ptr 0 0),(7,.ptr 1 0),(38,.b_ r0)],[.box 63 (.agg ((ah.lf1 x0).map AV.lf)),.box 63 (.agg ((ah.lf1 x1).map AV.lf))]⟩ (Oh p_a p_b r0 v0 x0 x1).den (sW (by kernel_rfl)) fun r1 _ =>
 .sj Tryz.f18 0 [1,1,0,1,0,0,1,0,0,1,0] [19,20,21,22,23,24,25] 7 7 [0,1,5,6,7,45] 2 (fun r_=>⟨[(0,.lf (.rows 9 (p_a.map ah.lf))),(1,.lf (.rows 9 (p_b.map ah.lf))),(5,.i_ v0),(6,.ptr 0 0),(7,.ptr 1 0),(52,.b_ r_)],[.box 63 (.agg ((ah.lf1 x0).map AV.lf)),.box 63 (.agg ((ah.lf1 x1).map AV.lf))]⟩) ⟨[(0,.lf (.rows 9 (p_a.map ah.lf))),(1,.lf (.rows 9 (p_b.map ah.lf))),(5,.i_ v0),(6,.ptr 0 0),(7,.ptr 1 0),(45,.b_ r1)],[.box 63 (.agg ((ah.lf1 x0).map AV.lf)),.box 63 (.agg ((ah.lf1 x1).map AV.lf))]⟩ (Gf p_a p_b r1 v0 x0 x1).den (sW (by kernel_rfl)) fun r2 _ =>
 .sj Tryz.f18 0 [1,1,0,1,0,0,1,0,0,1,0] [26,27,28,29,30,31,32] 7 7 [0,1,5,6,7,52] 2 (fun r_=>⟨[(0,.lf (.rows 9 (p_a.map ah.lf))),(1,.lf (.rows 9 (p_b.map ah.lf))),(5,.i_ v0),(6,.ptr 0 0),(7,.ptr 1 0),(59,.b_ r_)],[.box 63 (.agg ((ah.lf1 x0).map AV.lf)),.box 63 (.agg ((ah.lf1 x1).map AV.lf))]⟩) ⟨[(0,.lf (.rows 9 (p_a.map ah.lf))),(1,.lf (.rows 9 (p_b.map ah.lf))),(5,.i_ v0),(6,.ptr 0 0),(7,.ptr 1 0),(52,.b_ r2)],[.box 63 (.agg ((ah.lf1 x0).map AV.lf)),.box 63 (.agg ((ah.lf1 x1).map AV.lf))]⟩ (Gg p_a p_b r2 v0 x0 x1).den (sW (by kernel_rfl)) fun r3 _ =>
 .sj Tryz.f18 0 [1,1,0,1,0,0,1,0,0,1,0] [33,34,35,36,37,38,39] 7 7 [0,1,5,6,7,59] 2 (fun r_=>⟨[(0,.lf (.rows 9 (p_a.map ah.lf))),(1,.lf (.rows 9 (p_b.map ah.lf))),(5,.i_ v0),(6,.ptr 0 0),(7,.ptr 1 0),(66,.b_ r_)],[.box 63 (.agg ((ah.lf1 x0).map AV.lf)),.box 63 (.agg ((ah.lf1 x1).map AV.lf))]⟩) ⟨[(0,.lf (.rows 9 (p_a.map ah.lf))),(1,.lf (.rows 9 (p_b.map ah.lf))),(5,.i_ v0),(6,.ptr 0 0),(7,.ptr 1 0),(59,.b_ r3)],[.box 63 (.agg ((ah.lf1 x0).map AV.lf)),.box 63 (.agg ((ah.lf1 x1).map AV.lf))]⟩ (Gi p_a p_b r3 v0 x0 x1).den (sW (by kernel_rfl)) fun r4 _ =>
 .sj Tryz.f18 0 [1,1,0,1,0,0,1,0,0,1,0] [40,41,42,43,44,45,46] 7 7 [0,1,5,6,7,66] 2 (fun r_=>⟨[(0,.lf (.rows 9 (p_a.map ah.lf))),(1,.lf (.rows 9 (p_b.map ah.lf))),(5,.i_ v0),(6,.ptr 0 0),(7,.ptr 1 0),(73,.b_ r_)],[.box 63 (.agg ((ah.lf1 x0).map AV.lf)),.box 63 (.agg ((ah.lf1 x1).map AV.lf))]⟩) ⟨[(0,.lf (.rows 9 (p_a.map ah.lf))),(1,.lf (.rows 9 (p_b.map ah.lf))),(5,.i_ v0),(6,.ptr 0 0),(7,.ptr 1 0),(66,.b_ r4)],[.box 63 (.agg ((ah.lf1 x0).map AV.lf)),.box 63 (.agg ((ah.lf1 x1).map AV.lf))]⟩ (Gj p_a p_b r4 v0 x0 x1).den (sW (by kernel_rfl)) fun r5 _ =>
 .sj Tryz.f18 0 [1,1,0,1,0,0,1,0,0,1,0] [47,48,49,50,51,52,53] 7 7 [0,1,5,6,7,73] 2 (fun r_=>⟨[(0,.lf (.rows 9 (p_a.map ah.lf))),(1,.lf (.rows 9 (p_b.map ah.lf))),(5,.i_ v0),(6,.ptr 0 0),(7,.ptr 1 0),(80,.b_ r_)],[.box 63 (.agg ((ah.lf1 x0).map AV.lf)),.box 63 (.agg ((ah.lf1 x1).map AV.lf))]⟩) ⟨[(0,.lf (.rows 9 (p_a.map ah.lf))),(1,.lf (.rows 9 (p_b.map ah.lf))),(5,.i_ v0),(6,.ptr 0 0),(7,.ptr 1 0),(73,.b_ r5)],[.box 63 (.agg ((ah.lf1 x0).map AV.lf)),.box 63 (.agg ((ah.lf1 x1).map AV.lf))]⟩ (Gl p_a p_b r5 v0 x0 x1).den (sW (by kernel_rfl)) fun r6 _ =>
 .sj Tryz.f18 0 [1,1,0,1,0,0,1,0,0,1,0] [54,55,56,57,58,59,60,61] 7 8 [0,1,5,6,7,80] 2 (fun r_=>⟨[(0,.lf (.rows 9 (p_a.map ah.lf))),(1,.lf (.rows 9 (p_b.map ah.lf))),(5,.i_ v0),(88,.b_ r_)],[.dead,.dead]⟩) ⟨[(0,.lf (.rows 9 (p_a.map ah.lf))),(1,.lf (.rows 9 (p_b.map ah.lf))),(5,.i_ v0),(6,.ptr 0 0),(7,.ptr 1 0),(80,.b_ r6)],[.box 63 (.agg ((ah.lf1 x0).map AV.lf)),.box 63 (.agg ((ah.lf1 x1).map AV.lf))]⟩ (Gm p_a p_b r6 v0 x0 x1).den (sW (by kernel_rfl)) fun r7 _ =>
 .iB (r7) (.rt [4] 0 (.inr (.inl ()))) <|
 .rt [0,1,5] 0 (.inl (IntKind.wrap .i64 (v0 + 1)))) <|
 .rt [] 0 (.inr (.inr (())))
def Gn (p_a:List ah) (p_b:List ah) (v0:Int) : Option (Unit ⊕ Unit) := bM (fun v_=>(zV p_a p_b v_).den) FU (v0)
def Vm (p_a:List ah) (p_b:List ah) : (Int) → St := fun (v0)=>⟨[(0,.lf (.rows 9 (p_a.map ah.lf))),(1,.lf (.rows 9 (p_b.map ah.lf))),(5,.i_ v0)],[]⟩
def zW (r_:Unit ⊕ Unit) : Exit := match r_ with
 | .inl o_=>.ret
 | .inr (o_)=>.exit 0
def zX  (r_:Unit ⊕ Unit) : St := match r_ with
 | .inl o_=>⟨[(4,.b_ false)],[]⟩
 | .inr (o_)=>⟨[],[]⟩
theorem Vo {p_a:List ah} {p_b:List ah} {v0:Int} {r_:Unit ⊕ Unit} (h:Gn p_a p_b v0 = some r_) : fK Tryz.f18 0 [1,1,0,1,0] (zW r_) (zX r_) (Vm p_a p_b (v0)) :=
 dO dK (body := (Code.sub (bodyC Tryz.f18) [1,1,0,1,0,0])) (by kernel_rfl) (zV p_a p_b) (Vm p_a p_b) zW zX (fun r_=>by rcases r_ with _ | _ <;> rfl) (fun v_=>by kernel_rfl) h
def aix (p_a:List ah) (p_b:List ah) : Mo (Bool) :=
 .say [.num p_a.length,.num p_b.length] (okc (ln_ p_a ah.lf) (ok1 (ln_ p_b ah.lf))) <|
 .iB ((p_a.length:Int) != (p_b.length:Int)) (.ret (bD 1) (false)) <|
 .eU (Gn p_a p_b 0) (fun o0 h0 =>
 .say [.pt_ 0 [0,1,5] 0 (zW (.inl o0)) (zX (.inl o0))] (ok1 (Vo h0)) <|
 .ret (bD 1) (false)) fun o1 h0 =>
 .say [.pt_ 0 [0,1,5] 0 (zW (.inr (o1))) (zX (.inr (o1)))] (ok1 (Vo h0)) <|
 .ret (bD 1) (true)
def Q1 (p_a:List ah) (p_b:List ah) : Option (Bool) := Mo.den (aix p_a p_b)
theorem ank (p_a:List ah) (p_b:List ah) : FV (Q1 p_a p_b) 18 [.lf (.rows 9 (p_a.map ah.lf)),.lf (.rows 9 (p_b.map ah.lf))] (fun r=>.b_ r) := bZ Tryz.func18 (by kernel_rfl) (fun _=>rfl) (by kernel_rfl)
def Vp (p_a:bF) (p_b:bF) : Mo (Bool) :=
 .iG 4005 (p_a.dX == p_b.dX) (.rt [2,3,4,16] 2 (p_a.bf == p_b.bf)) <|
 .rt [2,3,4,16] 2 (false)
def Vq (p_a:bF) (p_b:bF) (r0:Bool) : Mo (Bool) :=
 .iG 4012 (r0) (.rt [2,3,4,23] 2 (p_a.fAt == p_b.fAt)) <|
 .rt [2,3,4,23] 2 (false)
def LM (p_a:bF) (p_b:bF) (r0:Bool) : Mo (Bool) :=
 .iG 4019 (r0) (.cl (X0 p_a.aN p_b.aN) fun r1 _ =>
 .ret ⟨[.kill 0,.kill 1],[4,30],[],2⟩ (r1)) <|
 .ret ⟨[.kill 0,.kill 1],[4,30],[],2⟩ (false)
def LQ (r0:Bool) : Mo (Unit) :=
 .rt [4] 2 ()
def ajI (p_a:bF) (p_b:bF) : Mo (Bool) :=
 .sj Tryz.f19 0 [1,0] [0,1,2,3,4,5,6,7,8,9,10,11] 1 12 [2,3,4] 2 (fun r_=>⟨[(2,.ptr 0 0),(3,.ptr 1 0),(4,.b_ false),(16,.b_ r_)],[.box 67 (.dat (bF.lf1 p_a)),.box 67 (.dat (bF.lf1 p_b))]⟩) ⟨[(2,.ptr 0 0),(3,.ptr 1 0),(4,.b_ false)],[.box 67 (.dat (bF.lf1 p_a)),.box 67 (.dat (bF.lf1 p_b))]⟩ (Vp p_a p_b).den (sW (by kernel_rfl)) fun r0 _ =>
 .sj Tryz.f19 0 [1,0] [12,13,14,15,16,17,18] 1 7 [2,3,4,16] 2 (fun r_=>⟨[(2,.ptr 0 0),(3,.ptr 1 0),(4,.b_ false),(23,.b_ r_)],[.box 67 (.dat (bF.lf1 p_a)),.box 67 (.dat (bF.lf1 p_b))]⟩) ⟨[(2,.ptr 0 0),(3,.ptr 1 0),(4,.b_ false),(16,.b_ r0)],[.box 67 (.dat (bF.lf1 p_a)),.box 67 (.dat (bF.lf1 p_b))]⟩ (Vq p_a p_b r0).den (sW (by kernel_rfl)) fun r1 _ =>
 .sj Tryz.f19 0 [1,0] [19,20,21,22,23,24,25] 1 7 [2,3,4,23] 2 (fun r_=>⟨[(4,.b_ false),(30,.b_ r_)],[.dead,.dead]⟩) ⟨[(2,.ptr 0 0),(3,.ptr 1 0),(4,.b_ false),(23,.b_ r1)],[.box 67 (.dat (bF.lf1 p_a)),.box 67 (.dat (bF.lf1 p_b))]⟩ (LM p_a p_b r1).den (sW (by kernel_rfl)) fun r2 _ =>
 .sj Tryz.f19 0 [1,0] [26] 1 1 [4,30] 2 (fun r_=>⟨[(4,.b_ r2)],[.dead,.dead]⟩) ⟨[(4,.b_ false),(30,.b_ r2)],[.dead,.dead]⟩ (LQ r2).den (sW (by kernel_rfl)) fun r3 _ =>
 .ret (bD 1) (r2)
def Q64 (p_a:bF) (p_b:bF) : Option (Bool) := Mo.den (ajI p_a p_b)
theorem al9 (p_a:bF) (p_b:bF) : FV (Q64 p_a p_b) 19 [.dat (bF.lf1 p_a),.dat (bF.lf1 p_b)] (fun r=>.b_ r) := bZ Tryz.func19 (by kernel_rfl) (fun _=>rfl) (by kernel_rfl)
def Vr (p_m:aj) (p_x:ah) : Mo (Bool) :=
 .iG 4005 (p_x.fTo != p_m.fID) (.rt [2,3,23] 2 (true)) <|
 .rt [2,3,23] 2 (p_x.bK == p_m.fID)
def Vs (p_m:aj) (p_x:ah) (r0:Bool) : Mo (Bool) :=
 .iG 4012 (r0) (.rt [2,3,28] 2 (true)) <|
 .rt [2,3,28] 2 (decide ((p_x.bK:Int) < 0))
def LU (p_m:aj) (p_x:ah) (r0:Bool) : Mo (Bool) :=
 .iG 4017 (r0) (.rt [2,3,35] 2 (true)) <|
 .rt [2,3,35] 2 (decide ((p_m.bW:Int) ≤ p_x.bK))
def LV (p_m:aj) (p_x:ah) (r0:Bool) : Mo (Unit) :=
 .rt [2,3,5] 2 ()
def LW (p_m:aj) (p_x:ah) (r0:Bool) : Mo (Bool) :=
 .cl (agW p_m) fun r1 _ =>
 .iG 6003 (!r1) (.rt [2,3,48] 2 (true)) <|
 .iG 6006 (!r0) (.cl (ak8 p_m p_x) fun r2 _ =>
 .rt [2,3,48] 2 (!r2)) <|
 .rt [2,3,48] 2 (false)
def BO (r0:aj × (List ah) × bF) (r1:aj × (List ah) × bF) : Mo (Bool) :=
 .cl (al8 r1.1 r0.1) fun r2 _ =>
 .iG 14003 (r2) (.cl (ank r1.2.1 r0.2.1) fun r3 _ =>
 .ret ⟨[.kill 2,.kill 4],[8,11,71],[],6⟩ (r3)) <|
 .ret ⟨[.kill 2,.kill 4],[8,11,71],[],6⟩ (false)
def Oi (r0:aj × (List ah) × bF) (r1:aj × (List ah) × bF) : Option (Bool) := Mo.den (BO r0 r1)
def uj (r0:aj × (List ah) × bF) (r1:aj × (List ah) × bF) (r_:Bool) : St := ⟨[(8,.ptr 3 0),(11,.ptr 5 0),(71,.b_ r_)],[.dead,.dead,.dead,.box 67 (.agg [.i_ r1.2.2.dX,.i_ r1.2.2.bf,.i_ r1.2.2.fAt,.lf (.rows 82 (r1.2.2.aN.map ay.lf))]),.dead,.box 67 (.agg [.i_ r0.2.2.dX,.i_ r0.2.2.bf,.i_ r0.2.2.fAt,.lf (.rows 82 (r0.2.2.aN.map ay.lf))])]⟩
theorem abv {r0:aj × (List ah) × bF} {r1:aj × (List ah) × bF} {r_:Bool} (h:Oi r0 r1 = some r_) : PE Tryz.f4 0 [1,1,1,1,1,0] [0,1,2,3,4,5,6,7] (uj r0 r1 r_) ⟨[(6,.ptr 2 0),(7,.lf (.rows 9 (r1.2.1.map ah.lf))),(8,.ptr 3 0),(9,.ptr 4 0),(10,.lf (.rows 9 (r0.2.1.map ah.lf))),(11,.ptr 5 0)],[.dead,.dead,.box 25 (.agg ((aj.lf1 r1.1).map AV.lf)),.box 67 (.agg [.i_ r1.2.2.dX,.i_ r1.2.2.bf,.i_ r1.2.2.fAt,.lf (.rows 82 (r1.2.2.aN.map ay.lf))]),.box 25 (.agg ((aj.lf1 r0.1).map AV.lf)),.box 67 (.agg [.i_ r0.2.2.dX,.i_ r0.2.2.bf,.i_ r0.2.2.fAt,.lf (.rows 82 (r0.2.2.aN.map ay.lf))])]⟩ :=
 YK dK (BO r0 r1) (uj r0 r1) (by kernel_rfl) h
def LX (r0:aj × (List ah) × bF) (r1:Bool) (r2:aj × (List ah) × bF) : Mo (Bool) :=
 .iG 14008 (r1) (.cl (al9 r2.2.2 r0.2.2) fun r3 _ =>
 .ret ⟨[.kill 3,.kill 5],[76],[],6⟩ (r3)) <|
 .ret ⟨[.kill 3,.kill 5],[76],[],6⟩ (false)
def LY (r0:Bool) : Mo (Bool) :=
 .iG 14013 (r0) (.cl (afD) fun r1 _ =>
 .rt [79] 6 (r1)) <|
 .rt [79] 6 (false)
def LZ (r0:Bool) : Mo (Unit) :=
 .rt [4] 6 ()
def ajJ (p_m:aj) (p_x:ah) : Mo (Bool) :=
 .sj Tryz.f4 0 [1,0] [0,1,2,3,4,5,6,7,8,9,10,11] 1 12 [2,3] 2 (fun r_=>⟨[(2,.ptr 0 0),(3,.ptr 1 0),(23,.b_ r_)],[.box 25 (.dat (aj.lf1 p_m)),.box 63 (.dat (ah.lf1 p_x))]⟩) ⟨[(2,.ptr 0 0),(3,.ptr 1 0)],[.box 25 (.dat (aj.lf1 p_m)),.box 63 (.dat (ah.lf1 p_x))]⟩ (Vr p_m p_x).den (sW (by kernel_rfl)) fun r0 _ =>
 .sj Tryz.f4 0 [1,0] [12,13,14,15,16] 1 5 [2,3,23] 2 (fun r_=>⟨[(2,.ptr 0 0),(3,.ptr 1 0),(28,.b_ r_)],[.box 25 (.dat (aj.lf1 p_m)),.box 63 (.dat (ah.lf1 p_x))]⟩) ⟨[(2,.ptr 0 0),(3,.ptr 1 0),(23,.b_ r0)],[.box 25 (.dat (aj.lf1 p_m)),.box 63 (.dat (ah.lf1 p_x))]⟩ (Vs p_m p_x r0).den (sW (by kernel_rfl)) fun r1 _ =>
 .sj Tryz.f4 0 [1,0] [17,18,19,20,21,22,23] 1 7 [2,3,28] 2 (fun r_=>⟨[(2,.ptr 0 0),(3,.ptr 1 0),(35,.b_ r_)],[.box 25 (.dat (aj.lf1 p_m)),.box 63 (.dat (ah.lf1 p_x))]⟩) ⟨[(2,.ptr 0 0),(3,.ptr 1 0),(28,.b_ r1)],[.box 25 (.dat (aj.lf1 p_m)),.box 63 (.dat (ah.lf1 p_x))]⟩ (LU p_m p_x r1).den (sW (by kernel_rfl)) fun r2 _ =>
 .sj Tryz.f4 0 [1,0] [24] 1 1 [2,3,35] 2 (fun r_=>⟨[(2,.ptr 0 0),(3,.ptr 1 0),(5,.b_ r2)],[.box 25 (.dat (aj.lf1 p_m)),.box 63 (.dat (ah.lf1 p_x))]⟩) ⟨[(2,.ptr 0 0),(3,.ptr 1 0),(35,.b_ r2)],[.box 25 (.dat (aj.lf1 p_m)),.box 63 (.dat (ah.lf1 p_x))]⟩ (LV p_m p_x r2).den (sW (by kernel_rfl)) fun r3 _ =>
 .jp Tryz.f4 0 [1,1,0,0] 11 [2,3,5] 2 (.normal) (fun r_=>⟨[(2,.ptr 0 0),(3,.ptr 1 0),(48,.b_ r_)],[.box 25 (.dat (aj.lf1 p_m)),.box 63 (.dat (ah.lf1 p_x))]⟩) ⟨[(2,.ptr 0 0),(3,.ptr 1 0),(5,.b_ r2)],[.box 25 (.dat (aj.lf1 p_m)),.box 63 (.dat (ah.lf1 p_x))]⟩ (LW p_m p_x r2).den (jW (by kernel_rfl)) fun r4 _ =>
 .iB (r4) (.cl (afD) fun r5 _ =>
 .ret (bD 1) (r5)) <|
 .cl (afz p_m p_x) fun r6 _ =>
 .cl (al5 p_m p_x) fun r7 _ =>
 .ask (Oi r7 r6) fun r8 h0 =>
 .say [.seg 6 [.kill 0,.kill 1] 8 [6,7,8,9,10,11] 6 (uj r7 r6 r8).T (uj r7 r6 r8).H] (ok1 (abv h0)) <|
 .sj Tryz.f4 0 [1,1,1,1,1,0] [8,9,10,11,12] 6 5 [8,11,71] 6 (fun r_=>⟨[(76,.b_ r_)],[.dead,.dead,.dead,.dead,.dead,.dead]⟩) ⟨[(8,.ptr 3 0),(11,.ptr 5 0),(71,.b_ r8)],[.dead,.dead,.dead,.box 67 (.agg [.i_ r6.2.2.dX,.i_ r6.2.2.bf,.i_ r6.2.2.fAt,.lf (.rows 82 (r6.2.2.aN.map ay.lf))]),.dead,.box 67 (.agg [.i_ r7.2.2.dX,.i_ r7.2.2.bf,.i_ r7.2.2.fAt,.lf (.rows 82 (r7.2.2.aN.map ay.lf))])]⟩ (LX r7 r8 r6).den (sW (by kernel_rfl)) fun r9 _ =>
 .sj Tryz.f4 0 [1,1,1,1,1,0] [13,14,15] 6 3 [76] 6 (fun r_=>⟨[(79,.b_ r_)],[.dead,.dead,.dead,.dead,.dead,.dead]⟩) ⟨[(76,.b_ r9)],[.dead,.dead,.dead,.dead,.dead,.dead]⟩ (LY r9).den (sW (by kernel_rfl)) fun r10 _ =>
 .sj Tryz.f4 0 [1,1,1,1,1,0] [16] 6 1 [79] 6 (fun r_=>⟨[(4,.b_ r10)],[.dead,.dead,.dead,.dead,.dead,.dead]⟩) ⟨[(79,.b_ r10)],[.dead,.dead,.dead,.dead,.dead,.dead]⟩ (LZ r10).den (sW (by kernel_rfl)) fun r11 _ =>
 .ret (bD 1) (r10)
def Q12 (p_m:aj) (p_x:ah) : Option (Bool) := Mo.den (ajJ p_m p_x)
theorem ama (p_m:aj) (p_x:ah) : FV (Q12 p_m p_x) 4 [.dat (aj.lf1 p_m),.dat (ah.lf1 p_x)] (fun r=>.b_ r) := bZ Tryz.func4 (by kernel_rfl) (fun _=>rfl) (by kernel_rfl)
end
end Go.Proofs.YtdnafbfmaphhhaaGreatDoor
set_option linter.unusedSimpArgs false
set_option linter.unusedVariables false
namespace Go.Proofs.YtdnafbfmaphhhaaGreatDoor
open Go.RowKit
set_option maxRecDepth 20000
set_option maxHeartbeats 4000000
noncomputable section

end
end Go.Proofs.YtdnafbfmaphhhaaGreatDoor
set_option linter.unusedSimpArgs false
set_option linter.unusedVariables false
namespace Go.Proofs.YtdnafbfmaphhhaaGreatDoor
open Go.RowKit
theorem qj (s:ByteArray) (k:Nat) (h:k < s.size) : lZ s (k:Int) = some s[k] := by
  unfold lZ; rw [if_pos (by omega),Int.toNat_natCast]; exact getElem?_pos s k h
theorem aiy {α:Type} (l:List α) (k:Nat) (h:k < l.length) : bP l (k:Int) = some l[k] := by
  rw [wG,List.getElem?_eq_getElem h]
theorem iP {α:Type} (f : α → List Lf) {x : α} : ∀ {l:List α},x ∈ l → aY (f x) ≤ bG (l.map f)
  | y :: r,h=>by
    simp only [List.map_cons,bG]
    rcases List.mem_cons.1 h with rfl | h
    · omega
    · have := iP f h; omega
theorem gQ {α:Type} (f : α → List Lf) (hf:∀ x,1 ≤ aY (f x)) : ∀ l:List α,l.length ≤ bG (l.map f)
  | []=>by simp
  | x :: r=>by have := gQ f hf r; have := hf x; simp only [List.map_cons,List.length_cons,bG]; omega
theorem bU (v:ak) : aY v.lf1 = 5 + v.fText.size + bG (v.bY.map ak.lf) + bG (v.bV.map aT.lf) := by simp only [ak.lf1,aY,Lf.bulk]; omega
theorem gZ (v:aT) : aY v.lf1 = 1 + v.fName.size + aY v.fValue.lf1 := by simp only [aT.lf1,dZ,aY,Lf.bulk]; omega
theorem jD (v:bn) : aY v.lf1 = 2 + bG (v.dA.map lfS) := by simp only [bn.lf1,aY,Lf.bulk]; omega
theorem vO (v:dH) : aY v.lf1 = 2 := by simp only [dH.lf1,aY,Lf.bulk]
theorem jE (v:cZ) : aY v.lf1 = 3 + bG (v.cu.map dH.lf) := by simp only [cZ.lf1,aY,Lf.bulk]; omega
theorem fZ (v:aH) : aY v.lf1 = 6 + bG (v.dA.map lfS) + v.fName.size + bG (v.bT.map lfS) + aY v.fArg.lf1 + bG (v.bC.map aH.lf) := by simp only [aH.lf1,dZ,aY,Lf.bulk]; omega
theorem gW (v:aO) : aY v.lf1 = 6 + bG (v.dA.map lfS) + aY v.fArg.lf1 + bG (v.fArgs.map ak.lf) + aY v.eG.lf1 + aY v.fExpr.lf1 + bG (v.bC.map aO.lf) := by simp only [aO.lf1,dZ,aY,Lf.bulk]; omega
theorem gU (v:aV) : aY v.lf1 = 6 + v.fName.size + bG (v.gB.map bn.lf) + aY v.jc.lf1 := by simp only [aV.lf1,dZ,aY,Lf.bulk]; omega
theorem ni (v:bH) : aY v.lf1 = 1 + v.fName.size + aY v.fG.lf1 := by simp only [bH.lf1,dZ,aY,Lf.bulk]; omega
theorem fO (v:aB) : aY v.lf1 = 11 + aY v.uH.lf1 + aY v.uI.lf1 + bG (v.kH.map ak.lf) + bG (v.gG.map lfS) + bG (v.dP.map bH.lf) + bG (v.fH.map aB.lf) := by simp only [aB.lf1,dZ,aY,Lf.bulk]; omega
theorem jF (v:bQ) : aY v.lf1 = 4 + v.fName.size + bG (v.dJ.map aV.lf) + aY v.fG.lf1 := by simp only [bQ.lf1,dZ,aY,Lf.bulk]; omega
theorem iU (v:aJ) : aY v.lf1 = 7 + v.kT.size + aY v.mW.lf1 + aY v.bV.lf1 + aY v.gY.lf1 + aY v.oW.lf1 + aY v.aW.lf1 + v.Az.size + bG (v.dN.map aJ.lf) + bG (v.eF.map lfI) := by simp only [aJ.lf1,dZ,aY,Lf.bulk]; omega
theorem nT (v:ay) : aY v.lf1 = 4 + v.kJ.size + aY v.iJ.lf1 := by simp only [ay.lf1,dZ,aY,Lf.bulk]; omega
theorem X3 (s:ByteArray) : aY (lfS s) = s.size + 1 := by simp only [lfS,aY,Lf.bulk,Nat.add_zero]
theorem amb (n:Int) : aY (lfI n) = 1 := by simp only [lfI,aY,Lf.bulk]
theorem gq (l:List ak) : l.length ≤ bG (l.map ak.lf) := gQ _ (fun x=>by rw [ak.aZ,bU]; omega) l
theorem ig (l:List aT) : l.length ≤ bG (l.map aT.lf) := gQ _ (fun x=>by rw [aT.aZ,gZ]; omega) l
theorem jX (l:List bn) : l.length ≤ bG (l.map bn.lf) := gQ _ (fun x=>by rw [bn.aZ,jD]; omega) l
theorem jG (l:List dH) : l.length ≤ bG (l.map dH.lf) := gQ _ (fun x=>by have := vO x; rw [dH.aZ]; omega) l
theorem jq (l:List aH) : l.length ≤ bG (l.map aH.lf) := gQ _ (fun x=>by rw [aH.aZ,fZ]; omega) l
theorem jM (l:List aO) : l.length ≤ bG (l.map aO.lf) := gQ _ (fun x=>by rw [aO.aZ,gW]; omega) l
theorem jH (l:List aV) : l.length ≤ bG (l.map aV.lf) := gQ _ (fun x=>by rw [aV.aZ,gU]; omega) l
theorem jZ (l:List bH) : l.length ≤ bG (l.map bH.lf) := gQ _ (fun x=>by rw [bH.aZ,ni]; omega) l
theorem jI (l:List aB) : l.length ≤ bG (l.map aB.lf) := gQ _ (fun x=>by rw [aB.aZ,fO]; omega) l
theorem jJ (l:List aJ) : l.length ≤ bG (l.map aJ.lf) := gQ _ (fun x=>by rw [aJ.aZ,iU]; omega) l
theorem ku (l:List ay) : l.length ≤ bG (l.map ay.lf) := gQ _ (fun x=>by rw [ay.aZ,nT]; omega) l
theorem dG (l:List ByteArray) : l.length ≤ bG (l.map lfS) := gQ _ (fun x=>by rw [X3]; omega) l
theorem iC (l:List Int) : l.length ≤ bG (l.map lfI) := gQ _ (fun x=>by rw [amb]; omega) l
theorem jw {x:ak} {l:List ak} (h:x ∈ l) : aY x.lf1 ≤ bG (l.map ak.lf) := by rw [← ak.aZ]; exact iP _ h
theorem iq {x:aT} {l:List aT} (h:x ∈ l) : aY x.lf1 ≤ bG (l.map aT.lf) := by rw [← aT.aZ]; exact iP _ h
theorem kZ {x:bn} {l:List bn} (h:x ∈ l) : aY x.lf1 ≤ bG (l.map bn.lf) := iP _ h
theorem lS {x:aH} {l:List aH} (h:x ∈ l) : aY x.lf1 ≤ bG (l.map aH.lf) := by rw [← aH.aZ]; exact iP _ h
theorem nU {x:aO} {l:List aO} (h:x ∈ l) : aY x.lf1 ≤ bG (l.map aO.lf) := by rw [← aO.aZ]; exact iP _ h
theorem ny {x:aV} {l:List aV} (h:x ∈ l) : aY x.lf1 ≤ bG (l.map aV.lf) := iP _ h
theorem oZ {x:bH} {l:List bH} (h:x ∈ l) : aY x.lf1 ≤ bG (l.map bH.lf) := by rw [← bH.aZ]; exact iP _ h
theorem lq {x:aB} {l:List aB} (h:x ∈ l) : aY x.lf1 ≤ bG (l.map aB.lf) := by rw [← aB.aZ]; exact iP _ h
theorem nC {x:aJ} {l:List aJ} (h:x ∈ l) : aY x.lf1 ≤ bG (l.map aJ.lf) := by rw [← aJ.aZ]; exact iP _ h
theorem um {x:ay} {l:List ay} (h:x ∈ l) : aY x.lf1 ≤ bG (l.map ay.lf) := iP _ h
theorem lJ {x:ByteArray} {l:List ByteArray} (h:x ∈ l) : x.size + 1 ≤ bG (l.map lfS) := by rw [← X3]; exact iP _ h
/-- numbers -/
theorem gV (x:Int) : (strOfNums [x]).size = 1 := by rw [Aj]; rfl
theorem ZQ (n:Int) : ∃ r,Q47 n = some r ∧ r.size ≤ 11 := by
  unfold Q47 aiT Qu Nh AO Qv
  simp only [Mo.den,aF,aG,aC,aK]
  have key:∀ a:Int,∃ r,((bM (fun v_:Int × ByteArray × Int=>(bif decide ((v_.2.2:Int) < 10) then some (decide ((128:Int) ≤ v_.1)) else some false).bind fun a_1=>bif a_1 then if v_.2.1.size + (strOfNums [bJ .or .u8 (IntKind.wrap .u8 (Int.tmod v_.1 128)) 128]).size ≤ 9223372036854775807 then some (.inl (IntKind.wrap .u64 (Int.tdiv v_.1 128),v_.2.1 ++ strOfNums [bJ .or .u8 (IntKind.wrap .u8 (Int.tmod v_.1 128)) 128],IntKind.wrap .i64 (v_.2.2 + 1))) else none else some (.inr (v_.1,v_.2.1))) FU (a,⟨#[]⟩,0)) = some r) ∧ (r:Int × ByteArray).2.size ≤ 10 := by
    intro a
    refine D5 10 (by omega) (fun (k:Nat) (v:Int × ByteArray × Int)=>v.2.2 = (k:Int) ∧ v.2.1.size = k) (fun (r:Int × ByteArray)=>r.2.size ≤ 10) ⟨rfl,rfl⟩ ?_ ?_
    · rintro k ⟨u,s,i⟩ hk ⟨h1,h2⟩
      simp only at h1 h2
      subst h1
      simp only [decide_eq_true (show (k:Int) < 10 by omega),cond_true,Option.bind_some]
      cases decide ((128:Int) ≤ u) with
      | true =>
        left
        simp only [cond_true,gV,h2]
        rw [if_pos (by omega)]
        exact ⟨_,rfl,inc k (by omega),by rw [ByteArray.size_append,gV,h2]⟩
      | false=>right; exact ⟨_,rfl,by simp only; omega⟩
    · rintro ⟨u,s,i⟩ ⟨h1,h2⟩
      simp only at h1 h2
      subst h1
      exact ⟨_,rfl,by simp only; omega⟩
  have fin:∀ a:Int,∃ r,(Option.bind (bM (fun v_:Int × ByteArray × Int=>(bif decide ((v_.2.2:Int) < 10) then some (decide ((128:Int) ≤ v_.1)) else some false).bind fun a_1=>bif a_1 then if v_.2.1.size + (strOfNums [bJ .or .u8 (IntKind.wrap .u8 (Int.tmod v_.1 128)) 128]).size ≤ 9223372036854775807 then some (.inl (IntKind.wrap .u64 (Int.tdiv v_.1 128),v_.2.1 ++ strOfNums [bJ .or .u8 (IntKind.wrap .u8 (Int.tmod v_.1 128)) 128],IntKind.wrap .i64 (v_.2.2 + 1))) else none else some (.inr (v_.1,v_.2.1))) FU (a,⟨#[]⟩,0)) (fun r:Int × ByteArray=>if r.2.size + (strOfNums [IntKind.wrap .u8 r.1]).size ≤ 9223372036854775807 then some (r.2 ++ strOfNums [IntKind.wrap .u8 r.1]) else none)) = some r ∧ r.size ≤ 11 := by
    intro a
    obtain ⟨r,h1,h2⟩ := key a
    rw [h1]
    simp only [Option.bind_some,gV]
    rw [if_pos (by omega)]
    exact ⟨_,rfl,by rw [ByteArray.size_append,gV]; omega⟩
  cases decide (n < 0)
  · exact fin _
  · exact fin _
noncomputable def Gp (n:Int) : ByteArray := (Q47 n).getD ⟨#[]⟩
theorem Oj (n:Int) : Q47 n = some (Gp n) := by
  obtain ⟨r,h,_⟩ := ZQ n
  unfold Gp; rw [h]; rfl
theorem uo (n:Int) : (Gp n).size ≤ 11 := by
  obtain ⟨r,h,h2⟩ := ZQ n
  unfold Gp; rw [h]; exact h2
end Go.Proofs.YtdnafbfmaphhhaaGreatDoor
set_option linter.unusedSimpArgs false
set_option linter.unusedVariables false
namespace Go.Proofs.YtdnafbfmaphhhaaGreatDoor
open Go.RowKit
theorem lu : 1152921504606846975 < FU := by unfold FU; omega
def Tot {ρ:Type} (m:Option ρ) (Q : ρ → Prop) : Prop := ∃ r,m = some r ∧ Q r
def LP {σ ρ:Type} (P : σ → Prop) (Q : ρ → Prop) : σ ⊕ ρ → Prop
  | .inl s=>P s
  | .inr r=>Q r
def Any {ρ:Type} : ρ → Prop := fun _=>True
namespace T
variable {ρ α σ:Type}
theorem ret {Q : ρ → Prop} {r : ρ} (h:Q r) : Tot (some r) Q := ⟨r,rfl,h⟩
theorem any {r : ρ} : Tot (some r) Any := ⟨r,rfl,trivial⟩
theorem bind {m:Option α} {R : α → Prop} {k : α → Option ρ} {Q : ρ → Prop} (h:Tot m R) (h2:∀ a,R a → Tot (k a) Q) : Tot (m.bind k) Q := by
  obtain ⟨a,rfl,ha⟩ := h
  exact h2 a ha
theorem ite {b:Bool} {x y:Option ρ} {Q : ρ → Prop} (h1:b = true → Tot x Q) (h2:b = false → Tot y Q) : Tot (bif b then x else y) Q := by
  cases b
  · exact h2 rfl
  · exact h1 rfl
theorem grd {p:Prop} [Decidable p] {x:Option ρ} {Q : ρ → Prop} (h:p) (h2:Tot x Q) : Tot (if p then x else none) Q := by
  rw [if_pos h]; exact h2
theorem mono {m:Option ρ} {Q R : ρ → Prop} (h:Tot m Q) (h2:∀ r,Q r → R r) : Tot m R := by
  obtain ⟨r,h1,h3⟩ := h; exact ⟨r,h1,h2 r h3⟩
theorem wk {m:Option ρ} {Q : ρ → Prop} (h:Tot m Q) : Tot m Any := mono h fun _ _=>trivial
theorem val {m:Option ρ} {r : ρ} (h:m = some r) : Tot m (fun x=>x = r) := ⟨r,h,rfl⟩
theorem uM {T : σ → Option (σ ⊕ ρ)} {s0 : σ} (n:Nat) (hn:n ≤ 1000000000) (P:Nat → σ → Prop) (Q : ρ → Prop) (h0:P 0 s0) (step:∀ k s,k < n → P k s → Tot (T s) (LP (P (k + 1)) Q)) (fin:∀ s,P n s → Tot (T s) (LP (fun _=>False) Q)) : Tot (bM T FU s0) Q := by
  refine D5 n hn P Q h0 ?_ ?_
  · intro k s hk hP
    obtain ⟨r,h1,h2⟩ := step k s hk hP
    rcases r with v | r
    · exact .inl ⟨v,h1,h2⟩
    · exact .inr ⟨r,h1,h2⟩
  · intro s hP
    obtain ⟨r,h1,h2⟩ := fin s hP
    rcases r with v | r
    · exact h2.elim
    · exact ⟨r,h1,h2⟩
/-- a loop that counts and nothing else -/
theorem abw {T:Int → Option (Int ⊕ ρ)} (n:Nat) (hn:n ≤ 1000000000) (Q : ρ → Prop) (step:∀ k:Nat,k < n → Tot (T (k:Int)) (LP (fun v=>v = IntKind.wrap .i64 ((k:Int) + 1)) Q)) (fin:Tot (T (n:Int)) (LP (fun _=>False) Q)) : Tot (bM T FU 0) Q :=
  uM n hn (fun k v=>v = (k:Int)) Q rfl (fun k s hk hs=>by
    obtain rfl:s = (k:Int) := hs
    refine mono (step k hk) ?_
    rintro (v | r) h
    · exact (show v = _ from h).trans (inc k (by omega))
    · exact h) (fun s hs=>by
    obtain rfl:s = (n:Int) := hs
    exact fin)
/-- the same, over a list of which each element ends -/
theorem abx {T:Int → Option (Int ⊕ ρ)} (l:List α) (hn:l.length ≤ 1000000000) (Q : ρ → Prop) (step:∀ (k:Nat) x,l[k]? = some x → Tot (T (k:Int)) (LP (fun v=>v = IntKind.wrap .i64 ((k:Int) + 1)) Q)) (fin:Tot (T (l.length:Int)) (LP (fun _=>False) Q)) : Tot (bM T FU 0) Q :=
  abw l.length hn Q (fun k hk=>step k _ (List.getElem?_eq_getElem hk)) fin
end T
theorem ltt {α:Type} {l:List α} {k:Nat} {x : α} (h:l[k]? = some x) : decide ((k:Int) < (l.length:Int)) = true := iLt (List.getElem?_eq_some_iff.1 h).1
theorem ltn (n:Nat) : decide ((n:Int) < (n:Int)) = false := PI (Nat.lt_irrefl _)
theorem gid {α:Type} {l:List α} {k:Nat} {x : α} (h:l[k]? = some x) : bP l (k:Int) = some x := by rw [wG,h]
theorem jY {α:Type} {l:List α} {k:Nat} {x : α} (h:l[k]? = some x) : x ∈ l := List.mem_of_getElem? h
theorem X4 {α:Type} {l:List α} {k:Nat} {x : α} (h:l[k]? = some x) : k < l.length := (List.getElem?_eq_some_iff.1 h).1
theorem uq (l m:List (List Lf)) : bG (l ++ m) = bG l + bG m := by
  induction l with
  | nil=>simp [bG]
  | cons x l ih=>simp only [List.cons_append,bG,ih]; omega
theorem Gq {α:Type} (f : α → List Lf) {l:List α} {k:Nat} {x : α} (h:l[k]? = some x) : bG ((l.take (k + 1)).map f) = bG ((l.take k).map f) + aY (f x) := by
  have hk := X4 h
  rw [List.take_succ_eq_append_getElem hk,List.map_append,uq]
  have:l[k] = x := by rw [List.getElem?_eq_getElem hk] at h; injection h
  simp only [this,List.map_cons,List.map_nil,bG]; omega
theorem lK {α:Type} (f : α → List Lf) (l:List α) (k:Nat) : bG ((l.take k).map f) ≤ bG (l.map f) := by
  have := uq ((l.take k).map f) ((l.drop k).map f)
  rw [← List.map_append,List.take_append_drop] at this; omega
/-- for the printed proofs -/
def MT {ρ:Type} (t:Mo ρ) (Q : ρ → Prop) : Prop := Tot t.den Q
namespace MT
variable {ρ α β γ:Type}
theorem ret {f:Fit} {r : ρ} {Q : ρ → Prop} (h:Q r) : MT (.ret f r) Q := ⟨r,rfl,h⟩
theorem any {f:Fit} {r : ρ} : MT (.ret f r) Any := ⟨r,rfl,trivial⟩
theorem say {qs:List Ans} {Φ:List Prop} {ok:dQ Φ} {k:Mo ρ} {Q : ρ → Prop} (h:MT k Q) : MT (.say qs ok k) Q := h
theorem ite {b:Bool} {t:b = true → Mo ρ} {e:b = false → Mo ρ} {Q : ρ → Prop} (h1:∀ h,MT (t h) Q) (h2:∀ h,MT (e h) Q) : MT (.ite b t e) Q := by
  cases b
  · exact h2 rfl
  · exact h1 rfl
theorem grd {p:Prop} [d:Decidable p] {k:p → Mo ρ} {Q : ρ → Prop} (h:p) (h2:∀ h,MT (k h) Q) : MT (.grd p k) Q := by
  unfold MT Tot
  show ∃ r,IL p _ = some r ∧ Q r
  unfold IL
  cases d with
  | isTrue hh=>exact h2 hh
  | isFalse hh=>exact absurd h hh
theorem ask {m:Option α} {k:(a : α) → m = some a → Mo ρ} {R : α → Prop} {Q : ρ → Prop} (h:Tot m R) (h2:∀ a h,R a → MT (k a h) Q) : MT (.ask m k) Q := by
  obtain ⟨a,rfl,ha⟩ := h
  exact h2 a rfl ha
theorem eU {m:Option (α ⊕ β)} {k1:(a : α) → m = some (.inl a) → Mo ρ} {k2:(b : β) → m = some (.inr b) → Mo ρ} {R : α ⊕ β → Prop} {Q : ρ → Prop} (h:Tot m R) (h1:∀ a h,R (.inl a) → MT (k1 a h) Q) (h2:∀ b h,R (.inr b) → MT (k2 b h) Q) : MT (.eU m k1 k2) Q := by
  obtain ⟨a,rfl,ha⟩ := h
  rcases a with a | a
  · exact h1 a rfl ha
  · exact h2 a rfl ha
theorem aag {m:Option (α ⊕ β ⊕ γ)} {k1:(a : α) → m = some (.inl a) → Mo ρ} {k2:(b : β) → m = some (.inr (.inl b)) → Mo ρ} {k3:(c : γ) → m = some (.inr (.inr c)) → Mo ρ} {R : α ⊕ β ⊕ γ → Prop} {Q : ρ → Prop} (h:Tot m R) (h1:∀ a h,R (.inl a) → MT (k1 a h) Q) (h2:∀ b h,R (.inr (.inl b)) → MT (k2 b h) Q) (h3:∀ b h,R (.inr (.inr b)) → MT (k3 b h) Q) : MT (.aag m k1 k2 k3) Q := by
  obtain ⟨a,rfl,ha⟩ := h
  rcases a with a | a | a
  · exact h1 a rfl ha
  · exact h2 a rfl ha
  · exact h3 a rfl ha
end MT
/-- a call, shut -/
structure Clo {ρ:Type} (m:Option ρ) : Prop where
  h:Tot m Any
namespace MT
variable {ρ α β γ:Type}
theorem ru {m:Option α} {k:(a : α) → m = some a → Mo ρ} {Q : ρ → Prop} (h:Clo m) (h2:∀ a h,MT (k a h) Q) : MT (.ask m k) Q := ask h.h fun a h _=>h2 a h
end MT
theorem dI {α:Type} (l:List α) (i:Int) (h0 : 0 ≤ i) (h1:i < l.length) : Tot (bP l i) (fun x=>x ∈ l) := by
  obtain ⟨x,h2,h3⟩ := MZ h0 h1
  exact ⟨x,h2,List.mem_of_getElem? h3⟩
namespace T
variable {ρ σ:Type}
theorem amc {T : σ → Option (σ ⊕ ρ)} {s0 : σ} (c : σ → Int) (P : σ → Prop) (Q : ρ → Prop) (h0:c s0 = 0) (hP:P s0) (step:∀ (k:Nat) s,k ≤ 100000000 → c s = k → P s → Tot (T s) (LP (fun v=>c v = IntKind.wrap .i64 ((k:Int) + 1) ∧ P v ∧ k < 100000000) Q)) : Tot (bM T FU s0) Q := by
  refine jV (fun s=>0 ≤ c s ∧ c s ≤ 100000000 ∧ P s) (fun s=>100000000 - (c s).toNat) Q ?_ FU s0 ⟨by omega,by omega,hP⟩ (by have := lu; omega)
  rintro s ⟨h1,h2,h3⟩
  obtain ⟨r,h4,h5⟩ := step (c s).toNat s (by omega) (by omega) h3
  rcases r with v | r
  · have h5:c v = IntKind.wrap .i64 (((c s).toNat:Int) + 1) ∧ P v ∧ (c s).toNat < 100000000 := h5
    have h6 := h5.1
    rw [inc _ (by omega)] at h6
    exact .inl ⟨v,h4,⟨by omega,by omega,h5.2.1⟩,by omega⟩
  · exact .inr ⟨r,h4,h5⟩
theorem cnt {T:Int → Option (Int ⊕ ρ)} (Q : ρ → Prop) (step:∀ k:Nat,k ≤ 100000000 → Tot (T (k:Int)) (LP (fun v=>v = IntKind.wrap .i64 ((k:Int) + 1) ∧ k < 100000000) Q)) : Tot (bM T FU 0) Q :=
  amc (fun v=>v) (fun _=>True) Q rfl trivial fun k s hk hs _=>by
    obtain rfl:s = (k:Int) := hs
    refine mono (step k hk) ?_
    rintro (v | r) h
    · exact ⟨h.1,trivial,h.2⟩
    · exact h
theorem aiz {α:Type} {T : α × Int → Option ((α × Int) ⊕ ρ)} {a : α} (Q : ρ → Prop) (step:∀ (a : α) (k:Nat),k ≤ 100000000 → Tot (T (a,(k:Int))) (LP (fun v=>v.2 = IntKind.wrap .i64 ((k:Int) + 1) ∧ k < 100000000) Q)) : Tot (bM T FU (a,0)) Q :=
  amc (fun v=>v.2) (fun _=>True) Q rfl trivial fun k s hk hs _=>by
    obtain ⟨a,i⟩ := s
    obtain rfl:i = (k:Int) := hs
    refine mono (step a k hk) ?_
    rintro (v | r) h
    · exact ⟨h.1,trivial,h.2⟩
    · exact h
theorem agR {α:Type} {T:Int × α → Option ((Int × α) ⊕ ρ)} {a : α} (Q : ρ → Prop) (step:∀ (k:Nat) (a : α),k ≤ 100000000 → Tot (T ((k:Int),a)) (LP (fun v=>v.1 = IntKind.wrap .i64 ((k:Int) + 1) ∧ k < 100000000) Q)) : Tot (bM T FU (0,a)) Q :=
  amc (fun v=>v.1) (fun _=>True) Q rfl trivial fun k s hk hs _=>by
    obtain ⟨i,a⟩ := s
    obtain rfl:i = (k:Int) := hs
    refine mono (step k a hk) ?_
    rintro (v | r) h
    · exact ⟨h.1,trivial,h.2⟩
    · exact h
end T
end Go.Proofs.YtdnafbfmaphhhaaGreatDoor
set_option linter.unusedSimpArgs false
set_option linter.unusedVariables false
namespace Go.Proofs.YtdnafbfmaphhhaaGreatDoor
open Go.RowKit
theorem fV (v:aj) : aY v.lf1 = 12 + bG (v.aP.map ay.lf) + bG (v.fNext.map lfI) + bG (v.bg.map lfI) := by simp only [aj.lf1,dZ,aY,Lf.bulk]; omega
theorem fF {α:Type} (l:List α) (c : α → Option α) (z:List α) (T0:Int × List α → Option ((Int × List α) ⊕ List α)) (hz:z.length = l.length) (hl:l.length ≤ 1000000000) (hc:∀ x ∈ l,c x = some x)
    (hT:∀ (k:Nat) (s:List α),T0 ((k:Int),s) = bif decide ((k:Int) < (l.length:Int)) then (bP l (k:Int)).bind fun x=>(c x).bind fun r=>(bP s (k:Int)).bind fun _=>some (.inl (IntKind.wrap .i64 ((k:Int) + 1),s.set (k:Int).toNat r)) else some (.inr s)) :
    bM T0 FU (0,z) = some l := by
  have:Tot (bM T0 FU (0,z)) (fun r=>r = l) := by
    refine T.uM l.length hl (fun k s=>s.1 = (k:Int) ∧ s.2.length = l.length ∧ ∀ j,j < k → s.2[j]? = l[j]?) _ ⟨rfl,hz,fun j h=>by omega⟩ ?_ ?_
    · rintro k ⟨i,s⟩ hk ⟨h1,h2,h3⟩
      obtain rfl:i = (k:Int) := h1
      have h2:s.length = l.length := h2
      have hx := List.getElem?_eq_getElem hk
      have hy := List.getElem?_eq_getElem (show k < s.length by omega)
      rw [hT]
      simp only [ltt hx,gid hx,gid hy,cond_true,Option.bind_some,hc _ (jY hx),Int.toNat_natCast]
      refine T.ret ⟨inc k (by omega),by simp [h2],fun j hj=>?_⟩
      show (s.set k l[k])[j]? = l[j]?
      rcases Nat.lt_succ_iff_lt_or_eq.1 hj with h | rfl
      · rw [List.getElem?_set_ne (by omega)]; exact h3 j h
      · rw [List.getElem?_set_self (by omega),hx]
    · rintro ⟨i,s⟩ ⟨h1,h2,h3⟩
      obtain rfl:i = (l.length:Int) := h1
      have h2:s.length = l.length := h2
      rw [hT]
      simp only [ltn,cond_false]
      refine T.ret (show s = l from List.ext_getElem? fun j=>?_)
      by_cases hj:j < l.length
      · exact h3 j hj
      · rw [List.getElem?_eq_none (by omega),List.getElem?_eq_none (by omega)]
  obtain ⟨r,h,rfl⟩ := this
  exact h
theorem dR {α:Type} (l:List α) (p:Prop) [Decidable p] (hp:p) : (bif ((l.length:Int) == 0) then some [] else if p then (some l).bind (fun a=>some a) else none) = some l := by
  rw [if_pos hp]
  cases l with
  | nil=>rfl
  | cons x r =>
    rw [show (((x :: r).length:Int) == 0) = false by simp; omega]
    rfl
end Go.Proofs.YtdnafbfmaphhhaaGreatDoor
