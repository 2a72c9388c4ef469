/- Printed by dec.py. -/
import Derived.Test.YtdnafbfmaphhhaaGreatDoorQSManR
set_option linter.unusedSimpArgs false
set_option linter.unusedVariables false
namespace Go.Proofs.YtdnafbfmaphhhaaGreatDoor
open Go.RowKit
set_option maxRecDepth 20000
set_option maxHeartbeats 4000000
noncomputable section
def Xg (p_id:Int) : Mo (Int) :=
 .ret (cZ 1) (IntKind.wrap .i64 (10 + (IntKind.wrap .i64 (3 * p_id))))
def ZA (p_id:Int) : Option (Int) := Mo.den (Xg p_id)
theorem TN (p_id:Int) : FV (ZA p_id) 69 [.i_ p_id] (fun r=>.i_ r) := eG Tryz.func69 (by kernel_rfl) (fun _=>rfl) (by kernel_rfl)
def Oh (p_id:Int) (p_size:Int) : Mo (Bool) :=
 .iG 4002 (decide ((p_size:Int) < 1)) (.rt [0,1,4,11] 1 (true)) <|
 .rt [0,1,4,11] 1 (decide ((7:Int) < p_size))
def Oi (p_id:Int) (p_size:Int) (r0:Bool) : Mo (Bool) :=
 .iG 4006 (r0) (.rt [0,1,4,15] 1 (true)) <|
 .rt [0,1,4,15] 1 (decide ((p_id:Int) < 0))
def Kq (p_id:Int) (p_size:Int) (r0:Bool) : Mo (Bool) :=
 .iG 4010 (r0) (.rt [0,1,4,20] 1 (true)) <|
 .rt [0,1,4,20] 1 (decide ((p_size:Int) ≤ p_id))
def YG (p_id:Int) (p_size:Int) : Mo (aj × Int) :=
 .sj Tryz.f33 0 [1,0,0] [0,1,2,3,4,5] 1 6 [0,1,4] 1 (fun r_=>⟨[(0,.i_ p_id),(1,.i_ p_size),(4,.ptr 0 0),(11,.b_ r_)],[.box 25 (Z25)]⟩) ⟨[(0,.i_ p_id),(1,.i_ p_size),(4,.ptr 0 0)],[.box 25 (Z25)]⟩ (Oh p_id p_size).den (sW (by kernel_rfl)) fun r0 _ =>
 .sj Tryz.f33 0 [1,0,0] [6,7,8,9] 1 4 [0,1,4,11] 1 (fun r_=>⟨[(0,.i_ p_id),(1,.i_ p_size),(4,.ptr 0 0),(15,.b_ r_)],[.box 25 (Z25)]⟩) ⟨[(0,.i_ p_id),(1,.i_ p_size),(4,.ptr 0 0),(11,.b_ r0)],[.box 25 (Z25)]⟩ (Oi p_id p_size r0).den (sW (by kernel_rfl)) fun r1 _ =>
 .sj Tryz.f33 0 [1,0,0] [10,11,12,13,14] 1 5 [0,1,4,15] 1 (fun r_=>⟨[(0,.i_ p_id),(1,.i_ p_size),(4,.ptr 0 0),(20,.b_ r_)],[.box 25 (Z25)]⟩) ⟨[(0,.i_ p_id),(1,.i_ p_size),(4,.ptr 0 0),(15,.b_ r1)],[.box 25 (Z25)]⟩ (Kq p_id p_size r1).den (sW (by kernel_rfl)) fun r2 _ =>
 .iB (r2) (.ret (cZ 2) (aj.z,1)) <|
 .cl (TN p_id) fun r3 _ =>
 .ret (cZ 2) (aj.fH (aj.lY (aj.zV (aj.NQ (aj.sID aj.z p_id) p_size) (-1)) (-1)) r3,0)
def Q69 (p_id:Int) (p_size:Int) : Option (aj × Int) := Mo.den (YG p_id p_size)
theorem Xh (p_id:Int) (p_size:Int) : FV (Q69 p_id p_size) 33 [.i_ p_id,.i_ p_size] (fun r=>.tup [.dat (aj.lf1 r.1),.i_ r.2]) := eG Tryz.func33 (by kernel_rfl) (fun _=>rfl) (by kernel_rfl)
def YH (p_term:Int) (p_stamp:Int) : Mo (ak) :=
 .ret (cZ 1) (ak.mk p_term p_stamp ⟨#[]⟩ 0 (ay.dX ay.z 1))
def Q59 (p_term:Int) (p_stamp:Int) : Option (ak) := Mo.den (YH p_term p_stamp)
theorem xQ (p_term:Int) (p_stamp:Int) : FV (Q59 p_term p_stamp) 34 [.i_ p_term,.i_ p_stamp] (fun r=>.dat (ak.lf1 r)) := eG Tryz.func34 (by kernel_rfl) (fun _=>rfl) (by kernel_rfl)
structure RB2 where
 m1:(p_v:aF) → Option (aF)
 ok1:∀ p_v,FV (m1 p_v) 209 [.dat (aF.lf1 p_v)] (fun r=>.dat (aF.lf1 r))
 m2:(p_l:List aF) → Option (List aF)
 ok2:∀ p_l,FH (m2 p_l) 252 [.lf (.rows 5 (p_l.map aF.lf)),.raw (.func (.func 209) #[] #[])] [] (fun r=>.lf (.rows 5 (r.map aF.lf))) (fun _=>[])
 m3:(p_l:List aX) → Option (List aX)
 ok3:∀ p_l,FH (m3 p_l) 253 [.lf (.rows 6 (p_l.map aX.lf)),.raw (.func (.func 254) #[] #[])] [] (fun r=>.lf (.rows 6 (r.map aX.lf))) (fun _=>[])
 m4:(p_f:aX) → Option (aX)
 ok4:∀ p_f,FV (m4 p_f) 254 [.dat (aX.lf1 p_f)] (fun r=>.dat (aX.lf1 r))
def Oj (R_:RB2) (p_v:aF) : Mo (aF) :=
 .cH [] (R_.ok2 p_v.nX) fun r0 _ =>
 .cH [] (R_.ok3 p_v.jh) fun r1 _ =>
 .ret (cZ 1) (aF.mk p_v.bT p_v.J7 p_v.fText r0 r1)
theorem TP (R_:RB2) (p_v:aF) : FV (Mo.den (Oj R_ p_v)) 209 [.dat (aF.lf1 p_v)] (fun r=>.dat (aF.lf1 r)) := eG Tryz.func209 (by kernel_rfl) (fun _=>rfl) (by kernel_rfl)
def DU (R_:RB2) (p_l:List aF) : (Int × (List aF)) → Mo ((Int × (List aF)) ⊕ ((List aF))) := fun (v0,l0) =>
 .iB (decide ((v0:Int) < (p_l.length:Int))) (.ask (cO p_l v0) fun x0 h0 =>
 .say [.row (aF.lf1 x0)] (ok1 (bf aF.aT h0)) <|
 .cl (R_.ok1 x0) fun r0 _ =>
 .ask (cO l0 v0) fun x1 h1 =>
 .say [.row (aF.lf1 x1),.rows ((l0.set v0.toNat r0).map aF.lf)] (okc (bM aF.aT h1) (okc (st_ aF.aT l0 v0.toNat r0) (ok1 ((bf aF.aT h1).2)))) <|
 .rt [1,5,14,15,16] 1 (.inl (IntKind.wrap .i64 (v0 + 1),l0.set v0.toNat r0))) <|
 .rt [5] 1 (.inr (l0))
def Ol (R_:RB2) (p_l:List aF) (v0:Int) (l0:List aF) : Option (((List aF))) := dF (fun v_=>(DU R_ p_l v_).den) FU (v0,l0)
def Om (R_:RB2) (p_l:List aF) : Mo (List aF) :=
 .say [.num p_l.length] (ok1 (ln_ p_l aF.lf)) <|
 .ite ((p_l.length:Int) == 0) (fun c0 =>
 .say [.br true] (ok1 c0) <|
 .ret ⟨[.nil 0 5,.tod 0],[0],[],0⟩ ([])) fun c0 =>
 .say [.br false,.num p_l.length,.rows ((List.replicate (p_l.length:Int).toNat (aF.mk 0 0 ⟨#[]⟩ [] [])).map aF.lf),.num p_l.length] (okc c0 (okc (ln_ p_l aF.lf) (ok1 (rp_ aF.aT (p_l.length:Int).toNat (aF.mk 0 0 ⟨#[]⟩ [] []))))) <|
 .grd ((0:Int) ≤ (p_l.length:Int) ∧ 80 * (p_l.length:Int).toNat ≤ 281474976710656 ∧ (p_l.length:Int).toNat ≤ maxLen) fun h0 =>
 .say [] (okc (mk_ (p_l.length:Int) h0) (ok1 (ln_ p_l aF.lf))) <|
 .lp Tryz.f252 0 [1,1,1,0,1,0] 0 [1,5,14,15,16] 1 (.exit 0) (fun r_=>⟨[(5,.own 0)],[.row 29 5 (r_.map aF.lf)]⟩) (Ol R_ p_l 0 (List.replicate (p_l.length:Int).toNat (aF.mk 0 0 ⟨#[]⟩ [] []))) (lW (fun (v0,l0)=>⟨[(1,.raw (.func (.func 209) #[] #[])),(5,.own 0),(14,.lf (.rows 5 (p_l.map aF.lf))),(15,.i_ (p_l.length:Int)),(16,.i_ v0)],[.row 29 5 (l0.map aF.lf)]⟩) (by kernel_rfl) rfl fun v_=>by kernel_rfl) fun r0 _ =>
 .ret ⟨[.frz 0],[0],[],0⟩ (r0)
theorem TQ (R_:RB2) (p_l:List aF) : FH (Mo.den (Om R_ p_l)) 252 [.lf (.rows 5 (p_l.map aF.lf)),.raw (.func (.func 209) #[] #[])] [] (fun r=>.lf (.rows 5 (r.map aF.lf))) (fun _=>[]) := gy Tryz.func252 (by kernel_rfl) (fun _=>rfl) (by kernel_rfl)
def DV (R_:RB2) (p_l:List aX) : (Int × (List aX)) → Mo ((Int × (List aX)) ⊕ ((List aX))) := fun (v0,l0) =>
 .iB (decide ((v0:Int) < (p_l.length:Int))) (.ask (cO p_l v0) fun x0 h0 =>
 .say [.row (aX.lf1 x0)] (ok1 (bf aX.aT h0)) <|
 .cl (R_.ok4 x0) fun r0 _ =>
 .ask (cO l0 v0) fun x1 h1 =>
 .say [.row (aX.lf1 x1),.rows ((l0.set v0.toNat r0).map aX.lf)] (okc (bM aX.aT h1) (okc (st_ aX.aT l0 v0.toNat r0) (ok1 ((bf aX.aT h1).2)))) <|
 .rt [1,5,14,15,16] 1 (.inl (IntKind.wrap .i64 (v0 + 1),l0.set v0.toNat r0))) <|
 .rt [5] 1 (.inr (l0))
def Oo (R_:RB2) (p_l:List aX) (v0:Int) (l0:List aX) : Option (((List aX))) := dF (fun v_=>(DV R_ p_l v_).den) FU (v0,l0)
def Oq (R_:RB2) (p_l:List aX) : Mo (List aX) :=
 .say [.num p_l.length] (ok1 (ln_ p_l aX.lf)) <|
 .ite ((p_l.length:Int) == 0) (fun c0 =>
 .say [.br true] (ok1 c0) <|
 .ret ⟨[.nil 0 6,.tod 0],[0],[],0⟩ ([])) fun c0 =>
 .say [.br false,.num p_l.length,.rows ((List.replicate (p_l.length:Int).toNat (aX.mk ⟨#[]⟩ (aF.mk 0 0 ⟨#[]⟩ [] []))).map aX.lf),.num p_l.length] (okc c0 (okc (ln_ p_l aX.lf) (ok1 (rp_ aX.aT (p_l.length:Int).toNat (aX.mk ⟨#[]⟩ (aF.mk 0 0 ⟨#[]⟩ [] [])))))) <|
 .grd ((0:Int) ≤ (p_l.length:Int) ∧ 96 * (p_l.length:Int).toNat ≤ 281474976710656 ∧ (p_l.length:Int).toNat ≤ maxLen) fun h0 =>
 .say [] (okc (mk_ (p_l.length:Int) h0) (ok1 (ln_ p_l aX.lf))) <|
 .lp Tryz.f253 0 [1,1,1,0,1,0] 0 [1,5,14,15,16] 1 (.exit 0) (fun r_=>⟨[(5,.own 0)],[.row 174 6 (r_.map aX.lf)]⟩) (Oo R_ p_l 0 (List.replicate (p_l.length:Int).toNat (aX.mk ⟨#[]⟩ (aF.mk 0 0 ⟨#[]⟩ [] [])))) (lW (fun (v0,l0)=>⟨[(1,.raw (.func (.func 254) #[] #[])),(5,.own 0),(14,.lf (.rows 6 (p_l.map aX.lf))),(15,.i_ (p_l.length:Int)),(16,.i_ v0)],[.row 174 6 (l0.map aX.lf)]⟩) (by kernel_rfl) rfl fun v_=>by kernel_rfl) fun r0 _ =>
 .ret ⟨[.frz 0],[0],[],0⟩ (r0)
theorem TR (R_:RB2) (p_l:List aX) : FH (Mo.den (Oq R_ p_l)) 253 [.lf (.rows 6 (p_l.map aX.lf)),.raw (.func (.func 254) #[] #[])] [] (fun r=>.lf (.rows 6 (r.map aX.lf))) (fun _=>[]) := gy Tryz.func253 (by kernel_rfl) (fun _=>rfl) (by kernel_rfl)
def He (R_:RB2) (p_f:aX) : Mo (aX) :=
 .say [.order [(true,0),(true,1),(true,2),(true,3),(false,4),(true,5),(false,6)] (some 6) []] ok0 <|
 .cl (R_.ok1 p_f.fValue) fun r0 _ =>
 .ret (cZ 1) (aX.mk p_f.fName r0)
theorem Ot (R_:RB2) (p_f:aX) : FV (Mo.den (He R_ p_f)) 254 [.dat (aX.lf1 p_f)] (fun r=>.dat (aX.lf1 r)) := eG Tryz.func254 (by kernel_rfl) (fun _=>rfl) (by kernel_rfl)
def iL:Nat → RB2
 | 0=>{ m1 := fun p_v=>none,ok1 := fun _ _ h=>(by cases h),m2 := fun p_l=>none,ok2 := fun _ _ h=>(by cases h),m3 := fun p_l=>none,ok3 := fun _ _ h=>(by cases h),m4 := fun p_f=>none,ok4 := fun _ _ h=>(by cases h) }
 | n_ + 1=>{ m1 := fun p_v=>Mo.den (Oj (iL n_) p_v),ok1 := fun p_v r h=>TP (iL n_) p_v r h,m2 := fun p_l=>Mo.den (Om (iL n_) p_l),ok2 := fun p_l r h=>TQ (iL n_) p_l r h,m3 := fun p_l=>Mo.den (Oq (iL n_) p_l),ok3 := fun p_l r h=>TR (iL n_) p_l r h,m4 := fun p_f=>Mo.den (He (iL n_) p_f),ok4 := Ot (iL n_) }
def Q43 (p_v:aF) : Option (aF) := (iL FU).m1 p_v
theorem qo (p_v:aF) : FV (Q43 p_v) 209 [.dat (aF.lf1 p_v)] (fun r=>.dat (aF.lf1 r)) := (iL FU).ok1 p_v
def Q23 (p_l:List aF) : Option (List aF) := (iL FU).m2 p_l
theorem Ou (p_l:List aF) : FH (Q23 p_l) 252 [.lf (.rows 5 (p_l.map aF.lf)),.raw (.func (.func 209) #[] #[])] [] (fun r=>.lf (.rows 5 (r.map aF.lf))) (fun _=>[]) := (iL FU).ok2 p_l
def Vh (p_l:List ByteArray) : Mo (List ByteArray) :=
 .say [.rows (p_l.map lfS),.at_ 0 0,.frz 0] (ok1 (by simp [lfS] : p_l.map lfS = [] ++ (p_l.map lfS))) <|
 .grd ((([] : List ByteArray).length + p_l.length) * 16 ≤ 140737488355328) fun h0 =>
 .say [] (ok1 (cq_ lfS h0)) <|
 .ret (cZ 1) (p_l)
def Q62 (p_l:List ByteArray) : Option (List ByteArray) := Mo.den (Vh p_l)
theorem xR (p_l:List ByteArray) : FV (Q62 p_l) 299 [.lf (.rows 1 (p_l.map lfS))] (fun r=>.lf (.rows 1 (r.map lfS))) := eG Tryz.func299 (by kernel_rfl) (fun _=>rfl) (by kernel_rfl)
def Vj (p_o:bC) : Mo (bC) :=
 .cl (xR p_o.eU) fun r0 _ =>
 .ret (cZ 1) (bC.mk r0 p_o.NM)
def Q88 (p_o:bC) : Option (bC) := Mo.den (Vj p_o)
theorem Xi (p_o:bC) : FV (Q88 p_o) 258 [.dat (bC.lf1 p_o)] (fun r=>.dat (bC.lf1 r)) := eG Tryz.func258 (by kernel_rfl) (fun _=>rfl) (by kernel_rfl)
def DW (p_l:List bC) : (Int × (List bC)) → Mo ((Int × (List bC)) ⊕ ((List bC))) := fun (v0,l0) =>
 .iB (decide ((v0:Int) < (p_l.length:Int))) (.ask (cO p_l v0) fun x0 h0 =>
 .say [.row (bC.lf1 x0)] (ok1 (bf bC.aT h0)) <|
 .cl (Xi x0) fun r0 _ =>
 .ask (cO l0 v0) fun x1 h1 =>
 .say [.row (bC.lf1 x1),.rows ((l0.set v0.toNat r0).map bC.lf)] (okc (bM bC.aT h1) (okc (st_ bC.aT l0 v0.toNat r0) (ok1 ((bf bC.aT h1).2)))) <|
 .rt [1,5,14,15,16] 1 (.inl (IntKind.wrap .i64 (v0 + 1),l0.set v0.toNat r0))) <|
 .rt [5] 1 (.inr (l0))
def Ov (p_l:List bC) (v0:Int) (l0:List bC) : Option (((List bC))) := dF (fun v_=>(DW p_l v_).den) FU (v0,l0)
def Vk (p_l:List bC) : Mo (List bC) :=
 .say [.num p_l.length] (ok1 (ln_ p_l bC.lf)) <|
 .ite ((p_l.length:Int) == 0) (fun c0 =>
 .say [.br true] (okc c0 (ok1 (by simp [bC.aT] : (([] : List bC).map bC.lf) = []))) <|
 .ret ⟨[.zo 0 152 2,.iZ 0 (([] : List bC).map bC.lf),.mvn 0],[0],[(1,0)],1⟩ (([] : List bC))) fun c0 =>
 .say [.br false,.num p_l.length,.rows ((List.replicate (p_l.length:Int).toNat (bC.mk [] false)).map bC.lf),.num p_l.length] (okc c0 (okc (ln_ p_l bC.lf) (ok1 (rp_ bC.aT (p_l.length:Int).toNat (bC.mk [] false))))) <|
 .grd ((0:Int) ≤ (p_l.length:Int) ∧ 32 * (p_l.length:Int).toNat ≤ 281474976710656 ∧ (p_l.length:Int).toNat ≤ maxLen) fun h0 =>
 .say [] (okc (mk_ (p_l.length:Int) h0) (ok1 (ln_ p_l bC.lf))) <|
 .lp Tryz.f257 0 [1,1,1,0,1,0] 0 [1,5,14,15,16] 1 (.exit 0) (fun r_=>⟨[(5,.own 0)],[.row 152 2 (r_.map bC.lf)]⟩) (Ov p_l 0 (List.replicate (p_l.length:Int).toNat (bC.mk [] false))) (lW (fun (v0,l0)=>⟨[(1,.raw (.func (.func 258) #[] #[])),(5,.own 0),(14,.lf (.rows 2 (p_l.map bC.lf))),(15,.i_ (p_l.length:Int)),(16,.i_ v0)],[.row 152 2 (l0.map bC.lf)]⟩) (by kernel_rfl) rfl fun v_=>by kernel_rfl) fun r0 _ =>
 .ret ⟨[.mvn 0],[0],[(1,0)],1⟩ (r0)
def Q31 (p_l:List bC) : Option (List bC) := Mo.den (Vk p_l)
theorem Xj (p_l:List bC) : FH (Q31 p_l) 257 [.lf (.rows 2 (p_l.map bC.lf)),.raw (.func (.func 258) #[] #[])] [] (fun _=>.own 0) (fun r=>[.row 152 2 (r.map bC.lf)]) := gy Tryz.func257 (by kernel_rfl) (fun _=>rfl) (by kernel_rfl)
structure RB4 where
 m1:(p_e:aW) → Option (aW)
 ok1:∀ p_e,FV (m1 p_e) 303 [.dat (aW.lf1 p_e)] (fun r=>.dat (aW.lf1 r))
 m2:(p_l:List aW) → Option (List aW)
 ok2:∀ p_l,FH (m2 p_l) 320 [.lf (.rows 11 (p_l.map aW.lf)),.raw (.func (.func 303) #[] #[])] [] (fun r=>.lf (.rows 11 (r.map aW.lf))) (fun _=>[])
def Ox (R_:RB4) (p_e:aW) : Mo (aW) :=
 .cl (xR p_e.eU) fun r0 _ =>
 .cl (xR p_e.iQ) fun r1 _ =>
 .cl (qo p_e.fArg) fun r2 _ =>
 .cH [] (R_.ok2 p_e.fV) fun r3 _ =>
 .ret (cZ 1) (aW.mk p_e.fOp r0 p_e.fName r1 r2 p_e.fN r3)
theorem TS (R_:RB4) (p_e:aW) : FV (Mo.den (Ox R_ p_e)) 303 [.dat (aW.lf1 p_e)] (fun r=>.dat (aW.lf1 r)) := eG Tryz.func303 (by kernel_rfl) (fun _=>rfl) (by kernel_rfl)
def DX (R_:RB4) (p_l:List aW) : (Int × (List aW)) → Mo ((Int × (List aW)) ⊕ ((List aW))) := fun (v0,l0) =>
 .iB (decide ((v0:Int) < (p_l.length:Int))) (.ask (cO p_l v0) fun x0 h0 =>
 .say [.row (aW.lf1 x0)] (ok1 (bf aW.aT h0)) <|
 .cl (R_.ok1 x0) fun r0 _ =>
 .ask (cO l0 v0) fun x1 h1 =>
 .say [.row (aW.lf1 x1),.rows ((l0.set v0.toNat r0).map aW.lf)] (okc (bM aW.aT h1) (okc (st_ aW.aT l0 v0.toNat r0) (ok1 ((bf aW.aT h1).2)))) <|
 .rt [1,5,14,15,16] 1 (.inl (IntKind.wrap .i64 (v0 + 1),l0.set v0.toNat r0))) <|
 .rt [5] 1 (.inr (l0))
def Oy (R_:RB4) (p_l:List aW) (v0:Int) (l0:List aW) : Option (((List aW))) := dF (fun v_=>(DX R_ p_l v_).den) FU (v0,l0)
def Oz (R_:RB4) (p_l:List aW) : Mo (List aW) :=
 .say [.num p_l.length] (ok1 (ln_ p_l aW.lf)) <|
 .ite ((p_l.length:Int) == 0) (fun c0 =>
 .say [.br true] (ok1 c0) <|
 .ret ⟨[.nil 0 11,.tod 0],[0],[],0⟩ ([])) fun c0 =>
 .say [.br false,.num p_l.length,.rows ((List.replicate (p_l.length:Int).toNat aW.z).map aW.lf),.num p_l.length] (okc c0 (okc (ln_ p_l aW.lf) (ok1 (rp_ aW.aT (p_l.length:Int).toNat aW.z)))) <|
 .grd ((0:Int) ≤ (p_l.length:Int) ∧ 184 * (p_l.length:Int).toNat ≤ 281474976710656 ∧ (p_l.length:Int).toNat ≤ maxLen) fun h0 =>
 .say [] (okc (mk_ (p_l.length:Int) h0) (ok1 (ln_ p_l aW.lf))) <|
 .lp Tryz.f320 0 [1,1,1,0,1,0] 0 [1,5,14,15,16] 1 (.exit 0) (fun r_=>⟨[(5,.own 0)],[.row 44 11 (r_.map aW.lf)]⟩) (Oy R_ p_l 0 (List.replicate (p_l.length:Int).toNat aW.z)) (lW (fun (v0,l0)=>⟨[(1,.raw (.func (.func 303) #[] #[])),(5,.own 0),(14,.lf (.rows 11 (p_l.map aW.lf))),(15,.i_ (p_l.length:Int)),(16,.i_ v0)],[.row 44 11 (l0.map aW.lf)]⟩) (by kernel_rfl) rfl fun v_=>by kernel_rfl) fun r0 _ =>
 .ret ⟨[.frz 0],[0],[],0⟩ (r0)
theorem TU (R_:RB4) (p_l:List aW) : FH (Mo.den (Oz R_ p_l)) 320 [.lf (.rows 11 (p_l.map aW.lf)),.raw (.func (.func 303) #[] #[])] [] (fun r=>.lf (.rows 11 (r.map aW.lf))) (fun _=>[]) := gy Tryz.func320 (by kernel_rfl) (fun _=>rfl) (by kernel_rfl)
def mP:Nat → RB4
 | 0=>{ m1 := fun p_e=>none,ok1 := fun _ _ h=>(by cases h),m2 := fun p_l=>none,ok2 := fun _ _ h=>(by cases h) }
 | n_ + 1=>{ m1 := fun p_e=>Mo.den (Ox (mP n_) p_e),ok1 := fun p_e r h=>TS (mP n_) p_e r h,m2 := fun p_l=>Mo.den (Oz (mP n_) p_l),ok2 := TU (mP n_) }
def Q84 (p_e:aW) : Option (aW) := (mP FU).m1 p_e
theorem Xk (p_e:aW) : FV (Q84 p_e) 303 [.dat (aW.lf1 p_e)] (fun r=>.dat (aW.lf1 r)) := (mP FU).ok1 p_e
structure RB3 where
 m1:(p_p:aU) → Option (aU)
 ok1:∀ p_p,FV (m1 p_p) 259 [.dat (aU.lf1 p_p)] (fun r=>.dat (aU.lf1 r))
 m2:(p_l:List aU) → Option (List aU)
 ok2:∀ p_l,FH (m2 p_l) 304 [.lf (.rows 25 (p_l.map aU.lf)),.raw (.func (.func 259) #[] #[])] [] (fun r=>.lf (.rows 25 (r.map aU.lf))) (fun _=>[])
def OA (R_:RB3) (p_p:aU) : Mo (aU) :=
 .cl (xR p_p.eU) fun r0 _ =>
 .cl (qo p_p.fArg) fun r1 _ =>
 .ask (Q23 p_p.fArgs) fun r2 h0 =>
 .say [.iU [] (.lf (.rows 5 (r2.map aF.lf))) [],.rows (p_p.fC.iC.map dM.lf)] (okc (Ou _ _ h0) (ok1 (by simp [dM.aT] : p_p.fC.iC.map dM.lf = [] ++ (p_p.fC.iC.map dM.lf)))) <|
 .grd ((([] : List dM).length + p_p.fC.iC.length) * 16 ≤ 140737488355328) fun h1 =>
 .say [] (ok1 (cq_ dM.lf h1)) <|
 .cl (Xk p_p.fExpr) fun r3 _ =>
 .ask (R_.m2 p_p.fV) fun r4 h2 =>
 .say [.iU [] (.lf (.rows 25 (r4.map aU.lf))) [],.at_ 0 0,.frz 2] (ok1 (R_.ok2 _ _ h2)) <|
 .ret (cZ 1) (aU.mk p_p.fOp r0 r1 r2 p_p.fN p_p.fM p_p.fC r3 r4)
theorem TV (R_:RB3) (p_p:aU) : FV (Mo.den (OA R_ p_p)) 259 [.dat (aU.lf1 p_p)] (fun r=>.dat (aU.lf1 r)) := eG Tryz.func259 (by kernel_rfl) (fun _=>rfl) (by kernel_rfl)
def DY (R_:RB3) (p_l:List aU) : (Int × (List aU)) → Mo ((Int × (List aU)) ⊕ ((List aU))) := fun (v0,l0) =>
 .iB (decide ((v0:Int) < (p_l.length:Int))) (.ask (cO p_l v0) fun x0 h0 =>
 .say [.row (aU.lf1 x0)] (ok1 (bf aU.aT h0)) <|
 .cl (R_.ok1 x0) fun r0 _ =>
 .ask (cO l0 v0) fun x1 h1 =>
 .say [.row (aU.lf1 x1),.rows ((l0.set v0.toNat r0).map aU.lf)] (okc (bM aU.aT h1) (okc (st_ aU.aT l0 v0.toNat r0) (ok1 ((bf aU.aT h1).2)))) <|
 .rt [1,5,14,15,16] 1 (.inl (IntKind.wrap .i64 (v0 + 1),l0.set v0.toNat r0))) <|
 .rt [5] 1 (.inr (l0))
def OB (R_:RB3) (p_l:List aU) (v0:Int) (l0:List aU) : Option (((List aU))) := dF (fun v_=>(DY R_ p_l v_).den) FU (v0,l0)
def OC (R_:RB3) (p_l:List aU) : Mo (List aU) :=
 .say [.num p_l.length] (ok1 (ln_ p_l aU.lf)) <|
 .ite ((p_l.length:Int) == 0) (fun c0 =>
 .say [.br true] (ok1 c0) <|
 .ret ⟨[.nil 0 25,.tod 0],[0],[],0⟩ ([])) fun c0 =>
 .say [.br false,.num p_l.length,.rows ((List.replicate (p_l.length:Int).toNat aU.z).map aU.lf),.num p_l.length] (okc c0 (okc (ln_ p_l aU.lf) (ok1 (rp_ aU.aT (p_l.length:Int).toNat aU.z)))) <|
 .grd ((0:Int) ≤ (p_l.length:Int) ∧ 400 * (p_l.length:Int).toNat ≤ 281474976710656 ∧ (p_l.length:Int).toNat ≤ maxLen) fun h0 =>
 .say [] (okc (mk_ (p_l.length:Int) h0) (ok1 (ln_ p_l aU.lf))) <|
 .lp Tryz.f304 0 [1,1,1,0,1,0] 0 [1,5,14,15,16] 1 (.exit 0) (fun r_=>⟨[(5,.own 0)],[.row 47 25 (r_.map aU.lf)]⟩) (OB R_ p_l 0 (List.replicate (p_l.length:Int).toNat aU.z)) (lW (fun (v0,l0)=>⟨[(1,.raw (.func (.func 259) #[] #[])),(5,.own 0),(14,.lf (.rows 25 (p_l.map aU.lf))),(15,.i_ (p_l.length:Int)),(16,.i_ v0)],[.row 47 25 (l0.map aU.lf)]⟩) (by kernel_rfl) rfl fun v_=>by kernel_rfl) fun r0 _ =>
 .ret ⟨[.frz 0],[0],[],0⟩ (r0)
theorem TW (R_:RB3) (p_l:List aU) : FH (Mo.den (OC R_ p_l)) 304 [.lf (.rows 25 (p_l.map aU.lf)),.raw (.func (.func 259) #[] #[])] [] (fun r=>.lf (.rows 25 (r.map aU.lf))) (fun _=>[]) := gy Tryz.func304 (by kernel_rfl) (fun _=>rfl) (by kernel_rfl)
def mQ:Nat → RB3
 | 0=>{ m1 := fun p_p=>none,ok1 := fun _ _ h=>(by cases h),m2 := fun p_l=>none,ok2 := fun _ _ h=>(by cases h) }
 | n_ + 1=>{ m1 := fun p_p=>Mo.den (OA (mQ n_) p_p),ok1 := fun p_p r h=>TV (mQ n_) p_p r h,m2 := fun p_l=>Mo.den (OC (mQ n_) p_l),ok2 := TW (mQ n_) }
def Q71 (p_p:aU) : Option (aU) := (mQ FU).m1 p_p
theorem Xl (p_p:aU) : FV (Q71 p_p) 259 [.dat (aU.lf1 p_p)] (fun r=>.dat (aU.lf1 r)) := (mQ FU).ok1 p_p
def Vl (p_x:aV) : Mo (aV) :=
 .cH [] (Xj p_x.kX) fun r0 _ =>
 .ask (Q71 p_x.kE) fun r1 h0 =>
 .say [.res (.dat (aU.lf1 r1)),.at_ 0 0,.frz 2] (ok1 (Xl _ _ h0)) <|
 .ret (cZ 1) (aV.NP (aV.Vf p_x r0) r1)
def Q81 (p_x:aV) : Option (aV) := Mo.den (Vl p_x)
theorem OD (p_x:aV) : FV (Q81 p_x) 211 [.dat (aV.lf1 p_x)] (fun r=>.dat (aV.lf1 r)) := eG Tryz.func211 (by kernel_rfl) (fun _=>rfl) (by kernel_rfl)
def DZ (p_l:List aV) : (Int × (List aV)) → Mo ((Int × (List aV)) ⊕ ((List aV))) := fun (v0,l0) =>
 .iB (decide ((v0:Int) < (p_l.length:Int))) (.ask (cO p_l v0) fun x0 h0 =>
 .say [.row (aV.lf1 x0)] (ok1 (bf aV.aT h0)) <|
 .cl (OD x0) fun r0 _ =>
 .ask (cO l0 v0) fun x1 h1 =>
 .say [.row (aV.lf1 x1),.rows ((l0.set v0.toNat r0).map aV.lf)] (okc (bM aV.aT h1) (okc (st_ aV.aT l0 v0.toNat r0) (ok1 ((bf aV.aT h1).2)))) <|
 .rt [1,5,14,15,16] 1 (.inl (IntKind.wrap .i64 (v0 + 1),l0.set v0.toNat r0))) <|
 .rt [5] 1 (.inr (l0))
def OE (p_l:List aV) (v0:Int) (l0:List aV) : Option (((List aV))) := dF (fun v_=>(DZ p_l v_).den) FU (v0,l0)
def Vm (p_l:List aV) : Mo (List aV) :=
 .say [.num p_l.length] (ok1 (ln_ p_l aV.lf)) <|
 .ite ((p_l.length:Int) == 0) (fun c0 =>
 .say [.br true] (okc c0 (ok1 (by simp [aV.aT] : (([] : List aV).map aV.lf) = []))) <|
 .ret ⟨[.zo 0 49 31,.iZ 0 (([] : List aV).map aV.lf),.mvn 0],[0],[(1,0)],1⟩ (([] : List aV))) fun c0 =>
 .say [.br false,.num p_l.length,.rows ((List.replicate (p_l.length:Int).toNat aV.z).map aV.lf),.num p_l.length] (okc c0 (okc (ln_ p_l aV.lf) (ok1 (rp_ aV.aT (p_l.length:Int).toNat aV.z)))) <|
 .grd ((0:Int) ≤ (p_l.length:Int) ∧ 456 * (p_l.length:Int).toNat ≤ 281474976710656 ∧ (p_l.length:Int).toNat ≤ maxLen) fun h0 =>
 .say [] (okc (mk_ (p_l.length:Int) h0) (ok1 (ln_ p_l aV.lf))) <|
 .lp Tryz.f255 0 [1,1,1,0,1,0] 0 [1,5,14,15,16] 1 (.exit 0) (fun r_=>⟨[(5,.own 0)],[.row 49 31 (r_.map aV.lf)]⟩) (OE p_l 0 (List.replicate (p_l.length:Int).toNat aV.z)) (lW (fun (v0,l0)=>⟨[(1,.raw (.func (.func 211) #[] #[])),(5,.own 0),(14,.lf (.rows 31 (p_l.map aV.lf))),(15,.i_ (p_l.length:Int)),(16,.i_ v0)],[.row 49 31 (l0.map aV.lf)]⟩) (by kernel_rfl) rfl fun v_=>by kernel_rfl) fun r0 _ =>
 .ret ⟨[.mvn 0],[0],[(1,0)],1⟩ (r0)
def Q32 (p_l:List aV) : Option (List aV) := Mo.den (Vm p_l)
theorem Xm (p_l:List aV) : FH (Q32 p_l) 255 [.lf (.rows 31 (p_l.map aV.lf)),.raw (.func (.func 211) #[] #[])] [] (fun _=>.own 0) (fun r=>[.row 49 31 (r.map aV.lf)]) := gy Tryz.func255 (by kernel_rfl) (fun _=>rfl) (by kernel_rfl)
structure RB5 where
 m1:(p_s:aC) → Option (aC)
 ok1:∀ p_s,FV (m1 p_s) 256 [.dat (aC.lf1 p_s)] (fun r=>.dat (aC.lf1 r))
 m2:(p_l:List bF) → Option (List bF)
 ok2:∀ p_l,FH (m2 p_l) 300 [.lf (.rows 22 (p_l.map bF.lf)),.raw (.func (.func 301) #[] #[])] [] (fun r=>.lf (.rows 22 (r.map bF.lf))) (fun _=>[])
 m3:(p_l:List aC) → Option (List aC)
 ok3:∀ p_l,FH (m3 p_l) 302 [.lf (.rows 21 (p_l.map aC.lf)),.raw (.func (.func 256) #[] #[])] [] (fun r=>.lf (.rows 21 (r.map aC.lf))) (fun _=>[])
 m4:(p_p:bF) → Option (bF)
 ok4:∀ p_p,FV (m4 p_p) 301 [.dat (bF.lf1 p_p)] (fun r=>.dat (bF.lf1 r))
def OG (R_:RB5) (p_s:aC) : Mo (aC) :=
 .cl (qo p_s.zD) fun r0 _ =>
 .cl (qo p_s.zF) fun r1 _ =>
 .cH [] (Ou p_s.mO) fun r2 _ =>
 .cl (xR p_s.gI) fun r3 _ =>
 .cH [] (R_.ok2 p_s.jS) fun r4 _ =>
 .cH [] (R_.ok3 p_s.jT) fun r5 _ =>
 .ret (cZ 1) (aC.mk p_s.ql p_s.lS r0 p_s.lT r1 r2 p_s.lU p_s.lV r3 r4 p_s.lX r5 p_s.iV)
theorem TY (R_:RB5) (p_s:aC) : FV (Mo.den (OG R_ p_s)) 256 [.dat (aC.lf1 p_s)] (fun r=>.dat (aC.lf1 r)) := eG Tryz.func256 (by kernel_rfl) (fun _=>rfl) (by kernel_rfl)
def D5 (R_:RB5) (p_l:List bF) : (Int × (List bF)) → Mo ((Int × (List bF)) ⊕ ((List bF))) := fun (v0,l0) =>
 .iB (decide ((v0:Int) < (p_l.length:Int))) (.ask (cO p_l v0) fun x0 h0 =>
 .say [.row (bF.lf1 x0)] (ok1 (bf bF.aT h0)) <|
 .cl (R_.ok4 x0) fun r0 _ =>
 .ask (cO l0 v0) fun x1 h1 =>
 .say [.row (bF.lf1 x1),.rows ((l0.set v0.toNat r0).map bF.lf)] (okc (bM bF.aT h1) (okc (st_ bF.aT l0 v0.toNat r0) (ok1 ((bf bF.aT h1).2)))) <|
 .rt [1,5,14,15,16] 1 (.inl (IntKind.wrap .i64 (v0 + 1),l0.set v0.toNat r0))) <|
 .rt [5] 1 (.inr (l0))
def OH (R_:RB5) (p_l:List bF) (v0:Int) (l0:List bF) : Option (((List bF))) := dF (fun v_=>(D5 R_ p_l v_).den) FU (v0,l0)
def OI (R_:RB5) (p_l:List bF) : Mo (List bF) :=
 .say [.num p_l.length] (ok1 (ln_ p_l bF.lf)) <|
 .ite ((p_l.length:Int) == 0) (fun c0 =>
 .say [.br true] (ok1 c0) <|
 .ret ⟨[.nil 0 22,.tod 0],[0],[],0⟩ ([])) fun c0 =>
 .say [.br false,.num p_l.length,.rows ((List.replicate (p_l.length:Int).toNat (bF.mk ⟨#[]⟩ aC.z)).map bF.lf),.num p_l.length] (okc c0 (okc (ln_ p_l bF.lf) (ok1 (rp_ bF.aT (p_l.length:Int).toNat (bF.mk ⟨#[]⟩ aC.z))))) <|
 .grd ((0:Int) ≤ (p_l.length:Int) ∧ 328 * (p_l.length:Int).toNat ≤ 281474976710656 ∧ (p_l.length:Int).toNat ≤ maxLen) fun h0 =>
 .say [] (okc (mk_ (p_l.length:Int) h0) (ok1 (ln_ p_l bF.lf))) <|
 .lp Tryz.f300 0 [1,1,1,0,1,0] 0 [1,5,14,15,16] 1 (.exit 0) (fun r_=>⟨[(5,.own 0)],[.row 217 22 (r_.map bF.lf)]⟩) (OH R_ p_l 0 (List.replicate (p_l.length:Int).toNat (bF.mk ⟨#[]⟩ aC.z))) (lW (fun (v0,l0)=>⟨[(1,.raw (.func (.func 301) #[] #[])),(5,.own 0),(14,.lf (.rows 22 (p_l.map bF.lf))),(15,.i_ (p_l.length:Int)),(16,.i_ v0)],[.row 217 22 (l0.map bF.lf)]⟩) (by kernel_rfl) rfl fun v_=>by kernel_rfl) fun r0 _ =>
 .ret ⟨[.frz 0],[0],[],0⟩ (r0)
theorem Ua (R_:RB5) (p_l:List bF) : FH (Mo.den (OI R_ p_l)) 300 [.lf (.rows 22 (p_l.map bF.lf)),.raw (.func (.func 301) #[] #[])] [] (fun r=>.lf (.rows 22 (r.map bF.lf))) (fun _=>[]) := gy Tryz.func300 (by kernel_rfl) (fun _=>rfl) (by kernel_rfl)
def D6 (R_:RB5) (p_l:List aC) : (Int × (List aC)) → Mo ((Int × (List aC)) ⊕ ((List aC))) := fun (v0,l0) =>
 .iB (decide ((v0:Int) < (p_l.length:Int))) (.ask (cO p_l v0) fun x0 h0 =>
 .say [.row (aC.lf1 x0)] (ok1 (bf aC.aT h0)) <|
 .cl (R_.ok1 x0) fun r0 _ =>
 .ask (cO l0 v0) fun x1 h1 =>
 .say [.row (aC.lf1 x1),.rows ((l0.set v0.toNat r0).map aC.lf)] (okc (bM aC.aT h1) (okc (st_ aC.aT l0 v0.toNat r0) (ok1 ((bf aC.aT h1).2)))) <|
 .rt [1,5,14,15,16] 1 (.inl (IntKind.wrap .i64 (v0 + 1),l0.set v0.toNat r0))) <|
 .rt [5] 1 (.inr (l0))
def OJ (R_:RB5) (p_l:List aC) (v0:Int) (l0:List aC) : Option (((List aC))) := dF (fun v_=>(D6 R_ p_l v_).den) FU (v0,l0)
def OL (R_:RB5) (p_l:List aC) : Mo (List aC) :=
 .say [.num p_l.length] (ok1 (ln_ p_l aC.lf)) <|
 .ite ((p_l.length:Int) == 0) (fun c0 =>
 .say [.br true] (ok1 c0) <|
 .ret ⟨[.nil 0 21,.tod 0],[0],[],0⟩ ([])) fun c0 =>
 .say [.br false,.num p_l.length,.rows ((List.replicate (p_l.length:Int).toNat aC.z).map aC.lf),.num p_l.length] (okc c0 (okc (ln_ p_l aC.lf) (ok1 (rp_ aC.aT (p_l.length:Int).toNat aC.z)))) <|
 .grd ((0:Int) ≤ (p_l.length:Int) ∧ 312 * (p_l.length:Int).toNat ≤ 281474976710656 ∧ (p_l.length:Int).toNat ≤ maxLen) fun h0 =>
 .say [] (okc (mk_ (p_l.length:Int) h0) (ok1 (ln_ p_l aC.lf))) <|
 .lp Tryz.f302 0 [1,1,1,0,1,0] 0 [1,5,14,15,16] 1 (.exit 0) (fun r_=>⟨[(5,.own 0)],[.row 35 21 (r_.map aC.lf)]⟩) (OJ R_ p_l 0 (List.replicate (p_l.length:Int).toNat aC.z)) (lW (fun (v0,l0)=>⟨[(1,.raw (.func (.func 256) #[] #[])),(5,.own 0),(14,.lf (.rows 21 (p_l.map aC.lf))),(15,.i_ (p_l.length:Int)),(16,.i_ v0)],[.row 35 21 (l0.map aC.lf)]⟩) (by kernel_rfl) rfl fun v_=>by kernel_rfl) fun r0 _ =>
 .ret ⟨[.frz 0],[0],[],0⟩ (r0)
theorem Ub (R_:RB5) (p_l:List aC) : FH (Mo.den (OL R_ p_l)) 302 [.lf (.rows 21 (p_l.map aC.lf)),.raw (.func (.func 256) #[] #[])] [] (fun r=>.lf (.rows 21 (r.map aC.lf))) (fun _=>[]) := gy Tryz.func302 (by kernel_rfl) (fun _=>rfl) (by kernel_rfl)
def Hf (R_:RB5) (p_p:bF) : Mo (bF) :=
 .say [.order [(true,0),(true,1),(true,2),(true,3),(false,4),(true,5),(false,6)] (some 6) []] ok0 <|
 .cl (R_.ok1 p_p.gV) fun r0 _ =>
 .ret (cZ 1) (bF.mk p_p.fName r0)
theorem OM (R_:RB5) (p_p:bF) : FV (Mo.den (Hf R_ p_p)) 301 [.dat (bF.lf1 p_p)] (fun r=>.dat (bF.lf1 r)) := eG Tryz.func301 (by kernel_rfl) (fun _=>rfl) (by kernel_rfl)
def jc:Nat → RB5
 | 0=>{ m1 := fun p_s=>none,ok1 := fun _ _ h=>(by cases h),m2 := fun p_l=>none,ok2 := fun _ _ h=>(by cases h),m3 := fun p_l=>none,ok3 := fun _ _ h=>(by cases h),m4 := fun p_p=>none,ok4 := fun _ _ h=>(by cases h) }
 | n_ + 1=>{ m1 := fun p_s=>Mo.den (OG (jc n_) p_s),ok1 := fun p_s r h=>TY (jc n_) p_s r h,m2 := fun p_l=>Mo.den (OI (jc n_) p_l),ok2 := fun p_l r h=>Ua (jc n_) p_l r h,m3 := fun p_l=>Mo.den (OL (jc n_) p_l),ok3 := fun p_l r h=>Ub (jc n_) p_l r h,m4 := fun p_p=>Mo.den (Hf (jc n_) p_p),ok4 := OM (jc n_) }
def Q67 (p_s:aC) : Option (aC) := (jc FU).m1 p_s
theorem Xn (p_s:aC) : FV (Q67 p_s) 256 [.dat (aC.lf1 p_s)] (fun r=>.dat (aC.lf1 r)) := (jc FU).ok1 p_s
def Vo (p_d:bZ) : Mo (bZ) :=
 .cH [] (Xm p_d.jv) fun r0 _ =>
 .ask (Q67 p_d.gV) fun r1 h0 =>
 .say [.res (.dat (aC.lf1 r1)),.at_ 0 0,.frz 2] (ok1 (Xn _ _ h0)) <|
 .ret (cZ 1) (bZ.mk p_d.fName r0 r1 p_d.BJ p_d.vY)
def Q94 (p_d:bZ) : Option (bZ) := Mo.den (Vo p_d)
theorem Xo (p_d:bZ) : FV (Q94 p_d) 210 [.dat (bZ.lf1 p_d)] (fun r=>.dat (bZ.lf1 r)) := eG Tryz.func210 (by kernel_rfl) (fun _=>rfl) (by kernel_rfl)
def Vp (p_l:List Int) : Mo (List Int) :=
 .say [.rows (p_l.map lfI)] (ok1 (by simp [lfI,lfK] : p_l.map lfI = [] ++ (p_l.map lfI))) <|
 .grd ((([] : List Int).length + p_l.length) * 8 ≤ 140737488355328) fun h0 =>
 .say [] (ok1 (cq_ lfI h0)) <|
 .ret ⟨[.mvn 0],[0],[(1,0)],1⟩ (p_l)
def Q73 (p_l:List Int) : Option (List Int) := Mo.den (Vp p_l)
theorem Hg (p_l:List Int) : FH (Q73 p_l) 122 [.lf (.rows 1 (p_l.map lfI))] [] (fun _=>.own 0) (fun r=>[.row 3 1 (r.map lfI)]) := gy Tryz.func122 (by kernel_rfl) (fun _=>rfl) (by kernel_rfl)
structure RB1 where
 m1:(p_w:ay) → Option (ay)
 ok1:∀ p_w,FV (m1 p_w) 165 [.dat (ay.lf1 p_w)] (fun r=>.dat (ay.lf1 r))
 m2:(p_l:List ay) → Option (List ay)
 ok2:∀ p_l,FH (m2 p_l) 212 [.lf (.rows 78 (p_l.map ay.lf)),.raw (.func (.func 165) #[] #[])] [] (fun r=>.lf (.rows 78 (r.map ay.lf))) (fun _=>[])
def OO (R_:RB1) (p_w:ay) : Mo (ay) :=
 .cl (qo p_w.kY) fun r0 _ =>
 .cl (qo p_w.jh) fun r1 _ =>
 .cl (qo p_w.fO) fun r2 _ =>
 .cl (Xo p_w.kZ) fun r3 _ =>
 .cl (OD p_w.aY) fun r4 _ =>
 .cH [] (R_.ok2 p_w.dH) fun r5 _ =>
 .ask (Q73 p_w.fD) fun r6 h0 =>
 .say [.iU [] (.own 0) [.row 3 1 (r6.map lfI)],.at_ 0 0,.frz 2] (ok1 (Hg _ _ h0)) <|
 .ret (cZ 1) (ay.mk p_w.bT p_w.iI r0 r1 r2 r3 r4 p_w.ng p_w.dS r5 r6 p_w.gK)
theorem Uc (R_:RB1) (p_w:ay) : FV (Mo.den (OO R_ p_w)) 165 [.dat (ay.lf1 p_w)] (fun r=>.dat (ay.lf1 r)) := eG Tryz.func165 (by kernel_rfl) (fun _=>rfl) (by kernel_rfl)
def D7 (R_:RB1) (p_l:List ay) : (Int × (List ay)) → Mo ((Int × (List ay)) ⊕ ((List ay))) := fun (v0,l0) =>
 .iB (decide ((v0:Int) < (p_l.length:Int))) (.ask (cO p_l v0) fun x0 h0 =>
 .say [.row (ay.lf1 x0)] (ok1 (bf ay.aT h0)) <|
 .cl (R_.ok1 x0) fun r0 _ =>
 .ask (cO l0 v0) fun x1 h1 =>
 .say [.row (ay.lf1 x1),.rows ((l0.set v0.toNat r0).map ay.lf)] (okc (bM ay.aT h1) (okc (st_ ay.aT l0 v0.toNat r0) (ok1 ((bf ay.aT h1).2)))) <|
 .rt [1,5,14,15,16] 1 (.inl (IntKind.wrap .i64 (v0 + 1),l0.set v0.toNat r0))) <|
 .rt [5] 1 (.inr (l0))
def OQ (R_:RB1) (p_l:List ay) (v0:Int) (l0:List ay) : Option (((List ay))) := dF (fun v_=>(D7 R_ p_l v_).den) FU (v0,l0)
def OT (R_:RB1) (p_l:List ay) : Mo (List ay) :=
 .say [.num p_l.length] (ok1 (ln_ p_l ay.lf)) <|
 .ite ((p_l.length:Int) == 0) (fun c0 =>
 .say [.br true] (ok1 c0) <|
 .ret ⟨[.nil 0 78,.tod 0],[0],[],0⟩ ([])) fun c0 =>
 .say [.br false,.num p_l.length,.rows ((List.replicate (p_l.length:Int).toNat ay.z).map ay.lf),.num p_l.length] (okc c0 (okc (ln_ p_l ay.lf) (ok1 (rp_ ay.aT (p_l.length:Int).toNat ay.z)))) <|
 .grd ((0:Int) ≤ (p_l.length:Int) ∧ 1168 * (p_l.length:Int).toNat ≤ 281474976710656 ∧ (p_l.length:Int).toNat ≤ maxLen) fun h0 =>
 .say [] (okc (mk_ (p_l.length:Int) h0) (ok1 (ln_ p_l ay.lf))) <|
 .lp Tryz.f212 0 [1,1,1,0,1,0] 0 [1,5,14,15,16] 1 (.exit 0) (fun r_=>⟨[(5,.own 0)],[.row 52 78 (r_.map ay.lf)]⟩) (OQ R_ p_l 0 (List.replicate (p_l.length:Int).toNat ay.z)) (lW (fun (v0,l0)=>⟨[(1,.raw (.func (.func 165) #[] #[])),(5,.own 0),(14,.lf (.rows 78 (p_l.map ay.lf))),(15,.i_ (p_l.length:Int)),(16,.i_ v0)],[.row 52 78 (l0.map ay.lf)]⟩) (by kernel_rfl) rfl fun v_=>by kernel_rfl) fun r0 _ =>
 .ret ⟨[.frz 0],[0],[],0⟩ (r0)
theorem Ud (R_:RB1) (p_l:List ay) : FH (Mo.den (OT R_ p_l)) 212 [.lf (.rows 78 (p_l.map ay.lf)),.raw (.func (.func 165) #[] #[])] [] (fun r=>.lf (.rows 78 (r.map ay.lf))) (fun _=>[]) := gy Tryz.func212 (by kernel_rfl) (fun _=>rfl) (by kernel_rfl)
def mV:Nat → RB1
 | 0=>{ m1 := fun p_w=>none,ok1 := fun _ _ h=>(by cases h),m2 := fun p_l=>none,ok2 := fun _ _ h=>(by cases h) }
 | n_ + 1=>{ m1 := fun p_w=>Mo.den (OO (mV n_) p_w),ok1 := fun p_w r h=>Uc (mV n_) p_w r h,m2 := fun p_l=>Mo.den (OT (mV n_) p_l),ok2 := Ud (mV n_) }
def Q77 (p_w:ay) : Option (ay) := (mV FU).m1 p_w
theorem Xp (p_w:ay) : FV (Q77 p_w) 165 [.dat (ay.lf1 p_w)] (fun r=>.dat (ay.lf1 r)) := (mV FU).ok1 p_w
def Vq (p_e:ak) : Mo (ak) :=
 .cl (Xp p_e.qm) fun r0 _ =>
 .ret (cZ 1) (ak.mk p_e.aJ p_e.dS p_e.nY p_e.vZ r0)
def Q89 (p_e:ak) : Option (ak) := Mo.den (Vq p_e)
theorem Xq (p_e:ak) : FV (Q89 p_e) 121 [.dat (ak.lf1 p_e)] (fun r=>.dat (ak.lf1 r)) := eG Tryz.func121 (by kernel_rfl) (fun _=>rfl) (by kernel_rfl)
def D8 (p_l:List ak) : (Int × (List ak)) → Mo ((Int × (List ak)) ⊕ ((List ak))) := fun (v0,l0) =>
 .iB (decide ((v0:Int) < (p_l.length:Int))) (.ask (cO p_l v0) fun x0 h0 =>
 .say [.row (ak.lf1 x0)] (ok1 (bf ak.aT h0)) <|
 .cl (Xq x0) fun r0 _ =>
 .ask (cO l0 v0) fun x1 h1 =>
 .say [.row (ak.lf1 x1),.rows ((l0.set v0.toNat r0).map ak.lf)] (okc (bM ak.aT h1) (okc (st_ ak.aT l0 v0.toNat r0) (ok1 ((bf ak.aT h1).2)))) <|
 .rt [1,5,14,15,16] 1 (.inl (IntKind.wrap .i64 (v0 + 1),l0.set v0.toNat r0))) <|
 .rt [5] 1 (.inr (l0))
def OU (p_l:List ak) (v0:Int) (l0:List ak) : Option (((List ak))) := dF (fun v_=>(D8 p_l v_).den) FU (v0,l0)
def Vr (p_l:List ak) : Mo (List ak) :=
 .say [.num p_l.length] (ok1 (ln_ p_l ak.lf)) <|
 .ite ((p_l.length:Int) == 0) (fun c0 =>
 .say [.br true] (okc c0 (ok1 (by simp [ak.aT] : (([] : List ak).map ak.lf) = []))) <|
 .ret ⟨[.zo 0 54 82,.iZ 0 (([] : List ak).map ak.lf),.mvn 0],[0],[(1,0)],1⟩ (([] : List ak))) fun c0 =>
 .say [.br false,.num p_l.length,.rows ((List.replicate (p_l.length:Int).toNat (ak.mk 0 0 ⟨#[]⟩ 0 ay.z)).map ak.lf),.num p_l.length] (okc c0 (okc (ln_ p_l ak.lf) (ok1 (rp_ ak.aT (p_l.length:Int).toNat (ak.mk 0 0 ⟨#[]⟩ 0 ay.z))))) <|
 .grd ((0:Int) ≤ (p_l.length:Int) ∧ 1208 * (p_l.length:Int).toNat ≤ 281474976710656 ∧ (p_l.length:Int).toNat ≤ maxLen) fun h0 =>
 .say [] (okc (mk_ (p_l.length:Int) h0) (ok1 (ln_ p_l ak.lf))) <|
 .lp Tryz.f120 0 [1,1,1,0,1,0] 0 [1,5,14,15,16] 1 (.exit 0) (fun r_=>⟨[(5,.own 0)],[.row 54 82 (r_.map ak.lf)]⟩) (OU p_l 0 (List.replicate (p_l.length:Int).toNat (ak.mk 0 0 ⟨#[]⟩ 0 ay.z))) (lW (fun (v0,l0)=>⟨[(1,.raw (.func (.func 121) #[] #[])),(5,.own 0),(14,.lf (.rows 82 (p_l.map ak.lf))),(15,.i_ (p_l.length:Int)),(16,.i_ v0)],[.row 54 82 (l0.map ak.lf)]⟩) (by kernel_rfl) rfl fun v_=>by kernel_rfl) fun r0 _ =>
 .ret ⟨[.mvn 0],[0],[(1,0)],1⟩ (r0)
def Q33 (p_l:List ak) : Option (List ak) := Mo.den (Vr p_l)
theorem Xr (p_l:List ak) : FH (Q33 p_l) 120 [.lf (.rows 82 (p_l.map ak.lf)),.raw (.func (.func 121) #[] #[])] [] (fun _=>.own 0) (fun r=>[.row 54 82 (r.map ak.lf)]) := gy Tryz.func120 (by kernel_rfl) (fun _=>rfl) (by kernel_rfl)
def Vs (p_m:aj) : Mo (aj) :=
 .cH [] (Xr p_m.aB) fun r0 _ =>
 .cH [] (Hg p_m.fNext) fun r1 _ =>
 .cH [] (Hg p_m.aS) fun r2 _ =>
 .ret ⟨[.kill 0,.kill 1,.mvn 2,.mvn 3,.mvn 4],[0],[(5,0),(6,1),(7,2)],3⟩ (aj.l7 (aj.qQ (aj.jY p_m r0) r1) r2)
def Q65 (p_m:aj) : Option (aj) := Mo.den (Vs p_m)
theorem BL (p_m:aj) : FH (Q65 p_m) 88 [.dat (aj.lf1 p_m)] [] (fun r=>tV (.agg ((aj.lf1 r).map AV.lf)) [(8,.own 0),(10,.own 1),(11,.own 2)]) (fun r=>[.row 54 82 (r.aB.map ak.lf),.row 3 1 (r.fNext.map lfI),.row 3 1 (r.aS.map lfI)]) := gy Tryz.func88 (by kernel_rfl) (fun _=>rfl) (by kernel_rfl)
def zY (p_id:Int) : Mo (Int) :=
 .ret (cZ 1) (IntKind.wrap .i64 (10 + (IntKind.wrap .i64 (3 * p_id))))
def Q57 (p_id:Int) : Option (Int) := Mo.den (zY p_id)
theorem BM (p_id:Int) : FV (Q57 p_id) 62 [.i_ p_id] (fun r=>.i_ r) := eG Tryz.func62 (by kernel_rfl) (fun _=>rfl) (by kernel_rfl)
def oh (p_m:aj) (p_term:Int) : Mo (Int) :=
 .iB (p_m.bQ == 2) (.cl (BM p_m.fID) fun r0 _ =>
 .rt [1,2,4] 5 (r0)) <|
 .rt [1,2,4] 5 (p_m.dU)
def xU (p_m:aj) (p_term:Int) : Option (Int) := Mo.den (oh p_m p_term)
def xW (p_m:aj) (p_term:Int) (r_:Int) : St := ⟨[(1,.i_ p_term),(2,.ptr 3 0),(4,.ptr 4 0)],[.row 54 82 (p_m.aB.map ak.lf),.row 3 1 (p_m.fNext.map lfI),.row 3 1 (p_m.aS.map lfI),.box 25 (ag_ (aj.lf1 p_m) [(6,.i_ r_),(8,.own 0),(10,.own 1),(11,.own 2)]),.box 25 (Z25)]⟩
theorem OV {p_m:aj} {p_term:Int} {r_:Int} (h:xU p_m p_term = some r_) : jq Tryz.f100 3 [1,1,0,1] (.normal) (xW p_m p_term r_) ⟨[(1,.i_ p_term),(2,.ptr 3 0),(4,.ptr 4 0),(12,.lf (.bool (p_m.bQ == 2)))],[.row 54 82 (p_m.aB.map ak.lf),.row 3 1 (p_m.fNext.map lfI),.row 3 1 (p_m.aS.map lfI),.box 25 (ag_ (aj.lf1 p_m) [(8,.own 0),(10,.own 1),(11,.own 2)]),.box 25 (Z25)]⟩ :=
 jw fJ (oh p_m p_term) (fun _=>.normal) (xW p_m p_term) (by kernel_rfl) h
def Jg (p_m:aj) (p_term:Int) : Mo (aj) :=
 .iB (decide ((p_term:Int) ≤ p_m.aJ)) (.ret ⟨[.kill 3,.kill 4,.mvn 0,.mvn 1,.mvn 2],[0],[(5,3),(6,4),(7,5)],6⟩ (p_m)) <|
 .ask (xU p_m p_term) fun r0 h0 =>
 .say [.pt_ 1 [1,2,4,12] 5 (.normal) (xW p_m p_term r0)] (okc (OV h0) (okc (by simp [lfI,lfK] : (([] : List Int).map lfI) = []) (ok1 (by simp [lfI,lfK] : (([] : List Int).map lfI) = [])))) <|
 .ret ⟨[.SE 0 10 3,.SE 0 11 3,.kill 1,.kill 2,.kill 3,.kill 4,.iZ 5 (([] : List Int).map lfI),.iZ 6 (([] : List Int).map lfI),.mvn 0,.mvn 5,.mvn 6],[0],[(7,3),(8,4),(9,5)],6⟩ (aj.mk p_m.fID p_m.bI p_term (-1) 0 (-1) r0 0 p_m.aB p_m.au ([] : List Int) ([] : List Int))
def Q19 (p_m:aj) (p_term:Int) : Option (aj) := Mo.den (Jg p_m p_term)
theorem Ho (p_m:aj) (p_term:Int) : FH (Q19 p_m p_term) 100 [tV (.agg ((aj.lf1 p_m).map AV.lf)) [(8,.own 0),(10,.own 1),(11,.own 2)],.i_ p_term] [.row 54 82 (p_m.aB.map ak.lf),.row 3 1 (p_m.fNext.map lfI),.row 3 1 (p_m.aS.map lfI)] (fun r=>tV (.agg ((aj.lf1 r).map AV.lf)) [(8,.own 3),(10,.own 4),(11,.own 5)]) (fun r=>[.dead,.dead,.dead,.row 54 82 (r.aB.map ak.lf),.row 3 1 (r.fNext.map lfI),.row 3 1 (r.aS.map lfI)]) := gy Tryz.func100 (by kernel_rfl) (fun _=>rfl) (by kernel_rfl)
def OW (p_m:aj) (p_term:Int) : Mo (aj) :=
 .cH [] (BL p_m) fun r0 _ =>
 .cH [2,3,4] (Ho r0 p_term) fun r1 _ =>
 .ret ⟨[.kill 0,.kill 1,.mvn 5,.mvn 6,.mvn 7],[0],[(8,0),(9,1),(10,2)],3⟩ (r1)
def Q87 (p_m:aj) (p_term:Int) : Option (aj) := Mo.den (OW p_m p_term)
theorem Hq (p_m:aj) (p_term:Int) : FH (Q87 p_m p_term) 72 [.dat (aj.lf1 p_m),.i_ p_term] [] (fun r=>tV (.agg ((aj.lf1 r).map AV.lf)) [(8,.own 0),(10,.own 1),(11,.own 2)]) (fun r=>[.row 54 82 (r.aB.map ak.lf),.row 3 1 (r.fNext.map lfI),.row 3 1 (r.aS.map lfI)]) := gy Tryz.func72 (by kernel_rfl) (fun _=>rfl) (by kernel_rfl)
def Vt (p_m:aj) : Mo (aj) :=
 .cH [] (Hq p_m p_m.aJ) fun r0 _ =>
 .ret ⟨[.kill 0,.kill 1,.mvn 2,.mvn 3,.mvn 4],[0],[(5,0),(6,1),(7,2)],3⟩ (r0)
def Q38 (p_m:aj) : Option (aj) := Mo.den (Vt p_m)
theorem mg (p_m:aj) : FH (Q38 p_m) 36 [.dat (aj.lf1 p_m)] [] (fun r=>tV (.agg ((aj.lf1 r).map AV.lf)) [(8,.own 0),(10,.own 1),(11,.own 2)]) (fun r=>[.row 54 82 (r.aB.map ak.lf),.row 3 1 (r.fNext.map lfI),.row 3 1 (r.aS.map lfI)]) := gy Tryz.func36 (by kernel_rfl) (fun _=>rfl) (by kernel_rfl)
def YI  : Mo (bU) :=
 .ret (cZ 1) (bU.mk (-1) 0 0 [])
def Q55  : Option (bU) := Mo.den (YI )
theorem tY:FV (Q55 ) 42 [] (fun r=>.dat (bU.lf1 r)) := eG Tryz.func42 (by kernel_rfl) (fun _=>rfl) (by kernel_rfl)
def Vu (p_l:List ak) : Mo (Int) :=
 .say [.num p_l.length] (ok1 (ln_ p_l ak.lf)) <|
 .ite ((p_l.length:Int) == 0) (fun c0 =>
 .say [.br true] (ok1 c0) <|
 .ret (cZ 1) (0)) fun c0 =>
 .say [.br false,.num p_l.length] (okc c0 (ok1 (ln_ p_l ak.lf))) <|
 .ask (cO p_l (IntKind.wrap .i64 ((p_l.length:Int) - 1))) fun x0 h0 =>
 .say [.row (ak.lf1 x0)] (ok1 (bf ak.aT h0)) <|
 .ret (cZ 1) (x0.aJ)
def Q86 (p_l:List ak) : Option (Int) := Mo.den (Vu p_l)
theorem OX (p_l:List ak) : FV (Q86 p_l) 91 [.lf (.rows 82 (p_l.map ak.lf))] (fun r=>.i_ r) := eG Tryz.func91 (by kernel_rfl) (fun _=>rfl) (by kernel_rfl)
def D9 (p_x:ah) (r0:aj) (r1:Int) : Mo (Bool) :=
 .iG 14004 (decide ((r1:Int) < p_x.iF)) (.rt [2,3,4,40] 9 (true)) <|
 .ite (p_x.iF == r1) (fun c0 =>
 .say [.gd 14009 true,.num r0.aB.length] (okc c0 (ok1 (ln_ r0.aB ak.lf))) <|
 .rt [2,3,4,40] 9 (decide (((r0.aB.length:Int) : Int) ≤ p_x.aY))) fun c0 =>
 .say [.gd 14009 false] (ok1 c0) <|
 .rt [2,3,4,40] 9 (false)
def Ea (p_x:ah) (r0:aj) (r1:Bool) : Mo (Unit) :=
 .rt [2,3,4,7] 9 ()
def zZ (p_x:ah) (r0:aj) (r1:Bool) : Mo (Bool) :=
 .iG 16005 (p_x.aJ == r0.aJ) (.iG 16009 (r0.fZ == (-1)) (.rt [2,3,4,7,57] 9 (true)) <|
 .rt [2,3,4,7,57] 9 (r0.fZ == p_x.bP)) <|
 .rt [2,3,4,7,57] 9 (false)
def Aa (p_x:ah) (r0:aj) (r1:Bool) (r2:Bool) : Mo (Bool) :=
 .iG 16017 (r2) (.rt [2,3,4,60] 9 (r1)) <|
 .rt [2,3,4,60] 9 (false)
def Ac (p_x:ah) (r0:aj) (r1:Bool) : Mo (Unit) :=
 .rt [2,3,4,8] 9 ()
def tZ (p_x:ah) (r0:aj) (r1:Bool) : Mo ((Int × Int)) :=
 .iB (r1) (.cl (BM r0.fID) fun r2 _ =>
 .rt [2,3,4,8] 9 (p_x.bP,r2)) <|
 .rt [2,3,4,8] 9 (r0.fZ,r0.dU)
def BN (p_x:ah) (r0:aj) (r1:Bool) : Option ((Int × Int)) := Mo.den (tZ p_x r0 r1)
def uf (p_x:ah) (r0:aj) (r1:Bool) (r_:(Int × Int)) : St := ⟨[(2,.ptr 0 0),(3,.ptr 1 0),(4,.ptr 2 0),(8,.b_ r1)],[.box 25 (ag_ (aj.lf1 r0) [(3,.i_ r_.1),(6,.i_ r_.2),(10,.own 7),(11,.own 8)]),.box 63 (.dat (ah.lf1 p_x)),.box 25 (Z25),.dead,.dead,.dead,.dead,.row 3 1 (r0.fNext.map lfI),.row 3 1 (r0.aS.map lfI)]⟩
theorem Kr {p_x:ah} {r0:aj} {r1:Bool} {r_:(Int × Int)} (h:BN p_x r0 r1 = some r_) : jq Tryz.f79 0 [1,1,1,1,1,1,1,0,1] (.normal) (uf p_x r0 r1 r_) ⟨[(2,.ptr 0 0),(3,.ptr 1 0),(4,.ptr 2 0),(8,.b_ r1),(61,.b_ r1)],[.box 25 (ag_ (aj.lf1 r0) [(10,.own 7),(11,.own 8)]),.box 63 (.dat (ah.lf1 p_x)),.box 25 (Z25),.dead,.dead,.dead,.dead,.row 3 1 (r0.fNext.map lfI),.row 3 1 (r0.aS.map lfI)]⟩ :=
 jw fJ (tZ p_x r0 r1) (fun _=>.normal) (uf p_x r0 r1) (by kernel_rfl) h
def Vw (p_m:aj) (p_x:ah) : Mo (aj × List ah) :=
 .cH [] (BL p_m) fun r0 _ =>
 .ite (p_x.bT != 1) (fun c0 =>
 .say [.br true,.at_ 0 0,.frz 3,.frz 4,.frz 5] (ok1 c0) <|
 .ret ⟨[.nil 1 9,.tod 1],[0,1],[],0⟩ (r0,[])) fun c0 =>
 .say [.br false] (ok1 c0) <|
 .ask (Q19 r0 p_x.aJ) fun r1 h0 =>
 .say [.iU [3,4,5] (ag_ (aj.lf1 r1) [(8,.own 3),(10,.own 4),(11,.own 5)]) [.dead,.dead,.dead,.row 54 82 (r1.aB.map ak.lf),.row 3 1 (r1.fNext.map lfI),.row 3 1 (r1.aS.map lfI)],.at_ 12 2,.frz 6] (ok1 (Ho _ _ _ h0)) <|
 .cl (OX r1.aB) fun r2 _ =>
 .sj Tryz.f79 0 [1,1,1,1,1,0] [0,1,2,3,4,5,6,7,8,9,10,11,12,13,14,15,16,17] 6 18 [2,3,4,6] 9 (fun r_=>⟨[(2,.ptr 0 0),(3,.ptr 1 0),(4,.ptr 2 0),(40,.b_ r_)],[.box 25 (ag_ (aj.lf1 r1) [(10,.own 7),(11,.own 8)]),.box 63 (.dat (ah.lf1 p_x)),.box 25 (Z25),.dead,.dead,.dead,.dead,.row 3 1 (r1.fNext.map lfI),.row 3 1 (r1.aS.map lfI)]⟩) ⟨[(2,.ptr 0 0),(3,.ptr 1 0),(4,.ptr 2 0),(6,.i_ r2)],[.box 25 (ag_ (aj.lf1 r1) [(10,.own 7),(11,.own 8)]),.box 63 (.dat (ah.lf1 p_x)),.box 25 (Z25),.dead,.dead,.dead,.dead,.row 3 1 (r1.fNext.map lfI),.row 3 1 (r1.aS.map lfI)]⟩ (D9 p_x r1 r2).den (sW (by kernel_rfl)) fun r3 _ =>
 .sj Tryz.f79 0 [1,1,1,1,1,0] [18] 6 1 [2,3,4,40] 9 (fun r_=>⟨[(2,.ptr 0 0),(3,.ptr 1 0),(4,.ptr 2 0),(7,.b_ r3)],[.box 25 (ag_ (aj.lf1 r1) [(10,.own 7),(11,.own 8)]),.box 63 (.dat (ah.lf1 p_x)),.box 25 (Z25),.dead,.dead,.dead,.dead,.row 3 1 (r1.fNext.map lfI),.row 3 1 (r1.aS.map lfI)]⟩) ⟨[(2,.ptr 0 0),(3,.ptr 1 0),(4,.ptr 2 0),(40,.b_ r3)],[.box 25 (ag_ (aj.lf1 r1) [(10,.own 7),(11,.own 8)]),.box 63 (.dat (ah.lf1 p_x)),.box 25 (Z25),.dead,.dead,.dead,.dead,.row 3 1 (r1.fNext.map lfI),.row 3 1 (r1.aS.map lfI)]⟩ (Ea p_x r1 r3).den (sW (by kernel_rfl)) fun r4 _ =>
 .sj Tryz.f79 0 [1,1,1,1,1,1,0] [0,1,2,3,4,5,6,7,8,9,10,11,12,13,14,15,16] 7 17 [2,3,4,7] 9 (fun r_=>⟨[(2,.ptr 0 0),(3,.ptr 1 0),(4,.ptr 2 0),(7,.b_ r3),(57,.b_ r_)],[.box 25 (ag_ (aj.lf1 r1) [(10,.own 7),(11,.own 8)]),.box 63 (.dat (ah.lf1 p_x)),.box 25 (Z25),.dead,.dead,.dead,.dead,.row 3 1 (r1.fNext.map lfI),.row 3 1 (r1.aS.map lfI)]⟩) ⟨[(2,.ptr 0 0),(3,.ptr 1 0),(4,.ptr 2 0),(7,.b_ r3)],[.box 25 (ag_ (aj.lf1 r1) [(10,.own 7),(11,.own 8)]),.box 63 (.dat (ah.lf1 p_x)),.box 25 (Z25),.dead,.dead,.dead,.dead,.row 3 1 (r1.fNext.map lfI),.row 3 1 (r1.aS.map lfI)]⟩ (zZ p_x r1 r3).den (sW (by kernel_rfl)) fun r5 _ =>
 .sj Tryz.f79 0 [1,1,1,1,1,1,0] [17,18,19] 7 3 [2,3,4,7,57] 9 (fun r_=>⟨[(2,.ptr 0 0),(3,.ptr 1 0),(4,.ptr 2 0),(60,.b_ r_)],[.box 25 (ag_ (aj.lf1 r1) [(10,.own 7),(11,.own 8)]),.box 63 (.dat (ah.lf1 p_x)),.box 25 (Z25),.dead,.dead,.dead,.dead,.row 3 1 (r1.fNext.map lfI),.row 3 1 (r1.aS.map lfI)]⟩) ⟨[(2,.ptr 0 0),(3,.ptr 1 0),(4,.ptr 2 0),(7,.b_ r3),(57,.b_ r5)],[.box 25 (ag_ (aj.lf1 r1) [(10,.own 7),(11,.own 8)]),.box 63 (.dat (ah.lf1 p_x)),.box 25 (Z25),.dead,.dead,.dead,.dead,.row 3 1 (r1.fNext.map lfI),.row 3 1 (r1.aS.map lfI)]⟩ (Aa p_x r1 r3 r5).den (sW (by kernel_rfl)) fun r6 _ =>
 .sj Tryz.f79 0 [1,1,1,1,1,1,0] [20] 7 1 [2,3,4,60] 9 (fun r_=>⟨[(2,.ptr 0 0),(3,.ptr 1 0),(4,.ptr 2 0),(8,.b_ r6)],[.box 25 (ag_ (aj.lf1 r1) [(10,.own 7),(11,.own 8)]),.box 63 (.dat (ah.lf1 p_x)),.box 25 (Z25),.dead,.dead,.dead,.dead,.row 3 1 (r1.fNext.map lfI),.row 3 1 (r1.aS.map lfI)]⟩) ⟨[(2,.ptr 0 0),(3,.ptr 1 0),(4,.ptr 2 0),(60,.b_ r6)],[.box 25 (ag_ (aj.lf1 r1) [(10,.own 7),(11,.own 8)]),.box 63 (.dat (ah.lf1 p_x)),.box 25 (Z25),.dead,.dead,.dead,.dead,.row 3 1 (r1.fNext.map lfI),.row 3 1 (r1.aS.map lfI)]⟩ (Ac p_x r1 r6).den (sW (by kernel_rfl)) fun r7 _ =>
 .ask (BN p_x r1 r6) fun r8 h1 =>
 .say [.pt_ 1 [2,3,4,8,61] 9 (.normal) (uf p_x r1 r6 r8),.fQ (.q 0 (.q 1 (.alt 2 (.l 3 (.q 4 .fin)) (.l 3 (.l 2 (.q 4 .fin)))))) none [2,10] [.both [.at_ 26 2,.resv 1,.slot 10] [.at_ 26 3,.resv 1,.slot 10]] [4,5] 11 [(4,.ptr 2 0),(5,.own 10)] [.box 25 (ag_ (aj.lf1 r1) [(3,.i_ r8.1),(6,.i_ r8.2),(10,.own 7),(11,.own 8)]),.box 63 (.dat (ah.lf1 p_x)),.box 25 (ag_ (aj.lf1 r1) [(3,.i_ r8.1),(6,.i_ r8.2),(10,.own 7),(11,.own 8)]),.dead,.dead,.dead,.dead,.row 3 1 (r1.fNext.map lfI),.row 3 1 (r1.aS.map lfI),.box 63 (.agg [.i_ r1.fID,.i_ p_x.bP,.i_ 2,.i_ r1.aJ,.i_ 0,.i_ 0,.i_ 0,.bJ 82,.b_ r6]),.row 63 9 [(ah.lf1 (ah.sOK (ah.gY (ah.dX (ah.sTo (ah.iH ah.z r1.fID) p_x.bP) 2) r1.aJ) r6))]],.at_ 0 0,.frz 7,.frz 8,.Gg 10 ([ah.sOK (ah.gY (ah.dX (ah.sTo (ah.iH ah.z r1.fID) p_x.bP) 2) r1.aJ) r6].map ah.lf)] (okc (Kr h1) (okc (rf_ ⟨[(4,.ptr 2 0),(5,.own 10)],[.box 25 (ag_ (aj.lf1 r1) [(3,.i_ r8.1),(6,.i_ r8.2),(10,.own 7),(11,.own 8)]),.box 63 (.dat (ah.lf1 p_x)),.box 25 (ag_ (aj.lf1 r1) [(3,.i_ r8.1),(6,.i_ r8.2),(10,.own 7),(11,.own 8)]),.dead,.dead,.dead,.dead,.row 3 1 (r1.fNext.map lfI),.row 3 1 (r1.aS.map lfI),.box 63 (.agg [.i_ r1.fID,.i_ p_x.bP,.i_ 2,.i_ r1.aJ,.i_ 0,.i_ 0,.i_ 0,.bJ 82,.b_ r6]),.row 63 9 [(ah.lf1 (ah.sOK (ah.gY (ah.dX (ah.sTo (ah.iH ah.z r1.fID) p_x.bP) 2) r1.aJ) r6))]]⟩) (okc (rf_ ⟨[(4,.ptr 2 0),(5,.own 10)],[.box 25 (ag_ (aj.lf1 r1) [(3,.i_ r8.1),(6,.i_ r8.2),(10,.own 7),(11,.own 8)]),.box 63 (.dat (ah.lf1 p_x)),.box 25 (ag_ (aj.lf1 r1) [(3,.i_ r8.1),(6,.i_ r8.2),(10,.own 7),(11,.own 8)]),.dead,.dead,.dead,.dead,.row 3 1 (r1.fNext.map lfI),.row 3 1 (r1.aS.map lfI),.box 63 (.agg [.i_ r1.fID,.i_ p_x.bP,.i_ 2,.i_ r1.aJ,.i_ 0,.i_ 0,.i_ 0,.bJ 82,.b_ r6]),.row 63 9 [(ah.lf1 (ah.sOK (ah.gY (ah.dX (ah.sTo (ah.iH ah.z r1.fID) p_x.bP) 2) r1.aJ) r6))]]⟩) (ok1 (by simp [ah.aT] : [ah.sOK (ah.gY (ah.dX (ah.sTo (ah.iH ah.z r1.fID) p_x.bP) 2) r1.aJ) r6].map ah.lf = [(ah.lf1 (ah.sOK (ah.gY (ah.dX (ah.sTo (ah.iH ah.z r1.fID) p_x.bP) 2) r1.aJ) r6))]))))) <|
 .ret (cZ 2) (aj.fH (aj.zV r1 r8.1) r8.2,[ah.sOK (ah.gY (ah.dX (ah.sTo (ah.iH ah.z r1.fID) p_x.bP) 2) r1.aJ) r6])
def Q14 (p_m:aj) (p_x:ah) : Option (aj × List ah) := Mo.den (Vw p_m p_x)
theorem Xt (p_m:aj) (p_x:ah) : FV (Q14 p_m p_x) 79 [.dat (aj.lf1 p_m),.dat (ah.lf1 p_x)] (fun r=>.tup [.dat (aj.lf1 r.1),.lf (.rows 9 (r.2.map ah.lf))]) := eG Tryz.func79 (by kernel_rfl) (fun _=>rfl) (by kernel_rfl)
def Vx (p_x:ah) (p_b0:aA) : Mo (aA) :=
 .say [.order [(true,0),(true,1),(true,2),(true,3),(true,4),(true,6),(false,5),(false,7),(true,8),(true,9),(true,10),(true,11),(true,12),(false,13),(true,14),(true,15),(false,16)] (some 16) [0,1,2,3],.at_ 4 7,.frz 1,.frz 2,.frz 3] ok0 <|
 .cl (Xt p_b0.aG p_x) fun r0 _ =>
 .ret ⟨[.norm 0,.kill 4,.kill 5],[],[],5⟩ (aA.mk r0.1 r0.2 p_b0.dP)
def Q98 (p_x:ah) (p_b0:aA) : Option (aA) := Mo.den (Vx p_x p_b0)
theorem Xu (p_x:ah) (p_b0:aA) : FH (Q98 p_x p_b0) 43 [.ptr 0 0,.dat (ah.lf1 p_x)] [.box 97 (ag_ (aA.lf1 p_b0) [(8,.own 1),(10,.own 2),(11,.own 3),(12,.own 4)]),.row 54 82 (p_b0.aG.aB.map ak.lf),.row 3 1 (p_b0.aG.fNext.map lfI),.row 3 1 (p_b0.aG.aS.map lfI),.row 63 9 (p_b0.bD.map ah.lf)] (fun _=>.tup []) (fun r=>[.box 97 (.dat (aA.lf1 r)),.dead,.dead,.dead,.dead]) := gy Tryz.func43 (by kernel_rfl) (fun _=>rfl) (by kernel_rfl)
def xX (p_m:aj) : Mo (Bool) :=
 .iG 4003 (decide ((1:Int) ≤ p_m.bI)) (.rt [1,2,10] 1 (decide ((p_m.bI:Int) ≤ 7))) <|
 .rt [1,2,10] 1 (false)
def xY (p_m:aj) (r0:Bool) : Mo (Bool) :=
 .iG 4008 (r0) (.rt [1,2,15] 1 (decide ((0:Int) ≤ p_m.fID))) <|
 .rt [1,2,15] 1 (false)
def ug (p_m:aj) (r0:Bool) : Mo (Bool) :=
 .iG 4013 (r0) (.ret ⟨[.kill 0],[2,22],[],1⟩ (decide ((p_m.fID:Int) < p_m.bI))) <|
 .ret ⟨[.kill 0],[2,22],[],1⟩ (false)
def uh (r0:Bool) : Mo (Unit) :=
 .rt [2] 1 ()
def OY (p_m:aj) : Mo (Bool) :=
 .sj Tryz.f89 0 [1,0] [0,1,2,3,4,5,6,7] 1 8 [1,2] 1 (fun r_=>⟨[(1,.ptr 0 0),(2,.b_ false),(10,.b_ r_)],[.box 25 (.dat (aj.lf1 p_m))]⟩) ⟨[(1,.ptr 0 0),(2,.b_ false)],[.box 25 (.dat (aj.lf1 p_m))]⟩ (xX p_m).den (sW (by kernel_rfl)) fun r0 _ =>
 .sj Tryz.f89 0 [1,0] [8,9,10,11,12] 1 5 [1,2,10] 1 (fun r_=>⟨[(1,.ptr 0 0),(2,.b_ false),(15,.b_ r_)],[.box 25 (.dat (aj.lf1 p_m))]⟩) ⟨[(1,.ptr 0 0),(2,.b_ false),(10,.b_ r0)],[.box 25 (.dat (aj.lf1 p_m))]⟩ (xY p_m r0).den (sW (by kernel_rfl)) fun r1 _ =>
 .sj Tryz.f89 0 [1,0] [13,14,15,16,17,18,19] 1 7 [1,2,15] 1 (fun r_=>⟨[(2,.b_ false),(22,.b_ r_)],[.dead]⟩) ⟨[(1,.ptr 0 0),(2,.b_ false),(15,.b_ r1)],[.box 25 (.dat (aj.lf1 p_m))]⟩ (ug p_m r1).den (sW (by kernel_rfl)) fun r2 _ =>
 .sj Tryz.f89 0 [1,0] [20] 1 1 [2,22] 1 (fun r_=>⟨[(2,.b_ r2)],[.dead]⟩) ⟨[(2,.b_ false),(22,.b_ r2)],[.dead]⟩ (uh r2).den (sW (by kernel_rfl)) fun r3 _ =>
 .ret (cZ 1) (r2)
def Q25 (p_m:aj) : Option (Bool) := Mo.den (OY p_m)
theorem OZ (p_m:aj) : FV (Q25 p_m) 89 [.dat (aj.lf1 p_m)] (fun r=>.b_ r) := eG Tryz.func89 (by kernel_rfl) (fun _=>rfl) (by kernel_rfl)
def Xv (p_x:Int) : Mo (Int) :=
 .say [] (okc (by decide:(0:Int) ≤ 1) (okc (by decide:(0:Int) ≤ 2) (okc (by decide:(0:Int) ≤ 4) (okc (by decide:(0:Int) ≤ 8) (okc (by decide:(0:Int) ≤ 16) (ok1 (by decide:(0:Int) ≤ 32))))))) <|
 .ret (cZ 1) (bK .and .i64 (IntKind.wrap .i64 (IntKind.wrap .u64 ((IntKind.wrap .u64 ((IntKind.wrap .u64 ((bK .and .u64 (IntKind.wrap .u64 ((dW .u64 (IntKind.wrap .u64 ((bK .and .u64 (dW .u64 (IntKind.wrap .u64 ((bK .and .u64 (dW .u64 p_x 1) 6148914691236517205) + (bK .and .u64 p_x 6148914691236517205))) 2) 3689348814741910323) + (bK .and .u64 (IntKind.wrap .u64 ((bK .and .u64 (dW .u64 p_x 1) 6148914691236517205) + (bK .and .u64 p_x 6148914691236517205))) 3689348814741910323))) 4) + (IntKind.wrap .u64 ((bK .and .u64 (dW .u64 (IntKind.wrap .u64 ((bK .and .u64 (dW .u64 p_x 1) 6148914691236517205) + (bK .and .u64 p_x 6148914691236517205))) 2) 3689348814741910323) + (bK .and .u64 (IntKind.wrap .u64 ((bK .and .u64 (dW .u64 p_x 1) 6148914691236517205) + (bK .and .u64 p_x 6148914691236517205))) 3689348814741910323))))) 1085102592571150095) + (dW .u64 (bK .and .u64 (IntKind.wrap .u64 ((dW .u64 (IntKind.wrap .u64 ((bK .and .u64 (dW .u64 (IntKind.wrap .u64 ((bK .and .u64 (dW .u64 p_x 1) 6148914691236517205) + (bK .and .u64 p_x 6148914691236517205))) 2) 3689348814741910323) + (bK .and .u64 (IntKind.wrap .u64 ((bK .and .u64 (dW .u64 p_x 1) 6148914691236517205) + (bK .and .u64 p_x 6148914691236517205))) 3689348814741910323))) 4) + (IntKind.wrap .u64 ((bK .and .u64 (dW .u64 (IntKind.wrap .u64 ((bK .and .u64 (dW .u64 p_x 1) 6148914691236517205) + (bK .and .u64 p_x 6148914691236517205))) 2) 3689348814741910323) + (bK .and .u64 (IntKind.wrap .u64 ((bK .and .u64 (dW .u64 p_x 1) 6148914691236517205) + (bK .and .u64 p_x 6148914691236517205))) 3689348814741910323))))) 1085102592571150095) 8))) + (dW .u64 (IntKind.wrap .u64 ((bK .and .u64 (IntKind.wrap .u64 ((dW .u64 (IntKind.wrap .u64 ((bK .and .u64 (dW .u64 (IntKind.wrap .u64 ((bK .and .u64 (dW .u64 p_x 1) 6148914691236517205) + (bK .and .u64 p_x 6148914691236517205))) 2) 3689348814741910323) + (bK .and .u64 (IntKind.wrap .u64 ((bK .and .u64 (dW .u64 p_x 1) 6148914691236517205) + (bK .and .u64 p_x 6148914691236517205))) 3689348814741910323))) 4) + (IntKind.wrap .u64 ((bK .and .u64 (dW .u64 (IntKind.wrap .u64 ((bK .and .u64 (dW .u64 p_x 1) 6148914691236517205) + (bK .and .u64 p_x 6148914691236517205))) 2) 3689348814741910323) + (bK .and .u64 (IntKind.wrap .u64 ((bK .and .u64 (dW .u64 p_x 1) 6148914691236517205) + (bK .and .u64 p_x 6148914691236517205))) 3689348814741910323))))) 1085102592571150095) + (dW .u64 (bK .and .u64 (IntKind.wrap .u64 ((dW .u64 (IntKind.wrap .u64 ((bK .and .u64 (dW .u64 (IntKind.wrap .u64 ((bK .and .u64 (dW .u64 p_x 1) 6148914691236517205) + (bK .and .u64 p_x 6148914691236517205))) 2) 3689348814741910323) + (bK .and .u64 (IntKind.wrap .u64 ((bK .and .u64 (dW .u64 p_x 1) 6148914691236517205) + (bK .and .u64 p_x 6148914691236517205))) 3689348814741910323))) 4) + (IntKind.wrap .u64 ((bK .and .u64 (dW .u64 (IntKind.wrap .u64 ((bK .and .u64 (dW .u64 p_x 1) 6148914691236517205) + (bK .and .u64 p_x 6148914691236517205))) 2) 3689348814741910323) + (bK .and .u64 (IntKind.wrap .u64 ((bK .and .u64 (dW .u64 p_x 1) 6148914691236517205) + (bK .and .u64 p_x 6148914691236517205))) 3689348814741910323))))) 1085102592571150095) 8))) 16))) + (dW .u64 (IntKind.wrap .u64 ((IntKind.wrap .u64 ((bK .and .u64 (IntKind.wrap .u64 ((dW .u64 (IntKind.wrap .u64 ((bK .and .u64 (dW .u64 (IntKind.wrap .u64 ((bK .and .u64 (dW .u64 p_x 1) 6148914691236517205) + (bK .and .u64 p_x 6148914691236517205))) 2) 3689348814741910323) + (bK .and .u64 (IntKind.wrap .u64 ((bK .and .u64 (dW .u64 p_x 1) 6148914691236517205) + (bK .and .u64 p_x 6148914691236517205))) 3689348814741910323))) 4) + (IntKind.wrap .u64 ((bK .and .u64 (dW .u64 (IntKind.wrap .u64 ((bK .and .u64 (dW .u64 p_x 1) 6148914691236517205) + (bK .and .u64 p_x 6148914691236517205))) 2) 3689348814741910323) + (bK .and .u64 (IntKind.wrap .u64 ((bK .and .u64 (dW .u64 p_x 1) 6148914691236517205) + (bK .and .u64 p_x 6148914691236517205))) 3689348814741910323))))) 1085102592571150095) + (dW .u64 (bK .and .u64 (IntKind.wrap .u64 ((dW .u64 (IntKind.wrap .u64 ((bK .and .u64 (dW .u64 (IntKind.wrap .u64 ((bK .and .u64 (dW .u64 p_x 1) 6148914691236517205) + (bK .and .u64 p_x 6148914691236517205))) 2) 3689348814741910323) + (bK .and .u64 (IntKind.wrap .u64 ((bK .and .u64 (dW .u64 p_x 1) 6148914691236517205) + (bK .and .u64 p_x 6148914691236517205))) 3689348814741910323))) 4) + (IntKind.wrap .u64 ((bK .and .u64 (dW .u64 (IntKind.wrap .u64 ((bK .and .u64 (dW .u64 p_x 1) 6148914691236517205) + (bK .and .u64 p_x 6148914691236517205))) 2) 3689348814741910323) + (bK .and .u64 (IntKind.wrap .u64 ((bK .and .u64 (dW .u64 p_x 1) 6148914691236517205) + (bK .and .u64 p_x 6148914691236517205))) 3689348814741910323))))) 1085102592571150095) 8))) + (dW .u64 (IntKind.wrap .u64 ((bK .and .u64 (IntKind.wrap .u64 ((dW .u64 (IntKind.wrap .u64 ((bK .and .u64 (dW .u64 (IntKind.wrap .u64 ((bK .and .u64 (dW .u64 p_x 1) 6148914691236517205) + (bK .and .u64 p_x 6148914691236517205))) 2) 3689348814741910323) + (bK .and .u64 (IntKind.wrap .u64 ((bK .and .u64 (dW .u64 p_x 1) 6148914691236517205) + (bK .and .u64 p_x 6148914691236517205))) 3689348814741910323))) 4) + (IntKind.wrap .u64 ((bK .and .u64 (dW .u64 (IntKind.wrap .u64 ((bK .and .u64 (dW .u64 p_x 1) 6148914691236517205) + (bK .and .u64 p_x 6148914691236517205))) 2) 3689348814741910323) + (bK .and .u64 (IntKind.wrap .u64 ((bK .and .u64 (dW .u64 p_x 1) 6148914691236517205) + (bK .and .u64 p_x 6148914691236517205))) 3689348814741910323))))) 1085102592571150095) + (dW .u64 (bK .and .u64 (IntKind.wrap .u64 ((dW .u64 (IntKind.wrap .u64 ((bK .and .u64 (dW .u64 (IntKind.wrap .u64 ((bK .and .u64 (dW .u64 p_x 1) 6148914691236517205) + (bK .and .u64 p_x 6148914691236517205))) 2) 3689348814741910323) + (bK .and .u64 (IntKind.wrap .u64 ((bK .and .u64 (dW .u64 p_x 1) 6148914691236517205) + (bK .and .u64 p_x 6148914691236517205))) 3689348814741910323))) 4) + (IntKind.wrap .u64 ((bK .and .u64 (dW .u64 (IntKind.wrap .u64 ((bK .and .u64 (dW .u64 p_x 1) 6148914691236517205) + (bK .and .u64 p_x 6148914691236517205))) 2) 3689348814741910323) + (bK .and .u64 (IntKind.wrap .u64 ((bK .and .u64 (dW .u64 p_x 1) 6148914691236517205) + (bK .and .u64 p_x 6148914691236517205))) 3689348814741910323))))) 1085102592571150095) 8))) 16))) 32)))) 127)
def ZB (p_x:Int) : Option (Int) := Mo.den (Xv p_x)
theorem Ue (p_x:Int) : FV (ZB p_x) 163 [.lf (.int .u64 p_x)] (fun r=>.i_ r) := eG Tryz.func163 (by kernel_rfl) (fun _=>rfl) (by kernel_rfl)
def YJ (p_x:Int) : Mo (Int) :=
 .say [.br false] (ok1 (rfl:false = false)) <|
 .cl (Ue p_x) fun r0 _ =>
 .ret (cZ 1) (r0)
def Q93 (p_x:Int) : Option (Int) := Mo.den (YJ p_x)
theorem Xw (p_x:Int) : FV (Q93 p_x) 118 [.lf (.int .u64 p_x)] (fun r=>.i_ r) := eG Tryz.func118 (by kernel_rfl) (fun _=>rfl) (by kernel_rfl)
def Eb (p_size:Int) : Mo (Bool) :=
 .iG 4002 (decide ((p_size:Int) < 1)) (.rt [0,8] 0 (true)) <|
 .rt [0,8] 0 (decide ((7:Int) < p_size))
def Vy (p_size:Int) : Mo (Int) :=
 .jp Tryz.f74 0 [1,0,0] 9 [0] 0 (.normal) (fun r_=>⟨[(0,.i_ p_size),(8,.b_ r_)],[]⟩) ⟨[(0,.i_ p_size)],[]⟩ (Eb p_size).den (jW (by kernel_rfl)) fun r0 _ =>
 .ite (r0) (fun c0 =>
 .say [.br true] (ok1 c0) <|
 .ret (cZ 1) (0)) fun c0 =>
 .say [.br false] (okc c0 (ok1 (by decide:(2:Int) ≠ 0))) <|
 .ret (cZ 1) (IntKind.wrap .i64 ((IntKind.wrap .i64 (Int.tdiv p_size 2)) + 1))
def Q64 (p_size:Int) : Option (Int) := Mo.den (Vy p_size)
theorem O1 (p_size:Int) : FV (Q64 p_size) 74 [.i_ p_size] (fun r=>.i_ r) := eG Tryz.func74 (by kernel_rfl) (fun _=>rfl) (by kernel_rfl)
def Ec (p_m:aj) : (Int × (List Int)) → Mo ((Int × (List Int)) ⊕ ((List Int))) := fun (v0,l0) =>
 .ite (decide ((v0:Int) < ((List.replicate p_m.bI.toNat 0).length:Int))) (fun c0 =>
 .say [.br true,.num p_m.aB.length] (okc c0 (ok1 (ln_ p_m.aB ak.lf))) <|
 .ask (cO l0 v0) fun x0 h0 =>
 .say [.row (lfI x0),.rows ((l0.set v0.toNat (p_m.aB.length:Int)).map lfI)] (okc (bM lI_ h0) (okc (st_ lI_ l0 v0.toNat (p_m.aB.length:Int)) (ok1 ((bf lI_ h0).2)))) <|
 .rt [1,2,19,20] 4 (.inl (IntKind.wrap .i64 (v0 + 1),l0.set v0.toNat (p_m.aB.length:Int)))) fun c0 =>
 .say [.br false] (ok1 c0) <|
 .rt [1,2] 4 (.inr (l0))
def O4 (p_m:aj) (v0:Int) (l0:List Int) : Option (((List Int))) := dF (fun v_=>(Ec p_m v_).den) FU (v0,l0)
def Ed (p_m:aj) : (Int × (List Int)) → St := fun (v0,l0)=>⟨[(1,.ptr 0 0),(2,.ptr 1 0),(19,.i_ ((List.replicate p_m.bI.toNat 0).length:Int)),(20,.i_ v0)],[.box 25 (ag_ (aj.lf1 p_m) [(4,.i_ 2),(5,.i_ p_m.fID),(6,.i_ 1),(10,.own 2),(11,.own 3)]),.box 25 (Z25),.row 3 1 (l0.map lfI),.row 3 1 ((List.replicate p_m.bI.toNat 0).map lfI)]⟩
def xZ (p_m:aj) (r_:((List Int))) : St := ⟨[(1,.ptr 0 0),(2,.ptr 1 0)],[.box 25 (ag_ (aj.lf1 p_m) [(4,.i_ 2),(5,.i_ p_m.fID),(6,.i_ 1),(10,.own 2),(11,.own 3)]),.box 25 (Z25),.row 3 1 (r_.map lfI),.row 3 1 ((List.replicate p_m.bI.toNat 0).map lfI)]⟩
theorem O5 {p_m:aj} {v0:Int} {l0:List Int} {r_:((List Int))} (h:O4 p_m v0 l0 = some r_) : jq Tryz.f90 0 [1,1,1,1,0,1,0] (.exit 0) (xZ p_m r_) (Ed p_m (v0,l0)) :=
 jo fJ (body := (Code.sub (bodyC Tryz.f90) [1,1,1,1,0,1,0,0])) (by kernel_rfl) (Ec p_m) (Ed p_m) (fun _=>.exit 0) (xZ p_m) (fun r_=>rfl) (fun v_=>by kernel_rfl) h
def YK (p_m:aj) : Mo (aj) :=
 .say [.rows ((List.replicate p_m.bI.toNat 0).map lfI),.rows ((List.replicate p_m.bI.toNat 0).map lfI),.num (List.replicate p_m.bI.toNat 0).length] (ok1 (rp_ lI_ p_m.bI.toNat 0)) <|
 .grd ((0:Int) ≤ p_m.bI ∧ 8 * p_m.bI.toNat ≤ 281474976710656 ∧ p_m.bI.toNat ≤ maxLen) fun h0 =>
 .say [] (okc (mk_ p_m.bI h0) (ok1 (rp_ lI_ p_m.bI.toNat 0))) <|
 .grd ((0:Int) ≤ p_m.bI ∧ 8 * p_m.bI.toNat ≤ 281474976710656 ∧ p_m.bI.toNat ≤ maxLen) fun h1 =>
 .say [] (okc (mk_ p_m.bI h1) (ok1 (by simp:(List.replicate p_m.bI.toNat 0).length = ((List.replicate p_m.bI.toNat 0).map lfI).length))) <|
 .ask (O4 p_m 0 (List.replicate p_m.bI.toNat 0)) fun r0 h2 =>
 .say [.pt_ 0 [1,2,19,20] 4 (.exit 0) (xZ p_m r0),.num p_m.aB.length] (okc (O5 h2) (ok1 (ln_ p_m.aB ak.lf))) <|
 .ask (cO (List.replicate p_m.bI.toNat 0) p_m.fID) fun x0 h3 =>
 .say [.row (lfI x0),.rows (((List.replicate p_m.bI.toNat 0).set p_m.fID.toNat (p_m.aB.length:Int)).map lfI),.at_ 0 0,.frz 2,.frz 3] (okc (bM lI_ h3) (okc (st_ lI_ (List.replicate p_m.bI.toNat 0) p_m.fID.toNat (p_m.aB.length:Int)) (ok1 ((bf lI_ h3).2)))) <|
 .ret (cZ 1) (aj.l7 (aj.qQ (aj.fH (aj.lY (aj.NR p_m 2) p_m.fID) 1) r0) ((List.replicate p_m.bI.toNat 0).set p_m.fID.toNat (p_m.aB.length:Int)))
def Q37 (p_m:aj) : Option (aj) := Mo.den (YK p_m)
theorem O6 (p_m:aj) : FV (Q37 p_m) 90 [.dat (aj.lf1 p_m)] (fun r=>.dat (aj.lf1 r)) := eG Tryz.func90 (by kernel_rfl) (fun _=>rfl) (by kernel_rfl)
def Ee (p_x:ah) (r0:aj) : Mo (Bool) :=
 .iG 14003 (r0.bQ != 1) (.rt [2,3,4,29] 6 (true)) <|
 .rt [2,3,4,29] 6 (p_x.aJ != r0.aJ)
def Ef (p_x:ah) (r0:aj) (r1:Bool) : Mo (Bool) :=
 .iG 14010 (r1) (.rt [2,3,4,34] 6 (true)) <|
 .rt [2,3,4,34] 6 (!p_x.fOK)
def Ad (p_x:ah) (r0:aj) (r1:Bool) : Mo (Bool) :=
 .ite (r1) (fun c0 =>
 .say [.gd 14015 true] (ok1 c0) <|
 .ret ⟨[.frz 3,.frz 4,.frz 5],[2,3,4,39],[],6⟩ (true)) fun c0 =>
 .say [.gd 14015 false,.at_ 14 17,.frz 3,.frz 4,.frz 5] (ok1 c0) <|
 .cl (OZ r0) fun r2 _ =>
 .rt [2,3,4,39] 6 (!r2)
def Ae (p_x:ah) (r0:aj) (r1:Bool) : Mo (Bool) :=
 .iG 14020 (r1) (.rt [2,3,4,44] 6 (true)) <|
 .rt [2,3,4,44] 6 (decide ((p_x.bP:Int) < 0))
def Af (p_x:ah) (r0:aj) (r1:Bool) : Mo (Bool) :=
 .iG 14025 (r1) (.rt [2,3,4,51] 6 (true)) <|
 .rt [2,3,4,51] 6 (decide ((r0.bI:Int) ≤ p_x.bP))
def Vz (p_m:aj) (p_x:ah) : Mo (aj) :=
 .cH [] (BL p_m) fun r0 _ =>
 .ite (p_x.bT != 2) (fun c0 =>
 .say [.br true,.at_ 0 0,.frz 3,.frz 4,.frz 5] (ok1 c0) <|
 .ret (cZ 1) (r0)) fun c0 =>
 .say [.br false] (ok1 c0) <|
 .iB (decide ((r0.aJ:Int) < p_x.aJ)) (.ask (Q19 r0 p_x.aJ) fun r1 h0 =>
 .say [.iU [3,4,5] (ag_ (aj.lf1 r1) [(8,.own 3),(10,.own 4),(11,.own 5)]) [.dead,.dead,.dead,.row 54 82 (r1.aB.map ak.lf),.row 3 1 (r1.fNext.map lfI),.row 3 1 (r1.aS.map lfI)],.at_ 0 0,.frz 6,.frz 7,.frz 8] (ok1 (Ho _ _ _ h0)) <|
 .ret (cZ 1) (r1)) <|
 .sj Tryz.f80 0 [1,1,1,1,0,0] [0,1,2,3,4,5,6,7,8,9] 6 10 [2,3,4] 6 (fun r_=>⟨[(2,.ptr 0 0),(3,.ptr 1 0),(4,.ptr 2 0),(29,.b_ r_)],[.box 25 (ag_ (aj.lf1 r0) [(8,.own 3),(10,.own 4),(11,.own 5)]),.box 63 (.dat (ah.lf1 p_x)),.box 25 (Z25),.row 54 82 (r0.aB.map ak.lf),.row 3 1 (r0.fNext.map lfI),.row 3 1 (r0.aS.map lfI)]⟩) ⟨[(2,.ptr 0 0),(3,.ptr 1 0),(4,.ptr 2 0)],[.box 25 (ag_ (aj.lf1 r0) [(8,.own 3),(10,.own 4),(11,.own 5)]),.box 63 (.dat (ah.lf1 p_x)),.box 25 (Z25),.row 54 82 (r0.aB.map ak.lf),.row 3 1 (r0.fNext.map lfI),.row 3 1 (r0.aS.map lfI)]⟩ (Ee p_x r0).den (sW (by kernel_rfl)) fun r2 _ =>
 .sj Tryz.f80 0 [1,1,1,1,0,0] [10,11,12,13,14] 6 5 [2,3,4,29] 6 (fun r_=>⟨[(2,.ptr 0 0),(3,.ptr 1 0),(4,.ptr 2 0),(34,.b_ r_)],[.box 25 (ag_ (aj.lf1 r0) [(8,.own 3),(10,.own 4),(11,.own 5)]),.box 63 (.dat (ah.lf1 p_x)),.box 25 (Z25),.row 54 82 (r0.aB.map ak.lf),.row 3 1 (r0.fNext.map lfI),.row 3 1 (r0.aS.map lfI)]⟩) ⟨[(2,.ptr 0 0),(3,.ptr 1 0),(4,.ptr 2 0),(29,.b_ r2)],[.box 25 (ag_ (aj.lf1 r0) [(8,.own 3),(10,.own 4),(11,.own 5)]),.box 63 (.dat (ah.lf1 p_x)),.box 25 (Z25),.row 54 82 (r0.aB.map ak.lf),.row 3 1 (r0.fNext.map lfI),.row 3 1 (r0.aS.map lfI)]⟩ (Ef p_x r0 r2).den (sW (by kernel_rfl)) fun r3 _ =>
 .sj Tryz.f80 0 [1,1,1,1,0,0] [15,16,17,18,19] 6 5 [2,3,4,34] 6 (fun r_=>⟨[(2,.ptr 0 0),(3,.ptr 1 0),(4,.ptr 2 0),(39,.b_ r_)],[.box 25 (.agg ((aj.lf1 r0).map AV.lf)),.box 63 (.dat (ah.lf1 p_x)),.box 25 (Z25),.dead,.dead,.dead]⟩) ⟨[(2,.ptr 0 0),(3,.ptr 1 0),(4,.ptr 2 0),(34,.b_ r3)],[.box 25 (ag_ (aj.lf1 r0) [(8,.own 3),(10,.own 4),(11,.own 5)]),.box 63 (.dat (ah.lf1 p_x)),.box 25 (Z25),.row 54 82 (r0.aB.map ak.lf),.row 3 1 (r0.fNext.map lfI),.row 3 1 (r0.aS.map lfI)]⟩ (Ad p_x r0 r3).den (sW (by kernel_rfl)) fun r4 _ =>
 .sj Tryz.f80 0 [1,1,1,1,0,0] [20,21,22,23,24] 6 5 [2,3,4,39] 6 (fun r_=>⟨[(2,.ptr 0 0),(3,.ptr 1 0),(4,.ptr 2 0),(44,.b_ r_)],[.box 25 (.agg ((aj.lf1 r0).map AV.lf)),.box 63 (.dat (ah.lf1 p_x)),.box 25 (Z25),.dead,.dead,.dead]⟩) ⟨[(2,.ptr 0 0),(3,.ptr 1 0),(4,.ptr 2 0),(39,.b_ r4)],[.box 25 (.agg ((aj.lf1 r0).map AV.lf)),.box 63 (.dat (ah.lf1 p_x)),.box 25 (Z25),.dead,.dead,.dead]⟩ (Ae p_x r0 r4).den (sW (by kernel_rfl)) fun r5 _ =>
 .sj Tryz.f80 0 [1,1,1,1,0,0] [25,26,27,28,29,30,31] 6 7 [2,3,4,44] 6 (fun r_=>⟨[(2,.ptr 0 0),(3,.ptr 1 0),(4,.ptr 2 0),(51,.b_ r_)],[.box 25 (.agg ((aj.lf1 r0).map AV.lf)),.box 63 (.dat (ah.lf1 p_x)),.box 25 (Z25),.dead,.dead,.dead]⟩) ⟨[(2,.ptr 0 0),(3,.ptr 1 0),(4,.ptr 2 0),(44,.b_ r5)],[.box 25 (.agg ((aj.lf1 r0).map AV.lf)),.box 63 (.dat (ah.lf1 p_x)),.box 25 (Z25),.dead,.dead,.dead]⟩ (Af p_x r0 r5).den (sW (by kernel_rfl)) fun r6 _ =>
 .ite (r6) (fun c1 =>
 .say [.br true] (ok1 c1) <|
 .ret (cZ 1) (r0)) fun c1 =>
 .say [.br false,.order [(true,0),(true,1),(true,2),(true,3),(true,4),(true,5),(true,6),(false,7)] (some 7) []] (ok1 c1) <|
 .grd ((0:Int) ≤ p_x.bP) fun h1 =>
 .say [] (ok1 h1) <|
 .ask (Q93 (IntKind.wrap .u64 (bK .or .i64 r0.eF (jf .i64 1 p_x.bP)))) fun r7 h2 =>
 .say [] (ok1 (Xw _ _ h2)) <|
 .ask (Q64 r0.bI) fun r8 h3 =>
 .say [.fQ (.q 0 (.q 1 (.q 2 (.q 4 (.q 5 (.l 3 (.l 6 (.q 7 .fin)))))))) (some 6) [] [.res (.i_ r7),.res (.i_ r8)] [2,4,67] 6 [(2,.ptr 0 0),(4,.ptr 2 0),(67,.lf (.bool (decide ((r8:Int) ≤ r7))))] [.box 25 (ag_ (aj.lf1 r0) [(7,.i_ (bK .or .i64 r0.eF (jf .i64 1 p_x.bP)))]),.box 63 (.dat (ah.lf1 p_x)),.box 25 (Z25),.dead,.dead,.dead]] (okc (O1 _ _ h3) (ok1 (rf_ ⟨[(2,.ptr 0 0),(4,.ptr 2 0),(67,.lf (.bool (decide ((r8:Int) ≤ r7))))],[.box 25 (ag_ (aj.lf1 r0) [(7,.i_ (bK .or .i64 r0.eF (jf .i64 1 p_x.bP)))]),.box 63 (.dat (ah.lf1 p_x)),.box 25 (Z25),.dead,.dead,.dead]⟩))) <|
 .iB (decide ((r8:Int) ≤ r7)) (.cl (O6 (aj.nZ r0 (bK .or .i64 r0.eF (jf .i64 1 p_x.bP)))) fun r9 _ =>
 .ret (cZ 1) (r9)) <|
 .ret (cZ 1) (aj.nZ r0 (bK .or .i64 r0.eF (jf .i64 1 p_x.bP)))
def Q27 (p_m:aj) (p_x:ah) : Option (aj) := Mo.den (Vz p_m p_x)
theorem Xx (p_m:aj) (p_x:ah) : FV (Q27 p_m p_x) 80 [.dat (aj.lf1 p_m),.dat (ah.lf1 p_x)] (fun r=>.dat (aj.lf1 r)) := eG Tryz.func80 (by kernel_rfl) (fun _=>rfl) (by kernel_rfl)
def VA (p_x:ah) (p_b0:aA) : Mo (aA) :=
 .say [.order [(true,0),(true,1),(true,2),(true,3),(true,5),(false,4),(false,6),(true,7),(true,8),(false,9)] (some 9) [0,1,2,3],.at_ 4 6,.frz 1,.frz 2,.frz 3] ok0 <|
 .cl (Xx p_b0.aG p_x) fun r0 _ =>
 .ret ⟨[.kill 5,.mvn 4],[],[(6,5)],6⟩ (aA.mk r0 p_b0.bD p_b0.dP)
def Q95 (p_x:ah) (p_b0:aA) : Option (aA) := Mo.den (VA p_x p_b0)
theorem Xy (p_x:ah) (p_b0:aA) : FH (Q95 p_x p_b0) 44 [.ptr 0 0,.dat (ah.lf1 p_x)] [.box 97 (ag_ (aA.lf1 p_b0) [(8,.own 1),(10,.own 2),(11,.own 3),(12,.own 4)]),.row 54 82 (p_b0.aG.aB.map ak.lf),.row 3 1 (p_b0.aG.fNext.map lfI),.row 3 1 (p_b0.aG.aS.map lfI),.row 63 9 (p_b0.bD.map ah.lf)] (fun _=>.tup []) (fun r=>[.box 97 (ag_ (aA.lf1 r) [(12,.own 5)]),.dead,.dead,.dead,.dead,.row 63 9 (r.bD.map ah.lf)]) := gy Tryz.func44 (by kernel_rfl) (fun _=>rfl) (by kernel_rfl)
def VB (p_x:ah) (p_ok:Bool) (p_index:Int) (p_b0:aA) : Mo (aA) :=
 .say [.order [(true,0),(true,1),(true,2),(true,3),(true,4),(true,5),(true,6),(true,7),(true,8),(true,9),(true,10),(true,11),(true,12),(true,13),(true,14),(true,15),(true,16),(true,17),(true,18),(true,19),(false,20),(false,21),(true,22),(true,23),(false,24)] (some 24) [4,6,7],.rows ((p_b0.bD ++ [ah.sOK (ah.iD (ah.gY (ah.dX (ah.sTo (ah.iH ah.z p_b0.aG.fID) p_x.bP) 4) p_b0.aG.aJ) p_index) p_ok]).map ah.lf)] (ok1 (by simp [ah.aT] : (p_b0.bD ++ [ah.sOK (ah.iD (ah.gY (ah.dX (ah.sTo (ah.iH ah.z p_b0.aG.fID) p_x.bP) 4) p_b0.aG.aJ) p_index) p_ok]).map ah.lf = (p_b0.bD.map ah.lf) ++ [(ah.lf1 (ah.sOK (ah.iD (ah.gY (ah.dX (ah.sTo (ah.iH ah.z p_b0.aG.fID) p_x.bP) 4) p_b0.aG.aJ) p_index) p_ok))])) <|
 .grd ((p_b0.bD.length + [ah.sOK (ah.iD (ah.gY (ah.dX (ah.sTo (ah.iH ah.z p_b0.aG.fID) p_x.bP) 4) p_b0.aG.aJ) p_index) p_ok].length) * 88 ≤ 140737488355328) fun h0 =>
 .say [] (ok1 (cp_ ah.lf h0)) <|
 .ret ⟨[.kill 5,.kill 6,.mvn 1,.mvn 2,.mvn 3,.mvn 7],[],[(8,5),(9,6),(10,7),(11,8)],9⟩ (aA.mk p_b0.aG (p_b0.bD ++ [ah.sOK (ah.iD (ah.gY (ah.dX (ah.sTo (ah.iH ah.z p_b0.aG.fID) p_x.bP) 4) p_b0.aG.aJ) p_index) p_ok]) p_b0.dP)
def Q79 (p_x:ah) (p_ok:Bool) (p_index:Int) (p_b0:aA) : Option (aA) := Mo.den (VB p_x p_ok p_index p_b0)
theorem Hr (p_x:ah) (p_ok:Bool) (p_index:Int) (p_b0:aA) : FH (Q79 p_x p_ok p_index p_b0) 81 [.ptr 0 0,.dat (ah.lf1 p_x),.b_ p_ok,.i_ p_index] [.box 97 (ag_ (aA.lf1 p_b0) [(8,.own 1),(10,.own 2),(11,.own 3),(12,.own 4)]),.row 54 82 (p_b0.aG.aB.map ak.lf),.row 3 1 (p_b0.aG.fNext.map lfI),.row 3 1 (p_b0.aG.aS.map lfI),.row 63 9 (p_b0.bD.map ah.lf)] (fun _=>.tup []) (fun r=>[.box 97 (ag_ (aA.lf1 r) [(8,.own 5),(10,.own 6),(11,.own 7),(12,.own 8)]),.dead,.dead,.dead,.dead,.row 54 82 (r.aG.aB.map ak.lf),.row 3 1 (r.aG.fNext.map lfI),.row 3 1 (r.aG.aS.map lfI),.row 63 9 (r.bD.map ah.lf)]) := gy Tryz.func81 (by kernel_rfl) (fun _=>rfl) (by kernel_rfl)
def Eh (p_n:Int) (p_s0:List ak) : Mo (Bool) :=
 .ite (decide ((p_n:Int) < 1)) (fun c0 =>
 .say [.gd 4002 true] (ok1 c0) <|
 .rt [0,1,12] 1 (true)) fun c0 =>
 .say [.gd 4002 false,.num p_s0.length] (okc c0 (ok1 (ln_ p_s0 ak.lf))) <|
 .rt [0,1,12] 1 (decide (((p_s0.length:Int) : Int) < p_n))
def VD (p_n:Int) (p_s0:List ak) : Mo (Int) :=
 .jp Tryz.f53 1 [1,0,0] 9 [0,1] 1 (.normal) (fun r_=>⟨[(0,.own 0),(1,.i_ p_n),(12,.b_ r_)],[.row 54 82 (p_s0.map ak.lf)]⟩) ⟨[(0,.own 0),(1,.i_ p_n)],[.row 54 82 (p_s0.map ak.lf)]⟩ (Eh p_n p_s0).den (jW (by kernel_rfl)) fun r0 _ =>
 .iB (r0) (.rt [0] 1 (0)) <|
 .ask (cO p_s0 (IntKind.wrap .i64 (p_n - 1))) fun x0 h0 =>
 .say [.row (ak.lf1 x0)] (okc (bM ak.aT h0) (ok1 ((bf ak.aT h0).2))) <|
 .rt [0] 1 (x0.aJ)
def Q70 (p_n:Int) (p_s0:List ak) : Option (Int) := Mo.den (VD p_n p_s0)
theorem Xz (p_n:Int) (p_s0:List ak) : FH (Q70 p_n p_s0) 53 [.own 0,.i_ p_n] [.row 54 82 (p_s0.map ak.lf)] (fun r=>.i_ r) (fun _=>[.row 54 82 (p_s0.map ak.lf)]) := gy Tryz.func53 (by kernel_rfl) (fun _=>rfl) (by kernel_rfl)
def O7 (p_a:ak) (p_b:ak) : Mo (Bool) :=
 .iG 4005 (p_a.aJ == p_b.aJ) (.ret (cZ 1) (p_a.dS == p_b.dS)) <|
 .ret (cZ 1) (false)
def Uf (p_a:ak) (p_b:ak) : Option (Bool) := Mo.den (O7 p_a p_b)
theorem Ug (p_a:ak) (p_b:ak) : FV (Uf p_a p_b) 164 [.dat (ak.lf1 p_a),.dat (ak.lf1 p_b)] (fun r=>.b_ r) := eG Tryz.func164 (by kernel_rfl) (fun _=>rfl) (by kernel_rfl)
def wz (p_b0:aA) (p_x:ah) : (Int) → Mo ((Int) ⊕ (Unit ⊕ (Int))) := fun (v0) =>
 .iB (decide ((v0:Int) < (p_x.aQ.length:Int))) (.ask (cO p_x.aQ v0) fun x0 h0 =>
 .say [.row (ak.lf1 x0),.num p_b0.aG.aB.length] (okc (bf ak.aT h0) (ok1 (ln_ p_b0.aG.aB ak.lf))) <|
 .iB (decide (((p_b0.aG.aB.length:Int) : Int) ≤ (IntKind.wrap .i64 (p_x.aY + v0)))) (.ret ⟨[.kill 5],[0],[],6⟩ (.inr (.inl ()))) <|
 .ask (cO p_b0.aG.aB (IntKind.wrap .i64 (p_x.aY + v0))) fun x1 h1 =>
 .say [] (okc (bM ak.aT h1) (ok1 ((bf ak.aT h1).2))) <|
 .ask (Uf x0 x1) fun r0 h2 =>
 .say [.fQ (.q 0 (.q 1 (.q 2 (.q 3 (.q 4 (.q 5 (.q 6 (.q 7 (.q 8 (.l 9 (.q 10 .fin))))))))))) (some 9) [] [.row (ak.lf1 x1),.res (.b_ r0)] [0,3,7,9,10,11,38] 7 [(0,.ptr 0 0),(3,.ptr 5 0),(7,.i_ (IntKind.wrap .i64 (p_x.aY + v0))),(9,.lf (.rows 82 (p_x.aQ.map ak.lf))),(10,.i_ (p_x.aQ.length:Int)),(11,.i_ v0),(38,.lf (.bool (!r0)))] [.box 97 (ag_ (aA.lf1 p_b0) [(8,.own 1),(10,.own 2),(11,.own 3),(12,.own 4)]),.row 54 82 (p_b0.aG.aB.map ak.lf),.row 3 1 (p_b0.aG.fNext.map lfI),.row 3 1 (p_b0.aG.aS.map lfI),.row 63 9 (p_b0.bD.map ah.lf),.box 63 (.dat (ah.lf1 p_x)),.box 54 (.agg ((ak.lf1 x0).map AV.lf))]] (okc (Ug _ _ _ h2) (ok1 (rf_ ⟨[(0,.ptr 0 0),(3,.ptr 5 0),(7,.i_ (IntKind.wrap .i64 (p_x.aY + v0))),(9,.lf (.rows 82 (p_x.aQ.map ak.lf))),(10,.i_ (p_x.aQ.length:Int)),(11,.i_ v0),(38,.lf (.bool (!r0)))],[.box 97 (ag_ (aA.lf1 p_b0) [(8,.own 1),(10,.own 2),(11,.own 3),(12,.own 4)]),.row 54 82 (p_b0.aG.aB.map ak.lf),.row 3 1 (p_b0.aG.fNext.map lfI),.row 3 1 (p_b0.aG.aS.map lfI),.row 63 9 (p_b0.bD.map ah.lf),.box 63 (.dat (ah.lf1 p_x)),.box 54 (.agg ((ak.lf1 x0).map AV.lf))]⟩))) <|
 .iB (!r0) (.ret ⟨[.kill 5],[4],[],6⟩ (.inr (.inr ((IntKind.wrap .i64 (p_x.aY + v0)))))) <|
 .rt [0,3,9,10,11] 6 (.inl (IntKind.wrap .i64 (v0 + 1)))) <|
 .ret ⟨[.kill 5],[0],[],6⟩ (.inr (.inl ()))
def O8 (p_b0:aA) (p_x:ah) (v0:Int) : Option (Unit ⊕ (Int)) := dF (fun v_=>(wz p_b0 p_x v_).den) FU (v0)
def Jh (p_b0:aA) (p_x:ah) : (Int) → St := fun (v0)=>⟨[(0,.ptr 0 0),(3,.ptr 5 0),(9,.lf (.rows 82 (p_x.aQ.map ak.lf))),(10,.i_ (p_x.aQ.length:Int)),(11,.i_ v0)],[.box 97 (ag_ (aA.lf1 p_b0) [(8,.own 1),(10,.own 2),(11,.own 3),(12,.own 4)]),.row 54 82 (p_b0.aG.aB.map ak.lf),.row 3 1 (p_b0.aG.fNext.map lfI),.row 3 1 (p_b0.aG.aS.map lfI),.row 63 9 (p_b0.bD.map ah.lf),.box 63 (.dat (ah.lf1 p_x))]⟩
def wB (r_:Unit ⊕ (Int)) : Exit := match r_ with
 | .inl o_=>.exit 0
 | .inr (o_)=>.ret
def wC (p_b0:aA) (r_:Unit ⊕ (Int)) : St := match r_ with
 | .inl o_=>⟨[(0,.ptr 0 0)],[.box 97 (ag_ (aA.lf1 p_b0) [(8,.own 1),(10,.own 2),(11,.own 3),(12,.own 4)]),.row 54 82 (p_b0.aG.aB.map ak.lf),.row 3 1 (p_b0.aG.fNext.map lfI),.row 3 1 (p_b0.aG.aS.map lfI),.row 63 9 (p_b0.bD.map ah.lf),.dead]⟩
 | .inr (o_)=>⟨[(4,.i_ o_)],[.box 97 (ag_ (aA.lf1 p_b0) [(8,.own 1),(10,.own 2),(11,.own 3),(12,.own 4)]),.row 54 82 (p_b0.aG.aB.map ak.lf),.row 3 1 (p_b0.aG.fNext.map lfI),.row 3 1 (p_b0.aG.aS.map lfI),.row 63 9 (p_b0.bD.map ah.lf),.dead]⟩
theorem Ji {p_b0:aA} {p_x:ah} {v0:Int} {r_:Unit ⊕ (Int)} (h:O8 p_b0 p_x v0 = some r_) : jq Tryz.f119 5 [1,0,1,0] (wB r_) (wC p_b0 r_) (Jh p_b0 p_x (v0)) :=
 jo fJ (body := (Code.sub (bodyC Tryz.f119) [1,0,1,0,0])) (by kernel_rfl) (wz p_b0 p_x) (Jh p_b0 p_x) wB (wC p_b0) (fun r_=>by rcases r_ with _ | _ <;> rfl) (fun v_=>by kernel_rfl) h
def YL (p_x:ah) (p_b0:aA) : Mo (Int) :=
 .say [.num p_x.aQ.length] (ok1 (ln_ p_x.aQ ak.lf)) <|
 .qR (O8 p_b0 p_x 0) (fun o0 h0 =>
 .say [.pt_ 0 [0,3,9,10,11] 6 (wB (.inl o0)) (wC p_b0 (.inl o0)),.num p_b0.aG.aB.length] (okc (Ji h0) (ok1 (ln_ p_b0.aG.aB ak.lf))) <|
 .ret ⟨[.mvn 1,.mvn 2,.mvn 3,.mvn 4],[0],[(6,5),(7,6),(8,7),(9,8)],9⟩ ((p_b0.aG.aB.length:Int))) fun o1 h0 =>
 .say [.pt_ 0 [0,3,9,10,11] 6 (wB (.inr (o1))) (wC p_b0 (.inr (o1)))] (ok1 (Ji h0)) <|
 .ret ⟨[.mvn 1,.mvn 2,.mvn 3,.mvn 4],[0],[(6,5),(7,6),(8,7),(9,8)],9⟩ (o1)
def Q6 (p_x:ah) (p_b0:aA) : Option (Int) := Mo.den (YL p_x p_b0)
theorem Jj (p_x:ah) (p_b0:aA) : FH (Q6 p_x p_b0) 119 [.ptr 0 0,.dat (ah.lf1 p_x)] [.box 97 (ag_ (aA.lf1 p_b0) [(8,.own 1),(10,.own 2),(11,.own 3),(12,.own 4)]),.row 54 82 (p_b0.aG.aB.map ak.lf),.row 3 1 (p_b0.aG.fNext.map lfI),.row 3 1 (p_b0.aG.aS.map lfI),.row 63 9 (p_b0.bD.map ah.lf)] (fun r=>.i_ r) (fun _=>[.box 97 (ag_ (aA.lf1 p_b0) [(8,.own 5),(10,.own 6),(11,.own 7),(12,.own 8)]),.dead,.dead,.dead,.dead,.row 54 82 (p_b0.aG.aB.map ak.lf),.row 3 1 (p_b0.aG.fNext.map lfI),.row 3 1 (p_b0.aG.aS.map lfI),.row 63 9 (p_b0.bD.map ah.lf)]) := gy Tryz.func119 (by kernel_rfl) (fun _=>rfl) (by kernel_rfl)
def Ei (p_b0:aA) (p_x:ah) : Mo (Bool) :=
 .ite (decide ((p_x.aY:Int) < 0)) (fun c0 =>
 .say [.order [(true,0),(true,1),(true,2),(true,3),(true,4),(true,5),(true,6),(true,7),(true,8),(true,9),(false,10),(true,11),(true,12),(true,13),(true,14),(true,15),(true,16),(true,17),(true,18),(true,19),(true,21),(true,22),(false,20),(true,23),(true,24)] none [],.gd 6003 true] (ok1 c0) <|
 .rt [0,3,5,33] 6 (true)) fun c0 =>
 .say [] (okc c0 (ok1 (ln_ p_b0.aG.aB ak.lf))) <|
 .ite (decide (((p_b0.aG.aB.length:Int) : Int) < p_x.aY)) (fun c1 =>
 .say [.order [(true,0),(true,1),(true,2),(true,3),(true,4),(true,5),(true,6),(true,7),(true,8),(true,9),(false,10),(true,11),(true,12),(true,13),(true,14),(true,15),(true,16),(true,17),(true,18),(true,19),(true,21),(true,22),(false,20),(true,23),(true,24)] none [],.gd 6003 false,.num p_b0.aG.aB.length,.gd 6013 true] (ok1 c1) <|
 .rt [0,3,5,33] 6 (true)) fun c1 =>
 .say [.order [(true,0),(true,1),(true,2),(true,3),(true,4),(true,5),(true,6),(true,7),(true,8),(true,9),(false,10),(true,11),(true,12),(true,13),(true,14),(true,15),(true,16),(true,17),(true,18),(true,19),(true,21),(true,22),(false,20),(true,23),(true,24)] none [1],.gd 6003 false,.num p_b0.aG.aB.length,.gd 6013 false] (ok1 c1) <|
 .cH [1] (Xz p_x.aY p_b0.aG.aB) fun r0 _ =>
 .rt [0,3,5,33] 6 (r0 != p_x.iF)
def VE (p_x:ah) (p_b0:aA) : Mo (Bool) :=
 .jp Tryz.f82 5 [1,1,0,0] 11 [0,3,5] 6 (.normal) (fun r_=>⟨[(0,.ptr 0 0),(3,.ptr 5 0),(5,.ptr 0 0),(33,.b_ r_)],[.box 97 (ag_ (aA.lf1 p_b0) [(8,.own 1),(10,.own 2),(11,.own 3),(12,.own 4)]),.row 54 82 (p_b0.aG.aB.map ak.lf),.row 3 1 (p_b0.aG.fNext.map lfI),.row 3 1 (p_b0.aG.aS.map lfI),.row 63 9 (p_b0.bD.map ah.lf),.box 63 (.dat (ah.lf1 p_x))]⟩) ⟨[(0,.ptr 0 0),(3,.ptr 5 0),(5,.ptr 0 0)],[.box 97 (ag_ (aA.lf1 p_b0) [(8,.own 1),(10,.own 2),(11,.own 3),(12,.own 4)]),.row 54 82 (p_b0.aG.aB.map ak.lf),.row 3 1 (p_b0.aG.fNext.map lfI),.row 3 1 (p_b0.aG.aS.map lfI),.row 63 9 (p_b0.bD.map ah.lf),.box 63 (.dat (ah.lf1 p_x))]⟩ (Ei p_b0 p_x).den (jW (by kernel_rfl)) fun r0 _ =>
 .iB (r0) (.ret ⟨[.kill 5,.mvn 1,.mvn 2,.mvn 3,.mvn 4],[0],[(6,5),(7,6),(8,7),(9,8)],9⟩ (true)) <|
 .ask (Q6 p_x p_b0) fun r1 h0 =>
 .say [] (ok1 (Jj _ _ _ h0)) <|
 .ite (decide ((r1:Int) < p_b0.aG.au)) (fun c0 =>
 .say [.fQ (.q 0 (.q 1 (.q 3 (.q 4 (.q 5 (.alt 2 (.l 6 (.q 7 (.q 8 (.q 9 (.q 11 (.alt 10 (.l 12 (.q 13 (.q 14 (.q 15 (.q 16 (.q 17 .fin)))))) (.l 12 (.q 13 (.l 10 (.q 14 (.q 15 (.q 16 (.q 17 .fin))))))))))))) (.l 6 (.l 2 (.q 7 (.q 8 (.q 9 (.q 11 (.alt 10 (.l 12 (.q 13 (.q 14 (.q 15 (.q 16 (.q 17 .fin)))))) (.l 12 (.q 13 (.l 10 (.q 14 (.q 15 (.q 16 (.q 17 .fin)))))))))))))))))))) none [0,1,2,3,4] [.both [.iU [0,1,2,3,4] (.i_ r1) [.box 97 (ag_ (aA.lf1 p_b0) [(8,.own 5),(10,.own 6),(11,.own 7),(12,.own 8)]),.dead,.dead,.dead,.dead,.row 54 82 (p_b0.aG.aB.map ak.lf),.row 3 1 (p_b0.aG.fNext.map lfI),.row 3 1 (p_b0.aG.aS.map lfI),.row 63 9 (p_b0.bD.map ah.lf)],.gd 10008 true,.both [] []] [.iU [0,1,2,3,4] (.i_ r1) [.box 97 (ag_ (aA.lf1 p_b0) [(8,.own 5),(10,.own 6),(11,.own 7),(12,.own 8)]),.dead,.dead,.dead,.dead,.row 54 82 (p_b0.aG.aB.map ak.lf),.row 3 1 (p_b0.aG.fNext.map lfI),.row 3 1 (p_b0.aG.aS.map lfI),.row 63 9 (p_b0.bD.map ah.lf)],.gd 10008 true,.both [] []]] [4] 10 [(4,.b_ true)] [.box 97 (ag_ (aA.lf1 p_b0) [(8,.own 6),(10,.own 7),(11,.own 8),(12,.own 9)]),.dead,.dead,.dead,.dead,.box 63 (.dat (ah.lf1 p_x)),.row 54 82 (p_b0.aG.aB.map ak.lf),.row 3 1 (p_b0.aG.fNext.map lfI),.row 3 1 (p_b0.aG.aS.map lfI),.row 63 9 (p_b0.bD.map ah.lf)]] (okc c0 (okc (rf_ ⟨[(4,.b_ true)],[.box 97 (ag_ (aA.lf1 p_b0) [(8,.own 6),(10,.own 7),(11,.own 8),(12,.own 9)]),.dead,.dead,.dead,.dead,.box 63 (.dat (ah.lf1 p_x)),.row 54 82 (p_b0.aG.aB.map ak.lf),.row 3 1 (p_b0.aG.fNext.map lfI),.row 3 1 (p_b0.aG.aS.map lfI),.row 63 9 (p_b0.bD.map ah.lf)]⟩) (okc (rf_ ⟨[(4,.b_ true)],[.box 97 (ag_ (aA.lf1 p_b0) [(8,.own 6),(10,.own 7),(11,.own 8),(12,.own 9)]),.dead,.dead,.dead,.dead,.box 63 (.dat (ah.lf1 p_x)),.row 54 82 (p_b0.aG.aB.map ak.lf),.row 3 1 (p_b0.aG.fNext.map lfI),.row 3 1 (p_b0.aG.aS.map lfI),.row 63 9 (p_b0.bD.map ah.lf)]⟩) (okc (Jj _ _ _ h0) (okc c0 (okc (rf_ ⟨[(4,.b_ true)],[.box 97 (ag_ (aA.lf1 p_b0) [(8,.own 6),(10,.own 7),(11,.own 8),(12,.own 9)]),.dead,.dead,.dead,.dead,.box 63 (.dat (ah.lf1 p_x)),.row 54 82 (p_b0.aG.aB.map ak.lf),.row 3 1 (p_b0.aG.fNext.map lfI),.row 3 1 (p_b0.aG.aS.map lfI),.row 63 9 (p_b0.bD.map ah.lf)]⟩) (ok1 (rf_ ⟨[(4,.b_ true)],[.box 97 (ag_ (aA.lf1 p_b0) [(8,.own 6),(10,.own 7),(11,.own 8),(12,.own 9)]),.dead,.dead,.dead,.dead,.box 63 (.dat (ah.lf1 p_x)),.row 54 82 (p_b0.aG.aB.map ak.lf),.row 3 1 (p_b0.aG.fNext.map lfI),.row 3 1 (p_b0.aG.aS.map lfI),.row 63 9 (p_b0.bD.map ah.lf)]⟩)))))))) <|
 .ret ⟨[.kill 5,.mvn 6,.mvn 7,.mvn 8,.mvn 9],[0],[(10,5),(11,6),(12,7),(13,8)],9⟩ (true)) fun c0 =>
 .say [.fQ (.q 0 (.q 1 (.q 3 (.q 4 (.q 5 (.alt 2 (.l 6 (.q 7 (.q 8 (.q 9 (.q 11 (.alt 10 (.l 12 (.q 13 (.q 14 (.q 15 (.q 16 (.q 17 .fin)))))) (.l 12 (.q 13 (.l 10 (.q 14 (.q 15 (.q 16 (.q 17 .fin))))))))))))) (.l 6 (.l 2 (.q 7 (.q 8 (.q 9 (.q 11 (.alt 10 (.l 12 (.q 13 (.q 14 (.q 15 (.q 16 (.q 17 .fin)))))) (.l 12 (.q 13 (.l 10 (.q 14 (.q 15 (.q 16 (.q 17 .fin)))))))))))))))))))) none [0,1,2,3,4] [.both [.iU [0,1,2,3,4] (.i_ r1) [.box 97 (ag_ (aA.lf1 p_b0) [(8,.own 5),(10,.own 6),(11,.own 7),(12,.own 8)]),.dead,.dead,.dead,.dead,.row 54 82 (p_b0.aG.aB.map ak.lf),.row 3 1 (p_b0.aG.fNext.map lfI),.row 3 1 (p_b0.aG.aS.map lfI),.row 63 9 (p_b0.bD.map ah.lf)],.gd 10008 false,.both [.num p_x.aQ.length] [.num p_x.aQ.length]] [.iU [0,1,2,3,4] (.i_ r1) [.box 97 (ag_ (aA.lf1 p_b0) [(8,.own 5),(10,.own 6),(11,.own 7),(12,.own 8)]),.dead,.dead,.dead,.dead,.row 54 82 (p_b0.aG.aB.map ak.lf),.row 3 1 (p_b0.aG.fNext.map lfI),.row 3 1 (p_b0.aG.aS.map lfI),.row 63 9 (p_b0.bD.map ah.lf)],.gd 10008 false,.both [.num p_x.aQ.length] [.num p_x.aQ.length]]] [4] 10 [(4,.lf (.bool (decide ((16384:Int) < (IntKind.wrap .i64 (p_x.aY + (p_x.aQ.length:Int)))))))] [.box 97 (ag_ (aA.lf1 p_b0) [(8,.own 6),(10,.own 7),(11,.own 8),(12,.own 9)]),.dead,.dead,.dead,.dead,.box 63 (.dat (ah.lf1 p_x)),.row 54 82 (p_b0.aG.aB.map ak.lf),.row 3 1 (p_b0.aG.fNext.map lfI),.row 3 1 (p_b0.aG.aS.map lfI),.row 63 9 (p_b0.bD.map ah.lf)]] (okc c0 (okc (ln_ p_x.aQ ak.lf) (okc (rf_ ⟨[(4,.lf (.bool (decide ((16384:Int) < (IntKind.wrap .i64 (p_x.aY + (p_x.aQ.length:Int)))))))],[.box 97 (ag_ (aA.lf1 p_b0) [(8,.own 6),(10,.own 7),(11,.own 8),(12,.own 9)]),.dead,.dead,.dead,.dead,.box 63 (.dat (ah.lf1 p_x)),.row 54 82 (p_b0.aG.aB.map ak.lf),.row 3 1 (p_b0.aG.fNext.map lfI),.row 3 1 (p_b0.aG.aS.map lfI),.row 63 9 (p_b0.bD.map ah.lf)]⟩) (okc (ln_ p_x.aQ ak.lf) (okc (rf_ ⟨[(4,.lf (.bool (decide ((16384:Int) < (IntKind.wrap .i64 (p_x.aY + (p_x.aQ.length:Int)))))))],[.box 97 (ag_ (aA.lf1 p_b0) [(8,.own 6),(10,.own 7),(11,.own 8),(12,.own 9)]),.dead,.dead,.dead,.dead,.box 63 (.dat (ah.lf1 p_x)),.row 54 82 (p_b0.aG.aB.map ak.lf),.row 3 1 (p_b0.aG.fNext.map lfI),.row 3 1 (p_b0.aG.aS.map lfI),.row 63 9 (p_b0.bD.map ah.lf)]⟩) (okc (Jj _ _ _ h0) (okc c0 (okc (ln_ p_x.aQ ak.lf) (okc (rf_ ⟨[(4,.lf (.bool (decide ((16384:Int) < (IntKind.wrap .i64 (p_x.aY + (p_x.aQ.length:Int)))))))],[.box 97 (ag_ (aA.lf1 p_b0) [(8,.own 6),(10,.own 7),(11,.own 8),(12,.own 9)]),.dead,.dead,.dead,.dead,.box 63 (.dat (ah.lf1 p_x)),.row 54 82 (p_b0.aG.aB.map ak.lf),.row 3 1 (p_b0.aG.fNext.map lfI),.row 3 1 (p_b0.aG.aS.map lfI),.row 63 9 (p_b0.bD.map ah.lf)]⟩) (okc (ln_ p_x.aQ ak.lf) (ok1 (rf_ ⟨[(4,.lf (.bool (decide ((16384:Int) < (IntKind.wrap .i64 (p_x.aY + (p_x.aQ.length:Int)))))))],[.box 97 (ag_ (aA.lf1 p_b0) [(8,.own 6),(10,.own 7),(11,.own 8),(12,.own 9)]),.dead,.dead,.dead,.dead,.box 63 (.dat (ah.lf1 p_x)),.row 54 82 (p_b0.aG.aB.map ak.lf),.row 3 1 (p_b0.aG.fNext.map lfI),.row 3 1 (p_b0.aG.aS.map lfI),.row 63 9 (p_b0.bD.map ah.lf)]⟩)))))))))))) <|
 .ret ⟨[.kill 5,.mvn 6,.mvn 7,.mvn 8,.mvn 9],[0],[(10,5),(11,6),(12,7),(13,8)],9⟩ (decide ((16384:Int) < (IntKind.wrap .i64 (p_x.aY + (p_x.aQ.length:Int)))))
def Q66 (p_x:ah) (p_b0:aA) : Option (Bool) := Mo.den (VE p_x p_b0)
theorem XA (p_x:ah) (p_b0:aA) : FH (Q66 p_x p_b0) 82 [.ptr 0 0,.dat (ah.lf1 p_x)] [.box 97 (ag_ (aA.lf1 p_b0) [(8,.own 1),(10,.own 2),(11,.own 3),(12,.own 4)]),.row 54 82 (p_b0.aG.aB.map ak.lf),.row 3 1 (p_b0.aG.fNext.map lfI),.row 3 1 (p_b0.aG.aS.map lfI),.row 63 9 (p_b0.bD.map ah.lf)] (fun r=>.b_ r) (fun _=>[.box 97 (ag_ (aA.lf1 p_b0) [(8,.own 5),(10,.own 6),(11,.own 7),(12,.own 8)]),.dead,.dead,.dead,.dead,.row 54 82 (p_b0.aG.aB.map ak.lf),.row 3 1 (p_b0.aG.fNext.map lfI),.row 3 1 (p_b0.aG.aS.map lfI),.row 63 9 (p_b0.bD.map ah.lf)]) := gy Tryz.func82 (by kernel_rfl) (fun _=>rfl) (by kernel_rfl)
structure RB7 where
 m1:(p_v:aF) → Option (aF)
 ok1:∀ p_v,FV (m1 p_v) 186 [.dat (aF.lf1 p_v)] (fun r=>.dat (aF.lf1 r))
 m2:(p_l:List aF) → Option (List aF)
 ok2:∀ p_l,FH (m2 p_l) 228 [.lf (.rows 5 (p_l.map aF.lf)),.raw (.func (.func 186) #[] #[])] [] (fun r=>.lf (.rows 5 (r.map aF.lf))) (fun _=>[])
 m3:(p_l:List aX) → Option (List aX)
 ok3:∀ p_l,FH (m3 p_l) 229 [.lf (.rows 6 (p_l.map aX.lf)),.raw (.func (.func 230) #[] #[])] [] (fun r=>.lf (.rows 6 (r.map aX.lf))) (fun _=>[])
 m4:(p_f:aX) → Option (aX)
 ok4:∀ p_f,FV (m4 p_f) 230 [.dat (aX.lf1 p_f)] (fun r=>.dat (aX.lf1 r))
def O9 (R_:RB7) (p_v:aF) : Mo (aF) :=
 .cH [] (R_.ok2 p_v.nX) fun r0 _ =>
 .cH [] (R_.ok3 p_v.jh) fun r1 _ =>
 .ret (cZ 1) (aF.mk p_v.bT p_v.J7 p_v.fText r0 r1)
theorem Uh (R_:RB7) (p_v:aF) : FV (Mo.den (O9 R_ p_v)) 186 [.dat (aF.lf1 p_v)] (fun r=>.dat (aF.lf1 r)) := eG Tryz.func186 (by kernel_rfl) (fun _=>rfl) (by kernel_rfl)
def Ej (R_:RB7) (p_l:List aF) : (Int × (List aF)) → Mo ((Int × (List aF)) ⊕ ((List aF))) := fun (v0,l0) =>
 .iB (decide ((v0:Int) < (p_l.length:Int))) (.ask (cO p_l v0) fun x0 h0 =>
 .say [.row (aF.lf1 x0)] (ok1 (bf aF.aT h0)) <|
 .cl (R_.ok1 x0) fun r0 _ =>
 .ask (cO l0 v0) fun x1 h1 =>
 .say [.row (aF.lf1 x1),.rows ((l0.set v0.toNat r0).map aF.lf)] (okc (bM aF.aT h1) (okc (st_ aF.aT l0 v0.toNat r0) (ok1 ((bf aF.aT h1).2)))) <|
 .rt [1,5,14,15,16] 1 (.inl (IntKind.wrap .i64 (v0 + 1),l0.set v0.toNat r0))) <|
 .rt [5] 1 (.inr (l0))
def Pe (R_:RB7) (p_l:List aF) (v0:Int) (l0:List aF) : Option (((List aF))) := dF (fun v_=>(Ej R_ p_l v_).den) FU (v0,l0)
def Pg (R_:RB7) (p_l:List aF) : Mo (List aF) :=
 .say [.num p_l.length] (ok1 (ln_ p_l aF.lf)) <|
 .ite ((p_l.length:Int) == 0) (fun c0 =>
 .say [.br true] (ok1 c0) <|
 .ret ⟨[.nil 0 5,.tod 0],[0],[],0⟩ ([])) fun c0 =>
 .say [.br false,.num p_l.length,.rows ((List.replicate (p_l.length:Int).toNat (aF.mk 0 0 ⟨#[]⟩ [] [])).map aF.lf),.num p_l.length] (okc c0 (okc (ln_ p_l aF.lf) (ok1 (rp_ aF.aT (p_l.length:Int).toNat (aF.mk 0 0 ⟨#[]⟩ [] []))))) <|
 .grd ((0:Int) ≤ (p_l.length:Int) ∧ 80 * (p_l.length:Int).toNat ≤ 281474976710656 ∧ (p_l.length:Int).toNat ≤ maxLen) fun h0 =>
 .say [] (okc (mk_ (p_l.length:Int) h0) (ok1 (ln_ p_l aF.lf))) <|
 .lp Tryz.f228 0 [1,1,1,0,1,0] 0 [1,5,14,15,16] 1 (.exit 0) (fun r_=>⟨[(5,.own 0)],[.row 29 5 (r_.map aF.lf)]⟩) (Pe R_ p_l 0 (List.replicate (p_l.length:Int).toNat (aF.mk 0 0 ⟨#[]⟩ [] []))) (lW (fun (v0,l0)=>⟨[(1,.raw (.func (.func 186) #[] #[])),(5,.own 0),(14,.lf (.rows 5 (p_l.map aF.lf))),(15,.i_ (p_l.length:Int)),(16,.i_ v0)],[.row 29 5 (l0.map aF.lf)]⟩) (by kernel_rfl) rfl fun v_=>by kernel_rfl) fun r0 _ =>
 .ret ⟨[.frz 0],[0],[],0⟩ (r0)
theorem Ui (R_:RB7) (p_l:List aF) : FH (Mo.den (Pg R_ p_l)) 228 [.lf (.rows 5 (p_l.map aF.lf)),.raw (.func (.func 186) #[] #[])] [] (fun r=>.lf (.rows 5 (r.map aF.lf))) (fun _=>[]) := gy Tryz.func228 (by kernel_rfl) (fun _=>rfl) (by kernel_rfl)
def Em (R_:RB7) (p_l:List aX) : (Int × (List aX)) → Mo ((Int × (List aX)) ⊕ ((List aX))) := fun (v0,l0) =>
 .iB (decide ((v0:Int) < (p_l.length:Int))) (.ask (cO p_l v0) fun x0 h0 =>
 .say [.row (aX.lf1 x0)] (ok1 (bf aX.aT h0)) <|
 .cl (R_.ok4 x0) fun r0 _ =>
 .ask (cO l0 v0) fun x1 h1 =>
 .say [.row (aX.lf1 x1),.rows ((l0.set v0.toNat r0).map aX.lf)] (okc (bM aX.aT h1) (okc (st_ aX.aT l0 v0.toNat r0) (ok1 ((bf aX.aT h1).2)))) <|
 .rt [1,5,14,15,16] 1 (.inl (IntKind.wrap .i64 (v0 + 1),l0.set v0.toNat r0))) <|
 .rt [5] 1 (.inr (l0))
def Ph (R_:RB7) (p_l:List aX) (v0:Int) (l0:List aX) : Option (((List aX))) := dF (fun v_=>(Em R_ p_l v_).den) FU (v0,l0)
def Pj (R_:RB7) (p_l:List aX) : Mo (List aX) :=
 .say [.num p_l.length] (ok1 (ln_ p_l aX.lf)) <|
 .ite ((p_l.length:Int) == 0) (fun c0 =>
 .say [.br true] (ok1 c0) <|
 .ret ⟨[.nil 0 6,.tod 0],[0],[],0⟩ ([])) fun c0 =>
 .say [.br false,.num p_l.length,.rows ((List.replicate (p_l.length:Int).toNat (aX.mk ⟨#[]⟩ (aF.mk 0 0 ⟨#[]⟩ [] []))).map aX.lf),.num p_l.length] (okc c0 (okc (ln_ p_l aX.lf) (ok1 (rp_ aX.aT (p_l.length:Int).toNat (aX.mk ⟨#[]⟩ (aF.mk 0 0 ⟨#[]⟩ [] [])))))) <|
 .grd ((0:Int) ≤ (p_l.length:Int) ∧ 96 * (p_l.length:Int).toNat ≤ 281474976710656 ∧ (p_l.length:Int).toNat ≤ maxLen) fun h0 =>
 .say [] (okc (mk_ (p_l.length:Int) h0) (ok1 (ln_ p_l aX.lf))) <|
 .lp Tryz.f229 0 [1,1,1,0,1,0] 0 [1,5,14,15,16] 1 (.exit 0) (fun r_=>⟨[(5,.own 0)],[.row 174 6 (r_.map aX.lf)]⟩) (Ph R_ p_l 0 (List.replicate (p_l.length:Int).toNat (aX.mk ⟨#[]⟩ (aF.mk 0 0 ⟨#[]⟩ [] [])))) (lW (fun (v0,l0)=>⟨[(1,.raw (.func (.func 230) #[] #[])),(5,.own 0),(14,.lf (.rows 6 (p_l.map aX.lf))),(15,.i_ (p_l.length:Int)),(16,.i_ v0)],[.row 174 6 (l0.map aX.lf)]⟩) (by kernel_rfl) rfl fun v_=>by kernel_rfl) fun r0 _ =>
 .ret ⟨[.frz 0],[0],[],0⟩ (r0)
theorem Uj (R_:RB7) (p_l:List aX) : FH (Mo.den (Pj R_ p_l)) 229 [.lf (.rows 6 (p_l.map aX.lf)),.raw (.func (.func 230) #[] #[])] [] (fun r=>.lf (.rows 6 (r.map aX.lf))) (fun _=>[]) := gy Tryz.func229 (by kernel_rfl) (fun _=>rfl) (by kernel_rfl)
def Ht (R_:RB7) (p_f:aX) : Mo (aX) :=
 .say [.order [(true,0),(true,1),(true,2),(true,3),(false,4),(true,5),(false,6)] (some 6) []] ok0 <|
 .cl (R_.ok1 p_f.fValue) fun r0 _ =>
 .ret (cZ 1) (aX.mk p_f.fName r0)
theorem Pm (R_:RB7) (p_f:aX) : FV (Mo.den (Ht R_ p_f)) 230 [.dat (aX.lf1 p_f)] (fun r=>.dat (aX.lf1 r)) := eG Tryz.func230 (by kernel_rfl) (fun _=>rfl) (by kernel_rfl)
def iM:Nat → RB7
 | 0=>{ m1 := fun p_v=>none,ok1 := fun _ _ h=>(by cases h),m2 := fun p_l=>none,ok2 := fun _ _ h=>(by cases h),m3 := fun p_l=>none,ok3 := fun _ _ h=>(by cases h),m4 := fun p_f=>none,ok4 := fun _ _ h=>(by cases h) }
 | n_ + 1=>{ m1 := fun p_v=>Mo.den (O9 (iM n_) p_v),ok1 := fun p_v r h=>Uh (iM n_) p_v r h,m2 := fun p_l=>Mo.den (Pg (iM n_) p_l),ok2 := fun p_l r h=>Ui (iM n_) p_l r h,m3 := fun p_l=>Mo.den (Pj (iM n_) p_l),ok3 := fun p_l r h=>Uj (iM n_) p_l r h,m4 := fun p_f=>Mo.den (Ht (iM n_) p_f),ok4 := Pm (iM n_) }
def Q44 (p_v:aF) : Option (aF) := (iM FU).m1 p_v
theorem qp (p_v:aF) : FV (Q44 p_v) 186 [.dat (aF.lf1 p_v)] (fun r=>.dat (aF.lf1 r)) := (iM FU).ok1 p_v
def Q24 (p_l:List aF) : Option (List aF) := (iM FU).m2 p_l
theorem Pn (p_l:List aF) : FH (Q24 p_l) 228 [.lf (.rows 5 (p_l.map aF.lf)),.raw (.func (.func 186) #[] #[])] [] (fun r=>.lf (.rows 5 (r.map aF.lf))) (fun _=>[]) := (iM FU).ok2 p_l
def VF (p_l:List ByteArray) : Mo (List ByteArray) :=
 .say [.rows (p_l.map lfS),.at_ 0 0,.frz 0] (ok1 (by simp [lfS] : p_l.map lfS = [] ++ (p_l.map lfS))) <|
 .grd ((([] : List ByteArray).length + p_l.length) * 16 ≤ 140737488355328) fun h0 =>
 .say [] (ok1 (cq_ lfS h0)) <|
 .ret (cZ 1) (p_l)
def Q63 (p_l:List ByteArray) : Option (List ByteArray) := Mo.den (VF p_l)
theorem yc (p_l:List ByteArray) : FV (Q63 p_l) 282 [.lf (.rows 1 (p_l.map lfS))] (fun r=>.lf (.rows 1 (r.map lfS))) := eG Tryz.func282 (by kernel_rfl) (fun _=>rfl) (by kernel_rfl)
def VG (p_o:bC) : Mo (bC) :=
 .cl (yc p_o.eU) fun r0 _ =>
 .ret (cZ 1) (bC.mk r0 p_o.NM)
def Q90 (p_o:bC) : Option (bC) := Mo.den (VG p_o)
theorem XB (p_o:bC) : FV (Q90 p_o) 234 [.dat (bC.lf1 p_o)] (fun r=>.dat (bC.lf1 r)) := eG Tryz.func234 (by kernel_rfl) (fun _=>rfl) (by kernel_rfl)
def En (p_l:List bC) : (Int × (List bC)) → Mo ((Int × (List bC)) ⊕ ((List bC))) := fun (v0,l0) =>
 .iB (decide ((v0:Int) < (p_l.length:Int))) (.ask (cO p_l v0) fun x0 h0 =>
 .say [.row (bC.lf1 x0)] (ok1 (bf bC.aT h0)) <|
 .cl (XB x0) fun r0 _ =>
 .ask (cO l0 v0) fun x1 h1 =>
 .say [.row (bC.lf1 x1),.rows ((l0.set v0.toNat r0).map bC.lf)] (okc (bM bC.aT h1) (okc (st_ bC.aT l0 v0.toNat r0) (ok1 ((bf bC.aT h1).2)))) <|
 .rt [1,5,14,15,16] 1 (.inl (IntKind.wrap .i64 (v0 + 1),l0.set v0.toNat r0))) <|
 .rt [5] 1 (.inr (l0))
def Po (p_l:List bC) (v0:Int) (l0:List bC) : Option (((List bC))) := dF (fun v_=>(En p_l v_).den) FU (v0,l0)
def VH (p_l:List bC) : Mo (List bC) :=
 .say [.num p_l.length] (ok1 (ln_ p_l bC.lf)) <|
 .ite ((p_l.length:Int) == 0) (fun c0 =>
 .say [.br true] (okc c0 (ok1 (by simp [bC.aT] : (([] : List bC).map bC.lf) = []))) <|
 .ret ⟨[.zo 0 152 2,.iZ 0 (([] : List bC).map bC.lf),.mvn 0],[0],[(1,0)],1⟩ (([] : List bC))) fun c0 =>
 .say [.br false,.num p_l.length,.rows ((List.replicate (p_l.length:Int).toNat (bC.mk [] false)).map bC.lf),.num p_l.length] (okc c0 (okc (ln_ p_l bC.lf) (ok1 (rp_ bC.aT (p_l.length:Int).toNat (bC.mk [] false))))) <|
 .grd ((0:Int) ≤ (p_l.length:Int) ∧ 32 * (p_l.length:Int).toNat ≤ 281474976710656 ∧ (p_l.length:Int).toNat ≤ maxLen) fun h0 =>
 .say [] (okc (mk_ (p_l.length:Int) h0) (ok1 (ln_ p_l bC.lf))) <|
 .lp Tryz.f233 0 [1,1,1,0,1,0] 0 [1,5,14,15,16] 1 (.exit 0) (fun r_=>⟨[(5,.own 0)],[.row 152 2 (r_.map bC.lf)]⟩) (Po p_l 0 (List.replicate (p_l.length:Int).toNat (bC.mk [] false))) (lW (fun (v0,l0)=>⟨[(1,.raw (.func (.func 234) #[] #[])),(5,.own 0),(14,.lf (.rows 2 (p_l.map bC.lf))),(15,.i_ (p_l.length:Int)),(16,.i_ v0)],[.row 152 2 (l0.map bC.lf)]⟩) (by kernel_rfl) rfl fun v_=>by kernel_rfl) fun r0 _ =>
 .ret ⟨[.mvn 0],[0],[(1,0)],1⟩ (r0)
def Q34 (p_l:List bC) : Option (List bC) := Mo.den (VH p_l)
theorem XC (p_l:List bC) : FH (Q34 p_l) 233 [.lf (.rows 2 (p_l.map bC.lf)),.raw (.func (.func 234) #[] #[])] [] (fun _=>.own 0) (fun r=>[.row 152 2 (r.map bC.lf)]) := gy Tryz.func233 (by kernel_rfl) (fun _=>rfl) (by kernel_rfl)
structure RB9 where
 m1:(p_e:aW) → Option (aW)
 ok1:∀ p_e,FV (m1 p_e) 286 [.dat (aW.lf1 p_e)] (fun r=>.dat (aW.lf1 r))
 m2:(p_l:List aW) → Option (List aW)
 ok2:∀ p_l,FH (m2 p_l) 318 [.lf (.rows 11 (p_l.map aW.lf)),.raw (.func (.func 286) #[] #[])] [] (fun r=>.lf (.rows 11 (r.map aW.lf))) (fun _=>[])
def Pq (R_:RB9) (p_e:aW) : Mo (aW) :=
 .cl (yc p_e.eU) fun r0 _ =>
 .cl (yc p_e.iQ) fun r1 _ =>
 .cl (qp p_e.fArg) fun r2 _ =>
 .cH [] (R_.ok2 p_e.fV) fun r3 _ =>
 .ret (cZ 1) (aW.mk p_e.fOp r0 p_e.fName r1 r2 p_e.fN r3)
theorem Uk (R_:RB9) (p_e:aW) : FV (Mo.den (Pq R_ p_e)) 286 [.dat (aW.lf1 p_e)] (fun r=>.dat (aW.lf1 r)) := eG Tryz.func286 (by kernel_rfl) (fun _=>rfl) (by kernel_rfl)
def Eo (R_:RB9) (p_l:List aW) : (Int × (List aW)) → Mo ((Int × (List aW)) ⊕ ((List aW))) := fun (v0,l0) =>
 .iB (decide ((v0:Int) < (p_l.length:Int))) (.ask (cO p_l v0) fun x0 h0 =>
 .say [.row (aW.lf1 x0)] (ok1 (bf aW.aT h0)) <|
 .cl (R_.ok1 x0) fun r0 _ =>
 .ask (cO l0 v0) fun x1 h1 =>
 .say [.row (aW.lf1 x1),.rows ((l0.set v0.toNat r0).map aW.lf)] (okc (bM aW.aT h1) (okc (st_ aW.aT l0 v0.toNat r0) (ok1 ((bf aW.aT h1).2)))) <|
 .rt [1,5,14,15,16] 1 (.inl (IntKind.wrap .i64 (v0 + 1),l0.set v0.toNat r0))) <|
 .rt [5] 1 (.inr (l0))
def Pv (R_:RB9) (p_l:List aW) (v0:Int) (l0:List aW) : Option (((List aW))) := dF (fun v_=>(Eo R_ p_l v_).den) FU (v0,l0)
def Px (R_:RB9) (p_l:List aW) : Mo (List aW) :=
 .say [.num p_l.length] (ok1 (ln_ p_l aW.lf)) <|
 .ite ((p_l.length:Int) == 0) (fun c0 =>
 .say [.br true] (ok1 c0) <|
 .ret ⟨[.nil 0 11,.tod 0],[0],[],0⟩ ([])) fun c0 =>
 .say [.br false,.num p_l.length,.rows ((List.replicate (p_l.length:Int).toNat aW.z).map aW.lf),.num p_l.length] (okc c0 (okc (ln_ p_l aW.lf) (ok1 (rp_ aW.aT (p_l.length:Int).toNat aW.z)))) <|
 .grd ((0:Int) ≤ (p_l.length:Int) ∧ 184 * (p_l.length:Int).toNat ≤ 281474976710656 ∧ (p_l.length:Int).toNat ≤ maxLen) fun h0 =>
 .say [] (okc (mk_ (p_l.length:Int) h0) (ok1 (ln_ p_l aW.lf))) <|
 .lp Tryz.f318 0 [1,1,1,0,1,0] 0 [1,5,14,15,16] 1 (.exit 0) (fun r_=>⟨[(5,.own 0)],[.row 44 11 (r_.map aW.lf)]⟩) (Pv R_ p_l 0 (List.replicate (p_l.length:Int).toNat aW.z)) (lW (fun (v0,l0)=>⟨[(1,.raw (.func (.func 286) #[] #[])),(5,.own 0),(14,.lf (.rows 11 (p_l.map aW.lf))),(15,.i_ (p_l.length:Int)),(16,.i_ v0)],[.row 44 11 (l0.map aW.lf)]⟩) (by kernel_rfl) rfl fun v_=>by kernel_rfl) fun r0 _ =>
 .ret ⟨[.frz 0],[0],[],0⟩ (r0)
theorem Ul (R_:RB9) (p_l:List aW) : FH (Mo.den (Px R_ p_l)) 318 [.lf (.rows 11 (p_l.map aW.lf)),.raw (.func (.func 286) #[] #[])] [] (fun r=>.lf (.rows 11 (r.map aW.lf))) (fun _=>[]) := gy Tryz.func318 (by kernel_rfl) (fun _=>rfl) (by kernel_rfl)
def mW:Nat → RB9
 | 0=>{ m1 := fun p_e=>none,ok1 := fun _ _ h=>(by cases h),m2 := fun p_l=>none,ok2 := fun _ _ h=>(by cases h) }
 | n_ + 1=>{ m1 := fun p_e=>Mo.den (Pq (mW n_) p_e),ok1 := fun p_e r h=>Uk (mW n_) p_e r h,m2 := fun p_l=>Mo.den (Px (mW n_) p_l),ok2 := Ul (mW n_) }
def Q85 (p_e:aW) : Option (aW) := (mW FU).m1 p_e
theorem XD (p_e:aW) : FV (Q85 p_e) 286 [.dat (aW.lf1 p_e)] (fun r=>.dat (aW.lf1 r)) := (mW FU).ok1 p_e
structure RB8 where
 m1:(p_p:aU) → Option (aU)
 ok1:∀ p_p,FV (m1 p_p) 235 [.dat (aU.lf1 p_p)] (fun r=>.dat (aU.lf1 r))
 m2:(p_l:List aU) → Option (List aU)
 ok2:∀ p_l,FH (m2 p_l) 287 [.lf (.rows 25 (p_l.map aU.lf)),.raw (.func (.func 235) #[] #[])] [] (fun r=>.lf (.rows 25 (r.map aU.lf))) (fun _=>[])
def Py (R_:RB8) (p_p:aU) : Mo (aU) :=
 .cl (yc p_p.eU) fun r0 _ =>
 .cl (qp p_p.fArg) fun r1 _ =>
 .ask (Q24 p_p.fArgs) fun r2 h0 =>
 .say [.iU [] (.lf (.rows 5 (r2.map aF.lf))) [],.rows (p_p.fC.iC.map dM.lf)] (okc (Pn _ _ h0) (ok1 (by simp [dM.aT] : p_p.fC.iC.map dM.lf = [] ++ (p_p.fC.iC.map dM.lf)))) <|
 .grd ((([] : List dM).length + p_p.fC.iC.length) * 16 ≤ 140737488355328) fun h1 =>
 .say [] (ok1 (cq_ dM.lf h1)) <|
 .cl (XD p_p.fExpr) fun r3 _ =>
 .ask (R_.m2 p_p.fV) fun r4 h2 =>
 .say [.iU [] (.lf (.rows 25 (r4.map aU.lf))) [],.at_ 0 0,.frz 2] (ok1 (R_.ok2 _ _ h2)) <|
 .ret (cZ 1) (aU.mk p_p.fOp r0 r1 r2 p_p.fN p_p.fM p_p.fC r3 r4)
theorem Um (R_:RB8) (p_p:aU) : FV (Mo.den (Py R_ p_p)) 235 [.dat (aU.lf1 p_p)] (fun r=>.dat (aU.lf1 r)) := eG Tryz.func235 (by kernel_rfl) (fun _=>rfl) (by kernel_rfl)
def Ep (R_:RB8) (p_l:List aU) : (Int × (List aU)) → Mo ((Int × (List aU)) ⊕ ((List aU))) := fun (v0,l0) =>
 .iB (decide ((v0:Int) < (p_l.length:Int))) (.ask (cO p_l v0) fun x0 h0 =>
 .say [.row (aU.lf1 x0)] (ok1 (bf aU.aT h0)) <|
 .cl (R_.ok1 x0) fun r0 _ =>
 .ask (cO l0 v0) fun x1 h1 =>
 .say [.row (aU.lf1 x1),.rows ((l0.set v0.toNat r0).map aU.lf)] (okc (bM aU.aT h1) (okc (st_ aU.aT l0 v0.toNat r0) (ok1 ((bf aU.aT h1).2)))) <|
 .rt [1,5,14,15,16] 1 (.inl (IntKind.wrap .i64 (v0 + 1),l0.set v0.toNat r0))) <|
 .rt [5] 1 (.inr (l0))
def Pz (R_:RB8) (p_l:List aU) (v0:Int) (l0:List aU) : Option (((List aU))) := dF (fun v_=>(Ep R_ p_l v_).den) FU (v0,l0)
def PD (R_:RB8) (p_l:List aU) : Mo (List aU) :=
 .say [.num p_l.length] (ok1 (ln_ p_l aU.lf)) <|
 .ite ((p_l.length:Int) == 0) (fun c0 =>
 .say [.br true] (ok1 c0) <|
 .ret ⟨[.nil 0 25,.tod 0],[0],[],0⟩ ([])) fun c0 =>
 .say [.br false,.num p_l.length,.rows ((List.replicate (p_l.length:Int).toNat aU.z).map aU.lf),.num p_l.length] (okc c0 (okc (ln_ p_l aU.lf) (ok1 (rp_ aU.aT (p_l.length:Int).toNat aU.z)))) <|
 .grd ((0:Int) ≤ (p_l.length:Int) ∧ 400 * (p_l.length:Int).toNat ≤ 281474976710656 ∧ (p_l.length:Int).toNat ≤ maxLen) fun h0 =>
 .say [] (okc (mk_ (p_l.length:Int) h0) (ok1 (ln_ p_l aU.lf))) <|
 .lp Tryz.f287 0 [1,1,1,0,1,0] 0 [1,5,14,15,16] 1 (.exit 0) (fun r_=>⟨[(5,.own 0)],[.row 47 25 (r_.map aU.lf)]⟩) (Pz R_ p_l 0 (List.replicate (p_l.length:Int).toNat aU.z)) (lW (fun (v0,l0)=>⟨[(1,.raw (.func (.func 235) #[] #[])),(5,.own 0),(14,.lf (.rows 25 (p_l.map aU.lf))),(15,.i_ (p_l.length:Int)),(16,.i_ v0)],[.row 47 25 (l0.map aU.lf)]⟩) (by kernel_rfl) rfl fun v_=>by kernel_rfl) fun r0 _ =>
 .ret ⟨[.frz 0],[0],[],0⟩ (r0)
theorem Un (R_:RB8) (p_l:List aU) : FH (Mo.den (PD R_ p_l)) 287 [.lf (.rows 25 (p_l.map aU.lf)),.raw (.func (.func 235) #[] #[])] [] (fun r=>.lf (.rows 25 (r.map aU.lf))) (fun _=>[]) := gy Tryz.func287 (by kernel_rfl) (fun _=>rfl) (by kernel_rfl)
def mX:Nat → RB8
 | 0=>{ m1 := fun p_p=>none,ok1 := fun _ _ h=>(by cases h),m2 := fun p_l=>none,ok2 := fun _ _ h=>(by cases h) }
 | n_ + 1=>{ m1 := fun p_p=>Mo.den (Py (mX n_) p_p),ok1 := fun p_p r h=>Um (mX n_) p_p r h,m2 := fun p_l=>Mo.den (PD (mX n_) p_l),ok2 := Un (mX n_) }
def Q72 (p_p:aU) : Option (aU) := (mX FU).m1 p_p
theorem XE (p_p:aU) : FV (Q72 p_p) 235 [.dat (aU.lf1 p_p)] (fun r=>.dat (aU.lf1 r)) := (mX FU).ok1 p_p
def VI (p_x:aV) : Mo (aV) :=
 .cH [] (XC p_x.kX) fun r0 _ =>
 .ask (Q72 p_x.kE) fun r1 h0 =>
 .say [.res (.dat (aU.lf1 r1)),.at_ 0 0,.frz 2] (ok1 (XE _ _ h0)) <|
 .ret (cZ 1) (aV.NP (aV.Vf p_x r0) r1)
def Q82 (p_x:aV) : Option (aV) := Mo.den (VI p_x)
theorem PE (p_x:aV) : FV (Q82 p_x) 188 [.dat (aV.lf1 p_x)] (fun r=>.dat (aV.lf1 r)) := eG Tryz.func188 (by kernel_rfl) (fun _=>rfl) (by kernel_rfl)
def Es (p_l:List aV) : (Int × (List aV)) → Mo ((Int × (List aV)) ⊕ ((List aV))) := fun (v0,l0) =>
 .iB (decide ((v0:Int) < (p_l.length:Int))) (.ask (cO p_l v0) fun x0 h0 =>
 .say [.row (aV.lf1 x0)] (ok1 (bf aV.aT h0)) <|
 .cl (PE x0) fun r0 _ =>
 .ask (cO l0 v0) fun x1 h1 =>
 .say [.row (aV.lf1 x1),.rows ((l0.set v0.toNat r0).map aV.lf)] (okc (bM aV.aT h1) (okc (st_ aV.aT l0 v0.toNat r0) (ok1 ((bf aV.aT h1).2)))) <|
 .rt [1,5,14,15,16] 1 (.inl (IntKind.wrap .i64 (v0 + 1),l0.set v0.toNat r0))) <|
 .rt [5] 1 (.inr (l0))
def PG (p_l:List aV) (v0:Int) (l0:List aV) : Option (((List aV))) := dF (fun v_=>(Es p_l v_).den) FU (v0,l0)
def VJ (p_l:List aV) : Mo (List aV) :=
 .say [.num p_l.length] (ok1 (ln_ p_l aV.lf)) <|
 .ite ((p_l.length:Int) == 0) (fun c0 =>
 .say [.br true] (okc c0 (ok1 (by simp [aV.aT] : (([] : List aV).map aV.lf) = []))) <|
 .ret ⟨[.zo 0 49 31,.iZ 0 (([] : List aV).map aV.lf),.mvn 0],[0],[(1,0)],1⟩ (([] : List aV))) fun c0 =>
 .say [.br false,.num p_l.length,.rows ((List.replicate (p_l.length:Int).toNat aV.z).map aV.lf),.num p_l.length] (okc c0 (okc (ln_ p_l aV.lf) (ok1 (rp_ aV.aT (p_l.length:Int).toNat aV.z)))) <|
 .grd ((0:Int) ≤ (p_l.length:Int) ∧ 456 * (p_l.length:Int).toNat ≤ 281474976710656 ∧ (p_l.length:Int).toNat ≤ maxLen) fun h0 =>
 .say [] (okc (mk_ (p_l.length:Int) h0) (ok1 (ln_ p_l aV.lf))) <|
 .lp Tryz.f231 0 [1,1,1,0,1,0] 0 [1,5,14,15,16] 1 (.exit 0) (fun r_=>⟨[(5,.own 0)],[.row 49 31 (r_.map aV.lf)]⟩) (PG p_l 0 (List.replicate (p_l.length:Int).toNat aV.z)) (lW (fun (v0,l0)=>⟨[(1,.raw (.func (.func 188) #[] #[])),(5,.own 0),(14,.lf (.rows 31 (p_l.map aV.lf))),(15,.i_ (p_l.length:Int)),(16,.i_ v0)],[.row 49 31 (l0.map aV.lf)]⟩) (by kernel_rfl) rfl fun v_=>by kernel_rfl) fun r0 _ =>
 .ret ⟨[.mvn 0],[0],[(1,0)],1⟩ (r0)
def Q35 (p_l:List aV) : Option (List aV) := Mo.den (VJ p_l)
theorem XF (p_l:List aV) : FH (Q35 p_l) 231 [.lf (.rows 31 (p_l.map aV.lf)),.raw (.func (.func 188) #[] #[])] [] (fun _=>.own 0) (fun r=>[.row 49 31 (r.map aV.lf)]) := gy Tryz.func231 (by kernel_rfl) (fun _=>rfl) (by kernel_rfl)
structure uj where
 m1:(p_s:aC) → Option (aC)
 ok1:∀ p_s,FV (m1 p_s) 232 [.dat (aC.lf1 p_s)] (fun r=>.dat (aC.lf1 r))
 m2:(p_l:List bF) → Option (List bF)
 ok2:∀ p_l,FH (m2 p_l) 283 [.lf (.rows 22 (p_l.map bF.lf)),.raw (.func (.func 284) #[] #[])] [] (fun r=>.lf (.rows 22 (r.map bF.lf))) (fun _=>[])
 m3:(p_l:List aC) → Option (List aC)
 ok3:∀ p_l,FH (m3 p_l) 285 [.lf (.rows 21 (p_l.map aC.lf)),.raw (.func (.func 232) #[] #[])] [] (fun r=>.lf (.rows 21 (r.map aC.lf))) (fun _=>[])
 m4:(p_p:bF) → Option (bF)
 ok4:∀ p_p,FV (m4 p_p) 284 [.dat (bF.lf1 p_p)] (fun r=>.dat (bF.lf1 r))
def PI (R_:uj) (p_s:aC) : Mo (aC) :=
 .cl (qp p_s.zD) fun r0 _ =>
 .cl (qp p_s.zF) fun r1 _ =>
 .cH [] (Pn p_s.mO) fun r2 _ =>
 .cl (yc p_s.gI) fun r3 _ =>
 .cH [] (R_.ok2 p_s.jS) fun r4 _ =>
 .cH [] (R_.ok3 p_s.jT) fun r5 _ =>
 .ret (cZ 1) (aC.mk p_s.ql p_s.lS r0 p_s.lT r1 r2 p_s.lU p_s.lV r3 r4 p_s.lX r5 p_s.iV)
theorem Uo (R_:uj) (p_s:aC) : FV (Mo.den (PI R_ p_s)) 232 [.dat (aC.lf1 p_s)] (fun r=>.dat (aC.lf1 r)) := eG Tryz.func232 (by kernel_rfl) (fun _=>rfl) (by kernel_rfl)
def Et (R_:uj) (p_l:List bF) : (Int × (List bF)) → Mo ((Int × (List bF)) ⊕ ((List bF))) := fun (v0,l0) =>
 .iB (decide ((v0:Int) < (p_l.length:Int))) (.ask (cO p_l v0) fun x0 h0 =>
 .say [.row (bF.lf1 x0)] (ok1 (bf bF.aT h0)) <|
 .cl (R_.ok4 x0) fun r0 _ =>
 .ask (cO l0 v0) fun x1 h1 =>
 .say [.row (bF.lf1 x1),.rows ((l0.set v0.toNat r0).map bF.lf)] (okc (bM bF.aT h1) (okc (st_ bF.aT l0 v0.toNat r0) (ok1 ((bf bF.aT h1).2)))) <|
 .rt [1,5,14,15,16] 1 (.inl (IntKind.wrap .i64 (v0 + 1),l0.set v0.toNat r0))) <|
 .rt [5] 1 (.inr (l0))
def PK (R_:uj) (p_l:List bF) (v0:Int) (l0:List bF) : Option (((List bF))) := dF (fun v_=>(Et R_ p_l v_).den) FU (v0,l0)
def PL (R_:uj) (p_l:List bF) : Mo (List bF) :=
 .say [.num p_l.length] (ok1 (ln_ p_l bF.lf)) <|
 .ite ((p_l.length:Int) == 0) (fun c0 =>
 .say [.br true] (ok1 c0) <|
 .ret ⟨[.nil 0 22,.tod 0],[0],[],0⟩ ([])) fun c0 =>
 .say [.br false,.num p_l.length,.rows ((List.replicate (p_l.length:Int).toNat (bF.mk ⟨#[]⟩ aC.z)).map bF.lf),.num p_l.length] (okc c0 (okc (ln_ p_l bF.lf) (ok1 (rp_ bF.aT (p_l.length:Int).toNat (bF.mk ⟨#[]⟩ aC.z))))) <|
 .grd ((0:Int) ≤ (p_l.length:Int) ∧ 328 * (p_l.length:Int).toNat ≤ 281474976710656 ∧ (p_l.length:Int).toNat ≤ maxLen) fun h0 =>
 .say [] (okc (mk_ (p_l.length:Int) h0) (ok1 (ln_ p_l bF.lf))) <|
 .lp Tryz.f283 0 [1,1,1,0,1,0] 0 [1,5,14,15,16] 1 (.exit 0) (fun r_=>⟨[(5,.own 0)],[.row 217 22 (r_.map bF.lf)]⟩) (PK R_ p_l 0 (List.replicate (p_l.length:Int).toNat (bF.mk ⟨#[]⟩ aC.z))) (lW (fun (v0,l0)=>⟨[(1,.raw (.func (.func 284) #[] #[])),(5,.own 0),(14,.lf (.rows 22 (p_l.map bF.lf))),(15,.i_ (p_l.length:Int)),(16,.i_ v0)],[.row 217 22 (l0.map bF.lf)]⟩) (by kernel_rfl) rfl fun v_=>by kernel_rfl) fun r0 _ =>
 .ret ⟨[.frz 0],[0],[],0⟩ (r0)
theorem Ur (R_:uj) (p_l:List bF) : FH (Mo.den (PL R_ p_l)) 283 [.lf (.rows 22 (p_l.map bF.lf)),.raw (.func (.func 284) #[] #[])] [] (fun r=>.lf (.rows 22 (r.map bF.lf))) (fun _=>[]) := gy Tryz.func283 (by kernel_rfl) (fun _=>rfl) (by kernel_rfl)
def Eu (R_:uj) (p_l:List aC) : (Int × (List aC)) → Mo ((Int × (List aC)) ⊕ ((List aC))) := fun (v0,l0) =>
 .iB (decide ((v0:Int) < (p_l.length:Int))) (.ask (cO p_l v0) fun x0 h0 =>
 .say [.row (aC.lf1 x0)] (ok1 (bf aC.aT h0)) <|
 .cl (R_.ok1 x0) fun r0 _ =>
 .ask (cO l0 v0) fun x1 h1 =>
 .say [.row (aC.lf1 x1),.rows ((l0.set v0.toNat r0).map aC.lf)] (okc (bM aC.aT h1) (okc (st_ aC.aT l0 v0.toNat r0) (ok1 ((bf aC.aT h1).2)))) <|
 .rt [1,5,14,15,16] 1 (.inl (IntKind.wrap .i64 (v0 + 1),l0.set v0.toNat r0))) <|
 .rt [5] 1 (.inr (l0))
def PN (R_:uj) (p_l:List aC) (v0:Int) (l0:List aC) : Option (((List aC))) := dF (fun v_=>(Eu R_ p_l v_).den) FU (v0,l0)
def PO (R_:uj) (p_l:List aC) : Mo (List aC) :=
 .say [.num p_l.length] (ok1 (ln_ p_l aC.lf)) <|
 .ite ((p_l.length:Int) == 0) (fun c0 =>
 .say [.br true] (ok1 c0) <|
 .ret ⟨[.nil 0 21,.tod 0],[0],[],0⟩ ([])) fun c0 =>
 .say [.br false,.num p_l.length,.rows ((List.replicate (p_l.length:Int).toNat aC.z).map aC.lf),.num p_l.length] (okc c0 (okc (ln_ p_l aC.lf) (ok1 (rp_ aC.aT (p_l.length:Int).toNat aC.z)))) <|
 .grd ((0:Int) ≤ (p_l.length:Int) ∧ 312 * (p_l.length:Int).toNat ≤ 281474976710656 ∧ (p_l.length:Int).toNat ≤ maxLen) fun h0 =>
 .say [] (okc (mk_ (p_l.length:Int) h0) (ok1 (ln_ p_l aC.lf))) <|
 .lp Tryz.f285 0 [1,1,1,0,1,0] 0 [1,5,14,15,16] 1 (.exit 0) (fun r_=>⟨[(5,.own 0)],[.row 35 21 (r_.map aC.lf)]⟩) (PN R_ p_l 0 (List.replicate (p_l.length:Int).toNat aC.z)) (lW (fun (v0,l0)=>⟨[(1,.raw (.func (.func 232) #[] #[])),(5,.own 0),(14,.lf (.rows 21 (p_l.map aC.lf))),(15,.i_ (p_l.length:Int)),(16,.i_ v0)],[.row 35 21 (l0.map aC.lf)]⟩) (by kernel_rfl) rfl fun v_=>by kernel_rfl) fun r0 _ =>
 .ret ⟨[.frz 0],[0],[],0⟩ (r0)
theorem Us (R_:uj) (p_l:List aC) : FH (Mo.den (PO R_ p_l)) 285 [.lf (.rows 21 (p_l.map aC.lf)),.raw (.func (.func 232) #[] #[])] [] (fun r=>.lf (.rows 21 (r.map aC.lf))) (fun _=>[]) := gy Tryz.func285 (by kernel_rfl) (fun _=>rfl) (by kernel_rfl)
def Hu (R_:uj) (p_p:bF) : Mo (bF) :=
 .say [.order [(true,0),(true,1),(true,2),(true,3),(false,4),(true,5),(false,6)] (some 6) []] ok0 <|
 .cl (R_.ok1 p_p.gV) fun r0 _ =>
 .ret (cZ 1) (bF.mk p_p.fName r0)
theorem PS (R_:uj) (p_p:bF) : FV (Mo.den (Hu R_ p_p)) 284 [.dat (bF.lf1 p_p)] (fun r=>.dat (bF.lf1 r)) := eG Tryz.func284 (by kernel_rfl) (fun _=>rfl) (by kernel_rfl)
def gG:Nat → uj
 | 0=>{ m1 := fun p_s=>none,ok1 := fun _ _ h=>(by cases h),m2 := fun p_l=>none,ok2 := fun _ _ h=>(by cases h),m3 := fun p_l=>none,ok3 := fun _ _ h=>(by cases h),m4 := fun p_p=>none,ok4 := fun _ _ h=>(by cases h) }
 | n_ + 1=>{ m1 := fun p_s=>Mo.den (PI (gG n_) p_s),ok1 := fun p_s r h=>Uo (gG n_) p_s r h,m2 := fun p_l=>Mo.den (PL (gG n_) p_l),ok2 := fun p_l r h=>Ur (gG n_) p_l r h,m3 := fun p_l=>Mo.den (PO (gG n_) p_l),ok3 := fun p_l r h=>Us (gG n_) p_l r h,m4 := fun p_p=>Mo.den (Hu (gG n_) p_p),ok4 := PS (gG n_) }
def Q68 (p_s:aC) : Option (aC) := (gG FU).m1 p_s
theorem XG (p_s:aC) : FV (Q68 p_s) 232 [.dat (aC.lf1 p_s)] (fun r=>.dat (aC.lf1 r)) := (gG FU).ok1 p_s
def VK (p_d:bZ) : Mo (bZ) :=
 .cH [] (XF p_d.jv) fun r0 _ =>
 .ask (Q68 p_d.gV) fun r1 h0 =>
 .say [.res (.dat (aC.lf1 r1)),.at_ 0 0,.frz 2] (ok1 (XG _ _ h0)) <|
 .ret (cZ 1) (bZ.mk p_d.fName r0 r1 p_d.BJ p_d.vY)
def Q96 (p_d:bZ) : Option (bZ) := Mo.den (VK p_d)
theorem XH (p_d:bZ) : FV (Q96 p_d) 187 [.dat (bZ.lf1 p_d)] (fun r=>.dat (bZ.lf1 r)) := eG Tryz.func187 (by kernel_rfl) (fun _=>rfl) (by kernel_rfl)
end
end Go.Proofs.YtdnafbfmaphhhaaGreatDoor
set_option linter.unusedSimpArgs false
set_option linter.unusedVariables false
namespace Go.Proofs.YtdnafbfmaphhhaaGreatDoor
open Go.RowKit
set_option maxRecDepth 20000
set_option maxHeartbeats 4000000
noncomputable section
def VL (p_l:List Int) : Mo (List Int) :=
 .say [.rows (p_l.map lfI)] (ok1 (by simp [lfI,lfK] : p_l.map lfI = [] ++ (p_l.map lfI))) <|
 .grd ((([] : List Int).length + p_l.length) * 8 ≤ 140737488355328) fun h0 =>
 .say [] (ok1 (cq_ lfI h0)) <|
 .ret ⟨[.mvn 0],[0],[(1,0)],1⟩ (p_l)
def Q74 (p_l:List Int) : Option (List Int) := Mo.den (VL p_l)
theorem Hw (p_l:List Int) : FH (Q74 p_l) 138 [.lf (.rows 1 (p_l.map lfI))] [] (fun _=>.own 0) (fun r=>[.row 3 1 (r.map lfI)]) := gy Tryz.func138 (by kernel_rfl) (fun _=>rfl) (by kernel_rfl)
structure RB6 where
 m1:(p_w:ay) → Option (ay)
 ok1:∀ p_w,FV (m1 p_w) 137 [.dat (ay.lf1 p_w)] (fun r=>.dat (ay.lf1 r))
 m2:(p_l:List ay) → Option (List ay)
 ok2:∀ p_l,FH (m2 p_l) 189 [.lf (.rows 78 (p_l.map ay.lf)),.raw (.func (.func 137) #[] #[])] [] (fun r=>.lf (.rows 78 (r.map ay.lf))) (fun _=>[])
def PU (R_:RB6) (p_w:ay) : Mo (ay) :=
 .cl (qp p_w.kY) fun r0 _ =>
 .cl (qp p_w.jh) fun r1 _ =>
 .cl (qp p_w.fO) fun r2 _ =>
 .cl (XH p_w.kZ) fun r3 _ =>
 .cl (PE p_w.aY) fun r4 _ =>
 .cH [] (R_.ok2 p_w.dH) fun r5 _ =>
 .ask (Q74 p_w.fD) fun r6 h0 =>
 .say [.iU [] (.own 0) [.row 3 1 (r6.map lfI)],.at_ 0 0,.frz 2] (ok1 (Hw _ _ h0)) <|
 .ret (cZ 1) (ay.mk p_w.bT p_w.iI r0 r1 r2 r3 r4 p_w.ng p_w.dS r5 r6 p_w.gK)
theorem Ut (R_:RB6) (p_w:ay) : FV (Mo.den (PU R_ p_w)) 137 [.dat (ay.lf1 p_w)] (fun r=>.dat (ay.lf1 r)) := eG Tryz.func137 (by kernel_rfl) (fun _=>rfl) (by kernel_rfl)
def Ew (R_:RB6) (p_l:List ay) : (Int × (List ay)) → Mo ((Int × (List ay)) ⊕ ((List ay))) := fun (v0,l0) =>
 .iB (decide ((v0:Int) < (p_l.length:Int))) (.ask (cO p_l v0) fun x0 h0 =>
 .say [.row (ay.lf1 x0)] (ok1 (bf ay.aT h0)) <|
 .cl (R_.ok1 x0) fun r0 _ =>
 .ask (cO l0 v0) fun x1 h1 =>
 .say [.row (ay.lf1 x1),.rows ((l0.set v0.toNat r0).map ay.lf)] (okc (bM ay.aT h1) (okc (st_ ay.aT l0 v0.toNat r0) (ok1 ((bf ay.aT h1).2)))) <|
 .rt [1,5,14,15,16] 1 (.inl (IntKind.wrap .i64 (v0 + 1),l0.set v0.toNat r0))) <|
 .rt [5] 1 (.inr (l0))
def PV (R_:RB6) (p_l:List ay) (v0:Int) (l0:List ay) : Option (((List ay))) := dF (fun v_=>(Ew R_ p_l v_).den) FU (v0,l0)
def PW (R_:RB6) (p_l:List ay) : Mo (List ay) :=
 .say [.num p_l.length] (ok1 (ln_ p_l ay.lf)) <|
 .ite ((p_l.length:Int) == 0) (fun c0 =>
 .say [.br true] (ok1 c0) <|
 .ret ⟨[.nil 0 78,.tod 0],[0],[],0⟩ ([])) fun c0 =>
 .say [.br false,.num p_l.length,.rows ((List.replicate (p_l.length:Int).toNat ay.z).map ay.lf),.num p_l.length] (okc c0 (okc (ln_ p_l ay.lf) (ok1 (rp_ ay.aT (p_l.length:Int).toNat ay.z)))) <|
 .grd ((0:Int) ≤ (p_l.length:Int) ∧ 1168 * (p_l.length:Int).toNat ≤ 281474976710656 ∧ (p_l.length:Int).toNat ≤ maxLen) fun h0 =>
 .say [] (okc (mk_ (p_l.length:Int) h0) (ok1 (ln_ p_l ay.lf))) <|
 .lp Tryz.f189 0 [1,1,1,0,1,0] 0 [1,5,14,15,16] 1 (.exit 0) (fun r_=>⟨[(5,.own 0)],[.row 52 78 (r_.map ay.lf)]⟩) (PV R_ p_l 0 (List.replicate (p_l.length:Int).toNat ay.z)) (lW (fun (v0,l0)=>⟨[(1,.raw (.func (.func 137) #[] #[])),(5,.own 0),(14,.lf (.rows 78 (p_l.map ay.lf))),(15,.i_ (p_l.length:Int)),(16,.i_ v0)],[.row 52 78 (l0.map ay.lf)]⟩) (by kernel_rfl) rfl fun v_=>by kernel_rfl) fun r0 _ =>
 .ret ⟨[.frz 0],[0],[],0⟩ (r0)
theorem Uu (R_:RB6) (p_l:List ay) : FH (Mo.den (PW R_ p_l)) 189 [.lf (.rows 78 (p_l.map ay.lf)),.raw (.func (.func 137) #[] #[])] [] (fun r=>.lf (.rows 78 (r.map ay.lf))) (fun _=>[]) := gy Tryz.func189 (by kernel_rfl) (fun _=>rfl) (by kernel_rfl)
def mY:Nat → RB6
 | 0=>{ m1 := fun p_w=>none,ok1 := fun _ _ h=>(by cases h),m2 := fun p_l=>none,ok2 := fun _ _ h=>(by cases h) }
 | n_ + 1=>{ m1 := fun p_w=>Mo.den (PU (mY n_) p_w),ok1 := fun p_w r h=>Ut (mY n_) p_w r h,m2 := fun p_l=>Mo.den (PW (mY n_) p_l),ok2 := Uu (mY n_) }
def Q78 (p_w:ay) : Option (ay) := (mY FU).m1 p_w
theorem XI (p_w:ay) : FV (Q78 p_w) 137 [.dat (ay.lf1 p_w)] (fun r=>.dat (ay.lf1 r)) := (mY FU).ok1 p_w
def VN (p_e:ak) : Mo (ak) :=
 .cl (XI p_e.qm) fun r0 _ =>
 .ret (cZ 1) (ak.mk p_e.aJ p_e.dS p_e.nY p_e.vZ r0)
def Q91 (p_e:ak) : Option (ak) := Mo.den (VN p_e)
theorem XJ (p_e:ak) : FV (Q91 p_e) 102 [.dat (ak.lf1 p_e)] (fun r=>.dat (ak.lf1 r)) := eG Tryz.func102 (by kernel_rfl) (fun _=>rfl) (by kernel_rfl)
def Ey (p_l:List ak) : (Int × (List ak)) → Mo ((Int × (List ak)) ⊕ ((List ak))) := fun (v0,l0) =>
 .iB (decide ((v0:Int) < (p_l.length:Int))) (.ask (cO p_l v0) fun x0 h0 =>
 .say [.row (ak.lf1 x0)] (ok1 (bf ak.aT h0)) <|
 .cl (XJ x0) fun r0 _ =>
 .ask (cO l0 v0) fun x1 h1 =>
 .say [.row (ak.lf1 x1),.rows ((l0.set v0.toNat r0).map ak.lf)] (okc (bM ak.aT h1) (okc (st_ ak.aT l0 v0.toNat r0) (ok1 ((bf ak.aT h1).2)))) <|
 .rt [1,5,14,15,16] 1 (.inl (IntKind.wrap .i64 (v0 + 1),l0.set v0.toNat r0))) <|
 .rt [5] 1 (.inr (l0))
def PX (p_l:List ak) (v0:Int) (l0:List ak) : Option (((List ak))) := dF (fun v_=>(Ey p_l v_).den) FU (v0,l0)
def VO (p_l:List ak) : Mo (List ak) :=
 .say [.num p_l.length] (ok1 (ln_ p_l ak.lf)) <|
 .ite ((p_l.length:Int) == 0) (fun c0 =>
 .say [.br true] (okc c0 (ok1 (by simp [ak.aT] : (([] : List ak).map ak.lf) = []))) <|
 .ret ⟨[.zo 0 54 82,.iZ 0 (([] : List ak).map ak.lf),.mvn 0],[0],[(1,0)],1⟩ (([] : List ak))) fun c0 =>
 .say [.br false,.num p_l.length,.rows ((List.replicate (p_l.length:Int).toNat (ak.mk 0 0 ⟨#[]⟩ 0 ay.z)).map ak.lf),.num p_l.length] (okc c0 (okc (ln_ p_l ak.lf) (ok1 (rp_ ak.aT (p_l.length:Int).toNat (ak.mk 0 0 ⟨#[]⟩ 0 ay.z))))) <|
 .grd ((0:Int) ≤ (p_l.length:Int) ∧ 1208 * (p_l.length:Int).toNat ≤ 281474976710656 ∧ (p_l.length:Int).toNat ≤ maxLen) fun h0 =>
 .say [] (okc (mk_ (p_l.length:Int) h0) (ok1 (ln_ p_l ak.lf))) <|
 .lp Tryz.f101 0 [1,1,1,0,1,0] 0 [1,5,14,15,16] 1 (.exit 0) (fun r_=>⟨[(5,.own 0)],[.row 54 82 (r_.map ak.lf)]⟩) (PX p_l 0 (List.replicate (p_l.length:Int).toNat (ak.mk 0 0 ⟨#[]⟩ 0 ay.z))) (lW (fun (v0,l0)=>⟨[(1,.raw (.func (.func 102) #[] #[])),(5,.own 0),(14,.lf (.rows 82 (p_l.map ak.lf))),(15,.i_ (p_l.length:Int)),(16,.i_ v0)],[.row 54 82 (l0.map ak.lf)]⟩) (by kernel_rfl) rfl fun v_=>by kernel_rfl) fun r0 _ =>
 .ret ⟨[.mvn 0],[0],[(1,0)],1⟩ (r0)
def Q26 (p_l:List ak) : Option (List ak) := Mo.den (VO p_l)
theorem Hy (p_l:List ak) : FH (Q26 p_l) 101 [.lf (.rows 82 (p_l.map ak.lf)),.raw (.func (.func 102) #[] #[])] [] (fun _=>.own 0) (fun r=>[.row 54 82 (r.map ak.lf)]) := gy Tryz.func101 (by kernel_rfl) (fun _=>rfl) (by kernel_rfl)
def VQ (p_m:aj) : Mo (aj) :=
 .cH [] (Hy p_m.aB) fun r0 _ =>
 .cH [] (Hw p_m.fNext) fun r1 _ =>
 .cH [] (Hw p_m.aS) fun r2 _ =>
 .ret ⟨[.kill 0,.kill 1,.mvn 2,.mvn 3,.mvn 4],[0],[(5,0),(6,1),(7,2)],3⟩ (aj.l7 (aj.qQ (aj.jY p_m r0) r1) r2)
def Q75 (p_m:aj) : Option (aj) := Mo.den (VQ p_m)
theorem PY (p_m:aj) : FH (Q75 p_m) 103 [.dat (aj.lf1 p_m)] [] (fun r=>tV (.agg ((aj.lf1 r).map AV.lf)) [(8,.own 0),(10,.own 1),(11,.own 2)]) (fun r=>[.row 54 82 (r.aB.map ak.lf),.row 3 1 (r.fNext.map lfI),.row 3 1 (r.aS.map lfI)]) := gy Tryz.func103 (by kernel_rfl) (fun _=>rfl) (by kernel_rfl)
def PZ (p_m:aj) (p_at:Int) : Mo (aj × bU) :=
 .say [.num p_m.aB.length] (okc (ln_ p_m.aB ak.lf) (ok1 (l9 _ _ _:(p_m.aB.drop (if (p_m.aB.length:Int) < (if 0 > (if p_m.au > p_at then p_m.au else p_at) then 0 else (if p_m.au > p_at then p_m.au else p_at)) then (p_m.aB.length:Int) else (if 0 > (if p_m.au > p_at then p_m.au else p_at) then 0 else (if p_m.au > p_at then p_m.au else p_at))).toNat).map ak.lf = ((p_m.aB.map ak.lf).take ((p_m.aB.map ak.lf).length:Int).toNat).drop (if (p_m.aB.length:Int) < (if 0 > (if p_m.au > p_at then p_m.au else p_at) then 0 else (if p_m.au > p_at then p_m.au else p_at)) then (p_m.aB.length:Int) else (if 0 > (if p_m.au > p_at then p_m.au else p_at) then 0 else (if p_m.au > p_at then p_m.au else p_at))).toNat))) <|
 .grd ((0:Int) ≤ (if (p_m.aB.length:Int) < (if 0 > (if p_m.au > p_at then p_m.au else p_at) then 0 else (if p_m.au > p_at then p_m.au else p_at)) then (p_m.aB.length:Int) else (if 0 > (if p_m.au > p_at then p_m.au else p_at) then 0 else (if p_m.au > p_at then p_m.au else p_at))) ∧ (if (p_m.aB.length:Int) < (if 0 > (if p_m.au > p_at then p_m.au else p_at) then 0 else (if p_m.au > p_at then p_m.au else p_at)) then (p_m.aB.length:Int) else (if 0 > (if p_m.au > p_at then p_m.au else p_at) then 0 else (if p_m.au > p_at then p_m.au else p_at))) ≤ (p_m.aB.length:Int) ∧ (p_m.aB.length:Int) ≤ (p_m.aB.length:Int)) fun h0 =>
 .say [] (ok1 (I9 _ _ h0:(0:Int) ≤ (if (p_m.aB.length:Int) < (if 0 > (if p_m.au > p_at then p_m.au else p_at) then 0 else (if p_m.au > p_at then p_m.au else p_at)) then (p_m.aB.length:Int) else (if 0 > (if p_m.au > p_at then p_m.au else p_at) then 0 else (if p_m.au > p_at then p_m.au else p_at))) ∧ (if (p_m.aB.length:Int) < (if 0 > (if p_m.au > p_at then p_m.au else p_at) then 0 else (if p_m.au > p_at then p_m.au else p_at)) then (p_m.aB.length:Int) else (if 0 > (if p_m.au > p_at then p_m.au else p_at) then 0 else (if p_m.au > p_at then p_m.au else p_at))) ≤ ((p_m.aB.map ak.lf).length:Int) ∧ ((p_m.aB.map ak.lf).length:Int) ≤ ((p_m.aB.map ak.lf).length:Int))) <|
 .ask (Q26 (p_m.aB.drop (if (p_m.aB.length:Int) < (if 0 > (if p_m.au > p_at then p_m.au else p_at) then 0 else (if p_m.au > p_at then p_m.au else p_at)) then (p_m.aB.length:Int) else (if 0 > (if p_m.au > p_at then p_m.au else p_at) then 0 else (if p_m.au > p_at then p_m.au else p_at))).toNat)) fun r0 h1 =>
 .say [.fQ (.q 0 (.q 1 (.q 2 (.q 3 (.q 4 (.q 5 (.q 6 (.q 7 (.q 8 (.alt 9 (.q 10 (.l 11 (.l 12 .fin))) (.l 11 (.l 9 (.q 10 (.l 12 .fin)))))))))))))) (some 12) [3] [.rows ((p_m.aB.drop (if (p_m.aB.length:Int) < (if 0 > (if p_m.au > p_at then p_m.au else p_at) then 0 else (if p_m.au > p_at then p_m.au else p_at)) then (p_m.aB.length:Int) else (if 0 > (if p_m.au > p_at then p_m.au else p_at) then 0 else (if p_m.au > p_at then p_m.au else p_at))).toNat).map ak.lf),.both [.at_ 6 9,.resv 1,.iU [] (.own 0) [.row 54 82 (r0.map ak.lf)],.slot 3] [.at_ 6 11,.resv 1,.slot 3,.iU [] (.own 0) [.row 54 82 (r0.map ak.lf)]]] [2,4,5,6,7] 5 [(2,.ptr 0 0),(4,.ptr 1 0),(5,.ptr 2 0),(6,.i_ (if (p_m.aB.length:Int) < (if 0 > (if p_m.au > p_at then p_m.au else p_at) then 0 else (if p_m.au > p_at then p_m.au else p_at)) then (p_m.aB.length:Int) else (if 0 > (if p_m.au > p_at then p_m.au else p_at) then 0 else (if p_m.au > p_at then p_m.au else p_at)))),(7,.ptr 3 0)] [.box 25 (.dat (aj.lf1 p_m)),.box 25 (Z25),.box 67 (.agg [.i_ 0,.i_ 0,.i_ 0,.bJ 82]),.box 67 (.agg [.i_ p_m.fID,.i_ p_m.aJ,.i_ (if (p_m.aB.length:Int) < (if 0 > (if p_m.au > p_at then p_m.au else p_at) then 0 else (if p_m.au > p_at then p_m.au else p_at)) then (p_m.aB.length:Int) else (if 0 > (if p_m.au > p_at then p_m.au else p_at) then 0 else (if p_m.au > p_at then p_m.au else p_at))),.own 4]),.row 54 82 (r0.map ak.lf)],.rows ((p_m.aB.take (if (p_m.aB.length:Int) < (if 0 > (if p_m.au > p_at then p_m.au else p_at) then 0 else (if p_m.au > p_at then p_m.au else p_at)) then (p_m.aB.length:Int) else (if 0 > (if p_m.au > p_at then p_m.au else p_at) then 0 else (if p_m.au > p_at then p_m.au else p_at))).toNat).map ak.lf)] (okc (Hy _ _ h1) (okc (rf_ ⟨[(2,.ptr 0 0),(4,.ptr 1 0),(5,.ptr 2 0),(6,.i_ (if (p_m.aB.length:Int) < (if 0 > (if p_m.au > p_at then p_m.au else p_at) then 0 else (if p_m.au > p_at then p_m.au else p_at)) then (p_m.aB.length:Int) else (if 0 > (if p_m.au > p_at then p_m.au else p_at) then 0 else (if p_m.au > p_at then p_m.au else p_at)))),(7,.ptr 3 0)],[.box 25 (.dat (aj.lf1 p_m)),.box 25 (Z25),.box 67 (.agg [.i_ 0,.i_ 0,.i_ 0,.bJ 82]),.box 67 (.agg [.i_ p_m.fID,.i_ p_m.aJ,.i_ (if (p_m.aB.length:Int) < (if 0 > (if p_m.au > p_at then p_m.au else p_at) then 0 else (if p_m.au > p_at then p_m.au else p_at)) then (p_m.aB.length:Int) else (if 0 > (if p_m.au > p_at then p_m.au else p_at) then 0 else (if p_m.au > p_at then p_m.au else p_at))),.own 4]),.row 54 82 (r0.map ak.lf)]⟩) (okc (Hy _ _ h1) (okc (rf_ ⟨[(2,.ptr 0 0),(4,.ptr 1 0),(5,.ptr 2 0),(6,.i_ (if (p_m.aB.length:Int) < (if 0 > (if p_m.au > p_at then p_m.au else p_at) then 0 else (if p_m.au > p_at then p_m.au else p_at)) then (p_m.aB.length:Int) else (if 0 > (if p_m.au > p_at then p_m.au else p_at) then 0 else (if p_m.au > p_at then p_m.au else p_at)))),(7,.ptr 3 0)],[.box 25 (.dat (aj.lf1 p_m)),.box 25 (Z25),.box 67 (.agg [.i_ 0,.i_ 0,.i_ 0,.bJ 82]),.box 67 (.agg [.i_ p_m.fID,.i_ p_m.aJ,.i_ (if (p_m.aB.length:Int) < (if 0 > (if p_m.au > p_at then p_m.au else p_at) then 0 else (if p_m.au > p_at then p_m.au else p_at)) then (p_m.aB.length:Int) else (if 0 > (if p_m.au > p_at then p_m.au else p_at) then 0 else (if p_m.au > p_at then p_m.au else p_at))),.own 4]),.row 54 82 (r0.map ak.lf)]⟩) (ok1 (by first | (simp [ak.aT]; done) | exact l9 _ _ _:(p_m.aB.take (if (p_m.aB.length:Int) < (if 0 > (if p_m.au > p_at then p_m.au else p_at) then 0 else (if p_m.au > p_at then p_m.au else p_at)) then (p_m.aB.length:Int) else (if 0 > (if p_m.au > p_at then p_m.au else p_at) then 0 else (if p_m.au > p_at then p_m.au else p_at))).toNat).map ak.lf = ((p_m.aB.map ak.lf).take (if (p_m.aB.length:Int) < (if 0 > (if p_m.au > p_at then p_m.au else p_at) then 0 else (if p_m.au > p_at then p_m.au else p_at)) then (p_m.aB.length:Int) else (if 0 > (if p_m.au > p_at then p_m.au else p_at) then 0 else (if p_m.au > p_at then p_m.au else p_at))).toNat).drop (0:Int).toNat)))))) <|
 .grd ((0:Int) ≤ 0 ∧ 0 ≤ (if (p_m.aB.length:Int) < (if 0 > (if p_m.au > p_at then p_m.au else p_at) then 0 else (if p_m.au > p_at then p_m.au else p_at)) then (p_m.aB.length:Int) else (if 0 > (if p_m.au > p_at then p_m.au else p_at) then 0 else (if p_m.au > p_at then p_m.au else p_at))) ∧ (if (p_m.aB.length:Int) < (if 0 > (if p_m.au > p_at then p_m.au else p_at) then 0 else (if p_m.au > p_at then p_m.au else p_at)) then (p_m.aB.length:Int) else (if 0 > (if p_m.au > p_at then p_m.au else p_at) then 0 else (if p_m.au > p_at then p_m.au else p_at))) ≤ (p_m.aB.length:Int)) fun h2 =>
 .say [] (ok1 (by simpa using h2:(0:Int) ≤ 0 ∧ 0 ≤ (if (p_m.aB.length:Int) < (if 0 > (if p_m.au > p_at then p_m.au else p_at) then 0 else (if p_m.au > p_at then p_m.au else p_at)) then (p_m.aB.length:Int) else (if 0 > (if p_m.au > p_at then p_m.au else p_at) then 0 else (if p_m.au > p_at then p_m.au else p_at))) ∧ (if (p_m.aB.length:Int) < (if 0 > (if p_m.au > p_at then p_m.au else p_at) then 0 else (if p_m.au > p_at then p_m.au else p_at)) then (p_m.aB.length:Int) else (if 0 > (if p_m.au > p_at then p_m.au else p_at) then 0 else (if p_m.au > p_at then p_m.au else p_at))) ≤ ((p_m.aB.map ak.lf).length:Int))) <|
 .ask (Q75 (aj.jY p_m (p_m.aB.take (if (p_m.aB.length:Int) < (if 0 > (if p_m.au > p_at then p_m.au else p_at) then 0 else (if p_m.au > p_at then p_m.au else p_at)) then (p_m.aB.length:Int) else (if 0 > (if p_m.au > p_at then p_m.au else p_at) then 0 else (if p_m.au > p_at then p_m.au else p_at))).toNat))) fun r1 h3 =>
 .say [.fQ (.q 0 (.alt 1 (.alt 2 (.l 3 (.l 4 .fin)) (.l 3 (.l 2 (.l 4 .fin)))) (.l 2 (.l 1 (.l 3 (.l 4 .fin)))))) (some 4) [1] [.both [.iU [] (ag_ (aj.lf1 r1) [(8,.own 0),(10,.own 1),(11,.own 2)]) [.row 54 82 (r1.aB.map ak.lf),.row 3 1 (r1.fNext.map lfI),.row 3 1 (r1.aS.map lfI)],.both [] []] [.iU [] (ag_ (aj.lf1 r1) [(8,.own 0),(10,.own 1),(11,.own 2)]) [.row 54 82 (r1.aB.map ak.lf),.row 3 1 (r1.fNext.map lfI),.row 3 1 (r1.aS.map lfI)]]] [4,5] 8 [(4,.ptr 1 0),(5,.ptr 2 0)] [.box 25 (.dat (aj.lf1 (aj.jY p_m (p_m.aB.take (if (p_m.aB.length:Int) < (if 0 > (if p_m.au > p_at then p_m.au else p_at) then 0 else (if p_m.au > p_at then p_m.au else p_at)) then (p_m.aB.length:Int) else (if 0 > (if p_m.au > p_at then p_m.au else p_at) then 0 else (if p_m.au > p_at then p_m.au else p_at))).toNat)))),.box 25 (ag_ (aj.lf1 r1) [(8,.own 5),(10,.own 6),(11,.own 7)]),.box 67 (.agg [.i_ p_m.fID,.i_ p_m.aJ,.i_ (if (p_m.aB.length:Int) < (if 0 > (if p_m.au > p_at then p_m.au else p_at) then 0 else (if p_m.au > p_at then p_m.au else p_at)) then (p_m.aB.length:Int) else (if 0 > (if p_m.au > p_at then p_m.au else p_at) then 0 else (if p_m.au > p_at then p_m.au else p_at))),.own 4]),.box 67 (.agg [.i_ p_m.fID,.i_ p_m.aJ,.i_ (if (p_m.aB.length:Int) < (if 0 > (if p_m.au > p_at then p_m.au else p_at) then 0 else (if p_m.au > p_at then p_m.au else p_at)) then (p_m.aB.length:Int) else (if 0 > (if p_m.au > p_at then p_m.au else p_at) then 0 else (if p_m.au > p_at then p_m.au else p_at))),.own 4]),.row 54 82 (r0.map ak.lf),.row 54 82 (r1.aB.map ak.lf),.row 3 1 (r1.fNext.map lfI),.row 3 1 (r1.aS.map lfI)]] (okc (PY _ _ h3) (okc (rf_ ⟨[(4,.ptr 1 0),(5,.ptr 2 0)],[.box 25 (.dat (aj.lf1 (aj.jY p_m (p_m.aB.take (if (p_m.aB.length:Int) < (if 0 > (if p_m.au > p_at then p_m.au else p_at) then 0 else (if p_m.au > p_at then p_m.au else p_at)) then (p_m.aB.length:Int) else (if 0 > (if p_m.au > p_at then p_m.au else p_at) then 0 else (if p_m.au > p_at then p_m.au else p_at))).toNat)))),.box 25 (ag_ (aj.lf1 r1) [(8,.own 5),(10,.own 6),(11,.own 7)]),.box 67 (.agg [.i_ p_m.fID,.i_ p_m.aJ,.i_ (if (p_m.aB.length:Int) < (if 0 > (if p_m.au > p_at then p_m.au else p_at) then 0 else (if p_m.au > p_at then p_m.au else p_at)) then (p_m.aB.length:Int) else (if 0 > (if p_m.au > p_at then p_m.au else p_at) then 0 else (if p_m.au > p_at then p_m.au else p_at))),.own 4]),.box 67 (.agg [.i_ p_m.fID,.i_ p_m.aJ,.i_ (if (p_m.aB.length:Int) < (if 0 > (if p_m.au > p_at then p_m.au else p_at) then 0 else (if p_m.au > p_at then p_m.au else p_at)) then (p_m.aB.length:Int) else (if 0 > (if p_m.au > p_at then p_m.au else p_at) then 0 else (if p_m.au > p_at then p_m.au else p_at))),.own 4]),.row 54 82 (r0.map ak.lf),.row 54 82 (r1.aB.map ak.lf),.row 3 1 (r1.fNext.map lfI),.row 3 1 (r1.aS.map lfI)]⟩) (okc (rf_ ⟨[(4,.ptr 1 0),(5,.ptr 2 0)],[.box 25 (.dat (aj.lf1 (aj.jY p_m (p_m.aB.take (if (p_m.aB.length:Int) < (if 0 > (if p_m.au > p_at then p_m.au else p_at) then 0 else (if p_m.au > p_at then p_m.au else p_at)) then (p_m.aB.length:Int) else (if 0 > (if p_m.au > p_at then p_m.au else p_at) then 0 else (if p_m.au > p_at then p_m.au else p_at))).toNat)))),.box 25 (ag_ (aj.lf1 r1) [(8,.own 5),(10,.own 6),(11,.own 7)]),.box 67 (.agg [.i_ p_m.fID,.i_ p_m.aJ,.i_ (if (p_m.aB.length:Int) < (if 0 > (if p_m.au > p_at then p_m.au else p_at) then 0 else (if p_m.au > p_at then p_m.au else p_at)) then (p_m.aB.length:Int) else (if 0 > (if p_m.au > p_at then p_m.au else p_at) then 0 else (if p_m.au > p_at then p_m.au else p_at))),.own 4]),.box 67 (.agg [.i_ p_m.fID,.i_ p_m.aJ,.i_ (if (p_m.aB.length:Int) < (if 0 > (if p_m.au > p_at then p_m.au else p_at) then 0 else (if p_m.au > p_at then p_m.au else p_at)) then (p_m.aB.length:Int) else (if 0 > (if p_m.au > p_at then p_m.au else p_at) then 0 else (if p_m.au > p_at then p_m.au else p_at))),.own 4]),.row 54 82 (r0.map ak.lf),.row 54 82 (r1.aB.map ak.lf),.row 3 1 (r1.fNext.map lfI),.row 3 1 (r1.aS.map lfI)]⟩) (okc (PY _ _ h3) (ok1 (rf_ ⟨[(4,.ptr 1 0),(5,.ptr 2 0)],[.box 25 (.dat (aj.lf1 (aj.jY p_m (p_m.aB.take (if (p_m.aB.length:Int) < (if 0 > (if p_m.au > p_at then p_m.au else p_at) then 0 else (if p_m.au > p_at then p_m.au else p_at)) then (p_m.aB.length:Int) else (if 0 > (if p_m.au > p_at then p_m.au else p_at) then 0 else (if p_m.au > p_at then p_m.au else p_at))).toNat)))),.box 25 (ag_ (aj.lf1 r1) [(8,.own 5),(10,.own 6),(11,.own 7)]),.box 67 (.agg [.i_ p_m.fID,.i_ p_m.aJ,.i_ (if (p_m.aB.length:Int) < (if 0 > (if p_m.au > p_at then p_m.au else p_at) then 0 else (if p_m.au > p_at then p_m.au else p_at)) then (p_m.aB.length:Int) else (if 0 > (if p_m.au > p_at then p_m.au else p_at) then 0 else (if p_m.au > p_at then p_m.au else p_at))),.own 4]),.box 67 (.agg [.i_ p_m.fID,.i_ p_m.aJ,.i_ (if (p_m.aB.length:Int) < (if 0 > (if p_m.au > p_at then p_m.au else p_at) then 0 else (if p_m.au > p_at then p_m.au else p_at)) then (p_m.aB.length:Int) else (if 0 > (if p_m.au > p_at then p_m.au else p_at) then 0 else (if p_m.au > p_at then p_m.au else p_at))),.own 4]),.row 54 82 (r0.map ak.lf),.row 54 82 (r1.aB.map ak.lf),.row 3 1 (r1.fNext.map lfI),.row 3 1 (r1.aS.map lfI)]⟩)))))) <|
 .ret ⟨[.kill 0,.kill 1,.kill 2,.kill 3,.mvn 5,.mvn 6,.mvn 7,.mvn 4],[0,1],[(8,0),(9,1),(10,2),(11,3)],4⟩ (r1,bU.mk p_m.fID p_m.aJ (if (p_m.aB.length:Int) < (if 0 > (if p_m.au > p_at then p_m.au else p_at) then 0 else (if p_m.au > p_at then p_m.au else p_at)) then (p_m.aB.length:Int) else (if 0 > (if p_m.au > p_at then p_m.au else p_at) then 0 else (if p_m.au > p_at then p_m.au else p_at))) r0)
def Q97 (p_m:aj) (p_at:Int) : Option (aj × bU) := Mo.den (PZ p_m p_at)
theorem P5 (p_m:aj) (p_at:Int) : FH (Q97 p_m p_at) 73 [.dat (aj.lf1 p_m),.i_ p_at] [] (fun r=>.tup [tV (.agg ((aj.lf1 r.1).map AV.lf)) [(8,.own 0),(10,.own 1),(11,.own 2)],.agg [.i_ r.2.dZ,.i_ r.2.aJ,.i_ r.2.fAt,.own 3]]) (fun r=>[.row 54 82 (r.1.aB.map ak.lf),.row 3 1 (r.1.fNext.map lfI),.row 3 1 (r.1.aS.map lfI),.row 54 82 (r.2.aQ.map ak.lf)]) := gy Tryz.func73 (by kernel_rfl) (fun _=>rfl) (by kernel_rfl)
def VT (p_l:List ak) : Mo (List ak) :=
 .say [.at_ 4 2,.tod 7] ok0 <|
 .cH [] (P5 (aj.jY aj.z p_l) 0) fun r0 _ =>
 .ret ⟨[.kill 0,.kill 1,.kill 2,.kill 4,.kill 5,.mvn 3],[0],[(6,0)],1⟩ (r0.2.aQ)
def Q42 (p_l:List ak) : Option (List ak) := Mo.den (VT p_l)
theorem um (p_l:List ak) : FH (Q42 p_l) 37 [.lf (.rows 82 (p_l.map ak.lf))] [] (fun _=>.own 0) (fun r=>[.row 54 82 (r.map ak.lf)]) := gy Tryz.func37 (by kernel_rfl) (fun _=>rfl) (by kernel_rfl)
def yg (p_b0:aA) (p_x:ah) (r0:Int) : Mo ((Int × Int × Int × Int × Int × Int × Int × Int × Int × Int × Int × Int × (List ak) × (List ak) × (List Int) × (List Int))) :=
 .ite (decide ((r0:Int) < (p_b0.aG.aB.length:Int))) (fun c0 =>
 .say [.br true,.at_ 8 7,.frz 6,.frz 7,.frz 8,.tod 25] (ok1 c0) <|
 .cH [] (P5 p_b0.aG r0) fun r1 _ =>
 .ret ⟨[.frz 13],[0,3],[(10,6),(11,7),(12,8)],10⟩ (r1.1.fID,r1.1.bI,r1.1.aJ,r1.1.fZ,r1.1.bQ,r1.1.gQ,r1.1.dU,r1.1.eF,r1.1.au,r1.2.dZ,r1.2.aJ,r1.2.fAt,r1.2.aQ,r1.1.aB,r1.1.fNext,r1.1.aS)) fun c0 =>
 .say [.br false] (ok1 c0) <|
 .rt [0,3] 10 (p_b0.aG.fID,p_b0.aG.bI,p_b0.aG.aJ,p_b0.aG.fZ,p_b0.aG.bQ,p_b0.aG.gQ,p_b0.aG.dU,p_b0.aG.eF,p_b0.aG.au,p_b0.dP.dZ,p_b0.dP.aJ,p_b0.dP.fAt,p_b0.dP.aQ,p_b0.aG.aB,p_b0.aG.fNext,p_b0.aG.aS)
def BO (p_b0:aA) (p_x:ah) (r0:Int) : Option ((Int × Int × Int × Int × Int × Int × Int × Int × Int × Int × Int × Int × (List ak) × (List ak) × (List Int) × (List Int))) := Mo.den (yg p_b0 p_x r0)
def yh (p_b0:aA) (p_x:ah) (r_:(Int × Int × Int × Int × Int × Int × Int × Int × Int × Int × Int × Int × (List ak) × (List ak) × (List Int) × (List Int))) : St := ⟨[(0,.ptr 0 0),(3,.ptr 5 0)],[.box 97 (.agg [.i_ r_.1,.i_ r_.2.1,.i_ r_.2.2.1,.i_ r_.2.2.2.1,.i_ r_.2.2.2.2.1,.i_ r_.2.2.2.2.2.1,.i_ r_.2.2.2.2.2.2.1,.i_ r_.2.2.2.2.2.2.2.1,.own 6,.i_ r_.2.2.2.2.2.2.2.2.1,.own 7,.own 8,.own 9,.i_ r_.2.2.2.2.2.2.2.2.2.1,.i_ r_.2.2.2.2.2.2.2.2.2.2.1,.i_ r_.2.2.2.2.2.2.2.2.2.2.2.1,.lf (.rows 82 (r_.2.2.2.2.2.2.2.2.2.2.2.2.1.map ak.lf))]),.dead,.dead,.dead,.dead,.box 63 (.dat (ah.lf1 p_x)),.row 54 82 (r_.2.2.2.2.2.2.2.2.2.2.2.2.2.1.map ak.lf),.row 3 1 (r_.2.2.2.2.2.2.2.2.2.2.2.2.2.2.1.map lfI),.row 3 1 (r_.2.2.2.2.2.2.2.2.2.2.2.2.2.2.2.map lfI),.row 63 9 (p_b0.bD.map ah.lf)]⟩
theorem P6 {p_b0:aA} {p_x:ah} {r0:Int} {r_:(Int × Int × Int × Int × Int × Int × Int × Int × Int × Int × Int × Int × (List ak) × (List ak) × (List Int) × (List Int))} (h:BO p_b0 p_x r0 = some r_) : jq Tryz.f83 5 [1,0,1,1] (.normal) (yh p_b0 p_x r_) ⟨[(0,.ptr 0 0),(3,.ptr 5 0),(4,.i_ r0),(18,.lf (.bool (decide ((r0:Int) < (p_b0.aG.aB.length:Int)))))],[.box 97 (ag_ (aA.lf1 p_b0) [(8,.own 6),(10,.own 7),(11,.own 8),(12,.own 9)]),.dead,.dead,.dead,.dead,.box 63 (.dat (ah.lf1 p_x)),.row 54 82 (p_b0.aG.aB.map ak.lf),.row 3 1 (p_b0.aG.fNext.map lfI),.row 3 1 (p_b0.aG.aS.map lfI),.row 63 9 (p_b0.bD.map ah.lf)]⟩ :=
 jw fJ (yg p_b0 p_x r0) (fun _=>.normal) (yh p_b0 p_x) (by kernel_rfl) h
def yj (p_b0:aA) (p_x:ah) (r0:(Int × Int × Int × Int × Int × Int × Int × Int × Int × Int × Int × Int × (List ak) × (List ak) × (List Int) × (List Int))) : Mo (((List ak))) :=
 .ite (decide ((IntKind.wrap .i64 ((r0.2.2.2.2.2.2.2.2.2.2.2.2.2.1.length:Int) - p_x.aY) : Int) < (p_x.aQ.length:Int))) (fun c0 =>
 .say [.br true] (okc c0 (ok1 (l9 _ _ _:(p_x.aQ.drop (if (IntKind.wrap .i64 ((r0.2.2.2.2.2.2.2.2.2.2.2.2.2.1.length:Int) - p_x.aY)) > 0 then (IntKind.wrap .i64 ((r0.2.2.2.2.2.2.2.2.2.2.2.2.2.1.length:Int) - p_x.aY)) else 0).toNat).map ak.lf = ((p_x.aQ.map ak.lf).take ((p_x.aQ.map ak.lf).length:Int).toNat).drop (if (IntKind.wrap .i64 ((r0.2.2.2.2.2.2.2.2.2.2.2.2.2.1.length:Int) - p_x.aY)) > 0 then (IntKind.wrap .i64 ((r0.2.2.2.2.2.2.2.2.2.2.2.2.2.1.length:Int) - p_x.aY)) else 0).toNat))) <|
 .grd ((0:Int) ≤ (if (IntKind.wrap .i64 ((r0.2.2.2.2.2.2.2.2.2.2.2.2.2.1.length:Int) - p_x.aY)) > 0 then (IntKind.wrap .i64 ((r0.2.2.2.2.2.2.2.2.2.2.2.2.2.1.length:Int) - p_x.aY)) else 0) ∧ (if (IntKind.wrap .i64 ((r0.2.2.2.2.2.2.2.2.2.2.2.2.2.1.length:Int) - p_x.aY)) > 0 then (IntKind.wrap .i64 ((r0.2.2.2.2.2.2.2.2.2.2.2.2.2.1.length:Int) - p_x.aY)) else 0) ≤ (p_x.aQ.length:Int) ∧ (p_x.aQ.length:Int) ≤ (p_x.aQ.length:Int)) fun h0 =>
 .say [] (ok1 (I9 _ _ h0:(0:Int) ≤ (if (IntKind.wrap .i64 ((r0.2.2.2.2.2.2.2.2.2.2.2.2.2.1.length:Int) - p_x.aY)) > 0 then (IntKind.wrap .i64 ((r0.2.2.2.2.2.2.2.2.2.2.2.2.2.1.length:Int) - p_x.aY)) else 0) ∧ (if (IntKind.wrap .i64 ((r0.2.2.2.2.2.2.2.2.2.2.2.2.2.1.length:Int) - p_x.aY)) > 0 then (IntKind.wrap .i64 ((r0.2.2.2.2.2.2.2.2.2.2.2.2.2.1.length:Int) - p_x.aY)) else 0) ≤ ((p_x.aQ.map ak.lf).length:Int) ∧ ((p_x.aQ.map ak.lf).length:Int) ≤ ((p_x.aQ.map ak.lf).length:Int))) <|
 .ask (Q42 (p_x.aQ.drop (if (IntKind.wrap .i64 ((r0.2.2.2.2.2.2.2.2.2.2.2.2.2.1.length:Int) - p_x.aY)) > 0 then (IntKind.wrap .i64 ((r0.2.2.2.2.2.2.2.2.2.2.2.2.2.1.length:Int) - p_x.aY)) else 0).toNat)) fun r1 h1 =>
 .say [.fQ (.q 0 (.q 1 (.q 2 (.q 3 (.q 5 (.q 6 (.q 7 (.q 8 (.q 9 (.alt 4 (.l 10 (.l 11 (.q 12 (.q 13 (.l 14 .fin))))) (.l 10 (.l 4 (.l 11 (.q 12 (.q 13 (.l 14 .fin)))))))))))))))) (some 14) [6,10] [.rows ((p_x.aQ.drop (if (IntKind.wrap .i64 ((r0.2.2.2.2.2.2.2.2.2.2.2.2.2.1.length:Int) - p_x.aY)) > 0 then (IntKind.wrap .i64 ((r0.2.2.2.2.2.2.2.2.2.2.2.2.2.1.length:Int) - p_x.aY)) else 0).toNat).map ak.lf),.both [.at_ 16 4,.resv 1,.iU [] (.own 0) [.row 54 82 (r1.map ak.lf)],.rows ((r0.2.2.2.2.2.2.2.2.2.2.2.2.2.1 ++ r1).map ak.lf),.slot 10] [.at_ 16 10,.resv 1,.iU [] (.own 0) [.row 54 82 (r1.map ak.lf)],.rows ((r0.2.2.2.2.2.2.2.2.2.2.2.2.2.1 ++ r1).map ak.lf),.slot 10]] [0,3,5] 12 [(0,.ptr 0 0),(3,.ptr 5 0),(5,.ptr 0 0)] [.box 97 (.agg [.i_ r0.1,.i_ r0.2.1,.i_ r0.2.2.1,.i_ r0.2.2.2.1,.i_ r0.2.2.2.2.1,.i_ r0.2.2.2.2.2.1,.i_ r0.2.2.2.2.2.2.1,.i_ r0.2.2.2.2.2.2.2.1,.own 10,.i_ r0.2.2.2.2.2.2.2.2.1,.own 7,.own 8,.own 9,.i_ r0.2.2.2.2.2.2.2.2.2.1,.i_ r0.2.2.2.2.2.2.2.2.2.2.1,.i_ r0.2.2.2.2.2.2.2.2.2.2.2.1,.lf (.rows 82 (r0.2.2.2.2.2.2.2.2.2.2.2.2.1.map ak.lf))]),.dead,.dead,.dead,.dead,.box 63 (.dat (ah.lf1 p_x)),.dead,.row 3 1 (r0.2.2.2.2.2.2.2.2.2.2.2.2.2.2.1.map lfI),.row 3 1 (r0.2.2.2.2.2.2.2.2.2.2.2.2.2.2.2.map lfI),.row 63 9 (p_b0.bD.map ah.lf),.row 54 82 ((r0.2.2.2.2.2.2.2.2.2.2.2.2.2.1 ++ r1).map ak.lf),.row 54 82 (r1.map ak.lf)]] (okc (um _ _ h1) (ok1 (by simp [ak.aT] : (r0.2.2.2.2.2.2.2.2.2.2.2.2.2.1 ++ r1).map ak.lf = (r0.2.2.2.2.2.2.2.2.2.2.2.2.2.1.map ak.lf) ++ (r1.map ak.lf)))) <|
 .grd ((r0.2.2.2.2.2.2.2.2.2.2.2.2.2.1.length + r1.length) * 1208 ≤ 140737488355328) fun h2 =>
 .say [] (okc (by simpa using h2:((r0.2.2.2.2.2.2.2.2.2.2.2.2.2.1.map ak.lf).length + (r1.map ak.lf).length) * 1208 ≤ 140737488355328) (okc (rf_ ⟨[(0,.ptr 0 0),(3,.ptr 5 0),(5,.ptr 0 0)],[.box 97 (.agg [.i_ r0.1,.i_ r0.2.1,.i_ r0.2.2.1,.i_ r0.2.2.2.1,.i_ r0.2.2.2.2.1,.i_ r0.2.2.2.2.2.1,.i_ r0.2.2.2.2.2.2.1,.i_ r0.2.2.2.2.2.2.2.1,.own 10,.i_ r0.2.2.2.2.2.2.2.2.1,.own 7,.own 8,.own 9,.i_ r0.2.2.2.2.2.2.2.2.2.1,.i_ r0.2.2.2.2.2.2.2.2.2.2.1,.i_ r0.2.2.2.2.2.2.2.2.2.2.2.1,.lf (.rows 82 (r0.2.2.2.2.2.2.2.2.2.2.2.2.1.map ak.lf))]),.dead,.dead,.dead,.dead,.box 63 (.dat (ah.lf1 p_x)),.dead,.row 3 1 (r0.2.2.2.2.2.2.2.2.2.2.2.2.2.2.1.map lfI),.row 3 1 (r0.2.2.2.2.2.2.2.2.2.2.2.2.2.2.2.map lfI),.row 63 9 (p_b0.bD.map ah.lf),.row 54 82 ((r0.2.2.2.2.2.2.2.2.2.2.2.2.2.1 ++ r1).map ak.lf),.row 54 82 (r1.map ak.lf)]⟩) (okc (um _ _ h1) (okc (by simp [ak.aT] : (r0.2.2.2.2.2.2.2.2.2.2.2.2.2.1 ++ r1).map ak.lf = (r0.2.2.2.2.2.2.2.2.2.2.2.2.2.1.map ak.lf) ++ (r1.map ak.lf)) (okc (by simpa using h2:((r0.2.2.2.2.2.2.2.2.2.2.2.2.2.1.map ak.lf).length + (r1.map ak.lf).length) * 1208 ≤ 140737488355328) (ok1 (rf_ ⟨[(0,.ptr 0 0),(3,.ptr 5 0),(5,.ptr 0 0)],[.box 97 (.agg [.i_ r0.1,.i_ r0.2.1,.i_ r0.2.2.1,.i_ r0.2.2.2.1,.i_ r0.2.2.2.2.1,.i_ r0.2.2.2.2.2.1,.i_ r0.2.2.2.2.2.2.1,.i_ r0.2.2.2.2.2.2.2.1,.own 10,.i_ r0.2.2.2.2.2.2.2.2.1,.own 7,.own 8,.own 9,.i_ r0.2.2.2.2.2.2.2.2.2.1,.i_ r0.2.2.2.2.2.2.2.2.2.2.1,.i_ r0.2.2.2.2.2.2.2.2.2.2.2.1,.lf (.rows 82 (r0.2.2.2.2.2.2.2.2.2.2.2.2.1.map ak.lf))]),.dead,.dead,.dead,.dead,.box 63 (.dat (ah.lf1 p_x)),.dead,.row 3 1 (r0.2.2.2.2.2.2.2.2.2.2.2.2.2.2.1.map lfI),.row 3 1 (r0.2.2.2.2.2.2.2.2.2.2.2.2.2.2.2.map lfI),.row 63 9 (p_b0.bD.map ah.lf),.row 54 82 ((r0.2.2.2.2.2.2.2.2.2.2.2.2.2.1 ++ r1).map ak.lf),.row 54 82 (r1.map ak.lf)]⟩))))))) <|
 .ret ⟨[],[0,3,5],[(10,6)],10⟩ (r0.2.2.2.2.2.2.2.2.2.2.2.2.2.1 ++ r1)) fun c0 =>
 .say [.br false] (ok1 c0) <|
 .rt [0,3,5] 10 (r0.2.2.2.2.2.2.2.2.2.2.2.2.2.1)
def BP (p_b0:aA) (p_x:ah) (r0:(Int × Int × Int × Int × Int × Int × Int × Int × Int × Int × Int × Int × (List ak) × (List ak) × (List Int) × (List Int))) : Option (((List ak))) := Mo.den (yj p_b0 p_x r0)
def yt (p_b0:aA) (p_x:ah) (r0:(Int × Int × Int × Int × Int × Int × Int × Int × Int × Int × Int × Int × (List ak) × (List ak) × (List Int) × (List Int))) (r_:((List ak))) : St := ⟨[(0,.ptr 0 0),(3,.ptr 5 0),(5,.ptr 0 0)],[.box 97 (.agg [.i_ r0.1,.i_ r0.2.1,.i_ r0.2.2.1,.i_ r0.2.2.2.1,.i_ r0.2.2.2.2.1,.i_ r0.2.2.2.2.2.1,.i_ r0.2.2.2.2.2.2.1,.i_ r0.2.2.2.2.2.2.2.1,.own 6,.i_ r0.2.2.2.2.2.2.2.2.1,.own 7,.own 8,.own 9,.i_ r0.2.2.2.2.2.2.2.2.2.1,.i_ r0.2.2.2.2.2.2.2.2.2.2.1,.i_ r0.2.2.2.2.2.2.2.2.2.2.2.1,.lf (.rows 82 (r0.2.2.2.2.2.2.2.2.2.2.2.2.1.map ak.lf))]),.dead,.dead,.dead,.dead,.box 63 (.dat (ah.lf1 p_x)),.row 54 82 (r_.map ak.lf),.row 3 1 (r0.2.2.2.2.2.2.2.2.2.2.2.2.2.2.1.map lfI),.row 3 1 (r0.2.2.2.2.2.2.2.2.2.2.2.2.2.2.2.map lfI),.row 63 9 (p_b0.bD.map ah.lf)]⟩
theorem P7 {p_b0:aA} {p_x:ah} {r0:(Int × Int × Int × Int × Int × Int × Int × Int × Int × Int × Int × Int × (List ak) × (List ak) × (List Int) × (List Int))} {r_:((List ak))} (h:BP p_b0 p_x r0 = some r_) : jq Tryz.f83 5 [1,1,1,0,1,1] (.normal) (yt p_b0 p_x r0 r_) ⟨[(0,.ptr 0 0),(3,.ptr 5 0),(5,.ptr 0 0),(6,.i_ (IntKind.wrap .i64 ((r0.2.2.2.2.2.2.2.2.2.2.2.2.2.1.length:Int) - p_x.aY))),(49,.lf (.bool (decide ((IntKind.wrap .i64 ((r0.2.2.2.2.2.2.2.2.2.2.2.2.2.1.length:Int) - p_x.aY) : Int) < (p_x.aQ.length:Int)))))],[.box 97 (.agg [.i_ r0.1,.i_ r0.2.1,.i_ r0.2.2.1,.i_ r0.2.2.2.1,.i_ r0.2.2.2.2.1,.i_ r0.2.2.2.2.2.1,.i_ r0.2.2.2.2.2.2.1,.i_ r0.2.2.2.2.2.2.2.1,.own 6,.i_ r0.2.2.2.2.2.2.2.2.1,.own 7,.own 8,.own 9,.i_ r0.2.2.2.2.2.2.2.2.2.1,.i_ r0.2.2.2.2.2.2.2.2.2.2.1,.i_ r0.2.2.2.2.2.2.2.2.2.2.2.1,.lf (.rows 82 (r0.2.2.2.2.2.2.2.2.2.2.2.2.1.map ak.lf))]),.dead,.dead,.dead,.dead,.box 63 (.dat (ah.lf1 p_x)),.row 54 82 (r0.2.2.2.2.2.2.2.2.2.2.2.2.2.1.map ak.lf),.row 3 1 (r0.2.2.2.2.2.2.2.2.2.2.2.2.2.2.1.map lfI),.row 3 1 (r0.2.2.2.2.2.2.2.2.2.2.2.2.2.2.2.map lfI),.row 63 9 (p_b0.bD.map ah.lf)]⟩ :=
 jw fJ (yj p_b0 p_x r0) (fun _=>.normal) (yt p_b0 p_x r0) (by kernel_rfl) h
def VU (p_x:ah) (p_b0:aA) : Mo (aA) :=
 .ask (Q6 p_x p_b0) fun r0 h0 =>
 .say [.iU [0,1,2,3,4] (.i_ r0) [.box 97 (ag_ (aA.lf1 p_b0) [(8,.own 5),(10,.own 6),(11,.own 7),(12,.own 8)]),.dead,.dead,.dead,.dead,.row 54 82 (p_b0.aG.aB.map ak.lf),.row 3 1 (p_b0.aG.fNext.map lfI),.row 3 1 (p_b0.aG.aS.map lfI),.row 63 9 (p_b0.bD.map ah.lf)],.num p_b0.aG.aB.length] (okc (Jj _ _ _ h0) (ok1 (ln_ p_b0.aG.aB ak.lf))) <|
 .ask (BO p_b0 p_x r0) fun r1 h1 =>
 .say [.pt_ 1 [0,3,4,18] 10 (.normal) (yh p_b0 p_x r1),.order [(true,0),(true,1),(true,2),(true,3),(true,4),(true,5),(true,6),(true,7),(true,8)] none [],.num r1.2.2.2.2.2.2.2.2.2.2.2.2.2.1.length,.num p_x.aQ.length] (okc (P6 h1) (okc (ln_ r1.2.2.2.2.2.2.2.2.2.2.2.2.2.1 ak.lf) (ok1 (ln_ p_x.aQ ak.lf)))) <|
 .ask (BP p_b0 p_x r1) fun r2 h2 =>
 .say [.pt_ 1 [0,3,5,6,49] 10 (.normal) (yt p_b0 p_x r1 r2),.num p_x.aQ.length,.order [(true,0),(true,1),(true,2),(true,3),(true,4),(true,5),(true,6),(true,7),(true,8),(true,9),(true,10),(true,11),(false,12)] (some 12) []] (okc (P7 h2) (ok1 (ln_ p_x.aQ ak.lf))) <|
 .cH [0,6,7,8,9] (Hr p_x true (IntKind.wrap .i64 (p_x.aY + (p_x.aQ.length:Int))) (aA.mk (aj.mk r1.1 r1.2.1 r1.2.2.1 r1.2.2.2.1 r1.2.2.2.2.1 r1.2.2.2.2.2.1 r1.2.2.2.2.2.2.1 r1.2.2.2.2.2.2.2.1 r2 (if (if (IntKind.wrap .i64 (p_x.aY + (p_x.aQ.length:Int))) < p_x.au then (IntKind.wrap .i64 (p_x.aY + (p_x.aQ.length:Int))) else p_x.au) > r1.2.2.2.2.2.2.2.2.1 then (if (IntKind.wrap .i64 (p_x.aY + (p_x.aQ.length:Int))) < p_x.au then (IntKind.wrap .i64 (p_x.aY + (p_x.aQ.length:Int))) else p_x.au) else r1.2.2.2.2.2.2.2.2.1) r1.2.2.2.2.2.2.2.2.2.2.2.2.2.2.1 r1.2.2.2.2.2.2.2.2.2.2.2.2.2.2.2) p_b0.bD (bU.mk r1.2.2.2.2.2.2.2.2.2.1 r1.2.2.2.2.2.2.2.2.2.2.1 r1.2.2.2.2.2.2.2.2.2.2.2.1 r1.2.2.2.2.2.2.2.2.2.2.2.2.1))) fun r3 _ =>
 .ret ⟨[.kill 5,.mvn 10,.mvn 11,.mvn 12,.mvn 13],[],[(14,5),(15,6),(16,7),(17,8)],9⟩ (r3)
def Q12 (p_x:ah) (p_b0:aA) : Option (aA) := Mo.den (VU p_x p_b0)
theorem XK (p_x:ah) (p_b0:aA) : FH (Q12 p_x p_b0) 83 [.ptr 0 0,.dat (ah.lf1 p_x)] [.box 97 (ag_ (aA.lf1 p_b0) [(8,.own 1),(10,.own 2),(11,.own 3),(12,.own 4)]),.row 54 82 (p_b0.aG.aB.map ak.lf),.row 3 1 (p_b0.aG.fNext.map lfI),.row 3 1 (p_b0.aG.aS.map lfI),.row 63 9 (p_b0.bD.map ah.lf)] (fun _=>.tup []) (fun r=>[.box 97 (ag_ (aA.lf1 r) [(8,.own 5),(10,.own 6),(11,.own 7),(12,.own 8)]),.dead,.dead,.dead,.dead,.row 54 82 (r.aG.aB.map ak.lf),.row 3 1 (r.aG.fNext.map lfI),.row 3 1 (r.aG.aS.map lfI),.row 63 9 (r.bD.map ah.lf)]) := gy Tryz.func83 (by kernel_rfl) (fun _=>rfl) (by kernel_rfl)
def Jk (p_b0:aA) (p_x:ah) : Mo (Bool) :=
 .say [.order [(true,0),(true,1),(true,2),(true,3),(true,4),(true,5),(true,6),(true,7),(true,8),(true,9),(true,10),(true,11),(true,12),(true,13)] none []] ok0 <|
 .iG 10007 (p_x.aJ == p_b0.aG.aJ) (.rt [0,3,4,31] 6 (p_b0.aG.bQ == 2)) <|
 .rt [0,3,4,31] 6 (false)
def BQ (p_b0:aA) (p_x:ah) : Mo ((Int × Int × Int × Int × Int × Int × Int × Int × Int × (List ak) × (List Int) × (List Int))) :=
 .ite (decide ((p_b0.aG.aJ:Int) < p_x.aJ)) (fun c0 =>
 .say [.br true,.order [(true,0),(true,1),(true,2),(true,4),(true,5),(false,3),(false,6),(true,7),(false,8)] (some 8) [0,6,7,8,9,10,11],.at_ 14 6,.frz 6,.frz 7,.frz 8,.tod 42] (ok1 c0) <|
 .cH [] (Hq p_b0.aG p_x.aJ) fun r0 _ =>
 .ret ⟨[],[0,3,4],[(9,6),(10,7),(11,8)],9⟩ (r0.fID,r0.bI,r0.aJ,r0.fZ,r0.bQ,r0.gQ,r0.dU,r0.eF,r0.au,r0.aB,r0.fNext,r0.aS)) fun c0 =>
 .say [.br false] (ok1 c0) <|
 .rt [0,3,4] 9 (p_b0.aG.fID,p_b0.aG.bI,p_b0.aG.aJ,p_b0.aG.fZ,p_b0.aG.bQ,p_b0.aG.gQ,p_b0.aG.dU,p_b0.aG.eF,p_b0.aG.au,p_b0.aG.aB,p_b0.aG.fNext,p_b0.aG.aS)
def Jl (p_b0:aA) (p_x:ah) : Option ((Int × Int × Int × Int × Int × Int × Int × Int × Int × (List ak) × (List Int) × (List Int))) := Mo.den (BQ p_b0 p_x)
def wE (p_b0:aA) (p_x:ah) (r_:(Int × Int × Int × Int × Int × Int × Int × Int × Int × (List ak) × (List Int) × (List Int))) : St := ⟨[(0,.ptr 0 0),(3,.ptr 5 0),(4,.ptr 0 0)],[.box 97 (ag_ (aA.lf1 p_b0) [(0,.i_ r_.1),(1,.i_ r_.2.1),(2,.i_ r_.2.2.1),(3,.i_ r_.2.2.2.1),(4,.i_ r_.2.2.2.2.1),(5,.i_ r_.2.2.2.2.2.1),(6,.i_ r_.2.2.2.2.2.2.1),(7,.i_ r_.2.2.2.2.2.2.2.1),(8,.own 6),(9,.i_ r_.2.2.2.2.2.2.2.2.1),(10,.own 7),(11,.own 8),(12,.own 4)]),.dead,.dead,.dead,.row 63 9 (p_b0.bD.map ah.lf),.box 63 (.dat (ah.lf1 p_x)),.row 54 82 (r_.2.2.2.2.2.2.2.2.2.1.map ak.lf),.row 3 1 (r_.2.2.2.2.2.2.2.2.2.2.1.map lfI),.row 3 1 (r_.2.2.2.2.2.2.2.2.2.2.2.map lfI)]⟩
theorem Uw {p_b0:aA} {p_x:ah} {r_:(Int × Int × Int × Int × Int × Int × Int × Int × Int × (List ak) × (List Int) × (List Int))} (h:Jl p_b0 p_x = some r_) : jq Tryz.f45 5 [1,1,1,1,0,1] (.normal) (wE p_b0 p_x r_) ⟨[(0,.ptr 0 0),(3,.ptr 5 0),(4,.ptr 0 0),(38,.lf (.bool (decide ((p_b0.aG.aJ:Int) < p_x.aJ))))],[.box 97 (ag_ (aA.lf1 p_b0) [(8,.own 6),(10,.own 7),(11,.own 8),(12,.own 4)]),.dead,.dead,.dead,.row 63 9 (p_b0.bD.map ah.lf),.box 63 (.dat (ah.lf1 p_x)),.row 54 82 (p_b0.aG.aB.map ak.lf),.row 3 1 (p_b0.aG.fNext.map lfI),.row 3 1 (p_b0.aG.aS.map lfI)]⟩ :=
 jw fJ (BQ p_b0 p_x) (fun _=>.normal) (wE p_b0 p_x) (by kernel_rfl) h
def Ez (p_b0:aA) (p_x:ah) (r0:(Int × Int × Int × Int × Int × Int × Int × Int × Int × (List ak) × (List Int) × (List Int))) : Mo ((Int × Int)) :=
 .iB (r0.2.2.2.2.1 == 1) (.rt [0,3,4] 9 (0,0)) <|
 .rt [0,3,4] 9 (r0.2.2.2.2.1,r0.2.2.2.2.2.2.2.1)
def Hz (p_b0:aA) (p_x:ah) (r0:(Int × Int × Int × Int × Int × Int × Int × Int × Int × (List ak) × (List Int) × (List Int))) : Option ((Int × Int)) := Mo.den (Ez p_b0 p_x r0)
def YM (p_x:ah) (p_b0:aA) : Mo (aA) :=
 .say [.order [(true,0),(true,1),(true,2),(true,3),(true,4),(true,5),(true,6)] none []] ok0 <|
 .iB (decide ((p_x.aJ:Int) < p_b0.aG.aJ)) (.cH [0,1,2,3,4] (Hr p_x false 0 p_b0) fun r0 _ =>
 .ret ⟨[.kill 5,.mvn 6,.mvn 7,.mvn 8,.mvn 9],[],[(10,5),(11,6),(12,7),(13,8)],9⟩ (r0)) <|
 .jp Tryz.f45 5 [1,1,1,0,0] 15 [0,3,4] 6 (.normal) (fun r_=>⟨[(0,.ptr 0 0),(3,.ptr 5 0),(4,.ptr 0 0),(31,.b_ r_)],[.box 97 (ag_ (aA.lf1 p_b0) [(8,.own 1),(10,.own 2),(11,.own 3),(12,.own 4)]),.row 54 82 (p_b0.aG.aB.map ak.lf),.row 3 1 (p_b0.aG.fNext.map lfI),.row 3 1 (p_b0.aG.aS.map lfI),.row 63 9 (p_b0.bD.map ah.lf),.box 63 (.dat (ah.lf1 p_x))]⟩) ⟨[(0,.ptr 0 0),(3,.ptr 5 0),(4,.ptr 0 0)],[.box 97 (ag_ (aA.lf1 p_b0) [(8,.own 1),(10,.own 2),(11,.own 3),(12,.own 4)]),.row 54 82 (p_b0.aG.aB.map ak.lf),.row 3 1 (p_b0.aG.fNext.map lfI),.row 3 1 (p_b0.aG.aS.map lfI),.row 63 9 (p_b0.bD.map ah.lf),.box 63 (.dat (ah.lf1 p_x))]⟩ (Jk p_b0 p_x).den (jW (by kernel_rfl)) fun r1 _ =>
 .ite (r1) (fun c0 =>
 .say [.br true] (ok1 c0) <|
 .ret ⟨[.kill 5,.mvn 1,.mvn 2,.mvn 3,.mvn 4],[],[(6,5),(7,6),(8,7),(9,8)],9⟩ (p_b0)) fun c0 =>
 .say [.br false,.order [(true,0),(true,1),(true,2),(true,3),(true,4),(true,5),(true,6)] none []] (ok1 c0) <|
 .ask (Jl p_b0 p_x) fun r2 h0 =>
 .say [.part [.mvn 1,.mvn 2,.mvn 3] 1 [0,3,4,38] 9 (.normal) (wE p_b0 p_x r2).T (wE p_b0 p_x r2).H] (ok1 (Uw h0)) <|
 .jp Tryz.f45 5 [1,1,1,1,1,0,1] 1 [0,3,4,51] 9 (.normal) (fun r_=>⟨[(0,.ptr 0 0),(3,.ptr 5 0),(4,.ptr 0 0)],[.box 97 (ag_ (aA.lf1 p_b0) [(0,.i_ r2.1),(1,.i_ r2.2.1),(2,.i_ r2.2.2.1),(3,.i_ r2.2.2.2.1),(4,.i_ r_.1),(5,.i_ r2.2.2.2.2.2.1),(6,.i_ r2.2.2.2.2.2.2.1),(7,.i_ r_.2),(8,.own 6),(9,.i_ r2.2.2.2.2.2.2.2.2.1),(10,.own 7),(11,.own 8),(12,.own 4)]),.dead,.dead,.dead,.row 63 9 (p_b0.bD.map ah.lf),.box 63 (.dat (ah.lf1 p_x)),.row 54 82 (r2.2.2.2.2.2.2.2.2.2.1.map ak.lf),.row 3 1 (r2.2.2.2.2.2.2.2.2.2.2.1.map lfI),.row 3 1 (r2.2.2.2.2.2.2.2.2.2.2.2.map lfI)]⟩) ⟨[(0,.ptr 0 0),(3,.ptr 5 0),(4,.ptr 0 0),(51,.lf (.bool (r2.2.2.2.2.1 == 1)))],[.box 97 (ag_ (aA.lf1 p_b0) [(0,.i_ r2.1),(1,.i_ r2.2.1),(2,.i_ r2.2.2.1),(3,.i_ r2.2.2.2.1),(4,.i_ r2.2.2.2.2.1),(5,.i_ r2.2.2.2.2.2.1),(6,.i_ r2.2.2.2.2.2.2.1),(7,.i_ r2.2.2.2.2.2.2.2.1),(8,.own 6),(9,.i_ r2.2.2.2.2.2.2.2.2.1),(10,.own 7),(11,.own 8),(12,.own 4)]),.dead,.dead,.dead,.row 63 9 (p_b0.bD.map ah.lf),.box 63 (.dat (ah.lf1 p_x)),.row 54 82 (r2.2.2.2.2.2.2.2.2.2.1.map ak.lf),.row 3 1 (r2.2.2.2.2.2.2.2.2.2.2.1.map lfI),.row 3 1 (r2.2.2.2.2.2.2.2.2.2.2.2.map lfI)]⟩ (Hz p_b0 p_x r2) (jW (by kernel_rfl)) fun r3 _ =>
 .cH [0,6,7,8,4] (XA p_x (aA.mk (aj.mk r2.1 r2.2.1 r2.2.2.1 r2.2.2.2.1 r3.1 p_x.bP (IntKind.wrap .i64 (10 + (IntKind.wrap .i64 (3 * r2.1)))) r3.2 r2.2.2.2.2.2.2.2.2.2.1 r2.2.2.2.2.2.2.2.2.1 r2.2.2.2.2.2.2.2.2.2.2.1 r2.2.2.2.2.2.2.2.2.2.2.2) p_b0.bD p_b0.dP)) fun r4 _ =>
 .ite (r4) (fun c1 =>
 .say [.br true,.order [(true,0),(true,1),(true,2),(true,3),(true,4),(true,7),(true,8),(true,9),(false,5),(true,6),(true,10),(true,11),(false,12)] (some 12) [],.num (((aA.mk (aj.mk r2.1 r2.2.1 r2.2.2.1 r2.2.2.2.1 r3.1 p_x.bP (IntKind.wrap .i64 (10 + (IntKind.wrap .i64 (3 * r2.1)))) r3.2 r2.2.2.2.2.2.2.2.2.2.1 r2.2.2.2.2.2.2.2.2.1 r2.2.2.2.2.2.2.2.2.2.2.1 r2.2.2.2.2.2.2.2.2.2.2.2) p_b0.bD p_b0.dP).aG).aB).length] (okc c1 (ok1 (ln_ (((aA.mk (aj.mk r2.1 r2.2.1 r2.2.2.1 r2.2.2.2.1 r3.1 p_x.bP (IntKind.wrap .i64 (10 + (IntKind.wrap .i64 (3 * r2.1)))) r3.2 r2.2.2.2.2.2.2.2.2.2.1 r2.2.2.2.2.2.2.2.2.1 r2.2.2.2.2.2.2.2.2.2.2.1 r2.2.2.2.2.2.2.2.2.2.2.2) p_b0.bD p_b0.dP).aG).aB) ak.lf))) <|
 .cH [0,9,10,11,12] (Hr p_x false (if (if (IntKind.wrap .i64 (p_x.aY - 1)) < ((((aA.mk (aj.mk r2.1 r2.2.1 r2.2.2.1 r2.2.2.2.1 r3.1 p_x.bP (IntKind.wrap .i64 (10 + (IntKind.wrap .i64 (3 * r2.1)))) r3.2 r2.2.2.2.2.2.2.2.2.2.1 r2.2.2.2.2.2.2.2.2.1 r2.2.2.2.2.2.2.2.2.2.2.1 r2.2.2.2.2.2.2.2.2.2.2.2) p_b0.bD p_b0.dP).aG).aB).length:Int) then (IntKind.wrap .i64 (p_x.aY - 1)) else ((((aA.mk (aj.mk r2.1 r2.2.1 r2.2.2.1 r2.2.2.2.1 r3.1 p_x.bP (IntKind.wrap .i64 (10 + (IntKind.wrap .i64 (3 * r2.1)))) r3.2 r2.2.2.2.2.2.2.2.2.2.1 r2.2.2.2.2.2.2.2.2.1 r2.2.2.2.2.2.2.2.2.2.2.1 r2.2.2.2.2.2.2.2.2.2.2.2) p_b0.bD p_b0.dP).aG).aB).length:Int)) > 0 then (if (IntKind.wrap .i64 (p_x.aY - 1)) < ((((aA.mk (aj.mk r2.1 r2.2.1 r2.2.2.1 r2.2.2.2.1 r3.1 p_x.bP (IntKind.wrap .i64 (10 + (IntKind.wrap .i64 (3 * r2.1)))) r3.2 r2.2.2.2.2.2.2.2.2.2.1 r2.2.2.2.2.2.2.2.2.1 r2.2.2.2.2.2.2.2.2.2.2.1 r2.2.2.2.2.2.2.2.2.2.2.2) p_b0.bD p_b0.dP).aG).aB).length:Int) then (IntKind.wrap .i64 (p_x.aY - 1)) else ((((aA.mk (aj.mk r2.1 r2.2.1 r2.2.2.1 r2.2.2.2.1 r3.1 p_x.bP (IntKind.wrap .i64 (10 + (IntKind.wrap .i64 (3 * r2.1)))) r3.2 r2.2.2.2.2.2.2.2.2.2.1 r2.2.2.2.2.2.2.2.2.1 r2.2.2.2.2.2.2.2.2.2.2.1 r2.2.2.2.2.2.2.2.2.2.2.2) p_b0.bD p_b0.dP).aG).aB).length:Int)) else 0) (aA.mk ((aA.mk (aj.mk r2.1 r2.2.1 r2.2.2.1 r2.2.2.2.1 r3.1 p_x.bP (IntKind.wrap .i64 (10 + (IntKind.wrap .i64 (3 * r2.1)))) r3.2 r2.2.2.2.2.2.2.2.2.2.1 r2.2.2.2.2.2.2.2.2.1 r2.2.2.2.2.2.2.2.2.2.2.1 r2.2.2.2.2.2.2.2.2.2.2.2) p_b0.bD p_b0.dP).aG) ((aA.mk (aj.mk r2.1 r2.2.1 r2.2.2.1 r2.2.2.2.1 r3.1 p_x.bP (IntKind.wrap .i64 (10 + (IntKind.wrap .i64 (3 * r2.1)))) r3.2 r2.2.2.2.2.2.2.2.2.2.1 r2.2.2.2.2.2.2.2.2.1 r2.2.2.2.2.2.2.2.2.2.2.1 r2.2.2.2.2.2.2.2.2.2.2.2) p_b0.bD p_b0.dP).bD) ((aA.mk (aj.mk r2.1 r2.2.1 r2.2.2.1 r2.2.2.2.1 r3.1 p_x.bP (IntKind.wrap .i64 (10 + (IntKind.wrap .i64 (3 * r2.1)))) r3.2 r2.2.2.2.2.2.2.2.2.2.1 r2.2.2.2.2.2.2.2.2.1 r2.2.2.2.2.2.2.2.2.2.2.1 r2.2.2.2.2.2.2.2.2.2.2.2) p_b0.bD p_b0.dP).dP))) fun r5 _ =>
 .ret ⟨[.kill 5,.mvn 13,.mvn 14,.mvn 15,.mvn 16],[],[(17,5),(18,6),(19,7),(20,8)],9⟩ (r5)) fun c1 =>
 .say [.br false] (ok1 c1) <|
 .cH [0,9,10,11,12] (XK p_x (aA.mk ((aA.mk (aj.mk r2.1 r2.2.1 r2.2.2.1 r2.2.2.2.1 r3.1 p_x.bP (IntKind.wrap .i64 (10 + (IntKind.wrap .i64 (3 * r2.1)))) r3.2 r2.2.2.2.2.2.2.2.2.2.1 r2.2.2.2.2.2.2.2.2.1 r2.2.2.2.2.2.2.2.2.2.2.1 r2.2.2.2.2.2.2.2.2.2.2.2) p_b0.bD p_b0.dP).aG) ((aA.mk (aj.mk r2.1 r2.2.1 r2.2.2.1 r2.2.2.2.1 r3.1 p_x.bP (IntKind.wrap .i64 (10 + (IntKind.wrap .i64 (3 * r2.1)))) r3.2 r2.2.2.2.2.2.2.2.2.2.1 r2.2.2.2.2.2.2.2.2.1 r2.2.2.2.2.2.2.2.2.2.2.1 r2.2.2.2.2.2.2.2.2.2.2.2) p_b0.bD p_b0.dP).bD) ((aA.mk (aj.mk r2.1 r2.2.1 r2.2.2.1 r2.2.2.2.1 r3.1 p_x.bP (IntKind.wrap .i64 (10 + (IntKind.wrap .i64 (3 * r2.1)))) r3.2 r2.2.2.2.2.2.2.2.2.2.1 r2.2.2.2.2.2.2.2.2.1 r2.2.2.2.2.2.2.2.2.2.2.1 r2.2.2.2.2.2.2.2.2.2.2.2) p_b0.bD p_b0.dP).dP))) fun r6 _ =>
 .ret ⟨[.kill 5,.mvn 13,.mvn 14,.mvn 15,.mvn 16],[],[(17,5),(18,6),(19,7),(20,8)],9⟩ (r6)
def Q8 (p_x:ah) (p_b0:aA) : Option (aA) := Mo.den (YM p_x p_b0)
theorem YN (p_x:ah) (p_b0:aA) : FH (Q8 p_x p_b0) 45 [.ptr 0 0,.dat (ah.lf1 p_x)] [.box 97 (ag_ (aA.lf1 p_b0) [(8,.own 1),(10,.own 2),(11,.own 3),(12,.own 4)]),.row 54 82 (p_b0.aG.aB.map ak.lf),.row 3 1 (p_b0.aG.fNext.map lfI),.row 3 1 (p_b0.aG.aS.map lfI),.row 63 9 (p_b0.bD.map ah.lf)] (fun _=>.tup []) (fun r=>[.box 97 (ag_ (aA.lf1 r) [(8,.own 5),(10,.own 6),(11,.own 7),(12,.own 8)]),.dead,.dead,.dead,.dead,.row 54 82 (r.aG.aB.map ak.lf),.row 3 1 (r.aG.fNext.map lfI),.row 3 1 (r.aG.aS.map lfI),.row 63 9 (r.bD.map ah.lf)]) := gy Tryz.func45 (by kernel_rfl) (fun _=>rfl) (by kernel_rfl)
def wF (p_m:aj) (p_x:ah) : Mo (Bool) :=
 .iG 8003 (p_m.bQ != 2) (.rt [2,3,4,24] 6 (true)) <|
 .rt [2,3,4,24] 6 (decide ((p_x.aJ:Int) < p_m.aJ))
def wH (p_m:aj) (p_x:ah) (r0:Bool) : Mo (Bool) :=
 .iG 8010 (r0) (.rt [2,3,4,36] 6 (true)) <|
 .ite (p_x.fOK) (fun c0 =>
 .say [.gd 8013 true,.num p_m.aB.length] (okc c0 (ok1 (ln_ p_m.aB ak.lf))) <|
 .rt [2,3,4,36] 6 (decide (((p_m.aB.length:Int) : Int) < p_x.aY))) fun c0 =>
 .say [.gd 8013 false] (ok1 c0) <|
 .rt [2,3,4,36] 6 (false)
def qV (p_m:aj) (p_x:ah) : Mo (Bool) :=
 .ite (decide ((p_x.bP:Int) < 0)) (fun c0 =>
 .say [.gd 14002 true] (ok1 c0) <|
 .rt [2,3,4,5,48] 6 (true)) fun c0 =>
 .say [.gd 14002 false,.num p_m.fNext.length] (okc c0 (ok1 (ln_ p_m.fNext lfI))) <|
 .rt [2,3,4,5,48] 6 (decide (((p_m.fNext.length:Int) : Int) ≤ p_x.bP))
def qW (p_m:aj) (p_x:ah) (r0:Bool) : Mo (Bool) :=
 .ite (r0) (fun c0 =>
 .say [.gd 14009 true] (ok1 c0) <|
 .rt [2,3,4,5,55] 6 (true)) fun c0 =>
 .say [.gd 14009 false,.num p_m.aS.length] (okc c0 (ok1 (ln_ p_m.aS lfI))) <|
 .rt [2,3,4,5,55] 6 (decide (((p_m.aS.length:Int) : Int) ≤ p_x.bP))
def qX (p_m:aj) (p_x:ah) : Mo (((List Int) × (List Int))) :=
 .ite (p_x.fOK) (fun c0 =>
 .say [.br true,.order [(true,0),(true,1),(true,2),(true,3),(true,4),(true,5),(true,6),(true,7),(true,8),(true,9),(true,10),(true,11),(false,12)] (some 12) []] (ok1 c0) <|
 .ask (cO p_m.aS p_x.bP) fun x0 h0 =>
 .say [.row (lfI x0)] (okc (bM lI_ h0) (ok1 ((bf lI_ h0).2))) <|
 .ask (cO p_m.aS p_x.bP) fun x1 h1 =>
 .say [.row (lfI x1),.rows ((p_m.aS.set p_x.bP.toNat (if p_x.aY > x0 then p_x.aY else x0)).map lfI),.order [(true,0),(true,1),(true,2),(true,3),(true,4),(true,5),(true,6),(true,7),(true,8),(true,9),(true,10),(true,11),(true,12),(true,13),(true,14),(false,15)] (some 15) []] (okc (bM lI_ h1) (okc (st_ lI_ p_m.aS p_x.bP.toNat (if p_x.aY > x0 then p_x.aY else x0)) (ok1 ((bf lI_ h1).2)))) <|
 .ask (cO p_m.fNext p_x.bP) fun x2 h2 =>
 .say [.row (lfI x2)] (okc (bM lI_ h2) (ok1 ((bf lI_ h2).2))) <|
 .ask (cO (p_m.aS.set p_x.bP.toNat (if p_x.aY > x0 then p_x.aY else x0)) p_x.bP) fun x3 h3 =>
 .say [.row (lfI x3)] (okc (bM lI_ h3) (ok1 ((bf lI_ h3).2))) <|
 .ask (cO p_m.fNext p_x.bP) fun x4 h4 =>
 .say [.row (lfI x4),.rows ((p_m.fNext.set p_x.bP.toNat (if x3 > x2 then x3 else x2)).map lfI)] (okc (bM lI_ h4) (okc (st_ lI_ p_m.fNext p_x.bP.toNat (if x3 > x2 then x3 else x2)) (ok1 ((bf lI_ h4).2)))) <|
 .ret ⟨[.kill 4],[2,4],[],6⟩ (p_m.fNext.set p_x.bP.toNat (if x3 > x2 then x3 else x2),p_m.aS.set p_x.bP.toNat (if p_x.aY > x0 then p_x.aY else x0))) fun c0 =>
 .say [.br false,.order [(true,0),(true,1),(true,2),(true,3),(true,4),(true,5),(true,6),(true,7),(true,8),(true,9),(true,10),(true,11),(true,12),(true,13),(true,14),(true,15),(true,16),(true,17),(false,18)] (some 18) []] (ok1 c0) <|
 .ask (cO p_m.fNext p_x.bP) fun x5 h5 =>
 .say [.row (lfI x5)] (okc (bM lI_ h5) (ok1 ((bf lI_ h5).2))) <|
 .ask (cO p_m.aS p_x.bP) fun x6 h6 =>
 .say [.row (lfI x6)] (okc (bM lI_ h6) (ok1 ((bf lI_ h6).2))) <|
 .ask (cO p_m.fNext p_x.bP) fun x7 h7 =>
 .say [.row (lfI x7),.rows ((p_m.fNext.set p_x.bP.toNat (if x6 > (if p_x.aY < x5 then p_x.aY else x5) then x6 else (if p_x.aY < x5 then p_x.aY else x5))).map lfI)] (okc (bM lI_ h7) (okc (st_ lI_ p_m.fNext p_x.bP.toNat (if x6 > (if p_x.aY < x5 then p_x.aY else x5) then x6 else (if p_x.aY < x5 then p_x.aY else x5))) (ok1 ((bf lI_ h7).2)))) <|
 .ret ⟨[.kill 4],[2,4],[],6⟩ (p_m.fNext.set p_x.bP.toNat (if x6 > (if p_x.aY < x5 then p_x.aY else x5) then x6 else (if p_x.aY < x5 then p_x.aY else x5)),p_m.aS)
def Ux (p_m:aj) (p_x:ah) : Mo (aj) :=
 .ite (decide ((p_m.aJ:Int) < p_x.aJ)) (fun c0 =>
 .say [.br true,.at_ 6 3,.frz 0,.frz 1,.frz 2,.tod 11] (ok1 c0) <|
 .cH [] (Hq p_m p_x.aJ) fun r0 _ =>
 .ret ⟨[.kill 3,.kill 4,.kill 5,.mvn 6,.mvn 7,.mvn 8],[0],[(9,3),(10,4),(11,5)],6⟩ (r0)) fun c0 =>
 .say [.br false] (ok1 c0) <|
 .sj Tryz.f84 3 [1,1,0,0] [0,1,2,3,4,5,6,7,8,9] 3 10 [2,3,4] 6 (fun r_=>⟨[(2,.ptr 3 0),(3,.ptr 4 0),(4,.ptr 5 0),(24,.b_ r_)],[.row 54 82 (p_m.aB.map ak.lf),.row 3 1 (p_m.fNext.map lfI),.row 3 1 (p_m.aS.map lfI),.box 25 (ag_ (aj.lf1 p_m) [(8,.own 0),(10,.own 1),(11,.own 2)]),.box 63 (.dat (ah.lf1 p_x)),.box 25 (Z25)]⟩) ⟨[(2,.ptr 3 0),(3,.ptr 4 0),(4,.ptr 5 0)],[.row 54 82 (p_m.aB.map ak.lf),.row 3 1 (p_m.fNext.map lfI),.row 3 1 (p_m.aS.map lfI),.box 25 (ag_ (aj.lf1 p_m) [(8,.own 0),(10,.own 1),(11,.own 2)]),.box 63 (.dat (ah.lf1 p_x)),.box 25 (Z25)]⟩ (wF p_m p_x).den (sW (by kernel_rfl)) fun r1 _ =>
 .sj Tryz.f84 3 [1,1,0,0] [10,11,12,13,14,15,16,17,18,19,20,21] 3 12 [2,3,4,24] 6 (fun r_=>⟨[(2,.ptr 3 0),(3,.ptr 4 0),(4,.ptr 5 0),(36,.b_ r_)],[.row 54 82 (p_m.aB.map ak.lf),.row 3 1 (p_m.fNext.map lfI),.row 3 1 (p_m.aS.map lfI),.box 25 (ag_ (aj.lf1 p_m) [(8,.own 0),(10,.own 1),(11,.own 2)]),.box 63 (.dat (ah.lf1 p_x)),.box 25 (Z25)]⟩) ⟨[(2,.ptr 3 0),(3,.ptr 4 0),(4,.ptr 5 0),(24,.b_ r1)],[.row 54 82 (p_m.aB.map ak.lf),.row 3 1 (p_m.fNext.map lfI),.row 3 1 (p_m.aS.map lfI),.box 25 (ag_ (aj.lf1 p_m) [(8,.own 0),(10,.own 1),(11,.own 2)]),.box 63 (.dat (ah.lf1 p_x)),.box 25 (Z25)]⟩ (wH p_m p_x r1).den (sW (by kernel_rfl)) fun r2 _ =>
 .iB (r2) (.ret ⟨[.kill 3,.kill 4,.kill 5,.mvn 0,.mvn 1,.mvn 2],[0],[(6,3),(7,4),(8,5)],6⟩ (p_m)) <|
 .sj Tryz.f84 3 [1,1,1,1,0,0] [0,1,2,3,4,5,6,7,8] 6 9 [2,3,4,5] 6 (fun r_=>⟨[(2,.ptr 3 0),(3,.ptr 4 0),(4,.ptr 5 0),(5,.i_ p_x.bP),(48,.b_ r_)],[.row 54 82 (p_m.aB.map ak.lf),.row 3 1 (p_m.fNext.map lfI),.row 3 1 (p_m.aS.map lfI),.box 25 (ag_ (aj.lf1 p_m) [(8,.own 0),(10,.own 1),(11,.own 2)]),.box 63 (.dat (ah.lf1 p_x)),.box 25 (Z25)]⟩) ⟨[(2,.ptr 3 0),(3,.ptr 4 0),(4,.ptr 5 0),(5,.i_ p_x.bP)],[.row 54 82 (p_m.aB.map ak.lf),.row 3 1 (p_m.fNext.map lfI),.row 3 1 (p_m.aS.map lfI),.box 25 (ag_ (aj.lf1 p_m) [(8,.own 0),(10,.own 1),(11,.own 2)]),.box 63 (.dat (ah.lf1 p_x)),.box 25 (Z25)]⟩ (qV p_m p_x).den (sW (by kernel_rfl)) fun r3 _ =>
 .sj Tryz.f84 3 [1,1,1,1,0,0] [9,10,11,12,13,14,15] 6 7 [2,3,4,5,48] 6 (fun r_=>⟨[(2,.ptr 3 0),(3,.ptr 4 0),(4,.ptr 5 0),(5,.i_ p_x.bP),(55,.b_ r_)],[.row 54 82 (p_m.aB.map ak.lf),.row 3 1 (p_m.fNext.map lfI),.row 3 1 (p_m.aS.map lfI),.box 25 (ag_ (aj.lf1 p_m) [(8,.own 0),(10,.own 1),(11,.own 2)]),.box 63 (.dat (ah.lf1 p_x)),.box 25 (Z25)]⟩) ⟨[(2,.ptr 3 0),(3,.ptr 4 0),(4,.ptr 5 0),(5,.i_ p_x.bP),(48,.b_ r3)],[.row 54 82 (p_m.aB.map ak.lf),.row 3 1 (p_m.fNext.map lfI),.row 3 1 (p_m.aS.map lfI),.box 25 (ag_ (aj.lf1 p_m) [(8,.own 0),(10,.own 1),(11,.own 2)]),.box 63 (.dat (ah.lf1 p_x)),.box 25 (Z25)]⟩ (qW p_m p_x r3).den (sW (by kernel_rfl)) fun r4 _ =>
 .iB (r4) (.ret ⟨[.kill 3,.kill 4,.kill 5,.mvn 0,.mvn 1,.mvn 2],[0],[(6,3),(7,4),(8,5)],6⟩ (p_m)) <|
 .jp Tryz.f84 3 [1,1,1,1,1,0,1] 1 [2,3,4,5,58] 6 (.normal) (fun r_=>⟨[(2,.ptr 3 0),(4,.ptr 5 0)],[.row 54 82 (p_m.aB.map ak.lf),.row 3 1 (r_.1.map lfI),.row 3 1 (r_.2.map lfI),.box 25 (ag_ (aj.lf1 p_m) [(8,.own 0),(10,.own 1),(11,.own 2)]),.dead,.box 25 (Z25)]⟩) ⟨[(2,.ptr 3 0),(3,.ptr 4 0),(4,.ptr 5 0),(5,.i_ p_x.bP),(58,.b_ p_x.fOK)],[.row 54 82 (p_m.aB.map ak.lf),.row 3 1 (p_m.fNext.map lfI),.row 3 1 (p_m.aS.map lfI),.box 25 (ag_ (aj.lf1 p_m) [(8,.own 0),(10,.own 1),(11,.own 2)]),.box 63 (.dat (ah.lf1 p_x)),.box 25 (Z25)]⟩ (qX p_m p_x).den (jW (by kernel_rfl)) fun r5 _ =>
 .ret ⟨[.kill 3,.kill 5,.mvn 0,.mvn 1,.mvn 2],[0],[(6,3),(7,4),(8,5)],6⟩ (aj.l7 (aj.qQ p_m r5.1) r5.2)
def Q9 (p_m:aj) (p_x:ah) : Option (aj) := Mo.den (Ux p_m p_x)
theorem YO (p_m:aj) (p_x:ah) : FH (Q9 p_m p_x) 84 [tV (.agg ((aj.lf1 p_m).map AV.lf)) [(8,.own 0),(10,.own 1),(11,.own 2)],.dat (ah.lf1 p_x)] [.row 54 82 (p_m.aB.map ak.lf),.row 3 1 (p_m.fNext.map lfI),.row 3 1 (p_m.aS.map lfI)] (fun r=>tV (.agg ((aj.lf1 r).map AV.lf)) [(8,.own 3),(10,.own 4),(11,.own 5)]) (fun r=>[.dead,.dead,.dead,.row 54 82 (r.aB.map ak.lf),.row 3 1 (r.fNext.map lfI),.row 3 1 (r.aS.map lfI)]) := gy Tryz.func84 (by kernel_rfl) (fun _=>rfl) (by kernel_rfl)
def P8 (p_x:Int) : Mo ((Int × Int)) :=
 .ite (decide ((4294967296:Int) ≤ p_x)) (fun c0 =>
 .say [.br true] (okc c0 (ok1 (by decide:(0:Int) ≤ 32))) <|
 .rt [0,2] 0 (dW .u64 p_x 32,32)) fun c0 =>
 .say [.br false] (ok1 c0) <|
 .rt [0,2] 0 (p_x,0)
def P9 (r0:(Int × Int)) : Mo ((Int × Int)) :=
 .ite (decide ((65536:Int) ≤ r0.1)) (fun c0 =>
 .say [.br true] (okc c0 (ok1 (by decide:(0:Int) ≤ 16))) <|
 .rt [0,2] 0 (dW .u64 r0.1 16,IntKind.wrap .i64 (r0.2 + 16))) fun c0 =>
 .say [.br false] (ok1 c0) <|
 .rt [0,2] 0 (r0.1,r0.2)
def Kt (r0:(Int × Int)) : Mo ((Int × Int)) :=
 .ite (decide ((256:Int) ≤ r0.1)) (fun c0 =>
 .say [.br true] (okc c0 (ok1 (by decide:(0:Int) ≤ 8))) <|
 .rt [0,2] 0 (dW .u64 r0.1 8,IntKind.wrap .i64 (r0.2 + 8))) fun c0 =>
 .say [.br false] (ok1 c0) <|
 .rt [0,2] 0 (r0.1,r0.2)
def YP (p_x:Int) : Mo (Int) :=
 .jp Tryz.f149 0 [1,0,1] 1 [0,2,4] 0 (.normal) (fun r_=>⟨[(0,.lf (.int .u64 r_.1)),(2,.i_ r_.2)],[]⟩) ⟨[(0,.lf (.int .u64 p_x)),(2,.i_ 0),(4,.lf (.bool (decide ((4294967296:Int) ≤ p_x))))],[]⟩ (P8 p_x).den (jW (by kernel_rfl)) fun r0 _ =>
 .jp Tryz.f149 0 [1,1,0,1] 1 [0,2,8] 0 (.normal) (fun r_=>⟨[(0,.lf (.int .u64 r_.1)),(2,.i_ r_.2)],[]⟩) ⟨[(0,.lf (.int .u64 r0.1)),(2,.i_ r0.2),(8,.lf (.bool (decide ((65536:Int) ≤ r0.1))))],[]⟩ (P9 r0).den (jW (by kernel_rfl)) fun r1 _ =>
 .jp Tryz.f149 0 [1,1,1,0,1] 1 [0,2,14] 0 (.normal) (fun r_=>⟨[(0,.lf (.int .u64 r_.1)),(2,.i_ r_.2)],[]⟩) ⟨[(0,.lf (.int .u64 r1.1)),(2,.i_ r1.2),(14,.lf (.bool (decide ((256:Int) ≤ r1.1))))],[]⟩ (Kt r1).den (jW (by kernel_rfl)) fun r2 _ =>
 .ask (Xa ⟨#[0,1,2,2,3,3,3,3,4,4,4,4,4,4,4,4,5,5,5,5,5,5,5,5,5,5,5,5,5,5,5,5,6,6,6,6,6,6,6,6,6,6,6,6,6,6,6,6,6,6,6,6,6,6,6,6,6,6,6,6,6,6,6,6,7,7,7,7,7,7,7,7,7,7,7,7,7,7,7,7,7,7,7,7,7,7,7,7,7,7,7,7,7,7,7,7,7,7,7,7,7,7,7,7,7,7,7,7,7,7,7,7,7,7,7,7,7,7,7,7,7,7,7,7,7,7,7,7,8,8,8,8,8,8,8,8,8,8,8,8,8,8,8,8,8,8,8,8,8,8,8,8,8,8,8,8,8,8,8,8,8,8,8,8,8,8,8,8,8,8,8,8,8,8,8,8,8,8,8,8,8,8,8,8,8,8,8,8,8,8,8,8,8,8,8,8,8,8,8,8,8,8,8,8,8,8,8,8,8,8,8,8,8,8,8,8,8,8,8,8,8,8,8,8,8,8,8,8,8,8,8,8,8,8,8,8,8,8,8,8,8,8,8,8,8,8,8,8,8,8,8,8,8,8,8,8]⟩ (IntKind.wrap .u8 r2.1)) fun b0 h0 =>
 .say [.byt b0] (ok1 (TF h0)) <|
 .ret (cZ 1) (IntKind.wrap .i64 (r2.2 + (IntKind.wrap .i64 (b0.toNat:Int))))
def Q76 (p_x:Int) : Option (Int) := Mo.den (YP p_x)
theorem XL (p_x:Int) : FV (Q76 p_x) 149 [.lf (.int .u64 p_x)] (fun r=>.i_ r) := eG Tryz.func149 (by kernel_rfl) (fun _=>rfl) (by kernel_rfl)
def XM (p_x:Int) : Mo (Int) :=
 .say [.br false] (ok1 (rfl:false = false)) <|
 .cl (XL p_x) fun r0 _ =>
 .ret (cZ 1) (r0)
def YQ (p_x:Int) : Option (Int) := Mo.den (XM p_x)
theorem Uy (p_x:Int) : FV (YQ p_x) 105 [.lf (.int .u64 p_x)] (fun r=>.i_ r) := eG Tryz.func105 (by kernel_rfl) (fun _=>rfl) (by kernel_rfl)
def Qa (p_x:Int) : Mo (Bool) :=
 .ret (cZ 1) (p_x != p_x)
def YR (p_x:Int) : Option (Bool) := Mo.den (Qa p_x)
theorem Jm (p_x:Int) : FV (YR p_x) 195 [.i_ p_x] (fun r=>.b_ r) := eG Tryz.func195 (by kernel_rfl) (fun _=>rfl) (by kernel_rfl)
def EC (p_x:Int) (p_y:Int) : Mo (Bool) :=
 .cl (Jm p_x) fun r0 _ =>
 .iG 4002 (r0) (.cl (Jm p_y) fun r1 _ =>
 .rt [0,1,4,11] 0 (!r1)) <|
 .rt [0,1,4,11] 0 (false)
def ED (p_x:Int) (p_y:Int) (r0:Bool) : Mo (Bool) :=
 .iG 4007 (r0) (.rt [4,16] 0 (true)) <|
 .rt [4,16] 0 (decide ((p_x:Int) < p_y))
def Ag (r0:Bool) : Mo (Unit) :=
 .rt [4] 0 ()
def VW (p_x:Int) (p_y:Int) : Mo (Bool) :=
 .sj Tryz.f145 0 [1,0] [0,1,2,3,4,5,6] 1 7 [0,1,4] 0 (fun r_=>⟨[(0,.i_ p_x),(1,.i_ p_y),(4,.b_ false),(11,.b_ r_)],[]⟩) ⟨[(0,.i_ p_x),(1,.i_ p_y),(4,.b_ false)],[]⟩ (EC p_x p_y).den (sW (by kernel_rfl)) fun r0 _ =>
 .sj Tryz.f145 0 [1,0] [7,8,9,10,11] 1 5 [0,1,4,11] 0 (fun r_=>⟨[(4,.b_ false),(16,.b_ r_)],[]⟩) ⟨[(0,.i_ p_x),(1,.i_ p_y),(4,.b_ false),(11,.b_ r0)],[]⟩ (ED p_x p_y r0).den (sW (by kernel_rfl)) fun r1 _ =>
 .sj Tryz.f145 0 [1,0] [12] 1 1 [4,16] 0 (fun r_=>⟨[(4,.b_ r1)],[]⟩) ⟨[(4,.b_ false),(16,.b_ r1)],[]⟩ (Ag r1).den (sW (by kernel_rfl)) fun r2 _ =>
 .ret (cZ 1) (r1)
def Q58 (p_x:Int) (p_y:Int) : Option (Bool) := Mo.den (VW p_x p_y)
theorem XO (p_x:Int) (p_y:Int) : FV (Q58 p_x p_y) 145 [.i_ p_x,.i_ p_y] (fun r=>.b_ r) := eG Tryz.func145 (by kernel_rfl) (fun _=>rfl) (by kernel_rfl)
def Jo (l0:List Int) (p_a:Int) (p_b:Int) (v0:Int) (v1:Int) : Mo (Bool) :=
 .ite (decide ((p_a:Int) < v1)) (fun c0 =>
 .say [] (ok1 c0) <|
 .ask (cO l0 v1) fun x0 h0 =>
 .say [] (okc (bM lI_ h0) (ok1 ((bf lI_ h0).2))) <|
 .ask (cO l0 (IntKind.wrap .i64 (v1 - 1))) fun x1 h1 =>
 .say [] (okc (bM lI_ h1) (ok1 ((bf lI_ h1).2))) <|
 .ask (Q58 x0 x1) fun r0 h2 =>
 .say [.fQ (.q 0 (.q 1 (.q 2 (.q 3 (.q 4 (.q 5 (.q 6 (.q 7 (.q 8 (.q 9 (.q 10 (.q 11 (.q 12 (.l 13 (.q 14 .fin))))))))))))))) (some 13) [] [.gd 10003 true,.row (lfI x0),.row (lfI x1),.res (.b_ r0)] [0,1,2,6,7,30] 1 [(0,.own 0),(1,.i_ p_a),(2,.i_ p_b),(6,.i_ v0),(7,.i_ v1),(30,.b_ r0)] [.row 3 1 (l0.map lfI)]] (okc (XO _ _ _ h2) (ok1 (rf_ ⟨[(0,.own 0),(1,.i_ p_a),(2,.i_ p_b),(6,.i_ v0),(7,.i_ v1),(30,.b_ r0)],[.row 3 1 (l0.map lfI)]⟩))) <|
 .rt [0,1,2,6,7,30] 1 (r0)) fun c0 =>
 .say [.fQ (.q 0 (.q 1 (.q 2 (.q 3 (.q 4 (.q 5 (.q 6 (.q 7 (.q 8 (.q 9 (.q 10 (.q 11 (.q 12 (.l 13 (.q 14 .fin))))))))))))))) (some 13) [] [.gd 10003 false] [0,1,2,6,7,30] 1 [(0,.own 0),(1,.i_ p_a),(2,.i_ p_b),(6,.i_ v0),(7,.i_ v1),(30,.b_ false)] [.row 3 1 (l0.map lfI)]] (okc c0 (ok1 (rf_ ⟨[(0,.own 0),(1,.i_ p_a),(2,.i_ p_b),(6,.i_ v0),(7,.i_ v1),(30,.b_ false)],[.row 3 1 (l0.map lfI)]⟩))) <|
 .rt [0,1,2,6,7,30] 1 (false)
def Qb (l0:List Int) (p_a:Int) (p_b:Int) (v0:Int) (v1:Int) : Option (Bool) := Mo.den (Jo l0 p_a p_b v0 v1)
def Jp (p_a:Int) (p_b:Int) (v0:Int) : (Int × (List Int)) → Mo ((Int × (List Int)) ⊕ ((List Int))) := fun (v1,l0) =>
 .jp Tryz.f139 1 [1,0,0,1,0,0,1,0,0,0,0] 15 [0,1,2,6,7] 1 (.normal) (fun r_=>⟨[(0,.own 0),(1,.i_ p_a),(2,.i_ p_b),(6,.i_ v0),(7,.i_ v1),(30,.b_ r_)],[.row 3 1 (l0.map lfI)]⟩) ⟨[(0,.own 0),(1,.i_ p_a),(2,.i_ p_b),(6,.i_ v0),(7,.i_ v1)],[.row 3 1 (l0.map lfI)]⟩ (Qb l0 p_a p_b v0 v1) (jW (by kernel_rfl)) fun r0 _ =>
 .iB (r0) (.ask (cO l0 (IntKind.wrap .i64 (v1 - 1))) fun x0 h0 =>
 .say [] (okc (bM lI_ h0) (ok1 ((bf lI_ h0).2))) <|
 .ask (cO l0 v1) fun x1 h1 =>
 .say [] (okc (bM lI_ h1) (ok1 ((bf lI_ h1).2))) <|
 .ask (cO l0 v1) fun x2 h2 =>
 .say [] (okc (bM lI_ h2) (okc (st_ lI_ l0 v1.toNat x0) (ok1 ((bf lI_ h2).2)))) <|
 .ask (cO (l0.set v1.toNat x0) (IntKind.wrap .i64 (v1 - 1))) fun x3 h3 =>
 .say [.fQ (.q 0 (.q 1 (.q 2 (.q 3 (.q 4 (.q 5 (.q 6 (.q 7 (.q 10 (.q 11 (.alt 8 (.alt 9 (.l 12 (.l 13 (.l 14 (.l 15 (.l 16 (.l 17 .fin)))))) (.l 12 (.alt 9 (.l 13 (.l 14 (.l 15 (.l 16 (.l 17 .fin))))) (.l 13 (.l 9 (.l 14 (.l 15 (.l 16 (.l 17 .fin))))))))) (.l 12 (.alt 8 (.alt 9 (.l 13 (.l 14 (.l 15 (.l 16 (.l 17 .fin))))) (.l 13 (.l 9 (.l 14 (.l 15 (.l 16 (.l 17 .fin))))))) (.l 13 (.l 8 (.l 9 (.l 14 (.l 15 (.l 16 (.l 17 .fin)))))))))))))))))))) (some 17) [0] [.both [.both [.row (lfI x0),.row (lfI x1),.row (lfI x2),.rows ((l0.set v1.toNat x0).map lfI),.row (lfI x3),.rows (((l0.set v1.toNat x0).set ((IntKind.wrap .i64 (v1 - 1)).toNat) x1).map lfI)] [.both [.row (lfI x0),.row (lfI x1),.row (lfI x2),.rows ((l0.set v1.toNat x0).map lfI),.row (lfI x3),.rows (((l0.set v1.toNat x0).set ((IntKind.wrap .i64 (v1 - 1)).toNat) x1).map lfI)] [.row (lfI x1),.row (lfI x0),.row (lfI x2),.rows ((l0.set v1.toNat x0).map lfI),.row (lfI x3),.rows (((l0.set v1.toNat x0).set ((IntKind.wrap .i64 (v1 - 1)).toNat) x1).map lfI)]]] [.both [.both [.row (lfI x0),.row (lfI x1),.row (lfI x2),.rows ((l0.set v1.toNat x0).map lfI),.row (lfI x3),.rows (((l0.set v1.toNat x0).set ((IntKind.wrap .i64 (v1 - 1)).toNat) x1).map lfI)] [.row (lfI x1),.row (lfI x0),.row (lfI x2),.rows ((l0.set v1.toNat x0).map lfI),.row (lfI x3),.rows (((l0.set v1.toNat x0).set ((IntKind.wrap .i64 (v1 - 1)).toNat) x1).map lfI)]] [.row (lfI x1),.row (lfI x0),.row (lfI x2),.rows ((l0.set v1.toNat x0).map lfI),.row (lfI x3),.rows (((l0.set v1.toNat x0).set ((IntKind.wrap .i64 (v1 - 1)).toNat) x1).map lfI)]]] [0,1,2,6,7] 1 [(0,.own 0),(1,.i_ p_a),(2,.i_ p_b),(6,.i_ v0),(7,.i_ v1)] [.row 3 1 (((l0.set v1.toNat x0).set ((IntKind.wrap .i64 (v1 - 1)).toNat) x1).map lfI)]] (okc (bM lI_ h3) (okc (st_ lI_ (l0.set v1.toNat x0) ((IntKind.wrap .i64 (v1 - 1)).toNat) x1) (okc ((bf lI_ h3).2) (okc (rf_ ⟨[(0,.own 0),(1,.i_ p_a),(2,.i_ p_b),(6,.i_ v0),(7,.i_ v1)],[.row 3 1 (((l0.set v1.toNat x0).set ((IntKind.wrap .i64 (v1 - 1)).toNat) x1).map lfI)]⟩) (okc (bM lI_ h1) (okc ((bf lI_ h0).2) (okc ((bf lI_ h1).2) (okc (bM lI_ h2) (okc (st_ lI_ l0 v1.toNat x0) (okc ((bf lI_ h2).2) (okc (bM lI_ h3) (okc (st_ lI_ (l0.set v1.toNat x0) ((IntKind.wrap .i64 (v1 - 1)).toNat) x1) (okc ((bf lI_ h3).2) (okc (rf_ ⟨[(0,.own 0),(1,.i_ p_a),(2,.i_ p_b),(6,.i_ v0),(7,.i_ v1)],[.row 3 1 (((l0.set v1.toNat x0).set ((IntKind.wrap .i64 (v1 - 1)).toNat) x1).map lfI)]⟩) (okc ((bf lI_ h1).2) (okc ((bf lI_ h0).2) (okc (bM lI_ h2) (okc (st_ lI_ l0 v1.toNat x0) (okc ((bf lI_ h2).2) (okc (bM lI_ h3) (okc (st_ lI_ (l0.set v1.toNat x0) ((IntKind.wrap .i64 (v1 - 1)).toNat) x1) (okc ((bf lI_ h3).2) (okc (rf_ ⟨[(0,.own 0),(1,.i_ p_a),(2,.i_ p_b),(6,.i_ v0),(7,.i_ v1)],[.row 3 1 (((l0.set v1.toNat x0).set ((IntKind.wrap .i64 (v1 - 1)).toNat) x1).map lfI)]⟩) (okc (bM lI_ h1) (okc (bM lI_ h0) (okc ((bf lI_ h0).2) (okc ((bf lI_ h1).2) (okc (bM lI_ h2) (okc (st_ lI_ l0 v1.toNat x0) (okc ((bf lI_ h2).2) (okc (bM lI_ h3) (okc (st_ lI_ (l0.set v1.toNat x0) ((IntKind.wrap .i64 (v1 - 1)).toNat) x1) (okc ((bf lI_ h3).2) (okc (rf_ ⟨[(0,.own 0),(1,.i_ p_a),(2,.i_ p_b),(6,.i_ v0),(7,.i_ v1)],[.row 3 1 (((l0.set v1.toNat x0).set ((IntKind.wrap .i64 (v1 - 1)).toNat) x1).map lfI)]⟩) (okc ((bf lI_ h1).2) (okc ((bf lI_ h0).2) (okc (bM lI_ h2) (okc (st_ lI_ l0 v1.toNat x0) (okc ((bf lI_ h2).2) (okc (bM lI_ h3) (okc (st_ lI_ (l0.set v1.toNat x0) ((IntKind.wrap .i64 (v1 - 1)).toNat) x1) (okc ((bf lI_ h3).2) (okc (rf_ ⟨[(0,.own 0),(1,.i_ p_a),(2,.i_ p_b),(6,.i_ v0),(7,.i_ v1)],[.row 3 1 (((l0.set v1.toNat x0).set ((IntKind.wrap .i64 (v1 - 1)).toNat) x1).map lfI)]⟩) (okc ((bf lI_ h1).2) (okc (bM lI_ h0) (okc ((bf lI_ h0).2) (okc (bM lI_ h2) (okc (st_ lI_ l0 v1.toNat x0) (okc ((bf lI_ h2).2) (okc (bM lI_ h3) (okc (st_ lI_ (l0.set v1.toNat x0) ((IntKind.wrap .i64 (v1 - 1)).toNat) x1) (okc ((bf lI_ h3).2) (ok1 (rf_ ⟨[(0,.own 0),(1,.i_ p_a),(2,.i_ p_b),(6,.i_ v0),(7,.i_ v1)],[.row 3 1 (((l0.set v1.toNat x0).set ((IntKind.wrap .i64 (v1 - 1)).toNat) x1).map lfI)]⟩)))))))))))))))))))))))))))))))))))))))))))))))))))))) <|
 .rt [0,1,2,6,7] 1 (.inl (IntKind.wrap .i64 (v1 - 1),(l0.set v1.toNat x0).set ((IntKind.wrap .i64 (v1 - 1)).toNat) x1))) <|
 .rt [0,1,2,6] 1 (.inr (l0))
def Qc (p_a:Int) (p_b:Int) (v0:Int) (v1:Int) (l0:List Int) : Option (((List Int))) := dF (fun v_=>(Jp p_a p_b v0 v_).den) FU (v1,l0)
def EF (p_a:Int) (p_b:Int) : (Int × (List Int)) → Mo ((Int × (List Int)) ⊕ ((List Int))) := fun (v0,l0) =>
 .iB (decide ((v0:Int) < p_b)) (.lp Tryz.f139 1 [1,0,0,1,0,0,1,0] 0 [0,1,2,6,7] 1 (.exit 2) (fun r_=>⟨[(0,.own 0),(1,.i_ p_a),(2,.i_ p_b),(6,.i_ v0)],[.row 3 1 (r_.map lfI)]⟩) (Qc p_a p_b v0 v0 l0) (lW (fun (v1,l1)=>⟨[(0,.own 0),(1,.i_ p_a),(2,.i_ p_b),(6,.i_ v0),(7,.i_ v1)],[.row 3 1 (l1.map lfI)]⟩) (by kernel_rfl) rfl fun v_=>by kernel_rfl) fun r0 _ =>
 .rt [0,1,2,6] 1 (.inl (IntKind.wrap .i64 (v0 + 1),r0))) <|
 .rt [] 1 (.inr (l0))
def Qd (p_a:Int) (p_b:Int) (v0:Int) (l0:List Int) : Option (((List Int))) := dF (fun v_=>(EF p_a p_b v_).den) FU (v0,l0)
def YS (p_a:Int) (p_b:Int) (p_s0:List Int) : Mo (List Int) :=
 .lp Tryz.f139 1 [1,0] 0 [0,1,2,6] 1 (.exit 0) (fun r_=>⟨[],[.row 3 1 (r_.map lfI)]⟩) (Qd p_a p_b (IntKind.wrap .i64 (p_a + 1)) p_s0) (lW (fun (v0,l0)=>⟨[(0,.own 0),(1,.i_ p_a),(2,.i_ p_b),(6,.i_ v0)],[.row 3 1 (l0.map lfI)]⟩) (by kernel_rfl) rfl fun v_=>by kernel_rfl) fun r0 _ =>
 .rt [] 1 (r0)
def Q4 (p_a:Int) (p_b:Int) (p_s0:List Int) : Option (List Int) := Mo.den (YS p_a p_b p_s0)
theorem YT (p_a:Int) (p_b:Int) (p_s0:List Int) : FH (Q4 p_a p_b p_s0) 139 [.own 0,.i_ p_a,.i_ p_b] [.row 3 1 (p_s0.map lfI)] (fun _=>.tup []) (fun r=>[.row 3 1 (r.map lfI)]) := gy Tryz.func139 (by kernel_rfl) (fun _=>rfl) (by kernel_rfl)
structure Qe where
 m1:(p_a:Int) → (p_b:Int) → (p_limit:Int) → (p_s0:List Int) → Option (List Int)
 ok1:∀ p_a p_b p_limit p_s0,FH (m1 p_a p_b p_limit p_s0) 104 [.own 0,.i_ p_a,.i_ p_b,.i_ p_limit] [.row 3 1 (p_s0.map lfI)] (fun _=>.tup []) (fun r=>[.row 3 1 (r.map lfI)])
def EG (R_:Qe) (p_a:Int) (p_b:Int) (p_limit:Int) (p_s0:List Int) : Unit → Mo (Unit ⊕ ((List Int))) := fun _ =>
 .say [.br true] ok0 <|
 .ite (decide ((IntKind.wrap .i64 (p_b - p_a) : Int) ≤ 12)) (fun c0 =>
 .say [] (ok1 c0) <|
 .cH [0] (YT p_a p_b p_s0) fun r0 _ =>
 .rt [] 1 (.inr (r0))) fun c0 =>
 .stop
def Qg (R_:Qe) (p_a:Int) (p_b:Int) (p_limit:Int) (p_s0:List Int) : Option (((List Int))) := dF (fun v_=>(EG R_ p_a p_b p_limit p_s0 v_).den) FU ()
def Jq (R_:Qe) (p_a:Int) (p_b:Int) (p_limit:Int) (p_s0:List Int) : Mo (List Int) :=
 .lp Tryz.f104 1 [1,1,0] 0 [0,1,2,3,8,9] 1 (.ret) (fun r_=>⟨[],[.row 3 1 (r_.map lfI)]⟩) (Qg R_ p_a p_b p_limit p_s0) (lW (fun _=>⟨[(0,.own 0),(1,.i_ p_a),(2,.i_ p_b),(3,.i_ p_limit),(8,.b_ true),(9,.b_ true)],[.row 3 1 (p_s0.map lfI)]⟩) (by kernel_rfl) rfl fun v_=>by kernel_rfl) fun r0 _ =>
 .rt [] 1 (r0)
theorem Uz (R_:Qe) (p_a:Int) (p_b:Int) (p_limit:Int) (p_s0:List Int) : FH (Mo.den (Jq R_ p_a p_b p_limit p_s0)) 104 [.own 0,.i_ p_a,.i_ p_b,.i_ p_limit] [.row 3 1 (p_s0.map lfI)] (fun _=>.tup []) (fun r=>[.row 3 1 (r.map lfI)]) := gy Tryz.func104 (by kernel_rfl) (fun _=>rfl) (by kernel_rfl)
def uo:Nat → Qe
 | 0=>{ m1 := fun p_a p_b p_limit p_s0=>none,ok1 := fun _ _ _ _ _ h=>(by cases h) }
 | n_ + 1=>{ m1 := fun p_a p_b p_limit p_s0=>Mo.den (Jq (uo n_) p_a p_b p_limit p_s0),ok1 := Uz (uo n_) }
def Q28 (p_a:Int) (p_b:Int) (p_limit:Int) (p_s0:List Int) : Option (List Int) := (uo FU).m1 p_a p_b p_limit p_s0
theorem XP (p_a:Int) (p_b:Int) (p_limit:Int) (p_s0:List Int) : FH (Q28 p_a p_b p_limit p_s0) 104 [.own 0,.i_ p_a,.i_ p_b,.i_ p_limit] [.row 3 1 (p_s0.map lfI)] (fun _=>.tup []) (fun r=>[.row 3 1 (r.map lfI)]) := (uo FU).ok1 p_a p_b p_limit p_s0
def Qh (p_s0:List Int) : Mo (List Int) :=
 .say [.num p_s0.length] (ok1 (ln_ p_s0 lfI)) <|
 .cl (Uy (IntKind.wrap .u64 (p_s0.length:Int))) fun r0 _ =>
 .cH [0] (XP 0 (p_s0.length:Int) r0 p_s0) fun r1 _ =>
 .rt [] 1 (r1)
def UA (p_s0:List Int) : Option (List Int) := Mo.den (Qh p_s0)
theorem UC (p_s0:List Int) : FH (UA p_s0) 76 [.own 0] [.row 3 1 (p_s0.map lfI)] (fun _=>.tup []) (fun r=>[.row 3 1 (r.map lfI)]) := gy Tryz.func76 (by kernel_rfl) (fun _=>rfl) (by kernel_rfl)
def EH (p_m:aj) (r0:Int) : Mo (Bool) :=
 .iG 6003 (p_m.bQ != 2) (.rt [1,2,3,15] 5 (true)) <|
 .rt [1,2,3,15] 5 (r0 == 0)
def EI (p_m:aj) (r0:Int) (r1:Bool) : Mo (Bool) :=
 .ite (r1) (fun c0 =>
 .say [.gd 6007 true] (ok1 c0) <|
 .rt [1,2,3,22] 5 (true)) fun c0 =>
 .say [.gd 6007 false,.num p_m.aS.length] (okc c0 (ok1 (ln_ p_m.aS lfI))) <|
 .rt [1,2,3,22] 5 (decide (((p_m.aS.length:Int) : Int) < r0))
def Ah (p_m:aj) (v0:Int) : Mo (Bool) :=
 .say [.order [(true,0),(true,1),(true,2),(true,3),(true,4),(true,5),(true,6),(true,7),(true,8),(true,9),(true,10),(true,11),(true,12),(true,13),(true,14),(true,15),(true,16),(true,17),(true,18),(true,19)] none []] ok0 <|
 .iG 16004 (decide ((p_m.au:Int) < v0)) (.iG 16008 (decide ((0:Int) < v0)) (.ask (cO p_m.aB (IntKind.wrap .i64 (v0 - 1))) fun x0 h0 =>
 .say [.row (ak.lf1 x0)] (okc (bM ak.aT h0) (ok1 ((bf ak.aT h0).2))) <|
 .rt [1,2,5,59] 6 (x0.aJ != p_m.aJ)) <|
 .rt [1,2,5,59] 6 (false)) <|
 .rt [1,2,5,59] 6 (false)
def uq (p_m:aj) : (Int) → Mo ((Int) ⊕ (Int)) := fun (v0) =>
 .jp Tryz.f38 3 [1,1,1,1,1,1,0,0,0,0,0] 21 [1,2,5] 6 (.normal) (fun r_=>⟨[(1,.ptr 3 0),(2,.ptr 4 0),(5,.i_ v0),(59,.b_ r_)],[.row 54 82 (p_m.aB.map ak.lf),.row 3 1 (p_m.fNext.map lfI),.dead,.box 25 (ag_ (aj.lf1 p_m) [(8,.own 0),(10,.own 1)]),.box 25 (Z25),.dead]⟩) ⟨[(1,.ptr 3 0),(2,.ptr 4 0),(5,.i_ v0)],[.row 54 82 (p_m.aB.map ak.lf),.row 3 1 (p_m.fNext.map lfI),.dead,.box 25 (ag_ (aj.lf1 p_m) [(8,.own 0),(10,.own 1)]),.box 25 (Z25),.dead]⟩ (Ah p_m v0).den (jW (by kernel_rfl)) fun r0 _ =>
 .iB (r0) (.rt [1,2,5] 6 (.inl (IntKind.wrap .i64 (v0 - 1)))) <|
 .rt [1,2,5] 6 (.inr (v0))
def wI (p_m:aj) (v0:Int) : Option (Int) := dF (fun v_=>(uq p_m v_).den) FU (v0)
def Ai (p_m:aj) : (Int) → St := fun (v0)=>⟨[(1,.ptr 3 0),(2,.ptr 4 0),(5,.i_ v0)],[.row 54 82 (p_m.aB.map ak.lf),.row 3 1 (p_m.fNext.map lfI),.dead,.box 25 (ag_ (aj.lf1 p_m) [(8,.own 0),(10,.own 1)]),.box 25 (Z25),.dead]⟩
def oU (p_m:aj) (r_:Int) : St := ⟨[(1,.ptr 3 0),(2,.ptr 4 0),(5,.i_ r_)],[.row 54 82 (p_m.aB.map ak.lf),.row 3 1 (p_m.fNext.map lfI),.dead,.box 25 (ag_ (aj.lf1 p_m) [(8,.own 0),(10,.own 1)]),.box 25 (Z25),.dead]⟩
theorem Ku {p_m:aj} {v0:Int} {r_:Int} (h:wI p_m v0 = some r_) : jq Tryz.f38 3 [1,1,1,1,1,1,0,0] (.exit 0) (oU p_m r_) (Ai p_m (v0)) :=
 jo fJ (body := (Code.sub (bodyC Tryz.f38) [1,1,1,1,1,1,0,0,0])) (by kernel_rfl) (uq p_m) (Ai p_m) (fun _=>.exit 0) (oU p_m) (fun r_=>rfl) (fun v_=>by kernel_rfl) h
def VX (p_m:aj) : Mo (aj) :=
 .cl (O1 p_m.bI) fun r0 _ =>
 .sj Tryz.f38 3 [1,1,0,0] [0,1,2,3,4,5,6] 2 7 [1,2,3] 5 (fun r_=>⟨[(1,.ptr 3 0),(2,.ptr 4 0),(3,.i_ r0),(15,.b_ r_)],[.row 54 82 (p_m.aB.map ak.lf),.row 3 1 (p_m.fNext.map lfI),.row 3 1 (p_m.aS.map lfI),.box 25 (ag_ (aj.lf1 p_m) [(8,.own 0),(10,.own 1),(11,.own 2)]),.box 25 (Z25)]⟩) ⟨[(1,.ptr 3 0),(2,.ptr 4 0),(3,.i_ r0)],[.row 54 82 (p_m.aB.map ak.lf),.row 3 1 (p_m.fNext.map lfI),.row 3 1 (p_m.aS.map lfI),.box 25 (ag_ (aj.lf1 p_m) [(8,.own 0),(10,.own 1),(11,.own 2)]),.box 25 (Z25)]⟩ (EH p_m r0).den (sW (by kernel_rfl)) fun r1 _ =>
 .sj Tryz.f38 3 [1,1,0,0] [7,8,9,10,11,12,13] 2 7 [1,2,3,15] 5 (fun r_=>⟨[(1,.ptr 3 0),(2,.ptr 4 0),(3,.i_ r0),(22,.b_ r_)],[.row 54 82 (p_m.aB.map ak.lf),.row 3 1 (p_m.fNext.map lfI),.row 3 1 (p_m.aS.map lfI),.box 25 (ag_ (aj.lf1 p_m) [(8,.own 0),(10,.own 1),(11,.own 2)]),.box 25 (Z25)]⟩) ⟨[(1,.ptr 3 0),(2,.ptr 4 0),(3,.i_ r0),(15,.b_ r1)],[.row 54 82 (p_m.aB.map ak.lf),.row 3 1 (p_m.fNext.map lfI),.row 3 1 (p_m.aS.map lfI),.box 25 (ag_ (aj.lf1 p_m) [(8,.own 0),(10,.own 1),(11,.own 2)]),.box 25 (Z25)]⟩ (EI p_m r0 r1).den (sW (by kernel_rfl)) fun r2 _ =>
 .ite (r2) (fun c0 =>
 .say [.br true] (ok1 c0) <|
 .ret ⟨[.frz 2,.kill 3,.kill 4,.mvn 0,.mvn 1],[0],[(5,3),(6,4)],5⟩ (p_m)) fun c0 =>
 .say [.br false,.at_ 10 2,.frz 2] (ok1 c0) <|
 .cH [] (TM p_m.aS) fun r3 _ =>
 .ask (UA r3) fun r4 h0 =>
 .say [.iU [5] (.tup []) [.row 3 1 (r4.map lfI)],.order [(true,0),(true,1),(true,2),(true,3),(true,4),(true,5),(true,6),(true,7),(true,8),(true,9),(true,10),(true,11)] none [],.num r4.length] (okc (UC _ _ h0) (ok1 (ln_ r4 lfI))) <|
 .ask (cO r4 (IntKind.wrap .i64 ((r4.length:Int) - r0))) fun x0 h1 =>
 .say [.row (lfI x0),.num p_m.aB.length] (okc (bM lI_ h1) (okc ((bf lI_ h1).2) (ok1 (ln_ p_m.aB ak.lf)))) <|
 .ask (wI p_m (if (p_m.aB.length:Int) < x0 then (p_m.aB.length:Int) else x0)) fun r5 h2 =>
 .say [.part [.kill 5] 0 [1,2,5] 6 (.exit 0) (oU p_m r5).T (oU p_m r5).H] (ok1 (Ku h2)) <|
 .ret ⟨[.kill 3,.kill 4,.mvn 0,.mvn 1],[0],[(6,3),(7,4)],5⟩ (aj.lZ p_m (if p_m.au > r5 then p_m.au else r5))
def Q10 (p_m:aj) : Option (aj) := Mo.den (VX p_m)
theorem Qi (p_m:aj) : FH (Q10 p_m) 38 [tV (.agg ((aj.lf1 p_m).map AV.lf)) [(8,.own 0),(10,.own 1),(11,.own 2)]] [.row 54 82 (p_m.aB.map ak.lf),.row 3 1 (p_m.fNext.map lfI),.row 3 1 (p_m.aS.map lfI)] (fun r=>tV (.agg ((aj.lf1 r).map AV.lf)) [(8,.own 3),(10,.own 4)]) (fun r=>[.dead,.dead,.dead,.row 54 82 (r.aB.map ak.lf),.row 3 1 (r.fNext.map lfI)]) := gy Tryz.func38 (by kernel_rfl) (fun _=>rfl) (by kernel_rfl)
def VY (p_x:ah) (p_b0:aA) : Mo (aA) :=
 .say [.order [(true,0),(true,1),(true,2),(true,3),(true,5),(false,4),(false,6),(false,7),(true,8),(true,9),(false,10)] (some 10) [1,2,3,6,7,8,9,10]] ok0 <|
 .cH [1,2,3] (YO p_b0.aG p_x) fun r0 _ =>
 .cH [6,7,8] (Qi r0) fun r1 _ =>
 .ret ⟨[.kill 5,.mvn 9,.mvn 10,.mvn 4],[],[(11,5),(12,6),(13,7)],8⟩ (aA.mk r1 p_b0.bD p_b0.dP)
def Q92 (p_x:ah) (p_b0:aA) : Option (aA) := Mo.den (VY p_x p_b0)
theorem XQ (p_x:ah) (p_b0:aA) : FH (Q92 p_x p_b0) 46 [.ptr 0 0,.dat (ah.lf1 p_x)] [.box 97 (ag_ (aA.lf1 p_b0) [(8,.own 1),(10,.own 2),(11,.own 3),(12,.own 4)]),.row 54 82 (p_b0.aG.aB.map ak.lf),.row 3 1 (p_b0.aG.fNext.map lfI),.row 3 1 (p_b0.aG.aS.map lfI),.row 63 9 (p_b0.bD.map ah.lf)] (fun _=>.tup []) (fun r=>[.box 97 (ag_ (aA.lf1 r) [(8,.own 5),(10,.own 6),(12,.own 7)]),.dead,.dead,.dead,.dead,.row 54 82 (r.aG.aB.map ak.lf),.row 3 1 (r.aG.fNext.map lfI),.row 63 9 (r.bD.map ah.lf)]) := gy Tryz.func46 (by kernel_rfl) (fun _=>rfl) (by kernel_rfl)
def lq (p_m:aj) (p_x:ah) : Mo (Bool) :=
 .iG 4005 (p_x.fTo != p_m.fID) (.rt [2,3,4,6,20] 4 (true)) <|
 .rt [2,3,4,6,20] 4 (p_x.bP == p_m.fID)
def lu (p_m:aj) (p_x:ah) (r0:Bool) : Mo (Bool) :=
 .iG 4012 (r0) (.rt [2,3,4,6,25] 4 (true)) <|
 .rt [2,3,4,6,25] 4 (decide ((p_x.bP:Int) < 0))
def jZ (p_m:aj) (p_x:ah) (r0:Bool) : Mo (Bool) :=
 .iG 4017 (r0) (.rt [2,3,4,6,32] 4 (true)) <|
 .rt [2,3,4,6,32] 4 (decide ((p_m.bI:Int) ≤ p_x.bP))
def Aj (p_m:aj) (p_x:ah) : Mo (aj × (List ah) × bU) :=
 .sj Tryz.f16 0 [1,0,0] [0,1,2,3,4,5,6,7,8,9,10,11] 1 12 [2,3,4,6] 4 (fun r_=>⟨[(2,.ptr 0 0),(3,.ptr 1 0),(4,.ptr 2 0),(6,.ptr 3 0),(20,.b_ r_)],[.box 25 (.dat (aj.lf1 p_m)),.box 63 (.dat (ah.lf1 p_x)),.box 25 (Z25),.box 67 (.agg [.i_ 0,.i_ 0,.i_ 0,.bJ 82])]⟩) ⟨[(2,.ptr 0 0),(3,.ptr 1 0),(4,.ptr 2 0),(6,.ptr 3 0)],[.box 25 (.dat (aj.lf1 p_m)),.box 63 (.dat (ah.lf1 p_x)),.box 25 (Z25),.box 67 (.agg [.i_ 0,.i_ 0,.i_ 0,.bJ 82])]⟩ (lq p_m p_x).den (sW (by kernel_rfl)) fun r0 _ =>
 .sj Tryz.f16 0 [1,0,0] [12,13,14,15,16] 1 5 [2,3,4,6,20] 4 (fun r_=>⟨[(2,.ptr 0 0),(3,.ptr 1 0),(4,.ptr 2 0),(6,.ptr 3 0),(25,.b_ r_)],[.box 25 (.dat (aj.lf1 p_m)),.box 63 (.dat (ah.lf1 p_x)),.box 25 (Z25),.box 67 (.agg [.i_ 0,.i_ 0,.i_ 0,.bJ 82])]⟩) ⟨[(2,.ptr 0 0),(3,.ptr 1 0),(4,.ptr 2 0),(6,.ptr 3 0),(20,.b_ r0)],[.box 25 (.dat (aj.lf1 p_m)),.box 63 (.dat (ah.lf1 p_x)),.box 25 (Z25),.box 67 (.agg [.i_ 0,.i_ 0,.i_ 0,.bJ 82])]⟩ (lu p_m p_x r0).den (sW (by kernel_rfl)) fun r1 _ =>
 .sj Tryz.f16 0 [1,0,0] [17,18,19,20,21,22,23] 1 7 [2,3,4,6,25] 4 (fun r_=>⟨[(2,.ptr 0 0),(3,.ptr 1 0),(4,.ptr 2 0),(6,.ptr 3 0),(32,.b_ r_)],[.box 25 (.dat (aj.lf1 p_m)),.box 63 (.dat (ah.lf1 p_x)),.box 25 (Z25),.box 67 (.agg [.i_ 0,.i_ 0,.i_ 0,.bJ 82])]⟩) ⟨[(2,.ptr 0 0),(3,.ptr 1 0),(4,.ptr 2 0),(6,.ptr 3 0),(25,.b_ r1)],[.box 25 (.dat (aj.lf1 p_m)),.box 63 (.dat (ah.lf1 p_x)),.box 25 (Z25),.box 67 (.agg [.i_ 0,.i_ 0,.i_ 0,.bJ 82])]⟩ (jZ p_m p_x r1).den (sW (by kernel_rfl)) fun r2 _ =>
 .iB (r2) (.cH [] (mg p_m) fun r3 _ =>
 .ask (Q55) fun r4 h0 =>
 .say [.res (.dat (bU.lf1 r4)),.at_ 0 0,.frz 4,.frz 5,.frz 6] (ok1 (tY  _ h0)) <|
 .ret ⟨[.nil 1 9,.tod 1],[0,1,2],[],0⟩ (r3,[],r4)) <|
 .iB (p_x.bT == 1) (.cH [] (mg p_m) fun r5 _ =>
 .ask (Q55) fun r6 h1 =>
 .say [.res (.dat (bU.lf1 r6)),.at_ 32 3,.vC 7 12 63,.iZ 8 (([] : List ah).map ah.lf)] (okc (tY  _ h1) (ok1 (by simp [ah.aT] : (([] : List ah).map ah.lf) = []))) <|
 .ask (Q98 p_x (aA.mk r5 ([] : List ah) r6)) fun r7 h2 =>
 .say [.iU [7,4,5,6,8] (.tup []) [.box 97 (.dat (aA.lf1 r7)),.dead,.dead,.dead,.dead],.order [(true,0),(true,1),(true,2),(true,3),(true,4),(true,5),(true,6),(true,7),(true,8),(true,9),(true,10),(true,11),(false,12),(true,13),(false,14)] (some 14) [2]] (ok1 (Xu _ _ _ h2)) <|
 .ret (cZ 3) (r7.aG,r7.bD,r7.dP)) <|
 .iB (p_x.bT == 2) (.cH [] (mg p_m) fun r8 _ =>
 .ask (Q55) fun r9 h3 =>
 .say [.res (.dat (bU.lf1 r9)),.at_ 32 3,.vC 7 12 63,.iZ 8 (([] : List ah).map ah.lf)] (okc (tY  _ h3) (ok1 (by simp [ah.aT] : (([] : List ah).map ah.lf) = []))) <|
 .ask (Q95 p_x (aA.mk r8 ([] : List ah) r9)) fun r10 h4 =>
 .say [.iU [7,4,5,6,8] (.tup []) [.box 97 (ag_ (aA.lf1 r10) [(12,.own 5)]),.dead,.dead,.dead,.dead,.row 63 9 (r10.bD.map ah.lf)],.order [(true,0),(true,1),(true,2),(true,3),(true,4),(true,5),(true,6),(true,7),(true,8),(true,9),(true,10),(true,11),(false,12),(true,13),(false,14)] (some 14) [2],.at_ 0 0,.frz 9] (ok1 (Xy _ _ _ h4)) <|
 .ret (cZ 3) (r10.aG,r10.bD,r10.dP)) <|
 .iB (p_x.bT == 3) (.cH [] (mg p_m) fun r11 _ =>
 .ask (Q55) fun r12 h5 =>
 .say [.res (.dat (bU.lf1 r12)),.at_ 32 3,.vC 7 12 63,.iZ 8 (([] : List ah).map ah.lf)] (okc (tY  _ h5) (ok1 (by simp [ah.aT] : (([] : List ah).map ah.lf) = []))) <|
 .ask (Q8 p_x (aA.mk r11 ([] : List ah) r12)) fun r13 h6 =>
 .say [.iU [7,4,5,6,8] (.tup []) [.box 97 (ag_ (aA.lf1 r13) [(8,.own 5),(10,.own 6),(11,.own 7),(12,.own 8)]),.dead,.dead,.dead,.dead,.row 54 82 (r13.aG.aB.map ak.lf),.row 3 1 (r13.aG.fNext.map lfI),.row 3 1 (r13.aG.aS.map lfI),.row 63 9 (r13.bD.map ah.lf)],.order [(true,0),(true,1),(true,2),(true,3),(true,4),(true,5),(true,6),(true,7),(true,8),(true,9),(true,10),(true,11),(false,12),(true,13),(false,14)] (some 14) [2],.at_ 0 0,.frz 9,.frz 10,.frz 11,.frz 12] (ok1 (YN _ _ _ h6)) <|
 .ret (cZ 3) (r13.aG,r13.bD,r13.dP)) <|
 .iB (p_x.bT == 4) (.cH [] (mg p_m) fun r14 _ =>
 .ask (Q55) fun r15 h7 =>
 .say [.res (.dat (bU.lf1 r15)),.at_ 32 3,.vC 7 12 63,.iZ 8 (([] : List ah).map ah.lf)] (okc (tY  _ h7) (ok1 (by simp [ah.aT] : (([] : List ah).map ah.lf) = []))) <|
 .ask (Q92 p_x (aA.mk r14 ([] : List ah) r15)) fun r16 h8 =>
 .say [.iU [7,4,5,6,8] (.tup []) [.box 97 (ag_ (aA.lf1 r16) [(8,.own 5),(10,.own 6),(12,.own 7)]),.dead,.dead,.dead,.dead,.row 54 82 (r16.aG.aB.map ak.lf),.row 3 1 (r16.aG.fNext.map lfI),.row 63 9 (r16.bD.map ah.lf)],.order [(true,0),(true,1),(true,2),(true,3),(true,4),(true,5),(true,6),(true,7),(true,8),(true,9),(true,10),(true,11),(false,12),(true,13),(false,14)] (some 14) [2],.at_ 0 0,.frz 9,.frz 10,.frz 11] (ok1 (XQ _ _ _ h8)) <|
 .ret (cZ 3) (r16.aG,r16.bD,r16.dP)) <|
 .cH [] (mg p_m) fun r17 _ =>
 .ask (Q55) fun r18 h9 =>
 .say [.res (.dat (bU.lf1 r18)),.at_ 0 0,.frz 4,.frz 5,.frz 6] (ok1 (tY  _ h9)) <|
 .ret ⟨[.nil 1 9,.tod 1],[0,1,2],[],0⟩ (r17,[],r18)
def Q11 (p_m:aj) (p_x:ah) : Option (aj × (List ah) × bU) := Mo.den (Aj p_m p_x)
theorem uw (p_m:aj) (p_x:ah) : FV (Q11 p_m p_x) 16 [.dat (aj.lf1 p_m),.dat (ah.lf1 p_x)] (fun r=>.tup [.dat (aj.lf1 r.1),.lf (.rows 9 (r.2.1.map ah.lf)),.dat (bU.lf1 r.2.2)]) := eG Tryz.func16 (by kernel_rfl) (fun _=>rfl) (by kernel_rfl)
def XR (p_kind:Int) : Mo (aH) :=
 .iB (p_kind == 2) (.ret (cZ 1) (aH.Zo (aH.Yx (aH.xI aH.z true) true) true)) <|
 .iB (p_kind == 3) (.ret (cZ 1) (aH.Yx (aH.xI aH.z true) true)) <|
 .iB (p_kind == 4) (.ret (cZ 1) (aH.Zp aH.z true)) <|
 .iB (p_kind == 5) (.ret (cZ 1) (aH.xI aH.z true)) <|
 .iB (p_kind == 6) (.ret (cZ 1) (aH.WW (aH.xI aH.z true) true)) <|
 .iB (p_kind == 7) (.ret (cZ 1) (aH.GV (aH.xI aH.z true) true)) <|
 .iB (p_kind == 8) (.ret (cZ 1) (aH.I7 aH.z true)) <|
 .iB (p_kind == 9) (.ret (cZ 1) (aH.I7 (aH.Tz aH.z true) true)) <|
 .iB (p_kind == 10) (.ret (cZ 1) (aH.NT (aH.Tz aH.z true) true)) <|
 .iB (p_kind == 11) (.ret (cZ 1) (aH.Tz aH.z true)) <|
 .iB (p_kind == 12) (.ret (cZ 1) (aH.TA (aH.NT (aH.Tz aH.z true) true) true)) <|
 .ret (cZ 1) (aH.z)
def ZC (p_kind:Int) : Option (aH) := Mo.den (XR p_kind)
theorem Jr (p_kind:Int) : FV (ZC p_kind) 93 [.i_ p_kind] (fun r=>.dat (aH.lf1 r)) := eG Tryz.func93 (by kernel_rfl) (fun _=>rfl) (by kernel_rfl)
def Qj (p_v:aF) : Mo (Bool) :=
 .iG 4003 (p_v.bT == 0) (.rt [1,2,10] 1 (p_v.J7 == 0)) <|
 .rt [1,2,10] 1 (false)
def Qk (p_v:aF) (r0:Bool) : Mo (Bool) :=
 .iG 4008 (r0) (.rt [1,2,15] 1 (decide ((p_v.fText:ByteArray) = (⟨#[]⟩ : ByteArray)))) <|
 .rt [1,2,15] 1 (false)
def Kv (p_v:aF) (r0:Bool) : Mo (Bool) :=
 .ite (r0) (fun c0 =>
 .say [.gd 4013 true,.num p_v.nX.length] (okc c0 (ok1 (ln_ p_v.nX aF.lf))) <|
 .rt [1,2,21] 1 ((p_v.nX.length:Int) == 0)) fun c0 =>
 .say [.gd 4013 false] (ok1 c0) <|
 .rt [1,2,21] 1 (false)
def Kw (p_v:aF) (r0:Bool) : Mo (Bool) :=
 .ite (r0) (fun c0 =>
 .say [.gd 4019 true,.num p_v.jh.length] (okc c0 (ok1 (ln_ p_v.jh aX.lf))) <|
 .ret ⟨[.kill 0],[2,27],[],1⟩ ((p_v.jh.length:Int) == 0)) fun c0 =>
 .say [.gd 4019 false] (ok1 c0) <|
 .ret ⟨[.kill 0],[2,27],[],1⟩ (false)
def Ky (r0:Bool) : Mo (Unit) :=
 .rt [2] 1 ()
def YU (p_v:aF) : Mo (Bool) :=
 .sj Tryz.f129 0 [1,0] [0,1,2,3,4,5,6,7] 1 8 [1,2] 1 (fun r_=>⟨[(1,.ptr 0 0),(2,.b_ false),(10,.b_ r_)],[.box 29 (.dat (aF.lf1 p_v))]⟩) ⟨[(1,.ptr 0 0),(2,.b_ false)],[.box 29 (.dat (aF.lf1 p_v))]⟩ (Qj p_v).den (sW (by kernel_rfl)) fun r0 _ =>
 .sj Tryz.f129 0 [1,0] [8,9,10,11,12] 1 5 [1,2,10] 1 (fun r_=>⟨[(1,.ptr 0 0),(2,.b_ false),(15,.b_ r_)],[.box 29 (.dat (aF.lf1 p_v))]⟩) ⟨[(1,.ptr 0 0),(2,.b_ false),(10,.b_ r0)],[.box 29 (.dat (aF.lf1 p_v))]⟩ (Qk p_v r0).den (sW (by kernel_rfl)) fun r1 _ =>
 .sj Tryz.f129 0 [1,0] [13,14,15,16,17,18] 1 6 [1,2,15] 1 (fun r_=>⟨[(1,.ptr 0 0),(2,.b_ false),(21,.b_ r_)],[.box 29 (.dat (aF.lf1 p_v))]⟩) ⟨[(1,.ptr 0 0),(2,.b_ false),(15,.b_ r1)],[.box 29 (.dat (aF.lf1 p_v))]⟩ (Kv p_v r1).den (sW (by kernel_rfl)) fun r2 _ =>
 .sj Tryz.f129 0 [1,0] [19,20,21,22,23,24] 1 6 [1,2,21] 1 (fun r_=>⟨[(2,.b_ false),(27,.b_ r_)],[.dead]⟩) ⟨[(1,.ptr 0 0),(2,.b_ false),(21,.b_ r2)],[.box 29 (.dat (aF.lf1 p_v))]⟩ (Kw p_v r2).den (sW (by kernel_rfl)) fun r3 _ =>
 .sj Tryz.f129 0 [1,0] [25] 1 1 [2,27] 1 (fun r_=>⟨[(2,.b_ r3)],[.dead]⟩) ⟨[(2,.b_ false),(27,.b_ r3)],[.dead]⟩ (Ky r3).den (sW (by kernel_rfl)) fun r4 _ =>
 .ret (cZ 1) (r3)
def Q30 (p_v:aF) : Option (Bool) := Mo.den (YU p_v)
theorem qw (p_v:aF) : FV (Q30 p_v) 129 [.dat (aF.lf1 p_v)] (fun r=>.b_ r) := eG Tryz.func129 (by kernel_rfl) (fun _=>rfl) (by kernel_rfl)
def Ql (p_s:aC) : Mo (Bool) :=
 .iG 4003 (p_s.ql == 0) (.rt [1,2,10] 1 (!p_s.lS)) <|
 .rt [1,2,10] 1 (false)
def Qm (p_s:aC) (r0:Bool) : Mo (Bool) :=
 .iG 4008 (r0) (.cl (qw p_s.zD) fun r1 _ =>
 .rt [1,2,15] 1 (r1)) <|
 .rt [1,2,15] 1 (false)
def Kz (p_s:aC) (r0:Bool) : Mo (Bool) :=
 .iG 4013 (r0) (.rt [1,2,20] 1 (!p_s.lT)) <|
 .rt [1,2,20] 1 (false)
def KA (p_s:aC) (r0:Bool) : Mo (Bool) :=
 .iG 4018 (r0) (.cl (qw p_s.zF) fun r1 _ =>
 .rt [1,2,25] 1 (r1)) <|
 .rt [1,2,25] 1 (false)
def KC (p_s:aC) (r0:Bool) : Mo (Bool) :=
 .ite (r0) (fun c0 =>
 .say [.gd 4023 true,.num p_s.mO.length] (okc c0 (ok1 (ln_ p_s.mO aF.lf))) <|
 .rt [1,2,31] 1 ((p_s.mO.length:Int) == 0)) fun c0 =>
 .say [.gd 4023 false] (ok1 c0) <|
 .rt [1,2,31] 1 (false)
def KD (p_s:aC) (r0:Bool) : Mo (Bool) :=
 .iG 4029 (r0) (.rt [1,2,36] 1 (p_s.lU == 0)) <|
 .rt [1,2,36] 1 (false)
def KE (p_s:aC) (r0:Bool) : Mo (Bool) :=
 .iG 4034 (r0) (.rt [1,2,41] 1 (p_s.lV == 0)) <|
 .rt [1,2,41] 1 (false)
def KF (p_s:aC) (r0:Bool) : Mo (Bool) :=
 .ite (r0) (fun c0 =>
 .say [.gd 4039 true,.num p_s.gI.length] (okc c0 (ok1 (ln_ p_s.gI lfS))) <|
 .rt [1,2,47] 1 ((p_s.gI.length:Int) == 0)) fun c0 =>
 .say [.gd 4039 false] (ok1 c0) <|
 .rt [1,2,47] 1 (false)
def KG (p_s:aC) (r0:Bool) : Mo (Bool) :=
 .ite (r0) (fun c0 =>
 .say [.gd 4045 true,.num p_s.jS.length] (okc c0 (ok1 (ln_ p_s.jS bF.lf))) <|
 .rt [1,2,53] 1 ((p_s.jS.length:Int) == 0)) fun c0 =>
 .say [.gd 4045 false] (ok1 c0) <|
 .rt [1,2,53] 1 (false)
def KH (p_s:aC) (r0:Bool) : Mo (Bool) :=
 .iG 4051 (r0) (.rt [1,2,58] 1 (!p_s.lX)) <|
 .rt [1,2,58] 1 (false)
def KI (p_s:aC) (r0:Bool) : Mo (Bool) :=
 .ite (r0) (fun c0 =>
 .say [.gd 4056 true,.num p_s.jT.length] (okc c0 (ok1 (ln_ p_s.jT aC.lf))) <|
 .rt [1,2,64] 1 ((p_s.jT.length:Int) == 0)) fun c0 =>
 .say [.gd 4056 false] (ok1 c0) <|
 .rt [1,2,64] 1 (false)
def KJ (p_s:aC) (r0:Bool) : Mo (Bool) :=
 .iG 4062 (r0) (.ret ⟨[.kill 0],[2,69],[],1⟩ (!p_s.iV)) <|
 .ret ⟨[.kill 0],[2,69],[],1⟩ (false)
def KL (r0:Bool) : Mo (Unit) :=
 .rt [2] 1 ()
def YV (p_s:aC) : Mo (Bool) :=
 .sj Tryz.f218 0 [1,0] [0,1,2,3,4,5,6,7] 1 8 [1,2] 1 (fun r_=>⟨[(1,.ptr 0 0),(2,.b_ false),(10,.b_ r_)],[.box 35 (.dat (aC.lf1 p_s))]⟩) ⟨[(1,.ptr 0 0),(2,.b_ false)],[.box 35 (.dat (aC.lf1 p_s))]⟩ (Ql p_s).den (sW (by kernel_rfl)) fun r0 _ =>
 .sj Tryz.f218 0 [1,0] [8,9,10,11,12] 1 5 [1,2,10] 1 (fun r_=>⟨[(1,.ptr 0 0),(2,.b_ false),(15,.b_ r_)],[.box 35 (.dat (aC.lf1 p_s))]⟩) ⟨[(1,.ptr 0 0),(2,.b_ false),(10,.b_ r0)],[.box 35 (.dat (aC.lf1 p_s))]⟩ (Qm p_s r0).den (sW (by kernel_rfl)) fun r1 _ =>
 .sj Tryz.f218 0 [1,0] [13,14,15,16,17] 1 5 [1,2,15] 1 (fun r_=>⟨[(1,.ptr 0 0),(2,.b_ false),(20,.b_ r_)],[.box 35 (.dat (aC.lf1 p_s))]⟩) ⟨[(1,.ptr 0 0),(2,.b_ false),(15,.b_ r1)],[.box 35 (.dat (aC.lf1 p_s))]⟩ (Kz p_s r1).den (sW (by kernel_rfl)) fun r2 _ =>
 .sj Tryz.f218 0 [1,0] [18,19,20,21,22] 1 5 [1,2,20] 1 (fun r_=>⟨[(1,.ptr 0 0),(2,.b_ false),(25,.b_ r_)],[.box 35 (.dat (aC.lf1 p_s))]⟩) ⟨[(1,.ptr 0 0),(2,.b_ false),(20,.b_ r2)],[.box 35 (.dat (aC.lf1 p_s))]⟩ (KA p_s r2).den (sW (by kernel_rfl)) fun r3 _ =>
 .sj Tryz.f218 0 [1,0] [23,24,25,26,27,28] 1 6 [1,2,25] 1 (fun r_=>⟨[(1,.ptr 0 0),(2,.b_ false),(31,.b_ r_)],[.box 35 (.dat (aC.lf1 p_s))]⟩) ⟨[(1,.ptr 0 0),(2,.b_ false),(25,.b_ r3)],[.box 35 (.dat (aC.lf1 p_s))]⟩ (KC p_s r3).den (sW (by kernel_rfl)) fun r4 _ =>
 .sj Tryz.f218 0 [1,0] [29,30,31,32,33] 1 5 [1,2,31] 1 (fun r_=>⟨[(1,.ptr 0 0),(2,.b_ false),(36,.b_ r_)],[.box 35 (.dat (aC.lf1 p_s))]⟩) ⟨[(1,.ptr 0 0),(2,.b_ false),(31,.b_ r4)],[.box 35 (.dat (aC.lf1 p_s))]⟩ (KD p_s r4).den (sW (by kernel_rfl)) fun r5 _ =>
 .sj Tryz.f218 0 [1,0] [34,35,36,37,38] 1 5 [1,2,36] 1 (fun r_=>⟨[(1,.ptr 0 0),(2,.b_ false),(41,.b_ r_)],[.box 35 (.dat (aC.lf1 p_s))]⟩) ⟨[(1,.ptr 0 0),(2,.b_ false),(36,.b_ r5)],[.box 35 (.dat (aC.lf1 p_s))]⟩ (KE p_s r5).den (sW (by kernel_rfl)) fun r6 _ =>
 .sj Tryz.f218 0 [1,0] [39,40,41,42,43,44] 1 6 [1,2,41] 1 (fun r_=>⟨[(1,.ptr 0 0),(2,.b_ false),(47,.b_ r_)],[.box 35 (.dat (aC.lf1 p_s))]⟩) ⟨[(1,.ptr 0 0),(2,.b_ false),(41,.b_ r6)],[.box 35 (.dat (aC.lf1 p_s))]⟩ (KF p_s r6).den (sW (by kernel_rfl)) fun r7 _ =>
 .sj Tryz.f218 0 [1,0] [45,46,47,48,49,50] 1 6 [1,2,47] 1 (fun r_=>⟨[(1,.ptr 0 0),(2,.b_ false),(53,.b_ r_)],[.box 35 (.dat (aC.lf1 p_s))]⟩) ⟨[(1,.ptr 0 0),(2,.b_ false),(47,.b_ r7)],[.box 35 (.dat (aC.lf1 p_s))]⟩ (KG p_s r7).den (sW (by kernel_rfl)) fun r8 _ =>
 .sj Tryz.f218 0 [1,0] [51,52,53,54,55] 1 5 [1,2,53] 1 (fun r_=>⟨[(1,.ptr 0 0),(2,.b_ false),(58,.b_ r_)],[.box 35 (.dat (aC.lf1 p_s))]⟩) ⟨[(1,.ptr 0 0),(2,.b_ false),(53,.b_ r8)],[.box 35 (.dat (aC.lf1 p_s))]⟩ (KH p_s r8).den (sW (by kernel_rfl)) fun r9 _ =>
 .sj Tryz.f218 0 [1,0] [56,57,58,59,60,61] 1 6 [1,2,58] 1 (fun r_=>⟨[(1,.ptr 0 0),(2,.b_ false),(64,.b_ r_)],[.box 35 (.dat (aC.lf1 p_s))]⟩) ⟨[(1,.ptr 0 0),(2,.b_ false),(58,.b_ r9)],[.box 35 (.dat (aC.lf1 p_s))]⟩ (KI p_s r9).den (sW (by kernel_rfl)) fun r10 _ =>
 .sj Tryz.f218 0 [1,0] [62,63,64,65,66] 1 5 [1,2,64] 1 (fun r_=>⟨[(2,.b_ false),(69,.b_ r_)],[.dead]⟩) ⟨[(1,.ptr 0 0),(2,.b_ false),(64,.b_ r10)],[.box 35 (.dat (aC.lf1 p_s))]⟩ (KJ p_s r10).den (sW (by kernel_rfl)) fun r11 _ =>
 .sj Tryz.f218 0 [1,0] [67] 1 1 [2,69] 1 (fun r_=>⟨[(2,.b_ r11)],[.dead]⟩) ⟨[(2,.b_ false),(69,.b_ r11)],[.dead]⟩ (KL r11).den (sW (by kernel_rfl)) fun r12 _ =>
 .ret (cZ 1) (r11)
def Q15 (p_s:aC) : Option (Bool) := Mo.den (YV p_s)
theorem XT (p_s:aC) : FV (Q15 p_s) 218 [.dat (aC.lf1 p_s)] (fun r=>.b_ r) := eG Tryz.func218 (by kernel_rfl) (fun _=>rfl) (by kernel_rfl)
def Qn (p_d:bZ) : Mo (Bool) :=
 .ite (decide ((p_d.fName:ByteArray) = (⟨#[]⟩ : ByteArray))) (fun c0 =>
 .say [.gd 4003 true,.num p_d.jv.length] (okc c0 (ok1 (ln_ p_d.jv aV.lf))) <|
 .rt [1,2,11] 1 ((p_d.jv.length:Int) == 0)) fun c0 =>
 .say [.gd 4003 false] (ok1 c0) <|
 .rt [1,2,11] 1 (false)
def Qo (p_d:bZ) (r0:Bool) : Mo (Bool) :=
 .iG 4009 (r0) (.cl (XT p_d.gV) fun r1 _ =>
 .rt [1,2,16] 1 (r1)) <|
 .rt [1,2,16] 1 (false)
def KN (p_d:bZ) (r0:Bool) : Mo (Bool) :=
 .iG 4014 (r0) (.rt [1,2,21] 1 (p_d.BJ == 0)) <|
 .rt [1,2,21] 1 (false)
def KO (p_d:bZ) (r0:Bool) : Mo (Bool) :=
 .iG 4019 (r0) (.ret ⟨[.kill 0],[2,26],[],1⟩ (p_d.vY == 0)) <|
 .ret ⟨[.kill 0],[2,26],[],1⟩ (false)
def KP (r0:Bool) : Mo (Unit) :=
 .rt [2] 1 ()
def YW (p_d:bZ) : Mo (Bool) :=
 .sj Tryz.f171 0 [1,0] [0,1,2,3,4,5,6,7,8] 1 9 [1,2] 1 (fun r_=>⟨[(1,.ptr 0 0),(2,.b_ false),(11,.b_ r_)],[.box 37 (.dat (bZ.lf1 p_d))]⟩) ⟨[(1,.ptr 0 0),(2,.b_ false)],[.box 37 (.dat (bZ.lf1 p_d))]⟩ (Qn p_d).den (sW (by kernel_rfl)) fun r0 _ =>
 .sj Tryz.f171 0 [1,0] [9,10,11,12,13] 1 5 [1,2,11] 1 (fun r_=>⟨[(1,.ptr 0 0),(2,.b_ false),(16,.b_ r_)],[.box 37 (.dat (bZ.lf1 p_d))]⟩) ⟨[(1,.ptr 0 0),(2,.b_ false),(11,.b_ r0)],[.box 37 (.dat (bZ.lf1 p_d))]⟩ (Qo p_d r0).den (sW (by kernel_rfl)) fun r1 _ =>
 .sj Tryz.f171 0 [1,0] [14,15,16,17,18] 1 5 [1,2,16] 1 (fun r_=>⟨[(1,.ptr 0 0),(2,.b_ false),(21,.b_ r_)],[.box 37 (.dat (bZ.lf1 p_d))]⟩) ⟨[(1,.ptr 0 0),(2,.b_ false),(16,.b_ r1)],[.box 37 (.dat (bZ.lf1 p_d))]⟩ (KN p_d r1).den (sW (by kernel_rfl)) fun r2 _ =>
 .sj Tryz.f171 0 [1,0] [19,20,21,22,23] 1 5 [1,2,21] 1 (fun r_=>⟨[(2,.b_ false),(26,.b_ r_)],[.dead]⟩) ⟨[(1,.ptr 0 0),(2,.b_ false),(21,.b_ r2)],[.box 37 (.dat (bZ.lf1 p_d))]⟩ (KO p_d r2).den (sW (by kernel_rfl)) fun r3 _ =>
 .sj Tryz.f171 0 [1,0] [24] 1 1 [2,26] 1 (fun r_=>⟨[(2,.b_ r3)],[.dead]⟩) ⟨[(2,.b_ false),(26,.b_ r3)],[.dead]⟩ (KP r3).den (sW (by kernel_rfl)) fun r4 _ =>
 .ret (cZ 1) (r3)
def Q56 (p_d:bZ) : Option (Bool) := Mo.den (YW p_d)
theorem XU (p_d:bZ) : FV (Q56 p_d) 171 [.dat (bZ.lf1 p_d)] (fun r=>.b_ r) := eG Tryz.func171 (by kernel_rfl) (fun _=>rfl) (by kernel_rfl)
def Qp (p_e:aW) : Mo (Bool) :=
 .ite (p_e.fOp == 0) (fun c0 =>
 .say [.gd 4003 true,.num p_e.eU.length] (okc c0 (ok1 (ln_ p_e.eU lfS))) <|
 .rt [1,2,11] 1 ((p_e.eU.length:Int) == 0)) fun c0 =>
 .say [.gd 4003 false] (ok1 c0) <|
 .rt [1,2,11] 1 (false)
def Qq (p_e:aW) (r0:Bool) : Mo (Bool) :=
 .iG 4009 (r0) (.rt [1,2,16] 1 (decide ((p_e.fName:ByteArray) = (⟨#[]⟩ : ByteArray)))) <|
 .rt [1,2,16] 1 (false)
def KQ (p_e:aW) (r0:Bool) : Mo (Bool) :=
 .ite (r0) (fun c0 =>
 .say [.gd 4014 true,.num p_e.iQ.length] (okc c0 (ok1 (ln_ p_e.iQ lfS))) <|
 .rt [1,2,22] 1 ((p_e.iQ.length:Int) == 0)) fun c0 =>
 .say [.gd 4014 false] (ok1 c0) <|
 .rt [1,2,22] 1 (false)
def KR (p_e:aW) (r0:Bool) : Mo (Bool) :=
 .iG 4020 (r0) (.cl (qw p_e.fArg) fun r1 _ =>
 .rt [1,2,27] 1 (r1)) <|
 .rt [1,2,27] 1 (false)
def KT (p_e:aW) (r0:Bool) : Mo (Bool) :=
 .iG 4025 (r0) (.rt [1,2,32] 1 (p_e.fN == 0)) <|
 .rt [1,2,32] 1 (false)
def KU (p_e:aW) (r0:Bool) : Mo (Bool) :=
 .ite (r0) (fun c0 =>
 .say [.gd 4030 true,.num p_e.fV.length] (okc c0 (ok1 (ln_ p_e.fV aW.lf))) <|
 .ret ⟨[.kill 0],[2,38],[],1⟩ ((p_e.fV.length:Int) == 0)) fun c0 =>
 .say [.gd 4030 false] (ok1 c0) <|
 .ret ⟨[.kill 0],[2,38],[],1⟩ (false)
def KW (r0:Bool) : Mo (Unit) :=
 .rt [2] 1 ()
def YX (p_e:aW) : Mo (Bool) :=
 .sj Tryz.f263 0 [1,0] [0,1,2,3,4,5,6,7,8] 1 9 [1,2] 1 (fun r_=>⟨[(1,.ptr 0 0),(2,.b_ false),(11,.b_ r_)],[.box 44 (.dat (aW.lf1 p_e))]⟩) ⟨[(1,.ptr 0 0),(2,.b_ false)],[.box 44 (.dat (aW.lf1 p_e))]⟩ (Qp p_e).den (sW (by kernel_rfl)) fun r0 _ =>
 .sj Tryz.f263 0 [1,0] [9,10,11,12,13] 1 5 [1,2,11] 1 (fun r_=>⟨[(1,.ptr 0 0),(2,.b_ false),(16,.b_ r_)],[.box 44 (.dat (aW.lf1 p_e))]⟩) ⟨[(1,.ptr 0 0),(2,.b_ false),(11,.b_ r0)],[.box 44 (.dat (aW.lf1 p_e))]⟩ (Qq p_e r0).den (sW (by kernel_rfl)) fun r1 _ =>
 .sj Tryz.f263 0 [1,0] [14,15,16,17,18,19] 1 6 [1,2,16] 1 (fun r_=>⟨[(1,.ptr 0 0),(2,.b_ false),(22,.b_ r_)],[.box 44 (.dat (aW.lf1 p_e))]⟩) ⟨[(1,.ptr 0 0),(2,.b_ false),(16,.b_ r1)],[.box 44 (.dat (aW.lf1 p_e))]⟩ (KQ p_e r1).den (sW (by kernel_rfl)) fun r2 _ =>
 .sj Tryz.f263 0 [1,0] [20,21,22,23,24] 1 5 [1,2,22] 1 (fun r_=>⟨[(1,.ptr 0 0),(2,.b_ false),(27,.b_ r_)],[.box 44 (.dat (aW.lf1 p_e))]⟩) ⟨[(1,.ptr 0 0),(2,.b_ false),(22,.b_ r2)],[.box 44 (.dat (aW.lf1 p_e))]⟩ (KR p_e r2).den (sW (by kernel_rfl)) fun r3 _ =>
 .sj Tryz.f263 0 [1,0] [25,26,27,28,29] 1 5 [1,2,27] 1 (fun r_=>⟨[(1,.ptr 0 0),(2,.b_ false),(32,.b_ r_)],[.box 44 (.dat (aW.lf1 p_e))]⟩) ⟨[(1,.ptr 0 0),(2,.b_ false),(27,.b_ r3)],[.box 44 (.dat (aW.lf1 p_e))]⟩ (KT p_e r3).den (sW (by kernel_rfl)) fun r4 _ =>
 .sj Tryz.f263 0 [1,0] [30,31,32,33,34,35] 1 6 [1,2,32] 1 (fun r_=>⟨[(2,.b_ false),(38,.b_ r_)],[.dead]⟩) ⟨[(1,.ptr 0 0),(2,.b_ false),(32,.b_ r4)],[.box 44 (.dat (aW.lf1 p_e))]⟩ (KU p_e r4).den (sW (by kernel_rfl)) fun r5 _ =>
 .sj Tryz.f263 0 [1,0] [36] 1 1 [2,38] 1 (fun r_=>⟨[(2,.b_ r5)],[.dead]⟩) ⟨[(2,.b_ false),(38,.b_ r5)],[.dead]⟩ (KW r5).den (sW (by kernel_rfl)) fun r6 _ =>
 .ret (cZ 1) (r5)
def Q39 (p_e:aW) : Option (Bool) := Mo.den (YX p_e)
theorem XV (p_e:aW) : FV (Q39 p_e) 263 [.dat (aW.lf1 p_e)] (fun r=>.b_ r) := eG Tryz.func263 (by kernel_rfl) (fun _=>rfl) (by kernel_rfl)
def Qr (p_p:aU) : Mo (Bool) :=
 .ite (p_p.fOp == 0) (fun c0 =>
 .say [.gd 4003 true,.num p_p.eU.length] (okc c0 (ok1 (ln_ p_p.eU lfS))) <|
 .rt [1,2,11] 1 ((p_p.eU.length:Int) == 0)) fun c0 =>
 .say [.gd 4003 false] (ok1 c0) <|
 .rt [1,2,11] 1 (false)
def Qs (p_p:aU) (r0:Bool) : Mo (Bool) :=
 .iG 4009 (r0) (.cl (qw p_p.fArg) fun r1 _ =>
 .rt [1,2,16] 1 (r1)) <|
 .rt [1,2,16] 1 (false)
def KX (p_p:aU) (r0:Bool) : Mo (Bool) :=
 .ite (r0) (fun c0 =>
 .say [.gd 4014 true,.num p_p.fArgs.length] (okc c0 (ok1 (ln_ p_p.fArgs aF.lf))) <|
 .rt [1,2,22] 1 ((p_p.fArgs.length:Int) == 0)) fun c0 =>
 .say [.gd 4014 false] (ok1 c0) <|
 .rt [1,2,22] 1 (false)
def KY (p_p:aU) (r0:Bool) : Mo (Bool) :=
 .iG 4020 (r0) (.rt [1,2,27] 1 (p_p.fN == 0)) <|
 .rt [1,2,27] 1 (false)
def KZ (p_p:aU) (r0:Bool) : Mo (Bool) :=
 .iG 4025 (r0) (.rt [1,2,32] 1 (p_p.fM == 0)) <|
 .rt [1,2,32] 1 (false)
def La (p_p:aU) (r0:Bool) : Mo (Bool) :=
 .iG 4030 (r0) (.rt [1,2,38] 1 (p_p.fC.bT == 0)) <|
 .rt [1,2,38] 1 (false)
def Lc (p_p:aU) (r0:Bool) : Mo (Bool) :=
 .ite (r0) (fun c0 =>
 .say [.gd 4036 true,.num p_p.fC.iC.length] (okc c0 (ok1 (ln_ p_p.fC.iC dM.lf))) <|
 .rt [1,2,45] 1 ((p_p.fC.iC.length:Int) == 0)) fun c0 =>
 .say [.gd 4036 false] (ok1 c0) <|
 .rt [1,2,45] 1 (false)
def Ld (p_p:aU) (r0:Bool) : Mo (Bool) :=
 .iG 4043 (r0) (.rt [1,2,51] 1 (p_p.fC.fR == 0)) <|
 .rt [1,2,51] 1 (false)
def Lh (p_p:aU) (r0:Bool) : Mo (Bool) :=
 .iG 4049 (r0) (.cl (XV p_p.fExpr) fun r1 _ =>
 .rt [1,2,56] 1 (r1)) <|
 .rt [1,2,56] 1 (false)
def Lj (p_p:aU) (r0:Bool) : Mo (Bool) :=
 .ite (r0) (fun c0 =>
 .say [.gd 4054 true,.num p_p.fV.length] (okc c0 (ok1 (ln_ p_p.fV aU.lf))) <|
 .ret ⟨[.kill 0],[2,62],[],1⟩ ((p_p.fV.length:Int) == 0)) fun c0 =>
 .say [.gd 4054 false] (ok1 c0) <|
 .ret ⟨[.kill 0],[2,62],[],1⟩ (false)
def Ll (r0:Bool) : Mo (Unit) :=
 .rt [2] 1 ()
def YZ (p_p:aU) : Mo (Bool) :=
 .sj Tryz.f219 0 [1,0] [0,1,2,3,4,5,6,7,8] 1 9 [1,2] 1 (fun r_=>⟨[(1,.ptr 0 0),(2,.b_ false),(11,.b_ r_)],[.box 47 (.dat (aU.lf1 p_p))]⟩) ⟨[(1,.ptr 0 0),(2,.b_ false)],[.box 47 (.dat (aU.lf1 p_p))]⟩ (Qr p_p).den (sW (by kernel_rfl)) fun r0 _ =>
 .sj Tryz.f219 0 [1,0] [9,10,11,12,13] 1 5 [1,2,11] 1 (fun r_=>⟨[(1,.ptr 0 0),(2,.b_ false),(16,.b_ r_)],[.box 47 (.dat (aU.lf1 p_p))]⟩) ⟨[(1,.ptr 0 0),(2,.b_ false),(11,.b_ r0)],[.box 47 (.dat (aU.lf1 p_p))]⟩ (Qs p_p r0).den (sW (by kernel_rfl)) fun r1 _ =>
 .sj Tryz.f219 0 [1,0] [14,15,16,17,18,19] 1 6 [1,2,16] 1 (fun r_=>⟨[(1,.ptr 0 0),(2,.b_ false),(22,.b_ r_)],[.box 47 (.dat (aU.lf1 p_p))]⟩) ⟨[(1,.ptr 0 0),(2,.b_ false),(16,.b_ r1)],[.box 47 (.dat (aU.lf1 p_p))]⟩ (KX p_p r1).den (sW (by kernel_rfl)) fun r2 _ =>
 .sj Tryz.f219 0 [1,0] [20,21,22,23,24] 1 5 [1,2,22] 1 (fun r_=>⟨[(1,.ptr 0 0),(2,.b_ false),(27,.b_ r_)],[.box 47 (.dat (aU.lf1 p_p))]⟩) ⟨[(1,.ptr 0 0),(2,.b_ false),(22,.b_ r2)],[.box 47 (.dat (aU.lf1 p_p))]⟩ (KY p_p r2).den (sW (by kernel_rfl)) fun r3 _ =>
 .sj Tryz.f219 0 [1,0] [25,26,27,28,29] 1 5 [1,2,27] 1 (fun r_=>⟨[(1,.ptr 0 0),(2,.b_ false),(32,.b_ r_)],[.box 47 (.dat (aU.lf1 p_p))]⟩) ⟨[(1,.ptr 0 0),(2,.b_ false),(27,.b_ r3)],[.box 47 (.dat (aU.lf1 p_p))]⟩ (KZ p_p r3).den (sW (by kernel_rfl)) fun r4 _ =>
 .sj Tryz.f219 0 [1,0] [30,31,32,33,34,35] 1 6 [1,2,32] 1 (fun r_=>⟨[(1,.ptr 0 0),(2,.b_ false),(38,.b_ r_)],[.box 47 (.dat (aU.lf1 p_p))]⟩) ⟨[(1,.ptr 0 0),(2,.b_ false),(32,.b_ r4)],[.box 47 (.dat (aU.lf1 p_p))]⟩ (La p_p r4).den (sW (by kernel_rfl)) fun r5 _ =>
 .sj Tryz.f219 0 [1,0] [36,37,38,39,40,41,42] 1 7 [1,2,38] 1 (fun r_=>⟨[(1,.ptr 0 0),(2,.b_ false),(45,.b_ r_)],[.box 47 (.dat (aU.lf1 p_p))]⟩) ⟨[(1,.ptr 0 0),(2,.b_ false),(38,.b_ r5)],[.box 47 (.dat (aU.lf1 p_p))]⟩ (Lc p_p r5).den (sW (by kernel_rfl)) fun r6 _ =>
 .sj Tryz.f219 0 [1,0] [43,44,45,46,47,48] 1 6 [1,2,45] 1 (fun r_=>⟨[(1,.ptr 0 0),(2,.b_ false),(51,.b_ r_)],[.box 47 (.dat (aU.lf1 p_p))]⟩) ⟨[(1,.ptr 0 0),(2,.b_ false),(45,.b_ r6)],[.box 47 (.dat (aU.lf1 p_p))]⟩ (Ld p_p r6).den (sW (by kernel_rfl)) fun r7 _ =>
 .sj Tryz.f219 0 [1,0] [49,50,51,52,53] 1 5 [1,2,51] 1 (fun r_=>⟨[(1,.ptr 0 0),(2,.b_ false),(56,.b_ r_)],[.box 47 (.dat (aU.lf1 p_p))]⟩) ⟨[(1,.ptr 0 0),(2,.b_ false),(51,.b_ r7)],[.box 47 (.dat (aU.lf1 p_p))]⟩ (Lh p_p r7).den (sW (by kernel_rfl)) fun r8 _ =>
 .sj Tryz.f219 0 [1,0] [54,55,56,57,58,59] 1 6 [1,2,56] 1 (fun r_=>⟨[(2,.b_ false),(62,.b_ r_)],[.dead]⟩) ⟨[(1,.ptr 0 0),(2,.b_ false),(56,.b_ r8)],[.box 47 (.dat (aU.lf1 p_p))]⟩ (Lj p_p r8).den (sW (by kernel_rfl)) fun r9 _ =>
 .sj Tryz.f219 0 [1,0] [60] 1 1 [2,62] 1 (fun r_=>⟨[(2,.b_ r9)],[.dead]⟩) ⟨[(2,.b_ false),(62,.b_ r9)],[.dead]⟩ (Ll r9).den (sW (by kernel_rfl)) fun r10 _ =>
 .ret (cZ 1) (r9)
def Q22 (p_p:aU) : Option (Bool) := Mo.den (YZ p_p)
theorem XW (p_p:aU) : FV (Q22 p_p) 219 [.dat (aU.lf1 p_p)] (fun r=>.b_ r) := eG Tryz.func219 (by kernel_rfl) (fun _=>rfl) (by kernel_rfl)
end
end Go.Proofs.YtdnafbfmaphhhaaGreatDoor
