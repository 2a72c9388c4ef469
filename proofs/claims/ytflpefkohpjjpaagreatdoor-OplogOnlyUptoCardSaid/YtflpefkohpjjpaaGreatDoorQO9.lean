/- Printed by dec.py. -/
import Derived.Test.YtflpefkohpjjpaaGreatDoorQO8
import Derived.Test.YtflpefkohpjjpaaGreatDoorQO5
import Derived.Test.YtflpefkohpjjpaaGreatDoorQOName
import Derived.Test.YtflpefkohpjjpaaGreatDoorQO4
import Derived.Test.YtflpefkohpjjpaaGreatDoorQO6
import Derived.Test.YtflpefkohpjjpaaGreatDoorQO7
import Derived.Test.YtflpefkohpjjpaaGreatDoorQONumP
set_option linter.unusedSimpArgs false
set_option linter.unusedVariables false
namespace Go.Proofs.YtflpefkohpjjpaaGreatDoor
open Go.RowKit
set_option maxRecDepth 20000
set_option maxHeartbeats 4000000
noncomputable section
def ao9 (p_s:ByteArray) (p_b0:ay) : Mo (ay) :=
 .cH [0] (fZ (p_s.size:Int) p_b0) fun r0 _ =>
 .grd (r0.fS.size + p_s.size ≤ 9223372036854775807) fun h0 =>
 .say [] (ok1 h0) <|
 .rt [] 1 (ay.mk (r0.fS ++ p_s) r0.I9 r0.Ed)
def Q92 (p_s:ByteArray) (p_b0:ay) : Option (ay) := Mo.den (ao9 p_s p_b0)
theorem tV (p_s:ByteArray) (p_b0:ay) : FH (Q92 p_s p_b0) 84 [.ptr 0 0,.lf (.str p_s)] [.box 80 (.dat (ay.lf1 p_b0))] (fun _=>.tup []) (fun r=>[.box 80 (.dat (ay.lf1 r))]) := dW Tryz.func84 (by kernel_rfl) (fun _=>rfl) (by kernel_rfl)
structure ap6 where
 m1:(p_v:aj) → (p_most:Int) → Option (Int)
 ok1:∀ p_v p_most,FV (m1 p_v p_most) 259 [.dat (aj.lf1 p_v),.i_ p_most] (fun r=>.i_ r)
structure ap7 where
 m1:(p_v:aj) → (p_most:Int) → Option (Int)
 ok1:∀ p_v p_most,FV (m1 p_v p_most) 260 [.dat (aj.lf1 p_v),.i_ p_most] (fun r=>.i_ r)
structure ap8 where
 m1:(p_v:aj) → (p_names:Bool) → Option (Bool)
 ok1:∀ p_v p_names,FV (m1 p_v p_names) 191 [.dat (aj.lf1 p_v),.b_ p_names] (fun r=>.b_ r)
 m2:(p_v:aj) → (p_names:Bool) → Option (Bool)
 ok2:∀ p_v p_names,FV (m2 p_v p_names) 262 [.dat (aj.lf1 p_v),.b_ p_names] (fun r=>.b_ r)
structure ap9 where
 m1:(p_v:aj) → Option (ByteArray)
 ok1:∀ p_v,FV (m1 p_v) 280 [.dat (aj.lf1 p_v)] (fun r=>.lf (.str r))
structure OY where
 m1:(p_v:aj) → (p_b0:ay) → Option (ay)
 ok1:∀ p_v p_b0,FH (m1 p_v p_b0) 140 [.ptr 0 0,.dat (aj.lf1 p_v)] [.box 80 (.dat (ay.lf1 p_b0))] (fun _=>.tup []) (fun r=>[.box 80 (.dat (ay.lf1 r))])
 m2:(p_l:List aj) → (p_b0:ay) → Option (ay)
 ok2:∀ p_l p_b0,FH (m2 p_l p_b0) 217 [.ptr 0 0,.lf (.rows 5 (p_l.map aj.lf))] [.box 80 (.dat (ay.lf1 p_b0))] (fun _=>.tup []) (fun r=>[.box 80 (.dat (ay.lf1 r))])
def agt (R_:OY) (p_v:aj) : (Int × ay) → Mo ((Int × ay) ⊕ (ay)) := fun (v0,s8009) =>
 .say [.num p_v.aX.length] (ok1 (ln_ p_v.aX aB.lf)) <|
 .iB (decide ((v0:Int) < (p_v.aX.length:Int))) (.ask (fO p_v.aX v0) fun x0 h0 =>
 .say [.row (aB.lf1 x0)] (ok1 (bY aB.bD h0)) <|
 .cH [0] (tV x0.fName s8009) fun r0 _ =>
 .ask (fO p_v.aX v0) fun x1 h1 =>
 .say [.row (aB.lf1 x1)] (ok1 (bY aB.bD h1)) <|
 .cH [0] (R_.ok1 x1.fValue r0) fun r1 _ =>
 .rt [0,3,4] 2 (.inl (IntKind.wrap .i64 (v0 + 1),r1))) <|
 .ret ⟨[.kill 1],[],[],2⟩ (.inr (s8009))
def ano (R_:OY) (p_v:aj) (v0:Int) (s8009:ay) : Option (ay) := bT (fun v_=>(agt R_ p_v v_).den) FU (v0,s8009)
def aln (R_:OY) (p_v:aj) (p_b0:ay) : Mo (ay) :=
 .ite (p_b0.Ed) (fun c0 =>
 .say [.br true] (ok1 c0) <|
 .cH [0] (fZ p_v.aF p_b0) fun r0 _ =>
 .cH [0] (fZ p_v.eU r0) fun r1 _ =>
 .cH [0] (tV p_v.fText r1) fun r2 _ =>
 .ask (R_.m2 p_v.aU r2) fun r3 h0 =>
 .say [.iD [0] (.tup []) [.box 80 (.dat (ay.lf1 r3))],.num p_v.aX.length] (okc (R_.ok2 _ _ _ h0) (ok1 (ln_ p_v.aX aB.lf))) <|
 .cH [0] (fZ (p_v.aX.length:Int) r3) fun r4 _ =>
 .lp Tryz.f140 1 [1,0,1,0,1,1,1,1,1,0,1,0] 0 [0,3,4] 2 (.exit 0) (fun r_=>⟨[],[.box 80 (.dat (ay.lf1 r_)),.dead]⟩) (ano R_ p_v 0 r4) (lW (fun (v0,s8009)=>⟨[(0,.ptr 0 0),(3,.ptr 1 0),(4,.i_ v0)],[.box 80 (.dat (ay.lf1 s8009)),.box 25 (.dat (aj.lf1 p_v))]⟩) (by kernel_rfl) rfl fun v_=>by kernel_rfl) fun r5 _ =>
 .rt [] 1 (r5)) fun _ =>
 .stop
theorem ajP (R_:OY) (p_v:aj) (p_b0:ay) : FH (Mo.den (aln R_ p_v p_b0)) 140 [.ptr 0 0,.dat (aj.lf1 p_v)] [.box 80 (.dat (ay.lf1 p_b0))] (fun _=>.tup []) (fun r=>[.box 80 (.dat (ay.lf1 r))]) := dW Tryz.func140 (by kernel_rfl) (fun _=>rfl) (by kernel_rfl)
def agu (R_:OY) (p_l:List aj) : (Int × ay) → Mo ((Int × ay) ⊕ (ay)) := fun (v0,s9581) =>
 .say [.num p_l.length] (ok1 (ln_ p_l aj.lf)) <|
 .ite (decide ((v0:Int) < (p_l.length:Int))) (fun _ =>
 .stop) fun c0 =>
 .say [.br false] (ok1 c0) <|
 .rt [] 1 (.inr (s9581))
def anp (R_:OY) (p_l:List aj) (v0:Int) (s9581:ay) : Option (ay) := bT (fun v_=>(agu R_ p_l v_).den) FU (v0,s9581)
def alo (R_:OY) (p_l:List aj) (p_b0:ay) : Mo (ay) :=
 .say [.num p_l.length] (ok1 (ln_ p_l aj.lf)) <|
 .cH [0] (fZ (p_l.length:Int) p_b0) fun r0 _ =>
 .lp Tryz.f217 1 [1,1,0] 0 [0,1,4] 1 (.exit 0) (fun r_=>⟨[],[.box 80 (.dat (ay.lf1 r_))]⟩) (anp R_ p_l 0 r0) (lW (fun (v0,s9581)=>⟨[(0,.ptr 0 0),(1,.lf (.rows 5 (p_l.map aj.lf))),(4,.i_ v0)],[.box 80 (.dat (ay.lf1 s9581))]⟩) (by kernel_rfl) rfl fun v_=>by kernel_rfl) fun r1 _ =>
 .rt [] 1 (r1)
theorem ajQ (R_:OY) (p_l:List aj) (p_b0:ay) : FH (Mo.den (alo R_ p_l p_b0)) 217 [.ptr 0 0,.lf (.rows 5 (p_l.map aj.lf))] [.box 80 (.dat (ay.lf1 p_b0))] (fun _=>.tup []) (fun r=>[.box 80 (.dat (ay.lf1 r))]) := dW Tryz.func217 (by kernel_rfl) (fun _=>rfl) (by kernel_rfl)
def tX:Nat → OY
 | 0=>{ m1 := fun p_v p_b0=>none,ok1 := fun _ _ _ h=>(by cases h),m2 := fun p_l p_b0=>none,ok2 := fun _ _ _ h=>(by cases h) }
 | n_ + 1=>{ m1 := fun p_v p_b0=>Mo.den (aln (tX n_) p_v p_b0),ok1 := fun p_v p_b0 r h=>ajP (tX n_) p_v p_b0 r h,m2 := fun p_l p_b0=>Mo.den (alo (tX n_) p_l p_b0),ok2 := ajQ (tX n_) }
def Q62 (p_v:aj) (p_b0:ay) : Option (ay) := (tX FU).m1 p_v p_b0
theorem yj (p_v:aj) (p_b0:ay) : FH (Q62 p_v p_b0) 140 [.ptr 0 0,.dat (aj.lf1 p_v)] [.box 80 (.dat (ay.lf1 p_b0))] (fun _=>.tup []) (fun r=>[.box 80 (.dat (ay.lf1 r))]) := (tX FU).ok1 p_v p_b0
def Q84 (p_l:List aj) (p_b0:ay) : Option (ay) := (tX FU).m2 p_l p_b0
theorem agv (p_l:List aj) (p_b0:ay) : FH (Q84 p_l p_b0) 217 [.ptr 0 0,.lf (.rows 5 (p_l.map aj.lf))] [.box 80 (.dat (ay.lf1 p_b0))] (fun _=>.tup []) (fun r=>[.box 80 (.dat (ay.lf1 r))]) := (tX FU).ok2 p_l p_b0
def agw (p_l:List ByteArray) : (Int × ay) → Mo ((Int × ay) ⊕ (ay)) := fun (v0,s9649) =>
 .say [.num p_l.length] (ok1 (ln_ p_l lfS)) <|
 .ite (decide ((v0:Int) < (p_l.length:Int))) (fun _ =>
 .stop) fun c0 =>
 .say [.br false] (ok1 c0) <|
 .rt [] 1 (.inr (s9649))
def anq (p_l:List ByteArray) (v0:Int) (s9649:ay) : Option (ay) := bT (fun v_=>(agw p_l v_).den) FU (v0,s9649)
def apa (p_l:List ByteArray) (p_b0:ay) : Mo (ay) :=
 .say [.num p_l.length] (ok1 (ln_ p_l lfS)) <|
 .cH [0] (fZ (p_l.length:Int) p_b0) fun r0 _ =>
 .lp Tryz.f220 1 [1,1,0] 0 [0,1,4] 1 (.exit 0) (fun r_=>⟨[],[.box 80 (.dat (ay.lf1 r_))]⟩) (anq p_l 0 r0) (lW (fun (v0,s9649)=>⟨[(0,.ptr 0 0),(1,.lf (.rows 1 (p_l.map lfS))),(4,.i_ v0)],[.box 80 (.dat (ay.lf1 s9649))]⟩) (by kernel_rfl) rfl fun v_=>by kernel_rfl) fun r1 _ =>
 .rt [] 1 (r1)
def Q90 (p_l:List ByteArray) (p_b0:ay) : Option (ay) := Mo.den (apa p_l p_b0)
theorem OZ (p_l:List ByteArray) (p_b0:ay) : FH (Q90 p_l p_b0) 220 [.ptr 0 0,.lf (.rows 1 (p_l.map lfS))] [.box 80 (.dat (ay.lf1 p_b0))] (fun _=>.tup []) (fun r=>[.box 80 (.dat (ay.lf1 r))]) := dW Tryz.func220 (by kernel_rfl) (fun _=>rfl) (by kernel_rfl)
def apb (p_b:Bool) (p_b0:ay) : Mo (ay) :=
 .ite (p_b) (fun _ =>
 .stop) fun c0 =>
 .say [.br false] (ok1 c0) <|
 .grd (p_b0.fS.size + (⟨#[0]⟩ : ByteArray).size ≤ 9223372036854775807) fun h0 =>
 .say [] (ok1 h0) <|
 .rt [] 1 (ay.mk (p_b0.fS ++ ⟨#[0]⟩) p_b0.I9 p_b0.Ed)
def Q91 (p_b:Bool) (p_b0:ay) : Option (ay) := Mo.den (apb p_b p_b0)
theorem tY (p_b:Bool) (p_b0:ay) : FH (Q91 p_b p_b0) 143 [.ptr 0 0,.b_ p_b] [.box 80 (.dat (ay.lf1 p_b0))] (fun _=>.tup []) (fun r=>[.box 80 (.dat (ay.lf1 r))]) := dW Tryz.func143 (by kernel_rfl) (fun _=>rfl) (by kernel_rfl)
def abU (p_s:fA) : (Int × ay) → Mo ((Int × ay) ⊕ (ay)) := fun (v0,s9814) =>
 .say [.num p_s.dB.length] (ok1 (ln_ p_s.dB bG.lf)) <|
 .ite (decide ((v0:Int) < (p_s.dB.length:Int))) (fun _ =>
 .stop) fun c0 =>
 .say [.br false] (ok1 c0) <|
 .rt [0,3] 2 (.inr (s9814))
def ajR (p_s:fA) (v0:Int) (s9814:ay) : Option (ay) := bT (fun v_=>(abU p_s v_).den) FU (v0,s9814)
def anr (p_s:fA) (p_b0:ay) : Mo (ay) :=
 .ask (Q22 p_s.aF p_b0) fun r0 h0 =>
 .say [.iD [0] (.tup []) [.box 80 (.dat (ay.lf1 r0))],.num p_s.dB.length] (okc (fZ _ _ _ h0) (ok1 (ln_ p_s.dB bG.lf))) <|
 .cH [0] (fZ (p_s.dB.length:Int) r0) fun r1 _ =>
 .lp Tryz.f281 1 [1,1,1,0,1,0] 0 [0,3,4] 2 (.exit 0) (fun r_=>⟨[(0,.ptr 0 0),(3,.ptr 1 0)],[.box 80 (.dat (ay.lf1 r_)),.box 37 (.dat (fA.lf1 p_s))]⟩) (ajR p_s 0 r1) (lW (fun (v0,s9814)=>⟨[(0,.ptr 0 0),(3,.ptr 1 0),(4,.i_ v0)],[.box 80 (.dat (ay.lf1 s9814)),.box 37 (.dat (fA.lf1 p_s))]⟩) (by kernel_rfl) rfl fun v_=>by kernel_rfl) fun r2 _ =>
 .cH [0] (fZ p_s.fR r2) fun r3 _ =>
 .ret ⟨[.kill 1],[],[],1⟩ (r3)
def apO (p_s:fA) (p_b0:ay) : Option (ay) := Mo.den (anr p_s p_b0)
theorem ajS (p_s:fA) (p_b0:ay) : FH (apO p_s p_b0) 281 [.ptr 0 0,.dat (fA.lf1 p_s)] [.box 80 (.dat (ay.lf1 p_b0))] (fun _=>.tup []) (fun r=>[.box 80 (.dat (ay.lf1 r))]) := dW Tryz.func281 (by kernel_rfl) (fun _=>rfl) (by kernel_rfl)
structure agx where
 m1:(p_e:aG) → (p_b0:ay) → Option (ay)
 ok1:∀ p_e p_b0,FH (m1 p_e p_b0) 282 [.ptr 0 0,.dat (aG.lf1 p_e)] [.box 80 (.dat (ay.lf1 p_b0))] (fun _=>.tup []) (fun r=>[.box 80 (.dat (ay.lf1 r))])
def agy (R_:agx) (p_e:aG) : (Int × ay) → Mo ((Int × ay) ⊕ (ay)) := fun (v0,s9876) =>
 .say [.num p_e.bW.length] (ok1 (ln_ p_e.bW aG.lf)) <|
 .ite (decide ((v0:Int) < (p_e.bW.length:Int))) (fun _ =>
 .stop) fun c0 =>
 .say [.br false] (ok1 c0) <|
 .ret ⟨[.kill 1],[],[],2⟩ (.inr (s9876))
def ant (R_:agx) (p_e:aG) (v0:Int) (s9876:ay) : Option (ay) := bT (fun v_=>(agy R_ p_e v_).den) FU (v0,s9876)
def alp (R_:agx) (p_e:aG) (p_b0:ay) : Mo (ay) :=
 .cH [0] (fZ p_e.fOp p_b0) fun r0 _ =>
 .cH [0] (OZ p_e.dh r0) fun r1 _ =>
 .cH [0] (tV p_e.fName r1) fun r2 _ =>
 .cH [0] (OZ p_e.fB r2) fun r3 _ =>
 .cH [0] (yj p_e.fArg r3) fun r4 _ =>
 .ask (Q22 p_e.fN r4) fun r5 h0 =>
 .say [.iD [0] (.tup []) [.box 80 (.dat (ay.lf1 r5))],.num p_e.bW.length] (okc (fZ _ _ _ h0) (ok1 (ln_ p_e.bW aG.lf))) <|
 .cH [0] (fZ (p_e.bW.length:Int) r5) fun r6 _ =>
 .lp Tryz.f282 1 [1,1,1,1,1,1,1,1,1,0] 0 [0,3,4] 2 (.exit 0) (fun r_=>⟨[],[.box 80 (.dat (ay.lf1 r_)),.dead]⟩) (ant R_ p_e 0 r6) (lW (fun (v0,s9876)=>⟨[(0,.ptr 0 0),(3,.ptr 1 0),(4,.i_ v0)],[.box 80 (.dat (ay.lf1 s9876)),.box 40 (.dat (aG.lf1 p_e))]⟩) (by kernel_rfl) rfl fun v_=>by kernel_rfl) fun r7 _ =>
 .rt [] 1 (r7)
theorem ajT (R_:agx) (p_e:aG) (p_b0:ay) : FH (Mo.den (alp R_ p_e p_b0)) 282 [.ptr 0 0,.dat (aG.lf1 p_e)] [.box 80 (.dat (ay.lf1 p_b0))] (fun _=>.tup []) (fun r=>[.box 80 (.dat (ay.lf1 r))]) := dW Tryz.func282 (by kernel_rfl) (fun _=>rfl) (by kernel_rfl)
def O1:Nat → agx
 | 0=>{ m1 := fun p_e p_b0=>none,ok1 := fun _ _ _ h=>(by cases h) }
 | n_ + 1=>{ m1 := fun p_e p_b0=>Mo.den (alp (O1 n_) p_e p_b0),ok1 := ajT (O1 n_) }
def Q89 (p_e:aG) (p_b0:ay) : Option (ay) := (O1 FU).m1 p_e p_b0
theorem anu (p_e:aG) (p_b0:ay) : FH (Q89 p_e p_b0) 282 [.ptr 0 0,.dat (aG.lf1 p_e)] [.box 80 (.dat (ay.lf1 p_b0))] (fun _=>.tup []) (fun r=>[.box 80 (.dat (ay.lf1 r))]) := (O1 FU).ok1 p_e p_b0
structure agz where
 m1:(p_p:aC) → (p_b0:ay) → Option (ay)
 ok1:∀ p_p p_b0,FH (m1 p_p p_b0) 221 [.ptr 0 0,.dat (aC.lf1 p_p)] [.box 80 (.dat (ay.lf1 p_b0))] (fun _=>.tup []) (fun r=>[.box 80 (.dat (ay.lf1 r))])
def agA (R_:agz) (p_p:aC) : (Int × ay) → Mo ((Int × ay) ⊕ (ay)) := fun (v0,s9909) =>
 .say [.num p_p.bW.length] (ok1 (ln_ p_p.bW aC.lf)) <|
 .ite (decide ((v0:Int) < (p_p.bW.length:Int))) (fun _ =>
 .stop) fun c0 =>
 .say [.br false] (ok1 c0) <|
 .ret ⟨[.kill 1],[],[],2⟩ (.inr (s9909))
def anv (R_:agz) (p_p:aC) (v0:Int) (s9909:ay) : Option (ay) := bT (fun v_=>(agA R_ p_p v_).den) FU (v0,s9909)
def alq (R_:agz) (p_p:aC) (p_b0:ay) : Mo (ay) :=
 .cH [0] (fZ p_p.fOp p_b0) fun r0 _ =>
 .cH [0] (OZ p_p.dh r0) fun r1 _ =>
 .cH [0] (yj p_p.fArg r1) fun r2 _ =>
 .cH [0] (agv p_p.fArgs r2) fun r3 _ =>
 .cH [0] (fZ p_p.fN r3) fun r4 _ =>
 .cH [0] (fZ p_p.fM r4) fun r5 _ =>
 .cH [0] (ajS p_p.dH r5) fun r6 _ =>
 .ask (Q89 p_p.fExpr r6) fun r7 h0 =>
 .say [.iD [0] (.tup []) [.box 80 (.dat (ay.lf1 r7))],.num p_p.bW.length] (okc (anu _ _ _ h0) (ok1 (ln_ p_p.bW aC.lf))) <|
 .cH [0] (fZ (p_p.bW.length:Int) r7) fun r8 _ =>
 .lp Tryz.f221 1 [1,1,1,1,1,1,1,1,1,1,1,0] 0 [0,3,4] 2 (.exit 0) (fun r_=>⟨[],[.box 80 (.dat (ay.lf1 r_)),.dead]⟩) (anv R_ p_p 0 r8) (lW (fun (v0,s9909)=>⟨[(0,.ptr 0 0),(3,.ptr 1 0),(4,.i_ v0)],[.box 80 (.dat (ay.lf1 s9909)),.box 43 (.dat (aC.lf1 p_p))]⟩) (by kernel_rfl) rfl fun v_=>by kernel_rfl) fun r9 _ =>
 .rt [] 1 (r9)
theorem ajU (R_:agz) (p_p:aC) (p_b0:ay) : FH (Mo.den (alq R_ p_p p_b0)) 221 [.ptr 0 0,.dat (aC.lf1 p_p)] [.box 80 (.dat (ay.lf1 p_b0))] (fun _=>.tup []) (fun r=>[.box 80 (.dat (ay.lf1 r))]) := dW Tryz.func221 (by kernel_rfl) (fun _=>rfl) (by kernel_rfl)
def O4:Nat → agz
 | 0=>{ m1 := fun p_p p_b0=>none,ok1 := fun _ _ _ h=>(by cases h) }
 | n_ + 1=>{ m1 := fun p_p p_b0=>Mo.den (alq (O4 n_) p_p p_b0),ok1 := ajU (O4 n_) }
def Q94 (p_p:aC) (p_b0:ay) : Option (ay) := (O4 FU).m1 p_p p_b0
theorem anw (p_p:aC) (p_b0:ay) : FH (Q94 p_p p_b0) 221 [.ptr 0 0,.dat (aC.lf1 p_p)] [.box 80 (.dat (ay.lf1 p_b0))] (fun _=>.tup []) (fun r=>[.box 80 (.dat (ay.lf1 r))]) := (O4 FU).ok1 p_p p_b0
def abV (p_x:aK) : (Int × ay) → Mo ((Int × ay) ⊕ (ay)) := fun (v0,s9707) =>
 .say [.num p_x.gG.length] (ok1 (ln_ p_x.gG aV.lf)) <|
 .ite (decide ((v0:Int) < (p_x.gG.length:Int))) (fun _ =>
 .stop) fun c0 =>
 .say [.br false] (ok1 c0) <|
 .rt [0,3] 2 (.inr (s9707))
def ajV (p_x:aK) (v0:Int) (s9707:ay) : Option (ay) := bT (fun v_=>(abV p_x v_).den) FU (v0,s9707)
def anx (p_x:aK) (p_b0:ay) : Mo (ay) :=
 .cH [0] (tV p_x.fName p_b0) fun r0 _ =>
 .ask (Q22 p_x.aF r0) fun r1 h0 =>
 .say [.iD [0] (.tup []) [.box 80 (.dat (ay.lf1 r1))],.num p_x.gG.length] (okc (fZ _ _ _ h0) (ok1 (ln_ p_x.gG aV.lf))) <|
 .cH [0] (fZ (p_x.gG.length:Int) r1) fun r2 _ =>
 .lp Tryz.f142 1 [1,1,1,1,0,1,0] 0 [0,3,4] 2 (.exit 0) (fun r_=>⟨[(0,.ptr 0 0),(3,.ptr 1 0)],[.box 80 (.dat (ay.lf1 r_)),.box 45 (.dat (aK.lf1 p_x))]⟩) (ajV p_x 0 r2) (lW (fun (v0,s9707)=>⟨[(0,.ptr 0 0),(3,.ptr 1 0),(4,.i_ v0)],[.box 80 (.dat (ay.lf1 s9707)),.box 45 (.dat (aK.lf1 p_x))]⟩) (by kernel_rfl) rfl fun v_=>by kernel_rfl) fun r3 _ =>
 .cH [0] (tY p_x.eP r3) fun r4 _ =>
 .cH [0] (tY p_x.jm r4) fun r5 _ =>
 .cH [0] (tY p_x.iq r5) fun r6 _ =>
 .cH [0] (anw p_x.bn r6) fun r7 _ =>
 .ret ⟨[.kill 1],[],[],1⟩ (r7)
def apP (p_x:aK) (p_b0:ay) : Option (ay) := Mo.den (anx p_x p_b0)
theorem ajW (p_x:aK) (p_b0:ay) : FH (apP p_x p_b0) 142 [.ptr 0 0,.dat (aK.lf1 p_x)] [.box 80 (.dat (ay.lf1 p_b0))] (fun _=>.tup []) (fun r=>[.box 80 (.dat (ay.lf1 r))]) := dW Tryz.func142 (by kernel_rfl) (fun _=>rfl) (by kernel_rfl)
structure Xa where
 m1:(p_s:aA) → (p_b0:ay) → Option (ay)
 ok1:∀ p_s p_b0,FH (m1 p_s p_b0) 219 [.ptr 0 0,.dat (aA.lf1 p_s)] [.box 80 (.dat (ay.lf1 p_b0))] (fun _=>.tup []) (fun r=>[.box 80 (.dat (ay.lf1 r))])
def agB (R_:Xa) (p_s:aA) : (Int × ay) → Mo ((Int × ay) ⊕ (ay)) := fun (v0,s10046) =>
 .say [.num p_s.dX.length] (ok1 (ln_ p_s.dX bC.lf)) <|
 .ite (decide ((v0:Int) < (p_s.dX.length:Int))) (fun _ =>
 .stop) fun c0 =>
 .say [.br false] (ok1 c0) <|
 .rt [0,3] 2 (.inr (s10046))
def anz (R_:Xa) (p_s:aA) (v0:Int) (s10046:ay) : Option (ay) := bT (fun v_=>(agB R_ p_s v_).den) FU (v0,s10046)
def agC (R_:Xa) (p_s:aA) : (Int × ay) → Mo ((Int × ay) ⊕ (ay)) := fun (v0,s10097) =>
 .say [.num p_s.fC.length] (ok1 (ln_ p_s.fC aA.lf)) <|
 .ite (decide ((v0:Int) < (p_s.fC.length:Int))) (fun _ =>
 .stop) fun c0 =>
 .say [.br false] (ok1 c0) <|
 .rt [0,3] 2 (.inr (s10097))
def anA (R_:Xa) (p_s:aA) (v0:Int) (s10097:ay) : Option (ay) := bT (fun v_=>(agC R_ p_s v_).den) FU (v0,s10097)
def alr (R_:Xa) (p_s:aA) (p_b0:ay) : Mo (ay) :=
 .cH [0] (fZ p_s.jw p_b0) fun r0 _ =>
 .cH [0] (tY p_s.iR r0) fun r1 _ =>
 .cH [0] (yj p_s.jO r1) fun r2 _ =>
 .cH [0] (tY p_s.iT r2) fun r3 _ =>
 .cH [0] (yj p_s.jP r3) fun r4 _ =>
 .cH [0] (agv p_s.jl r4) fun r5 _ =>
 .cH [0] (fZ p_s.iU r5) fun r6 _ =>
 .cH [0] (fZ p_s.iV r6) fun r7 _ =>
 .ask (Q90 p_s.dN r7) fun r8 h0 =>
 .say [.iD [0] (.tup []) [.box 80 (.dat (ay.lf1 r8))],.num p_s.dX.length] (okc (OZ _ _ _ h0) (ok1 (ln_ p_s.dX bC.lf))) <|
 .cH [0] (fZ (p_s.dX.length:Int) r8) fun r9 _ =>
 .lp Tryz.f219 1 [1,1,1,1,1,1,1,1,1,1,1,0,1,0] 0 [0,3,4] 2 (.exit 0) (fun r_=>⟨[(0,.ptr 0 0),(3,.ptr 1 0)],[.box 80 (.dat (ay.lf1 r_)),.box 31 (.dat (aA.lf1 p_s))]⟩) (anz R_ p_s 0 r9) (lW (fun (v0,s10046)=>⟨[(0,.ptr 0 0),(3,.ptr 1 0),(4,.i_ v0)],[.box 80 (.dat (ay.lf1 s10046)),.box 31 (.dat (aA.lf1 p_s))]⟩) (by kernel_rfl) rfl fun v_=>by kernel_rfl) fun r10 _ =>
 .ask (Q91 p_s.jo r10) fun r11 h1 =>
 .say [.iD [0] (.tup []) [.box 80 (.dat (ay.lf1 r11))],.num p_s.fC.length] (okc (tY _ _ _ h1) (ok1 (ln_ p_s.fC aA.lf))) <|
 .cH [0] (fZ (p_s.fC.length:Int) r11) fun r12 _ =>
 .lp Tryz.f219 1 [1,1,1,1,1,1,1,1,1,1,1,1,1,1,0,1,0] 0 [0,3,5] 2 (.exit 2) (fun r_=>⟨[(0,.ptr 0 0),(3,.ptr 1 0)],[.box 80 (.dat (ay.lf1 r_)),.box 31 (.dat (aA.lf1 p_s))]⟩) (anA R_ p_s 0 r12) (lW (fun (v1,s10097)=>⟨[(0,.ptr 0 0),(3,.ptr 1 0),(5,.i_ v1)],[.box 80 (.dat (ay.lf1 s10097)),.box 31 (.dat (aA.lf1 p_s))]⟩) (by kernel_rfl) rfl fun v_=>by kernel_rfl) fun r13 _ =>
 .cH [0] (tY p_s.eP r13) fun r14 _ =>
 .ret ⟨[.kill 1],[],[],1⟩ (r14)
theorem ajX (R_:Xa) (p_s:aA) (p_b0:ay) : FH (Mo.den (alr R_ p_s p_b0)) 219 [.ptr 0 0,.dat (aA.lf1 p_s)] [.box 80 (.dat (ay.lf1 p_b0))] (fun _=>.tup []) (fun r=>[.box 80 (.dat (ay.lf1 r))]) := dW Tryz.func219 (by kernel_rfl) (fun _=>rfl) (by kernel_rfl)
def O5:Nat → Xa
 | 0=>{ m1 := fun p_s p_b0=>none,ok1 := fun _ _ _ h=>(by cases h) }
 | n_ + 1=>{ m1 := fun p_s p_b0=>Mo.den (alr (O5 n_) p_s p_b0),ok1 := ajX (O5 n_) }
def Q64 (p_s:aA) (p_b0:ay) : Option (ay) := (O5 FU).m1 p_s p_b0
theorem anB (p_s:aA) (p_b0:ay) : FH (Q64 p_s p_b0) 219 [.ptr 0 0,.dat (aA.lf1 p_s)] [.box 80 (.dat (ay.lf1 p_b0))] (fun _=>.tup []) (fun r=>[.box 80 (.dat (ay.lf1 r))]) := (O5 FU).ok1 p_s p_b0
def abW (p_d:bV) : (Int × ay) → Mo ((Int × ay) ⊕ (ay)) := fun (v0,s9947) =>
 .say [.num p_d.cu.length] (ok1 (ln_ p_d.cu aK.lf)) <|
 .ite (decide ((v0:Int) < (p_d.cu.length:Int))) (fun _ =>
 .stop) fun c0 =>
 .say [.br false] (ok1 c0) <|
 .rt [0,3] 2 (.inr (s9947))
def ajY (p_d:bV) (v0:Int) (s9947:ay) : Option (ay) := bT (fun v_=>(abW p_d v_).den) FU (v0,s9947)
def anC (p_d:bV) (p_b0:ay) : Mo (ay) :=
 .ask (Q92 p_d.fName p_b0) fun r0 h0 =>
 .say [.iD [0] (.tup []) [.box 80 (.dat (ay.lf1 r0))],.num p_d.cu.length] (okc (tV _ _ _ h0) (ok1 (ln_ p_d.cu aK.lf))) <|
 .cH [0] (fZ (p_d.cu.length:Int) r0) fun r1 _ =>
 .lp Tryz.f141 1 [1,1,1,0,1,0] 0 [0,3,4] 2 (.exit 0) (fun r_=>⟨[(0,.ptr 0 0),(3,.ptr 1 0)],[.box 80 (.dat (ay.lf1 r_)),.box 33 (.dat (bV.lf1 p_d))]⟩) (ajY p_d 0 r1) (lW (fun (v0,s9947)=>⟨[(0,.ptr 0 0),(3,.ptr 1 0),(4,.i_ v0)],[.box 80 (.dat (ay.lf1 s9947)),.box 33 (.dat (bV.lf1 p_d))]⟩) (by kernel_rfl) rfl fun v_=>by kernel_rfl) fun r2 _ =>
 .cH [0] (anB p_d.aW r2) fun r3 _ =>
 .cH [0] (fZ p_d.kX r3) fun r4 _ =>
 .cH [0] (fZ p_d.iW r4) fun r5 _ =>
 .ret ⟨[.kill 1],[],[],1⟩ (r5)
def apQ (p_d:bV) (p_b0:ay) : Option (ay) := Mo.den (anC p_d p_b0)
theorem ajZ (p_d:bV) (p_b0:ay) : FH (apQ p_d p_b0) 141 [.ptr 0 0,.dat (bV.lf1 p_d)] [.box 80 (.dat (ay.lf1 p_b0))] (fun _=>.tup []) (fun r=>[.box 80 (.dat (ay.lf1 r))]) := dW Tryz.func141 (by kernel_rfl) (fun _=>rfl) (by kernel_rfl)
structure O6 where
 m1:(p_x:ak) → (p_b0:ay) → Option (ay)
 ok1:∀ p_x p_b0,FH (m1 p_x p_b0) 85 [.ptr 0 0,.dat (ak.lf1 p_x)] [.box 80 (.dat (ay.lf1 p_b0))] (fun _=>.tup []) (fun r=>[.box 80 (.dat (ay.lf1 r))])
def Uz (R_:O6) (p_x:ak) : (Int × ay) → Mo ((Int × ay) ⊕ (ay)) := fun (v0,s10168) =>
 .say [.num p_x.dG.length] (ok1 (ln_ p_x.dG ak.lf)) <|
 .ite (decide ((v0:Int) < (p_x.dG.length:Int))) (fun _ =>
 .stop) fun c0 =>
 .say [.br false] (ok1 c0) <|
 .rt [0,3] 2 (.inr (s10168))
def agD (R_:O6) (p_x:ak) (v0:Int) (s10168:ay) : Option (ay) := bT (fun v_=>(Uz R_ p_x v_).den) FU (v0,s10168)
def UA (R_:O6) (p_x:ak) : (Int × ay) → St := fun (v0,s10168)=>⟨[(0,.ptr 0 0),(3,.ptr 1 0),(4,.i_ v0)],[.box 80 (.dat (ay.lf1 s10168)),.box 49 (.dat (ak.lf1 p_x))]⟩
def Ii (p_x:ak) (r_:ay) : St := ⟨[(0,.ptr 0 0),(3,.ptr 1 0)],[.box 80 (.dat (ay.lf1 r_)),.box 49 (.dat (ak.lf1 p_x))]⟩
theorem agE {R_:O6} {p_x:ak} {v0:Int} {s10168:ay} {r_:ay} (h:agD R_ p_x v0 s10168 = some r_) : eF Tryz.f85 1 [1,1,1,1,1,1,1,1,1,1,1,0,1,0] (.exit 0) (Ii p_x r_) (UA R_ p_x (v0,s10168)) :=
 dK dA (body := (Code.sub (bodyC Tryz.f85) [1,1,1,1,1,1,1,1,1,1,1,0,1,0,0])) (by kernel_rfl) (Uz R_ p_x) (UA R_ p_x) (fun _=>.exit 0) (Ii p_x) (fun r_=>rfl) (fun v_=>by kernel_rfl) h
def agF (R_:O6) (p_x:ak) : (Int × ay) → Mo ((Int × ay) ⊕ (ay)) := fun (v0,s10211) =>
 .say [.num p_x.dO.length] (ok1 (ln_ p_x.dO lfI)) <|
 .ite (decide ((v0:Int) < (p_x.dO.length:Int))) (fun _ =>
 .stop) fun c0 =>
 .say [.br false] (ok1 c0) <|
 .rt [0,3] 2 (.inr (s10211))
def anD (R_:O6) (p_x:ak) (v0:Int) (s10211:ay) : Option (ay) := bT (fun v_=>(agF R_ p_x v_).den) FU (v0,s10211)
def als (R_:O6) (p_x:ak) (p_b0:ay) : Mo (ay) :=
 .cH [0] (fZ p_x.aF p_b0) fun r0 _ =>
 .cH [0] (tV p_x.fQ r0) fun r1 _ =>
 .cH [0] (yj p_x.iy r1) fun r2 _ =>
 .cH [0] (yj p_x.aX r2) fun r3 _ =>
 .cH [0] (yj p_x.dJ r3) fun r4 _ =>
 .cH [0] (ajZ p_x.dD r4) fun r5 _ =>
 .cH [0] (ajW p_x.aT r5) fun r6 _ =>
 .cH [0] (tV p_x.lQ r6) fun r7 _ =>
 .ask (Q22 p_x.eG r7) fun r8 h0 =>
 .say [.iD [0] (.tup []) [.box 80 (.dat (ay.lf1 r8))],.num p_x.dG.length] (okc (fZ _ _ _ h0) (ok1 (ln_ p_x.dG ak.lf))) <|
 .cH [0] (fZ (p_x.dG.length:Int) r8) fun r9 _ =>
 .ask (agD R_ p_x 0 r9) fun r10 h1 =>
 .say [.pt_ 0 [0,3,4] 2 (.exit 0) (Ii p_x r10),.num p_x.dO.length] (okc (agE h1) (ok1 (ln_ p_x.dO lfI))) <|
 .cH [0] (fZ (p_x.dO.length:Int) r10) fun r11 _ =>
 .lp Tryz.f85 1 [1,1,1,1,1,1,1,1,1,1,1,1,1,0,1,0] 0 [0,3,5] 2 (.exit 2) (fun r_=>⟨[(0,.ptr 0 0),(3,.ptr 1 0)],[.box 80 (.dat (ay.lf1 r_)),.box 49 (.dat (ak.lf1 p_x))]⟩) (anD R_ p_x 0 r11) (lW (fun (v0,s10211)=>⟨[(0,.ptr 0 0),(3,.ptr 1 0),(5,.i_ v0)],[.box 80 (.dat (ay.lf1 s10211)),.box 49 (.dat (ak.lf1 p_x))]⟩) (by kernel_rfl) rfl fun v_=>by kernel_rfl) fun r12 _ =>
 .cH [0] (tY p_x.gq r12) fun r13 _ =>
 .ret ⟨[.kill 1],[],[],1⟩ (r13)
theorem aj0 (R_:O6) (p_x:ak) (p_b0:ay) : FH (Mo.den (als R_ p_x p_b0)) 85 [.ptr 0 0,.dat (ak.lf1 p_x)] [.box 80 (.dat (ay.lf1 p_b0))] (fun _=>.tup []) (fun r=>[.box 80 (.dat (ay.lf1 r))]) := dW Tryz.func85 (by kernel_rfl) (fun _=>rfl) (by kernel_rfl)
def O7:Nat → O6
 | 0=>{ m1 := fun p_x p_b0=>none,ok1 := fun _ _ _ h=>(by cases h) }
 | n_ + 1=>{ m1 := fun p_x p_b0=>Mo.den (als (O7 n_) p_x p_b0),ok1 := aj0 (O7 n_) }
def Q39 (p_x:ak) (p_b0:ay) : Option (ay) := (O7 FU).m1 p_x p_b0
theorem anE (p_x:ak) (p_b0:ay) : FH (Q39 p_x p_b0) 85 [.ptr 0 0,.dat (ak.lf1 p_x)] [.box 80 (.dat (ay.lf1 p_b0))] (fun _=>.tup []) (fun r=>[.box 80 (.dat (ay.lf1 r))]) := (O7 FU).ok1 p_x p_b0
def anF (p_e:bM) (p_b0:ay) : Mo (ay) :=
 .cH [0] (fZ p_e.pY p_b0) fun r0 _ =>
 .cH [0] (fZ p_e.eG r0) fun r1 _ =>
 .cH [0] (tV p_e.kC r1) fun r2 _ =>
 .cH [0] (fZ p_e.nX r2) fun r3 _ =>
 .cH [0] (anE p_e.kD r3) fun r4 _ =>
 .ret ⟨[.kill 1],[],[],1⟩ (r4)
def apR (p_e:bM) (p_b0:ay) : Option (ay) := Mo.den (anF p_e p_b0)
theorem aj1 (p_e:bM) (p_b0:ay) : FH (apR p_e p_b0) 37 [.ptr 0 0,.dat (bM.lf1 p_e)] [.box 80 (.dat (ay.lf1 p_b0))] (fun _=>.tup []) (fun r=>[.box 80 (.dat (ay.lf1 r))]) := dW Tryz.func37 (by kernel_rfl) (fun _=>rfl) (by kernel_rfl)
def anG (p_e:bM) : Mo (ByteArray) :=
 .say [.at_ 6 1,.norm 1] ok0 <|
 .cH [1] (aj1 p_e (ay.mk ⟨#[]⟩ false true)) fun r0 _ =>
 .ret (bf 1) (r0.fS)
def anH (p_e:bM) : Option (ByteArray) := Mo.den (anG p_e)
theorem Y0 (p_e:bM) : FV (anH p_e) 44 [.dat (bM.lf1 p_e)] (fun r=>.lf (.str r)) := dU Tryz.func44 (by kernel_rfl) (fun _=>rfl) (by kernel_rfl)
def anI (p_a:bM) (p_b:bM) : Mo (Bool) :=
 .ask (anH p_a) fun r0 h0 =>
 .say [] (ok1 (Y0 _ _ h0)) <|
 .ask (anH p_b) fun r1 h1 =>
 .say [.jX (.q 0 (.q 2 (.l 1 (.l 3 (.q 4 (.q 5 .fin)))))) (some 3) [] [.res (.lf (.str r0)),.res (.lf (.str r1))] [4] 2 [(4,.lf (.bool (decide ((r0:ByteArray) = (r1:ByteArray)))))] [.box 51 (.dat (bM.lf1 p_a)),.box 51 (.dat (bM.lf1 p_b))]] (okc (Y0 _ _ h1) (ok1 (rf_ ⟨[(4,.lf (.bool (decide ((r0:ByteArray) = (r1:ByteArray)))))],[.box 51 (.dat (bM.lf1 p_a)),.box 51 (.dat (bM.lf1 p_b))]⟩))) <|
 .ret (bf 1) (decide ((r0:ByteArray) = (r1:ByteArray)))
def apS (p_a:bM) (p_b:bM) : Option (Bool) := Mo.den (anI p_a p_b)
theorem aj2 (p_a:bM) (p_b:bM) : FV (apS p_a p_b) 18 [.dat (bM.lf1 p_a),.dat (bM.lf1 p_b)] (fun r=>.b_ r) := dU Tryz.func18 (by kernel_rfl) (fun _=>rfl) (by kernel_rfl)
structure Ij where
 m1:(p_v:aj) → Option (aj)
 ok1:∀ p_v,FV (m1 p_v) 101 [.dat (aj.lf1 p_v)] (fun r=>.dat (aj.lf1 r))
 m2:(p_l:List aj) → Option (List aj)
 ok2:∀ p_l,FH (m2 p_l) 154 [.lf (.rows 5 (p_l.map aj.lf)),.raw (.func (.func 101) #[] #[])] [] (fun r=>.lf (.rows 5 (r.map aj.lf))) (fun _=>[])
 m3:(p_l:List aB) → Option (List aB)
 ok3:∀ p_l,FH (m3 p_l) 155 [.lf (.rows 6 (p_l.map aB.lf)),.raw (.func (.func 156) #[] #[])] [] (fun r=>.lf (.rows 6 (r.map aB.lf))) (fun _=>[])
 m4:(p_f:aB) → Option (aB)
 ok4:∀ p_f,FV (m4 p_f) 156 [.dat (aB.lf1 p_f)] (fun r=>.dat (aB.lf1 r))
def agG (R_:Ij) (p_v:aj) : Mo (aj) :=
 .cH [] (R_.ok2 p_v.aU) fun r0 _ =>
 .cH [] (R_.ok3 p_v.aX) fun r1 _ =>
 .ret (bf 1) (aj.mk p_v.aF p_v.eU p_v.fText r0 r1)
theorem agH (R_:Ij) (p_v:aj) : FV (Mo.den (agG R_ p_v)) 101 [.dat (aj.lf1 p_v)] (fun r=>.dat (aj.lf1 r)) := dU Tryz.func101 (by kernel_rfl) (fun _=>rfl) (by kernel_rfl)
def agI (R_:Ij) (p_l:List aj) : Mo (List aj) :=
 .say [.num p_l.length] (ok1 (ln_ p_l aj.lf)) <|
 .ite ((p_l.length:Int) == 0) (fun c0 =>
 .say [.br true] (ok1 c0) <|
 .ret ⟨[.nil 0 5,.tod 0],[0],[],0⟩ ([])) fun _ =>
 .stop
theorem agJ (R_:Ij) (p_l:List aj) : FH (Mo.den (agI R_ p_l)) 154 [.lf (.rows 5 (p_l.map aj.lf)),.raw (.func (.func 101) #[] #[])] [] (fun r=>.lf (.rows 5 (r.map aj.lf))) (fun _=>[]) := dW Tryz.func154 (by kernel_rfl) (fun _=>rfl) (by kernel_rfl)
def abX (R_:Ij) (p_l:List aB) : (Int × (List aB)) → Mo ((Int × (List aB)) ⊕ ((List aB))) := fun (v0,l0) =>
 .iB (decide ((v0:Int) < (p_l.length:Int))) (.ask (fO p_l v0) fun x0 h0 =>
 .say [.row (aB.lf1 x0)] (ok1 (bY aB.bD h0)) <|
 .cl (R_.ok4 x0) fun r0 _ =>
 .ask (fO l0 v0) fun x1 h1 =>
 .say [.row (aB.lf1 x1),.rows ((l0.set v0.toNat r0).map aB.lf)] (okc (ah3 aB.bD h1) (okc (st_ aB.bD l0 v0.toNat r0) (ok1 ((bY aB.bD h1).2)))) <|
 .rt [1,5,14,15,16] 1 (.inl (IntKind.wrap .i64 (v0 + 1),l0.set v0.toNat r0))) <|
 .rt [5] 1 (.inr (l0))
def aj3 (R_:Ij) (p_l:List aB) (v0:Int) (l0:List aB) : Option (((List aB))) := bT (fun v_=>(abX R_ p_l v_).den) FU (v0,l0)
def agK (R_:Ij) (p_l:List aB) : Mo (List aB) :=
 .say [.num p_l.length] (ok1 (ln_ p_l aB.lf)) <|
 .ite ((p_l.length:Int) == 0) (fun c0 =>
 .say [.br true] (ok1 c0) <|
 .ret ⟨[.nil 0 6,.tod 0],[0],[],0⟩ ([])) fun c0 =>
 .say [.br false,.num p_l.length,.rows ((List.replicate (p_l.length:Int).toNat (aB.mk ⟨#[]⟩ (aj.mk 0 0 ⟨#[]⟩ [] []))).map aB.lf),.num p_l.length] (okc c0 (okc (ln_ p_l aB.lf) (ok1 (rp_ aB.bD (p_l.length:Int).toNat (aB.mk ⟨#[]⟩ (aj.mk 0 0 ⟨#[]⟩ [] [])))))) <|
 .grd ((0:Int) ≤ (p_l.length:Int) ∧ 96 * (p_l.length:Int).toNat ≤ 281474976710656 ∧ (p_l.length:Int).toNat ≤ maxLen) fun h0 =>
 .say [] (okc (mk_ (p_l.length:Int) h0) (ok1 (ln_ p_l aB.lf))) <|
 .lp Tryz.f155 0 [1,1,1,0,1,0] 0 [1,5,14,15,16] 1 (.exit 0) (fun r_=>⟨[(5,.own 0)],[.row 115 6 (r_.map aB.lf)]⟩) (aj3 R_ p_l 0 (List.replicate (p_l.length:Int).toNat (aB.mk ⟨#[]⟩ (aj.mk 0 0 ⟨#[]⟩ [] [])))) (lW (fun (v0,l0)=>⟨[(1,.raw (.func (.func 156) #[] #[])),(5,.own 0),(14,.lf (.rows 6 (p_l.map aB.lf))),(15,.i_ (p_l.length:Int)),(16,.i_ v0)],[.row 115 6 (l0.map aB.lf)]⟩) (by kernel_rfl) rfl fun v_=>by kernel_rfl) fun r0 _ =>
 .ret ⟨[.frz 0],[0],[],0⟩ (r0)
theorem agL (R_:Ij) (p_l:List aB) : FH (Mo.den (agK R_ p_l)) 155 [.lf (.rows 6 (p_l.map aB.lf)),.raw (.func (.func 156) #[] #[])] [] (fun r=>.lf (.rows 6 (r.map aB.lf))) (fun _=>[]) := dW Tryz.func155 (by kernel_rfl) (fun _=>rfl) (by kernel_rfl)
def agM (R_:Ij) (p_f:aB) : Mo (aB) :=
 .say [.order [(true,0),(true,1),(true,2),(true,3),(false,4),(true,5),(false,6)] (some 6) []] ok0 <|
 .cl (R_.ok1 p_f.fValue) fun r0 _ =>
 .ret (bf 1) (aB.mk p_f.fName r0)
theorem agN (R_:Ij) (p_f:aB) : FV (Mo.den (agM R_ p_f)) 156 [.dat (aB.lf1 p_f)] (fun r=>.dat (aB.lf1 r)) := dU Tryz.func156 (by kernel_rfl) (fun _=>rfl) (by kernel_rfl)
def nS:Nat → Ij
 | 0=>{ m1 := fun p_v=>none,ok1 := fun _ _ h=>(by cases h),m2 := fun p_l=>none,ok2 := fun _ _ h=>(by cases h),m3 := fun p_l=>none,ok3 := fun _ _ h=>(by cases h),m4 := fun p_f=>none,ok4 := fun _ _ h=>(by cases h) }
 | n_ + 1=>{ m1 := fun p_v=>Mo.den (agG (nS n_) p_v),ok1 := fun p_v r h=>agH (nS n_) p_v r h,m2 := fun p_l=>Mo.den (agI (nS n_) p_l),ok2 := fun p_l r h=>agJ (nS n_) p_l r h,m3 := fun p_l=>Mo.den (agK (nS n_) p_l),ok3 := fun p_l r h=>agL (nS n_) p_l r h,m4 := fun p_f=>Mo.den (agM (nS n_) p_f),ok4 := agN (nS n_) }
def apT (p_v:aj) : Option (aj) := (nS FU).m1 p_v
theorem qZ (p_v:aj) : FV (apT p_v) 101 [.dat (aj.lf1 p_v)] (fun r=>.dat (aj.lf1 r)) := (nS FU).ok1 p_v
def apc (p_l:List aj) : Option (List aj) := (nS FU).m2 p_l
theorem Y1 (p_l:List aj) : FH (apc p_l) 154 [.lf (.rows 5 (p_l.map aj.lf)),.raw (.func (.func 101) #[] #[])] [] (fun r=>.lf (.rows 5 (r.map aj.lf))) (fun _=>[]) := (nS FU).ok2 p_l
def anJ (p_l:List ByteArray) : Mo (List ByteArray) :=
 .say [.rows (p_l.map lfS),.at_ 0 0,.frz 0] (ok1 (by simp [lfS] : p_l.map lfS = [] ++ (p_l.map lfS))) <|
 .grd ((([] : List ByteArray).length + p_l.length) * 16 ≤ 140737488355328) fun h0 =>
 .say [] (ok1 (cq_ lfS h0)) <|
 .ret (bf 1) (p_l)
def apU (p_l:List ByteArray) : Option (List ByteArray) := Mo.den (anJ p_l)
theorem EK (p_l:List ByteArray) : FV (apU p_l) 238 [.lf (.rows 1 (p_l.map lfS))] (fun r=>.lf (.rows 1 (r.map lfS))) := dU Tryz.func238 (by kernel_rfl) (fun _=>rfl) (by kernel_rfl)
def anK (p_l:List aV) : Mo (List aV) :=
 .say [.num p_l.length] (ok1 (ln_ p_l aV.lf)) <|
 .ite ((p_l.length:Int) == 0) (fun c0 =>
 .say [.br true] (okc c0 (ok1 (by simp [aV.bD] : (([] : List aV).map aV.lf) = []))) <|
 .ret ⟨[.rW 0 149 2,.lM 0 (([] : List aV).map aV.lf),.mvn 0],[0],[(1,0)],1⟩ (([] : List aV))) fun _ =>
 .stop
def apV (p_l:List aV) : Option (List aV) := Mo.den (anK p_l)
theorem aj6 (p_l:List aV) : FH (apV p_l) 159 [.lf (.rows 2 (p_l.map aV.lf)),.raw (.func (.func 160) #[] #[])] [] (fun _=>.own 0) (fun r=>[.row 149 2 (r.map aV.lf)]) := dW Tryz.func159 (by kernel_rfl) (fun _=>rfl) (by kernel_rfl)
structure agO where
 m1:(p_e:aG) → Option (aG)
 ok1:∀ p_e,FV (m1 p_e) 242 [.dat (aG.lf1 p_e)] (fun r=>.dat (aG.lf1 r))
 m2:(p_l:List aG) → Option (List aG)
 ok2:∀ p_l,FH (m2 p_l) 295 [.lf (.rows 11 (p_l.map aG.lf)),.raw (.func (.func 242) #[] #[])] [] (fun r=>.lf (.rows 11 (r.map aG.lf))) (fun _=>[])
def agP (R_:agO) (p_e:aG) : Mo (aG) :=
 .cl (EK p_e.dh) fun r0 _ =>
 .cl (EK p_e.fB) fun r1 _ =>
 .cl (qZ p_e.fArg) fun r2 _ =>
 .cH [] (R_.ok2 p_e.bW) fun r3 _ =>
 .ret (bf 1) (aG.mk p_e.fOp r0 p_e.fName r1 r2 p_e.fN r3)
theorem agQ (R_:agO) (p_e:aG) : FV (Mo.den (agP R_ p_e)) 242 [.dat (aG.lf1 p_e)] (fun r=>.dat (aG.lf1 r)) := dU Tryz.func242 (by kernel_rfl) (fun _=>rfl) (by kernel_rfl)
def agR (R_:agO) (p_l:List aG) : Mo (List aG) :=
 .say [.num p_l.length] (ok1 (ln_ p_l aG.lf)) <|
 .ite ((p_l.length:Int) == 0) (fun c0 =>
 .say [.br true] (ok1 c0) <|
 .ret ⟨[.nil 0 11,.tod 0],[0],[],0⟩ ([])) fun _ =>
 .stop
theorem agS (R_:agO) (p_l:List aG) : FH (Mo.den (agR R_ p_l)) 295 [.lf (.rows 11 (p_l.map aG.lf)),.raw (.func (.func 242) #[] #[])] [] (fun r=>.lf (.rows 11 (r.map aG.lf))) (fun _=>[]) := dW Tryz.func295 (by kernel_rfl) (fun _=>rfl) (by kernel_rfl)
def CX:Nat → agO
 | 0=>{ m1 := fun p_e=>none,ok1 := fun _ _ h=>(by cases h),m2 := fun p_l=>none,ok2 := fun _ _ h=>(by cases h) }
 | n_ + 1=>{ m1 := fun p_e=>Mo.den (agP (CX n_) p_e),ok1 := fun p_e r h=>agQ (CX n_) p_e r h,m2 := fun p_l=>Mo.den (agR (CX n_) p_l),ok2 := agS (CX n_) }
def apW (p_e:aG) : Option (aG) := (CX FU).m1 p_e
theorem aj7 (p_e:aG) : FV (apW p_e) 242 [.dat (aG.lf1 p_e)] (fun r=>.dat (aG.lf1 r)) := (CX FU).ok1 p_e
end
end Go.Proofs.YtflpefkohpjjpaaGreatDoor
set_option linter.unusedSimpArgs false
set_option linter.unusedVariables false
namespace Go.Proofs.YtflpefkohpjjpaaGreatDoor
open Go.RowKit
set_option maxRecDepth 20000
set_option maxHeartbeats 4000000
noncomputable section
structure agT where
 m1:(p_p:aC) → Option (aC)
 ok1:∀ p_p,FV (m1 p_p) 161 [.dat (aC.lf1 p_p)] (fun r=>.dat (aC.lf1 r))
 m2:(p_l:List aC) → Option (List aC)
 ok2:∀ p_l,FH (m2 p_l) 243 [.lf (.rows 25 (p_l.map aC.lf)),.raw (.func (.func 161) #[] #[])] [] (fun r=>.lf (.rows 25 (r.map aC.lf))) (fun _=>[])
def agU (R_:agT) (p_p:aC) : Mo (aC) :=
 .cl (EK p_p.dh) fun r0 _ =>
 .cl (qZ p_p.fArg) fun r1 _ =>
 .ask (apc p_p.fArgs) fun r2 h0 =>
 .say [.iD [] (.lf (.rows 5 (r2.map aj.lf))) [],.rows (p_p.dH.dB.map bG.lf)] (okc (Y1 _ _ h0) (ok1 (by simp [bG.bD] : p_p.dH.dB.map bG.lf = [] ++ (p_p.dH.dB.map bG.lf)))) <|
 .grd ((([] : List bG).length + p_p.dH.dB.length) * 16 ≤ 140737488355328) fun h1 =>
 .say [] (ok1 (cq_ bG.lf h1)) <|
 .cl (aj7 p_p.fExpr) fun r3 _ =>
 .ask (R_.m2 p_p.bW) fun r4 h2 =>
 .say [.iD [] (.lf (.rows 25 (r4.map aC.lf))) [],.at_ 0 0,.frz 2] (ok1 (R_.ok2 _ _ h2)) <|
 .ret (bf 1) (aC.mk p_p.fOp r0 r1 r2 p_p.fN p_p.fM p_p.dH r3 r4)
theorem agV (R_:agT) (p_p:aC) : FV (Mo.den (agU R_ p_p)) 161 [.dat (aC.lf1 p_p)] (fun r=>.dat (aC.lf1 r)) := dU Tryz.func161 (by kernel_rfl) (fun _=>rfl) (by kernel_rfl)
def agW (R_:agT) (p_l:List aC) : Mo (List aC) :=
 .say [.num p_l.length] (ok1 (ln_ p_l aC.lf)) <|
 .ite ((p_l.length:Int) == 0) (fun c0 =>
 .say [.br true] (ok1 c0) <|
 .ret ⟨[.nil 0 25,.tod 0],[0],[],0⟩ ([])) fun _ =>
 .stop
theorem agX (R_:agT) (p_l:List aC) : FH (Mo.den (agW R_ p_l)) 243 [.lf (.rows 25 (p_l.map aC.lf)),.raw (.func (.func 161) #[] #[])] [] (fun r=>.lf (.rows 25 (r.map aC.lf))) (fun _=>[]) := dW Tryz.func243 (by kernel_rfl) (fun _=>rfl) (by kernel_rfl)
def CY:Nat → agT
 | 0=>{ m1 := fun p_p=>none,ok1 := fun _ _ h=>(by cases h),m2 := fun p_l=>none,ok2 := fun _ _ h=>(by cases h) }
 | n_ + 1=>{ m1 := fun p_p=>Mo.den (agU (CY n_) p_p),ok1 := fun p_p r h=>agV (CY n_) p_p r h,m2 := fun p_l=>Mo.den (agW (CY n_) p_l),ok2 := agX (CY n_) }
def apd (p_p:aC) : Option (aC) := (CY FU).m1 p_p
theorem aj8 (p_p:aC) : FV (apd p_p) 161 [.dat (aC.lf1 p_p)] (fun r=>.dat (aC.lf1 r)) := (CY FU).ok1 p_p
def anL (p_x:aK) : Mo (aK) :=
 .cH [] (aj6 p_x.gG) fun r0 _ =>
 .ask (apd p_x.bn) fun r1 h0 =>
 .say [.res (.dat (aC.lf1 r1)),.at_ 0 0,.frz 2] (ok1 (aj8 _ _ h0)) <|
 .ret (bf 1) (aK.alX (aK.aod p_x r0) r1)
def apX (p_x:aK) : Option (aK) := Mo.den (anL p_x)
theorem aj9 (p_x:aK) : FV (apX p_x) 103 [.dat (aK.lf1 p_x)] (fun r=>.dat (aK.lf1 r)) := dU Tryz.func103 (by kernel_rfl) (fun _=>rfl) (by kernel_rfl)
def anM (p_l:List aK) : Mo (List aK) :=
 .say [.num p_l.length] (ok1 (ln_ p_l aK.lf)) <|
 .ite ((p_l.length:Int) == 0) (fun c0 =>
 .say [.br true] (okc c0 (ok1 (by simp [aK.bD] : (([] : List aK).map aK.lf) = []))) <|
 .ret ⟨[.rW 0 45 31,.lM 0 (([] : List aK).map aK.lf),.mvn 0],[0],[(1,0)],1⟩ (([] : List aK))) fun _ =>
 .stop
def apY (p_l:List aK) : Option (List aK) := Mo.den (anM p_l)
theorem akb (p_l:List aK) : FH (apY p_l) 157 [.lf (.rows 31 (p_l.map aK.lf)),.raw (.func (.func 103) #[] #[])] [] (fun _=>.own 0) (fun r=>[.row 45 31 (r.map aK.lf)]) := dW Tryz.func157 (by kernel_rfl) (fun _=>rfl) (by kernel_rfl)
structure O8 where
 m1:(p_s:aA) → Option (aA)
 ok1:∀ p_s,FV (m1 p_s) 158 [.dat (aA.lf1 p_s)] (fun r=>.dat (aA.lf1 r))
 m2:(p_l:List bC) → Option (List bC)
 ok2:∀ p_l,FH (m2 p_l) 239 [.lf (.rows 22 (p_l.map bC.lf)),.raw (.func (.func 240) #[] #[])] [] (fun r=>.lf (.rows 22 (r.map bC.lf))) (fun _=>[])
 m3:(p_l:List aA) → Option (List aA)
 ok3:∀ p_l,FH (m3 p_l) 241 [.lf (.rows 21 (p_l.map aA.lf)),.raw (.func (.func 158) #[] #[])] [] (fun r=>.lf (.rows 21 (r.map aA.lf))) (fun _=>[])
 m4:(p_p:bC) → Option (bC)
 ok4:∀ p_p,FV (m4 p_p) 240 [.dat (bC.lf1 p_p)] (fun r=>.dat (bC.lf1 r))
def agY (R_:O8) (p_s:aA) : Mo (aA) :=
 .cl (qZ p_s.jO) fun r0 _ =>
 .cl (qZ p_s.jP) fun r1 _ =>
 .cH [] (Y1 p_s.jl) fun r2 _ =>
 .cl (EK p_s.dN) fun r3 _ =>
 .cH [] (R_.ok2 p_s.dX) fun r4 _ =>
 .cH [] (R_.ok3 p_s.fC) fun r5 _ =>
 .ret (bf 1) (aA.mk p_s.jw p_s.iR r0 p_s.iT r1 r2 p_s.iU p_s.iV r3 r4 p_s.jo r5 p_s.eP)
theorem agZ (R_:O8) (p_s:aA) : FV (Mo.den (agY R_ p_s)) 158 [.dat (aA.lf1 p_s)] (fun r=>.dat (aA.lf1 r)) := dU Tryz.func158 (by kernel_rfl) (fun _=>rfl) (by kernel_rfl)
def ag0 (R_:O8) (p_l:List bC) : Mo (List bC) :=
 .say [.num p_l.length] (ok1 (ln_ p_l bC.lf)) <|
 .ite ((p_l.length:Int) == 0) (fun c0 =>
 .say [.br true] (ok1 c0) <|
 .ret ⟨[.nil 0 22,.tod 0],[0],[],0⟩ ([])) fun _ =>
 .stop
theorem ag1 (R_:O8) (p_l:List bC) : FH (Mo.den (ag0 R_ p_l)) 239 [.lf (.rows 22 (p_l.map bC.lf)),.raw (.func (.func 240) #[] #[])] [] (fun r=>.lf (.rows 22 (r.map bC.lf))) (fun _=>[]) := dW Tryz.func239 (by kernel_rfl) (fun _=>rfl) (by kernel_rfl)
def ag2 (R_:O8) (p_l:List aA) : Mo (List aA) :=
 .say [.num p_l.length] (ok1 (ln_ p_l aA.lf)) <|
 .ite ((p_l.length:Int) == 0) (fun c0 =>
 .say [.br true] (ok1 c0) <|
 .ret ⟨[.nil 0 21,.tod 0],[0],[],0⟩ ([])) fun _ =>
 .stop
theorem ag3 (R_:O8) (p_l:List aA) : FH (Mo.den (ag2 R_ p_l)) 241 [.lf (.rows 21 (p_l.map aA.lf)),.raw (.func (.func 158) #[] #[])] [] (fun r=>.lf (.rows 21 (r.map aA.lf))) (fun _=>[]) := dW Tryz.func241 (by kernel_rfl) (fun _=>rfl) (by kernel_rfl)
def ag4 (R_:O8) (p_p:bC) : Mo (bC) :=
 .say [.order [(true,0),(true,1),(true,2),(true,3),(false,4),(true,5),(false,6)] (some 6) []] ok0 <|
 .cl (R_.ok1 p_p.aW) fun r0 _ =>
 .ret (bf 1) (bC.mk p_p.fName r0)
theorem ag5 (R_:O8) (p_p:bC) : FV (Mo.den (ag4 R_ p_p)) 240 [.dat (bC.lf1 p_p)] (fun r=>.dat (bC.lf1 r)) := dU Tryz.func240 (by kernel_rfl) (fun _=>rfl) (by kernel_rfl)
def pR:Nat → O8
 | 0=>{ m1 := fun p_s=>none,ok1 := fun _ _ h=>(by cases h),m2 := fun p_l=>none,ok2 := fun _ _ h=>(by cases h),m3 := fun p_l=>none,ok3 := fun _ _ h=>(by cases h),m4 := fun p_p=>none,ok4 := fun _ _ h=>(by cases h) }
 | n_ + 1=>{ m1 := fun p_s=>Mo.den (agY (pR n_) p_s),ok1 := fun p_s r h=>agZ (pR n_) p_s r h,m2 := fun p_l=>Mo.den (ag0 (pR n_) p_l),ok2 := fun p_l r h=>ag1 (pR n_) p_l r h,m3 := fun p_l=>Mo.den (ag2 (pR n_) p_l),ok3 := fun p_l r h=>ag3 (pR n_) p_l r h,m4 := fun p_p=>Mo.den (ag4 (pR n_) p_p),ok4 := ag5 (pR n_) }
def ape (p_s:aA) : Option (aA) := (pR FU).m1 p_s
theorem akc (p_s:aA) : FV (ape p_s) 158 [.dat (aA.lf1 p_s)] (fun r=>.dat (aA.lf1 r)) := (pR FU).ok1 p_s
def anN (p_d:bV) : Mo (bV) :=
 .cH [] (akb p_d.cu) fun r0 _ =>
 .ask (ape p_d.aW) fun r1 h0 =>
 .say [.res (.dat (aA.lf1 r1)),.at_ 0 0,.frz 2] (ok1 (akc _ _ h0)) <|
 .ret (bf 1) (bV.mk p_d.fName r0 r1 p_d.kX p_d.iW)
def apZ (p_d:bV) : Option (bV) := Mo.den (anN p_d)
theorem akd (p_d:bV) : FV (apZ p_d) 102 [.dat (bV.lf1 p_d)] (fun r=>.dat (bV.lf1 r)) := dU Tryz.func102 (by kernel_rfl) (fun _=>rfl) (by kernel_rfl)
structure ag6 where
 m1:(p_w:ak) → Option (ak)
 ok1:∀ p_w,FV (m1 p_w) 48 [.dat (ak.lf1 p_w)] (fun r=>.dat (ak.lf1 r))
 m2:(p_l:List ak) → Option (List ak)
 ok2:∀ p_l,FH (m2 p_l) 47 [.lf (.rows 78 (p_l.map ak.lf)),.raw (.func (.func 48) #[] #[])] [] (fun r=>.lf (.rows 78 (r.map ak.lf))) (fun _=>[])
def ag7 (R_:ag6) (p_w:ak) : Mo (ak) :=
 .cl (qZ p_w.iy) fun r0 _ =>
 .cl (qZ p_w.aX) fun r1 _ =>
 .cl (qZ p_w.dJ) fun r2 _ =>
 .cl (akd p_w.dD) fun r3 _ =>
 .cl (aj9 p_w.aT) fun r4 _ =>
 .ask (R_.m2 p_w.dG) fun r5 h0 =>
 .say [.iD [] (.lf (.rows 78 (r5.map ak.lf))) [],.rows (p_w.dO.map lfI),.at_ 0 0,.frz 2] (okc (R_.ok2 _ _ h0) (ok1 (by simp [lfI,lfK] : p_w.dO.map lfI = [] ++ (p_w.dO.map lfI)))) <|
 .grd ((([] : List Int).length + p_w.dO.length) * 8 ≤ 140737488355328) fun h1 =>
 .say [] (ok1 (cq_ lfI h1)) <|
 .ret (bf 1) (ak.mk p_w.aF p_w.fQ r0 r1 r2 r3 r4 p_w.lQ p_w.eG r5 p_w.dO p_w.gq)
theorem ag8 (R_:ag6) (p_w:ak) : FV (Mo.den (ag7 R_ p_w)) 48 [.dat (ak.lf1 p_w)] (fun r=>.dat (ak.lf1 r)) := dU Tryz.func48 (by kernel_rfl) (fun _=>rfl) (by kernel_rfl)
def ag9 (R_:ag6) (p_l:List ak) : Mo (List ak) :=
 .say [.num p_l.length] (ok1 (ln_ p_l ak.lf)) <|
 .ite ((p_l.length:Int) == 0) (fun c0 =>
 .say [.br true] (ok1 c0) <|
 .ret ⟨[.nil 0 78,.tod 0],[0],[],0⟩ ([])) fun _ =>
 .stop
theorem aha (R_:ag6) (p_l:List ak) : FH (Mo.den (ag9 R_ p_l)) 47 [.lf (.rows 78 (p_l.map ak.lf)),.raw (.func (.func 48) #[] #[])] [] (fun r=>.lf (.rows 78 (r.map ak.lf))) (fun _=>[]) := dW Tryz.func47 (by kernel_rfl) (fun _=>rfl) (by kernel_rfl)
def CZ:Nat → ag6
 | 0=>{ m1 := fun p_w=>none,ok1 := fun _ _ h=>(by cases h),m2 := fun p_l=>none,ok2 := fun _ _ h=>(by cases h) }
 | n_ + 1=>{ m1 := fun p_w=>Mo.den (ag7 (CZ n_) p_w),ok1 := fun p_w r h=>ag8 (CZ n_) p_w r h,m2 := fun p_l=>Mo.den (ag9 (CZ n_) p_l),ok2 := aha (CZ n_) }
def apf (p_w:ak) : Option (ak) := (CZ FU).m1 p_w
theorem ake (p_w:ak) : FV (apf p_w) 48 [.dat (ak.lf1 p_w)] (fun r=>.dat (ak.lf1 r)) := (CZ FU).ok1 p_w
def abY (p_w:ak) : Mo (Bool) :=
 .ite (decide ((2:Int) ≤ p_w.aF)) (fun c0 =>
 .say [.gd 8003 true] (ok1 c0) <|
 .rt [1,16] 1 (decide ((p_w.aF:Int) ≤ 7))) fun _ =>
 .stop
def anO (p_w:ak) : Mo (List ak) :=
 .ite (p_w.aF == 8) (fun _ =>
 .stop) fun c0 =>
 .say [.br false] (ok1 c0) <|
 .jp Tryz.f21 0 [1,1,0,0] 13 [1] 1 (.normal) (fun r_=>⟨[(1,.ptr 0 0),(16,.b_ r_)],[.box 49 (.dat (ak.lf1 p_w))]⟩) ⟨[(1,.ptr 0 0)],[.box 49 (.dat (ak.lf1 p_w))]⟩ (abY p_w).den (jW (by kernel_rfl)) fun r0 _ =>
 .ite (r0) (fun c1 =>
 .say [.br true] (ok1 c1) <|
 .ask (apf p_w) fun r1 h0 =>
 .say [.res (.dat (ak.lf1 r1)),.at_ 0 0,.MZ 1 ([r1].map ak.lf)] (okc (ake _ _ h0) (ok1 (by simp [ak.bD] : [r1].map ak.lf = [(ak.lf1 r1)]))) <|
 .ret (bf 1) ([r1])) fun _ =>
 .stop
def apg (p_w:ak) : Option (List ak) := Mo.den (anO p_w)
theorem akf (p_w:ak) : FV (apg p_w) 21 [.dat (ak.lf1 p_w)] (fun r=>.lf (.rows 78 (r.map ak.lf))) := dU Tryz.func21 (by kernel_rfl) (fun _=>rfl) (by kernel_rfl)
def anP (p_v:aj) : Mo (Bool) :=
 .ite (p_v.aF == 0) (fun _ =>
 .stop) fun c0 =>
 .say [.br false] (ok1 c0) <|
 .cl (lT p_v) fun r0 _ =>
 .ret (bf 1) (r0)
def ap0 (p_v:aj) : Option (Bool) := Mo.den (anP p_v)
theorem akg (p_v:aj) : FV (ap0 p_v) 104 [.dat (aj.lf1 p_v)] (fun r=>.b_ r) := dU Tryz.func104 (by kernel_rfl) (fun _=>rfl) (by kernel_rfl)
structure oO where
 m1:(p_v:aj) → Option (List Int)
 ok1:∀ p_v,FH (m1 p_v) 105 [.raw (.slice none 0 0),.dat (aj.lf1 p_v)] [] (fun _=>.own 0) (fun r=>[.row 5 1 (r.map (lfK .u8))])
 m2:(p_v:aj) → (p_s0:List Int) → Option (List Int)
 ok2:∀ p_v p_s0,FH (m2 p_v p_s0) 105 [.own 0,.dat (aj.lf1 p_v)] [.row 5 1 (p_s0.map (lfK .u8))] (fun _=>.own 1) (fun r=>[.dead,.row 5 1 (r.map (lfK .u8))])
def L9 (R_:oO) (p_v:aj) : Mo (((List Int))) :=
 .stop
def Y2 (R_:oO) (p_v:aj) : Option (((List Int))) := Mo.den (L9 R_ p_v)
def wG  (r_:((List Int))) : St := ⟨[(0,.own 2)],[.dead,.dead,.row 5 1 (r_.map (lfK .u8))]⟩
theorem abZ {R_:oO} {p_v:aj} {r_:((List Int))} (h:Y2 R_ p_v = some r_) : eF Tryz.f105 0 [1,1,0,1] (.normal) (wG r_) ⟨[(0,.own 2),(3,.ptr 0 0),(19,.i_ p_v.aF)],[.box 25 (.dat (aj.lf1 p_v)),.dead,.row 5 1 ([IntKind.wrap .u8 p_v.aF].map (lfK .u8))]⟩ :=
 iE dA (L9 R_ p_v) (fun _=>.normal) wG (by kernel_rfl) h
def alu (R_:oO) (p_v:aj) : Mo (List Int) :=
 .say [.rows ([IntKind.wrap .u8 p_v.aF].map (lfK .u8))] (ok1 (by simp [lfI,lfK] : [IntKind.wrap .u8 p_v.aF].map (lfK .u8) = [] ++ [((lfK .u8) (IntKind.wrap .u8 p_v.aF))])) <|
 .grd ((([] : List Int).length + [IntKind.wrap .u8 p_v.aF].length) * 1 ≤ 140737488355328) fun h0 =>
 .say [] (ok1 (by first | (simp; done) | simpa using h0:(([] : List (List Lf)).length + [((lfK .u8) (IntKind.wrap .u8 p_v.aF))].length) * 1 ≤ 140737488355328)) <|
 .ask (Y2 R_ p_v) fun r0 h1 =>
 .say [.part [.kill 1] 6 [0,3,19] 3 (.normal) (wG r0).T (wG r0).H] (ok1 (abZ h1)) <|
 .ret ⟨[.mvn 2],[0],[(3,0)],1⟩ (r0)
theorem akh (R_:oO) (p_v:aj) : FH (Mo.den (alu R_ p_v)) 105 [.raw (.slice none 0 0),.dat (aj.lf1 p_v)] [] (fun _=>.own 0) (fun r=>[.row 5 1 (r.map (lfK .u8))]) := dW Tryz.func105 (by kernel_rfl) (fun _=>rfl) (by kernel_rfl)
def aki (R_:oO) (p_s0:List Int) (p_v:aj) : Mo (Bool) :=
 .iB (p_v.aF == 3) (.rt [0,3,19,20] 4 (p_v.aF == 3)) <|
 .ite (p_v.aF == 9) (fun _ =>
 .stop) fun c0 =>
 .say [.br false] (ok1 c0) <|
 .rt [0,3,19,20] 4 (p_v.aF == 10)
def Y3 (R_:oO) (p_v:aj) : (Int × (List Int)) → Mo ((Int × (List Int)) ⊕ ((List Int))) := fun (v0,l0) =>
 .ite (decide ((0:Int) ≤ v0)) (fun c0 =>
 .say [.br true,.rows ((l0 ++ [IntKind.wrap .u8 (wM .u64 (eH .xor .u64 (IntKind.wrap .u64 p_v.eU) 9223372036854775808) v0)]).map (lfK .u8))] (ok1 c0) <|
 .grd ((0:Int) ≤ v0) fun h0 =>
 .say [] (okc h0 (ok1 (by simp [lfI,lfK] : (l0 ++ [IntKind.wrap .u8 (wM .u64 (eH .xor .u64 (IntKind.wrap .u64 p_v.eU) 9223372036854775808) v0)]).map (lfK .u8) = (l0.map (lfK .u8)) ++ [((lfK .u8) (IntKind.wrap .u8 (wM .u64 (eH .xor .u64 (IntKind.wrap .u64 p_v.eU) 9223372036854775808) v0)))]))) <|
 .grd ((l0.length + [IntKind.wrap .u8 (wM .u64 (eH .xor .u64 (IntKind.wrap .u64 p_v.eU) 9223372036854775808) v0)].length) * 1 ≤ 140737488355328) fun h1 =>
 .say [] (ok1 (by simpa using h1:((l0.map (lfK .u8)).length + [((lfK .u8) (IntKind.wrap .u8 (wM .u64 (eH .xor .u64 (IntKind.wrap .u64 p_v.eU) 9223372036854775808) v0)))].length) * 1 ≤ 140737488355328)) <|
 .ret ⟨[],[0,5,6],[(5,3)],4⟩ (.inl (IntKind.wrap .i64 (v0 - 8),l0 ++ [IntKind.wrap .u8 (wM .u64 (eH .xor .u64 (IntKind.wrap .u64 p_v.eU) 9223372036854775808) v0)]))) fun c0 =>
 .say [.br false] (ok1 c0) <|
 .rt [0] 4 (.inr (l0))
def alv (R_:oO) (p_v:aj) (v0:Int) (l0:List Int) : Option (((List Int))) := bT (fun v_=>(Y3 R_ p_v v_).den) FU (v0,l0)
def Y4 (R_:oO) (p_v:aj) : (Int × (List Int)) → St := fun (v0,l0)=>⟨[(0,.own 3),(5,.lf (.int .u64 (eH .xor .u64 (IntKind.wrap .u64 p_v.eU) 9223372036854775808))),(6,.i_ v0)],[.dead,.dead,.dead,.row 5 1 (l0.map (lfK .u8))]⟩
def EL  (r_:((List Int))) : St := ⟨[(0,.own 3)],[.dead,.dead,.dead,.row 5 1 (r_.map (lfK .u8))]⟩
theorem akj {R_:oO} {p_v:aj} {v0:Int} {l0:List Int} {r_:((List Int))} (h:alv R_ p_v v0 l0 = some r_) : eF Tryz.f105 1 [1,1,0,1,0,1,0,1,1,0] (.exit 1) (EL r_) (Y4 R_ p_v (v0,l0)) :=
 dK dA (body := (Code.sub (bodyC Tryz.f105) [1,1,0,1,0,1,0,1,1,0,0])) (by kernel_rfl) (Y3 R_ p_v) (Y4 R_ p_v) (fun _=>.exit 1) EL (fun r_=>rfl) (fun v_=>by kernel_rfl) h
def ahb (R_:oO) (p_s0:List Int) (p_v:aj) : Mo (Bool) :=
 .ite (p_v.aF == 4) (fun c0 =>
 .say [.br true] (ok1 c0) <|
 .rt [0,3,19,39] 4 (p_v.aF == 4)) fun _ =>
 .stop
def ahc (R_:oO) (l0:List Int) (p_v:aj) (v0:Int) : Mo (((List Int))) :=
 .ask (lF p_v.fText v0) fun b0 h0 =>
 .say [.byt b0,.rows ((l0 ++ [(b0.toNat:Int)]).map (lfK .u8))] (okc (gB h0) (ok1 (by simp [lfI,lfK] : (l0 ++ [(b0.toNat:Int)]).map (lfK .u8) = (l0.map (lfK .u8)) ++ [((lfK .u8) (b0.toNat:Int))]))) <|
 .grd ((l0.length + [(b0.toNat:Int)].length) * 1 ≤ 140737488355328) fun h1 =>
 .say [] (ok1 (by simpa using h1:((l0.map (lfK .u8)).length + [((lfK .u8) (b0.toNat:Int))].length) * 1 ≤ 140737488355328)) <|
 .ask (lF p_v.fText v0) fun b1 h2 =>
 .say [.byt b1] (ok1 (gB h2)) <|
 .ite ((b1.toNat:Int) == 0) (fun _ =>
 .stop) fun c0 =>
 .say [.br false] (ok1 c0) <|
 .ret ⟨[],[0,3,45,46],[(5,3)],4⟩ (l0 ++ [(b0.toNat:Int)])
def UC (R_:oO) (p_v:aj) : (Int × (List Int)) → Mo ((Int × (List Int)) ⊕ ((List Int))) := fun (v0,l0) =>
 .iB (decide ((v0:Int) < (p_v.fText.size:Int))) (.jp Tryz.f105 1 [1,1,0,1,0,1,1,1,0,0,1,0,0,1,1,0] 14 [0,3,45,46] 4 (.normal) (fun r_=>⟨[(0,.own 3),(3,.ptr 1 0),(45,.i_ (p_v.fText.size:Int)),(46,.i_ v0)],[.dead,.box 25 (.dat (aj.lf1 p_v)),.dead,.row 5 1 (r_.map (lfK .u8))]⟩) ⟨[(0,.own 3),(3,.ptr 1 0),(45,.i_ (p_v.fText.size:Int)),(46,.i_ v0)],[.dead,.box 25 (.dat (aj.lf1 p_v)),.dead,.row 5 1 (l0.map (lfK .u8))]⟩ (ahc R_ l0 p_v v0).den (jW (by kernel_rfl)) fun r0 _ =>
 .rt [0,3,45,46] 4 (.inl (IntKind.wrap .i64 (v0 + 1),r0))) <|
 .ret ⟨[.kill 1],[0],[],4⟩ (.inr (l0))
def ahd (R_:oO) (p_v:aj) (v0:Int) (l0:List Int) : Option (((List Int))) := bT (fun v_=>(UC R_ p_v v_).den) FU (v0,l0)
def UD (R_:oO) (p_v:aj) : (Int × (List Int)) → St := fun (v0,l0)=>⟨[(0,.own 3),(3,.ptr 1 0),(45,.i_ (p_v.fText.size:Int)),(46,.i_ v0)],[.dead,.box 25 (.dat (aj.lf1 p_v)),.dead,.row 5 1 (l0.map (lfK .u8))]⟩
def Ik  (r_:((List Int))) : St := ⟨[(0,.own 3)],[.dead,.dead,.dead,.row 5 1 (r_.map (lfK .u8))]⟩
theorem ahe {R_:oO} {p_v:aj} {v0:Int} {l0:List Int} {r_:((List Int))} (h:ahd R_ p_v v0 l0 = some r_) : eF Tryz.f105 1 [1,1,0,1,0,1,1,1,0,0,1,0] (.exit 3) (Ik r_) (UD R_ p_v (v0,l0)) :=
 dK dA (body := (Code.sub (bodyC Tryz.f105) [1,1,0,1,0,1,1,1,0,0,1,0,0])) (by kernel_rfl) (UC R_ p_v) (UD R_ p_v) (fun _=>.exit 3) Ik (fun r_=>rfl) (fun v_=>by kernel_rfl) h
def UE (R_:oO) (p_s0:List Int) (p_v:aj) : Mo (((List Int))) :=
 .jp Tryz.f105 1 [1,1,0,1,0,0,1] 1 [0,3,19,20] 4 (.normal) (fun r_=>⟨[(0,.own 3),(3,.ptr 1 0),(19,.i_ p_v.aF),(20,.b_ r_)],[.dead,.box 25 (.dat (aj.lf1 p_v)),.dead,.row 5 1 ((p_s0 ++ [IntKind.wrap .u8 p_v.aF]).map (lfK .u8))]⟩) ⟨[(0,.own 3),(3,.ptr 1 0),(19,.i_ p_v.aF),(20,.lf (.bool (p_v.aF == 3)))],[.dead,.box 25 (.dat (aj.lf1 p_v)),.dead,.row 5 1 ((p_s0 ++ [IntKind.wrap .u8 p_v.aF]).map (lfK .u8))]⟩ (aki R_ p_s0 p_v).den (jW (by kernel_rfl)) fun r0 _ =>
 .iB (r0) (.ask (alv R_ p_v 56 (p_s0 ++ [IntKind.wrap .u8 p_v.aF])) fun r1 h0 =>
 .say [.part [.kill 1] 0 [0,5,6] 4 (.exit 1) (EL r1).T (EL r1).H] (ok1 (akj h0)) <|
 .rt [0] 4 (r1)) <|
 .jp Tryz.f105 1 [1,1,0,1,0,1,1,0,1] 1 [0,3,19,39] 4 (.normal) (fun r_=>⟨[(0,.own 3),(3,.ptr 1 0),(19,.i_ p_v.aF),(39,.b_ r_)],[.dead,.box 25 (.dat (aj.lf1 p_v)),.dead,.row 5 1 ((p_s0 ++ [IntKind.wrap .u8 p_v.aF]).map (lfK .u8))]⟩) ⟨[(0,.own 3),(3,.ptr 1 0),(19,.i_ p_v.aF),(39,.lf (.bool (p_v.aF == 4)))],[.dead,.box 25 (.dat (aj.lf1 p_v)),.dead,.row 5 1 ((p_s0 ++ [IntKind.wrap .u8 p_v.aF]).map (lfK .u8))]⟩ (ahb R_ p_s0 p_v).den (jW (by kernel_rfl)) fun r2 _ =>
 .ite (r2) (fun c0 =>
 .say [.br true] (ok1 c0) <|
 .ask (ahd R_ p_v 0 (p_s0 ++ [IntKind.wrap .u8 p_v.aF])) fun r3 h1 =>
 .say [.pt_ 0 [0,3,45,46] 4 (.exit 3) (Ik r3),.rows ((r3 ++ [(0:Int),(0:Int)]).map (lfK .u8))] (okc (ahe h1) (ok1 (by simp [lfI,lfK] : (r3 ++ [(0:Int),(0:Int)]).map (lfK .u8) = (r3.map (lfK .u8)) ++ [((lfK .u8) (0:Int)),((lfK .u8) (0:Int))]))) <|
 .grd ((r3.length + [(0:Int),(0:Int)].length) * 1 ≤ 140737488355328) fun h2 =>
 .say [] (ok1 (by simpa using h2:((r3.map (lfK .u8)).length + [((lfK .u8) (0:Int)),((lfK .u8) (0:Int))].length) * 1 ≤ 140737488355328)) <|
 .ret ⟨[],[0],[(5,3)],4⟩ (r3 ++ [(0:Int),(0:Int)])) fun _ =>
 .stop
def ahf (R_:oO) (p_s0:List Int) (p_v:aj) : Option (((List Int))) := Mo.den (UE R_ p_s0 p_v)
def AZ  (r_:((List Int))) : St := ⟨[(0,.own 3)],[.dead,.dead,.dead,.row 5 1 (r_.map (lfK .u8))]⟩
theorem ahg {R_:oO} {p_s0:List Int} {p_v:aj} {r_:((List Int))} (h:ahf R_ p_s0 p_v = some r_) : eF Tryz.f105 1 [1,1,0,1] (.normal) (AZ r_) ⟨[(0,.own 3),(3,.ptr 1 0),(19,.i_ p_v.aF)],[.dead,.box 25 (.dat (aj.lf1 p_v)),.dead,.row 5 1 ((p_s0 ++ [IntKind.wrap .u8 p_v.aF]).map (lfK .u8))]⟩ :=
 iE dA (UE R_ p_s0 p_v) (fun _=>.normal) AZ (by kernel_rfl) h
def aph (R_:oO) (p_v:aj) (p_s0:List Int) : Mo (List Int) :=
 .say [.rows ((p_s0 ++ [IntKind.wrap .u8 p_v.aF]).map (lfK .u8))] (ok1 (by simp [lfI,lfK] : (p_s0 ++ [IntKind.wrap .u8 p_v.aF]).map (lfK .u8) = (p_s0.map (lfK .u8)) ++ [((lfK .u8) (IntKind.wrap .u8 p_v.aF))])) <|
 .grd ((p_s0.length + [IntKind.wrap .u8 p_v.aF].length) * 1 ≤ 140737488355328) fun h0 =>
 .say [] (ok1 (by simpa using h0:((p_s0.map (lfK .u8)).length + [((lfK .u8) (IntKind.wrap .u8 p_v.aF))].length) * 1 ≤ 140737488355328)) <|
 .ask (ahf R_ p_s0 p_v) fun r0 h1 =>
 .say [.part [.kill 2] 6 [0,3,19] 4 (.normal) (AZ r0).T (AZ r0).H] (ok1 (ahg h1)) <|
 .ret ⟨[.mvn 3],[0],[(4,1)],2⟩ (r0)
theorem anQ (R_:oO) (p_v:aj) (p_s0:List Int) : FH (Mo.den (aph R_ p_v p_s0)) 105 [.own 0,.dat (aj.lf1 p_v)] [.row 5 1 (p_s0.map (lfK .u8))] (fun _=>.own 1) (fun r=>[.dead,.row 5 1 (r.map (lfK .u8))]) := dW Tryz.func105 (by kernel_rfl) (fun _=>rfl) (by kernel_rfl)
def C9:Nat → oO
 | 0=>{ m1 := fun p_v=>none,ok1 := fun _ _ h=>(by cases h),m2 := fun p_v p_s0=>none,ok2 := fun _ _ _ h=>(by cases h) }
 | n_ + 1=>{ m1 := fun p_v=>Mo.den (alu (C9 n_) p_v),ok1 := fun p_v r h=>akh (C9 n_) p_v r h,m2 := fun p_v p_s0=>Mo.den (aph (C9 n_) p_v p_s0),ok2 := anQ (C9 n_) }
def Q5 (p_v:aj) (p_s0:List Int) : Option (List Int) := (C9 FU).m2 p_v p_s0
theorem apj (p_v:aj) (p_s0:List Int) : FH (Q5 p_v p_s0) 105 [.own 0,.dat (aj.lf1 p_v)] [.row 5 1 (p_s0.map (lfK .u8))] (fun _=>.own 1) (fun r=>[.dead,.row 5 1 (r.map (lfK .u8))]) := (C9 FU).ok2 p_v p_s0
def UF (l0:List Int) (p_desc:List Bool) (p_l:List aj) (v0:Int) : Mo (Unit ⊕ ((List Int))) :=
 .ask (fO p_l v0) fun x0 h0 =>
 .say [.row (aj.lf1 x0)] (ok1 (bY aj.bD h0)) <|
 .cl (akg x0) fun r0 _ =>
 .ite (!r0) (fun _ =>
 .stop) fun c0 =>
 .say [.br false,.num l0.length,.at_ 22 2,.tod 29] (okc c0 (ok1 (by simp:l0.length = (l0.map (lfK .u8)).length))) <|
 .cH [0] (apj x0 l0) fun r1 _ =>
 .ask (fO p_desc v0) fun x1 h1 =>
 .say [.row (lfB x1)] (ok1 (bY (fun _=>rfl) h1:(0:Int) ≤ v0 ∧ (p_desc.map lfB)[v0.toNat]? = some (lfB x1))) <|
 .ite (x1) (fun _ =>
 .stop) fun c1 =>
 .say [.br false] (ok1 c1) <|
 .ret ⟨[.kill 1],[1,6,16,17,18],[(2,0)],3⟩ (.inr (r1))
def ahh (l0:List Int) (p_desc:List Bool) (p_l:List aj) (v0:Int) : Option (Unit ⊕ ((List Int))) := Mo.den (UF l0 p_desc p_l v0)
def Il (r_:Unit ⊕ ((List Int))) : Exit := match r_ with
 | .inl o_=>.ret
 | .inr (o_)=>.normal
def Io (p_desc:List Bool) (p_l:List aj) (v0:Int) (r_:Unit ⊕ ((List Int))) : St := match r_ with
 | .inl o_=>⟨[(4,.lf (.str ⟨#[]⟩)),(5,.i_ 8)],[.dead]⟩
 | .inr (o_)=>⟨[(1,.lf (.rows 1 (p_desc.map lfB))),(6,.own 0),(16,.lf (.rows 5 (p_l.map aj.lf))),(17,.i_ (p_l.length:Int)),(18,.i_ v0)],[.row 5 1 (o_.map (lfK .u8)),.dead,.dead]⟩
theorem ahi {l0:List Int} {p_desc:List Bool} {p_l:List aj} {v0:Int} {r_:Unit ⊕ ((List Int))} (h:ahh l0 p_desc p_l v0 = some r_) : eF Tryz.f50 0 [1,1,1,0,1,0,0,1,1,0] (Il r_) (Io p_desc p_l v0 r_) ⟨[(1,.lf (.rows 1 (p_desc.map lfB))),(6,.own 0),(16,.lf (.rows 5 (p_l.map aj.lf))),(17,.i_ (p_l.length:Int)),(18,.i_ v0)],[.row 5 1 (l0.map (lfK .u8))]⟩ :=
 iE dA (UF l0 p_desc p_l v0) Il (Io p_desc p_l v0) (by kernel_rfl) h
def Mc (p_desc:List Bool) (p_l:List aj) : (Int × (List Int)) → Mo ((Int × (List Int)) ⊕ (Unit ⊕ ((List Int)))) := fun (v0,l0) =>
 .iB (decide ((v0:Int) < (p_l.length:Int))) (.fG (ahh l0 p_desc p_l v0) (fun _ _ =>
 .stop) fun o0 h0 =>
 .say [.pt_ 8 [1,6,16,17,18] 1 (Il (.inr (o0))) (Io p_desc p_l v0 (.inr (o0)))] (ok1 (ahi h0)) <|
 .rt [1,6,16,17,18] 1 (.inl (IntKind.wrap .i64 (v0 + 1),o0))) <|
 .rt [6] 1 (.inr (.inr (l0)))
def Y5 (p_desc:List Bool) (p_l:List aj) (v0:Int) (l0:List Int) : Option (Unit ⊕ ((List Int))) := bT (fun v_=>(Mc p_desc p_l v_).den) FU (v0,l0)
def Md (p_desc:List Bool) (p_l:List aj) : (Int × (List Int)) → St := fun (v0,l0)=>⟨[(1,.lf (.rows 1 (p_desc.map lfB))),(6,.own 0),(16,.lf (.rows 5 (p_l.map aj.lf))),(17,.i_ (p_l.length:Int)),(18,.i_ v0)],[.row 5 1 (l0.map (lfK .u8))]⟩
def Dc (r_:Unit ⊕ ((List Int))) : Exit := match r_ with
 | .inl o_=>.ret
 | .inr (o_)=>.exit 0
def wH  (r_:Unit ⊕ ((List Int))) : St := match r_ with
 | .inl o_=>⟨[(4,.lf (.str ⟨#[]⟩)),(5,.i_ 8)],[.dead]⟩
 | .inr (o_)=>⟨[(6,.own 0)],[.row 5 1 (o_.map (lfK .u8))]⟩
theorem ab1 {p_desc:List Bool} {p_l:List aj} {v0:Int} {l0:List Int} {r_:Unit ⊕ ((List Int))} (h:Y5 p_desc p_l v0 l0 = some r_) : eF Tryz.f50 0 [1,1,1,0,1,0] (Dc r_) (wH r_) (Md p_desc p_l (v0,l0)) :=
 dK dA (body := (Code.sub (bodyC Tryz.f50) [1,1,1,0,1,0,0])) (by kernel_rfl) (Mc p_desc p_l) (Md p_desc p_l) Dc wH (fun r_=>by rcases r_ with _ | _ <;> rfl) (fun v_=>by kernel_rfl) h
def apk (p_l:List aj) (p_desc:List Bool) : Mo (ByteArray × Int) :=
 .say [.num p_l.length,.num p_desc.length] (okc (ln_ p_l aj.lf) (ok1 (ln_ p_desc lfB))) <|
 .ite ((p_l.length:Int) != (p_desc.length:Int)) (fun _ =>
 .stop) fun c0 =>
 .say [.br false,.num p_l.length] (okc c0 (okc (ln_ p_l aj.lf) (ok1 (by simp [lfI,lfK] : (([] : List Int).map (lfK .u8)) = [])))) <|
 .fG (Y5 p_desc p_l 0 ([] : List Int)) (fun _ _ =>
 .stop) fun o0 h0 =>
 .say [.part [.rW 6 5 1,.lM 0 (([] : List Int).map (lfK .u8))] 0 [1,6,16,17,18] 1 (Dc (.inr (o0))) (wH (.inr (o0))).T (wH (.inr (o0))).H,.nums o0] (okc (ab1 h0) (ok1 (by simp [lfI,lfK] : (o0.map (lfK .u8)) = o0.map fun n=>[Lf.int .u8 n]))) <|
 .ret (bf 2) (strOfNums o0,0)
def Q37 (p_l:List aj) (p_desc:List Bool) : Option (ByteArray × Int) := Mo.den (apk p_l p_desc)
theorem anR (p_l:List aj) (p_desc:List Bool) : FV (Q37 p_l p_desc) 50 [.lf (.rows 5 (p_l.map aj.lf)),.lf (.rows 1 (p_desc.map lfB))] (fun r=>.tup [.lf (.str r.1),.i_ r.2]) := dU Tryz.func50 (by kernel_rfl) (fun _=>rfl) (by kernel_rfl)
def ahj (p_w:ak) : Mo (Bool) :=
 .ite (p_w.aF == 8) (fun _ =>
 .stop) fun c0 =>
 .say [.gd 6003 false] (ok1 c0) <|
 .rt [1,3,19] 2 (p_w.aF == 9)
def UG (p_w:ak) (r0:Bool) : Mo (((List ak))) :=
 .ite (r0) (fun _ =>
 .stop) fun c0 =>
 .say [.br false] (okc c0 (ok1 (by simp [ak.bD] : [p_w].map ak.lf = [(ak.lf1 p_w)]))) <|
 .ret ⟨[.MZ 1 ([p_w].map ak.lf),.kill 0],[3],[],2⟩ ([p_w])
def ahk (p_w:ak) (r0:Bool) : Option (((List ak))) := Mo.den (UG p_w r0)
def Ip  (r_:((List ak))) : St := ⟨[(3,.lf (.rows 78 (r_.map ak.lf)))],[.dead,.dead]⟩
theorem ahl {p_w:ak} {r0:Bool} {r_:((List ak))} (h:ahk p_w r0 = some r_) : eF Tryz.f24 0 [1,1,0,1] (.normal) (Ip r_) ⟨[(1,.ptr 0 0),(3,.own 1),(19,.b_ r0)],[.box 49 (.dat (ak.lf1 p_w)),.row 49 78 [(ak.lf1 p_w)]]⟩ :=
 iE dA (UG p_w r0) (fun _=>.normal) Ip (by kernel_rfl) h
def ab2 (l0:List ByteArray) (r0:((List ak))) (v0:Int) (x0:ak) : Mo (Bool) :=
 .ite (x0.aF != 2) (fun _ =>
 .stop) fun c0 =>
 .say [.gd 18003 false] (ok1 c0) <|
 .rt [4,6,22,23,24,35] 4 (false)
def ab3 (l0:List ByteArray) (r0:((List ak))) (v0:Int) : Mo (((List ByteArray))) :=
 .ask (fO r0 v0) fun x0 h0 =>
 .say [.row (ak.lf1 x0)] (ok1 (bY ak.bD h0)) <|
 .jp Tryz.f24 0 [1,1,1,1,0,1,0,0,1,1,0,0,1,0,0] 23 [4,6,22,23,24] 4 (.normal) (fun r_=>⟨[(4,.own 2),(6,.ptr 3 0),(22,.lf (.rows 78 (r0.map ak.lf))),(23,.i_ (r0.length:Int)),(24,.i_ v0),(35,.b_ r_)],[.dead,.dead,.row 9 1 (l0.map lfS),.box 49 (.agg ((ak.lf1 x0).map AV.lf))]⟩) ⟨[(4,.own 2),(6,.ptr 3 0),(22,.lf (.rows 78 (r0.map ak.lf))),(23,.i_ (r0.length:Int)),(24,.i_ v0)],[.dead,.dead,.row 9 1 (l0.map lfS),.box 49 (.agg ((ak.lf1 x0).map AV.lf))]⟩ (ab2 l0 r0 v0 x0).den (jW (by kernel_rfl)) fun r1 _ =>
 .ite (r1) (fun _ =>
 .stop) fun c0 =>
 .say [.br false,.at_ 22 5,.MZ 5 ([aj.mk 4 0 x0.fQ [] [],x0.iy].map aj.lf),.MZ 6 ([false,false].map lfB)] (okc c0 (okc (by simp [aj.bD] : [aj.mk 4 0 x0.fQ [] [],x0.iy].map aj.lf = [(aj.lf1 (aj.mk 4 0 x0.fQ [] [])),(aj.lf1 x0.iy)]) (ok1 (by simp [lfB] : [false,false].map lfB = [(lfB false),(lfB false)])))) <|
 .cl (anR [aj.mk 4 0 x0.fQ [] [],x0.iy] [false,false]) fun r2 _ =>
 .ite (r2.2 == 0) (fun c1 =>
 .say [.br true,.rows ((l0 ++ [r2.1]).map lfS)] (okc c1 (ok1 (by simp [lfS] : (l0 ++ [r2.1]).map lfS = (l0.map lfS) ++ [(lfS r2.1)]))) <|
 .grd ((l0.length + [r2.1].length) * 16 ≤ 140737488355328) fun h1 =>
 .say [] (ok1 (cp_ lfS h1)) <|
 .ret ⟨[],[4,22,23,24],[(8,2)],3⟩ (l0 ++ [r2.1])) fun _ =>
 .stop
def Me (r0:((List ak))) : (Int × (List ByteArray)) → Mo ((Int × (List ByteArray)) ⊕ ((List ByteArray))) := fun (v0,l0) =>
 .iB (decide ((v0:Int) < (r0.length:Int))) (.jp Tryz.f24 0 [1,1,1,1,0,1,0,0,1,1,0] 8 [4,22,23,24] 3 (.normal) (fun r_=>⟨[(4,.own 2),(22,.lf (.rows 78 (r0.map ak.lf))),(23,.i_ (r0.length:Int)),(24,.i_ v0)],[.dead,.dead,.row 9 1 (r_.map lfS)]⟩) ⟨[(4,.own 2),(22,.lf (.rows 78 (r0.map ak.lf))),(23,.i_ (r0.length:Int)),(24,.i_ v0)],[.dead,.dead,.row 9 1 (l0.map lfS)]⟩ (ab3 l0 r0 v0).den (jW (by kernel_rfl)) fun r1 _ =>
 .rt [4,22,23,24] 3 (.inl (IntKind.wrap .i64 (v0 + 1),r1))) <|
 .rt [4] 3 (.inr (l0))
def Y6 (r0:((List ak))) (v0:Int) (l0:List ByteArray) : Option (((List ByteArray))) := bT (fun v_=>(Me r0 v_).den) FU (v0,l0)
def MB (r0:((List ak))) : (Int × (List ByteArray)) → St := fun (v0,l0)=>⟨[(4,.own 2),(22,.lf (.rows 78 (r0.map ak.lf))),(23,.i_ (r0.length:Int)),(24,.i_ v0)],[.dead,.dead,.row 9 1 (l0.map lfS)]⟩
def wI  (r_:((List ByteArray))) : St := ⟨[(4,.own 2)],[.dead,.dead,.row 9 1 (r_.map lfS)]⟩
theorem ab4 {r0:((List ak))} {v0:Int} {l0:List ByteArray} {r_:((List ByteArray))} (h:Y6 r0 v0 l0 = some r_) : eF Tryz.f24 0 [1,1,1,1,0,1,0] (.exit 0) (wI r_) (MB r0 (v0,l0)) :=
 dK dA (body := (Code.sub (bodyC Tryz.f24) [1,1,1,1,0,1,0,0])) (by kernel_rfl) (Me r0) (MB r0) (fun _=>.exit 0) wI (fun r_=>rfl) (fun v_=>by kernel_rfl) h
def apl (p_w:ak) : Mo (List ByteArray) :=
 .jp Tryz.f24 0 [1,1,0,0] 11 [1,3] 2 (.normal) (fun r_=>⟨[(1,.ptr 0 0),(3,.own 1),(19,.b_ r_)],[.box 49 (.dat (ak.lf1 p_w)),.row 49 78 [(ak.lf1 p_w)]]⟩) ⟨[(1,.ptr 0 0),(3,.own 1)],[.box 49 (.dat (ak.lf1 p_w)),.row 49 78 [(ak.lf1 p_w)]]⟩ (ahj p_w).den (jW (by kernel_rfl)) fun r0 _ =>
 .ask (ahk p_w r0) fun r1 h0 =>
 .say [.pt_ 1 [1,3,19] 2 (.normal) (Ip r1),.num r1.length] (okc (ahl h0) (okc (ln_ r1 ak.lf) (ok1 (by simp [lfS] : (([] : List ByteArray).map lfS) = [])))) <|
 .ask (Y6 r1 0 ([] : List ByteArray)) fun r2 h1 =>
 .say [.part [.rW 4 9 1,.lM 2 (([] : List ByteArray).map lfS)] 0 [4,22,23,24] 3 (.exit 0) (wI r2).T (wI r2).H] (ok1 (ab4 h1)) <|
 .cH [2] (aia r2) fun r3 _ =>
 .ask (aol r3) fun r4 h2 =>
 .say [.iD [2] (.own 1) [.dead,.row 9 1 (r4.map lfS)],.at_ 0 0,.frz 3] (ok1 (aib _ _ h2)) <|
 .ret (bf 1) (r4)
def Q51 (p_w:ak) : Option (List ByteArray) := Mo.den (apl p_w)
theorem anS (p_w:ak) : FV (Q51 p_w) 24 [.dat (ak.lf1 p_w)] (fun r=>.lf (.rows 1 (r.map lfS))) := dU Tryz.func24 (by kernel_rfl) (fun _=>rfl) (by kernel_rfl)
def ab5 (p_a:bM) (p_b:bM) : Mo (Bool) :=
 .ite (decide ((p_b.pY:Int) < p_a.pY)) (fun _ =>
 .stop) fun c0 =>
 .say [.gd 4005 false] (ok1 c0) <|
 .ite (p_a.pY == p_b.pY) (fun c1 =>
 .say [.gd 4011 true] (ok1 c1) <|
 .ret ⟨[.kill 0,.kill 1],[4,23],[],2⟩ (decide ((p_b.eG:Int) ≤ p_a.eG))) fun _ =>
 .stop
def ab6 (r0:Bool) : Mo (Unit) :=
 .rt [4] 2 ()
def anT (p_a:bM) (p_b:bM) : Mo (Bool) :=
 .sj Tryz.f19 0 [1,0] [0,1,2,3,4,5,6,7,8,9,10,11,12,13,14,15,16,17,18] 1 19 [2,3,4] 2 (fun r_=>⟨[(4,.b_ false),(23,.b_ r_)],[.dead,.dead]⟩) ⟨[(2,.ptr 0 0),(3,.ptr 1 0),(4,.b_ false)],[.box 51 (.dat (bM.lf1 p_a)),.box 51 (.dat (bM.lf1 p_b))]⟩ (ab5 p_a p_b).den (sW (by kernel_rfl)) fun r0 _ =>
 .sj Tryz.f19 0 [1,0] [19] 1 1 [4,23] 2 (fun r_=>⟨[(4,.b_ r0)],[.dead,.dead]⟩) ⟨[(4,.b_ false),(23,.b_ r0)],[.dead,.dead]⟩ (ab6 r0).den (sW (by kernel_rfl)) fun r1 _ =>
 .ret (bf 1) (r0)
def ap1 (p_a:bM) (p_b:bM) : Option (Bool) := Mo.den (anT p_a p_b)
theorem Y7 (p_a:bM) (p_b:bM) : FV (ap1 p_a p_b) 19 [.dat (bM.lf1 p_a),.dat (bM.lf1 p_b)] (fun r=>.b_ r) := dU Tryz.func19 (by kernel_rfl) (fun _=>rfl) (by kernel_rfl)
theorem ap2:acZ (opsOf (Code.sub (bodyC Tryz.f13) [1,1,1,1,1,1,0])) [(true,0),(false,1),(true,2),(true,3),(false,4),(false,5),(true,6),(true,7),(true,8),(true,9),(false,10),(true,11),(true,12),(true,13),(true,14),(true,15),(true,16),(true,17),(true,18),(true,19),(true,20),(true,21),(true,22),(true,23),(true,24),(true,25),(true,26),(true,27),(false,28),(true,29),(true,30),(true,31),(true,32),(true,33),(true,34),(true,35),(true,36),(true,37),(true,38),(true,39),(true,40),(false,41),(true,42),(true,43),(true,44),(true,45),(true,46),(false,47),(true,48),(true,49),(true,50),(true,51),(true,52),(true,53),(false,54),(true,55),(true,56),(true,57),(true,58),(true,59),(true,60),(false,61),(true,62),(true,63),(true,65),(false,64),(false,66),(true,67),(true,68),(true,69)] none = true := by kernel_rfl
def anU  : Mo (Bool) :=
 .cl (NV 5 1 1) fun r0 _ =>
 .cl (EJ r0) fun r1 _ =>
 .cl (OW r1.1) fun r2 _ =>
 .cl (OW ⟨#[]⟩) fun r3 _ =>
 .ask (abL (bM.mk 1 5 ⟨#[]⟩ 0 (ak.Jw ak.z 1))) fun r4 h0 =>
 .say [.res (.tup [.lf (.str r4.1),.i_ r4.2]),.Vl [(true,0),(false,1),(true,2),(true,3),(false,4),(false,5),(true,6),(true,7),(true,8),(true,9),(false,10),(true,11),(true,12),(true,13),(true,14),(true,15),(true,16),(true,17),(true,18),(true,19),(true,20),(true,21),(true,22),(true,23),(true,24),(true,25),(true,26),(true,27),(false,28),(true,29),(true,30),(true,31),(true,32),(true,33),(true,34),(true,35),(true,36),(true,37),(true,38),(true,39),(true,40),(false,41),(true,42),(true,43),(true,44),(true,45),(true,46),(false,47),(true,48),(true,49),(true,50),(true,51),(true,52),(true,53),(false,54),(true,55),(true,56),(true,57),(true,58),(true,59),(true,60),(false,61),(true,62),(true,63),(true,65),(false,64),(false,66),(true,67),(true,68),(true,69)] none []] (okc (EJ _ _ h0) (ok1 ap2)) <|
 .cl (GH r0) fun r5 _ =>
 .ite (r5 == 0) (fun c0 =>
 .say [.gd 14003 true] (ok1 c0) <|
 .cl (NV 5 2 1) fun r6 _ =>
 .cl (GH r6) fun r7 _ =>
 .ite (r7 == 8) (fun c1 =>
 .say [.gd 14008 true] (ok1 c1) <|
 .cl (GH (bM.mk (-1) 0 ⟨#[]⟩ 0 ak.z)) fun r8 _ =>
 .ite (r8 == 24) (fun c2 =>
 .say [.gd 14013 true] (ok1 c2) <|
 .ite (r1.2 == 0) (fun c3 =>
 .say [.gd 14017 true] (ok1 c3) <|
 .ite (r2.2 == 0) (fun c4 =>
 .say [.gd 14021 true] (ok1 c4) <|
 .ite (r3.2 == 4) (fun c5 =>
 .say [.gd 14025 true] (ok1 c5) <|
 .cl (aj2 r2.1 r0) fun r9 _ =>
 .ite (r9) (fun c6 =>
 .say [.gd 14030 true] (ok1 c6) <|
 .ite (r4.2 == 0) (fun c7 =>
 .say [.gd 14034 true] (ok1 c7) <|
 .ite (decide ((5:Int) < (r4.1.size:Int))) (fun c8 =>
 .say [.gd 14039 true] (ok1 c8) <|
 .grd ((0:Int) ≤ 0 ∧ (0:Int) ≤ 5 ∧ 5 ≤ (r4.1.size:Int)) fun h1 =>
 .say [] (ok1 h1) <|
 .ite (decide ((r4.1.extract (0:Int).toNat (5:Int).toNat:ByteArray) = (⟨#[2,10,0,0,2]⟩ : ByteArray))) (fun c9 =>
 .say [.gd 14044 true] (ok1 c9) <|
 .ask (apg r0.kD) fun r10 h2 =>
 .say [.res (.lf (.rows 78 (r10.map ak.lf))),.num r10.length] (okc (akf _ _ h2) (ok1 (ln_ r10 ak.lf))) <|
 .ite ((r10.length:Int) == 1) (fun c10 =>
 .say [.gd 14051 true] (ok1 c10) <|
 .ask (Q51 r0.kD) fun r11 h3 =>
 .say [.res (.lf (.rows 1 (r11.map lfS))),.num r11.length] (okc (anS _ _ h3) (ok1 (ln_ r11 lfS))) <|
 .ite ((r11.length:Int) == 1) (fun c11 =>
 .say [.gd 14058 true] (ok1 c11) <|
 .cl (Y7 r0 r0) fun r12 _ =>
 .ite (r12) (fun c12 =>
 .say [.gd 14063 true] (ok1 c12) <|
 .cl (NV 4 1 1) fun r13 _ =>
 .cl (Y7 r13 r0) fun r14 _ =>
 .ret (bf 1) (!r14)) fun _ =>
 .stop) fun _ =>
 .stop) fun _ =>
 .stop) fun _ =>
 .stop) fun _ =>
 .stop) fun _ =>
 .stop) fun _ =>
 .stop) fun _ =>
 .stop) fun _ =>
 .stop) fun _ =>
 .stop) fun _ =>
 .stop) fun _ =>
 .stop) fun _ =>
 .stop
def apm  : Option (Bool) := Mo.den (anU )
theorem O9:FV (apm ) 13 [] (fun r=>.b_ r) := dU Tryz.func13 (by kernel_rfl) (fun _=>rfl) (by kernel_rfl)
def UH (p_s:ByteArray) (r0:bM × Int) (r1:ByteArray × Int) : Mo (Bool) :=
 .cl (GH r0.1) fun r2 _ =>
 .iG 16003 (r2 == 0) (.ret ⟨[.kill 0],[0,2,5,30],[],1⟩ (r1.2 == 0)) <|
 .ret ⟨[.kill 0],[0,2,5,30],[],1⟩ (false)
def UJ (p_s:ByteArray) (r0:ByteArray × Int) (r1:Bool) : Mo (Bool) :=
 .iG 16007 (r1) (.rt [2,35] 1 (decide ((p_s:ByteArray) = (r0.1:ByteArray)))) <|
 .rt [2,35] 1 (false)
def MC (r0:Bool) : Mo (Bool) :=
 .iG 16012 (r0) (.cl (O9) fun r1 _ =>
 .rt [2,38] 1 (r1)) <|
 .rt [2,38] 1 (false)
def MF (r0:Bool) : Mo (Unit) :=
 .rt [2] 1 ()
def alx (p_s:ByteArray) : Mo (Bool) :=
 .iB (decide ((20000:Int) < (p_s.size:Int))) (.cl (O9) fun r0 _ =>
 .ret (bf 1) (r0)) <|
 .cl (OW p_s) fun r1 _ =>
 .iB (r1.2 != 0) (.cl (O9) fun r2 _ =>
 .ret (bf 1) (r2)) <|
 .cl (EJ r1.1) fun r3 _ =>
 .sj Tryz.f7 0 [1,1,1,1,1,0] [0,1,2,3,4,5,6] 7 7 [0,2,3,5,6] 1 (fun r_=>⟨[(0,.lf (.str p_s)),(2,.b_ false),(5,.lf (.str r3.1)),(30,.b_ r_)],[.dead]⟩) ⟨[(0,.lf (.str p_s)),(2,.b_ false),(3,.ptr 0 0),(5,.lf (.str r3.1)),(6,.i_ r3.2)],[.box 51 (.agg ((bM.lf1 r1.1).map AV.lf))]⟩ (UH p_s r1 r3).den (sW (by kernel_rfl)) fun r4 _ =>
 .sj Tryz.f7 0 [1,1,1,1,1,0] [7,8,9,10,11] 7 5 [0,2,5,30] 1 (fun r_=>⟨[(2,.b_ false),(35,.b_ r_)],[.dead]⟩) ⟨[(0,.lf (.str p_s)),(2,.b_ false),(5,.lf (.str r3.1)),(30,.b_ r4)],[.dead]⟩ (UJ p_s r3 r4).den (sW (by kernel_rfl)) fun r5 _ =>
 .sj Tryz.f7 0 [1,1,1,1,1,0] [12,13,14] 7 3 [2,35] 1 (fun r_=>⟨[(2,.b_ false),(38,.b_ r_)],[.dead]⟩) ⟨[(2,.b_ false),(35,.b_ r5)],[.dead]⟩ (MC r5).den (sW (by kernel_rfl)) fun r6 _ =>
 .sj Tryz.f7 0 [1,1,1,1,1,0] [15] 7 1 [2,38] 1 (fun r_=>⟨[(2,.b_ r6)],[.dead]⟩) ⟨[(2,.b_ false),(38,.b_ r6)],[.dead]⟩ (MF r6).den (sW (by kernel_rfl)) fun r7 _ =>
 .ret (bf 1) (r6)
def Q55 (p_s:ByteArray) : Option (Bool) := Mo.den (alx p_s)
theorem anV (p_s:ByteArray) : FV (Q55 p_s) 7 [.lf (.str p_s)] (fun r=>.b_ r) := dU Tryz.func7 (by kernel_rfl) (fun _=>rfl) (by kernel_rfl)
end
end Go.Proofs.YtflpefkohpjjpaaGreatDoor
set_option linter.unusedSimpArgs false
set_option linter.unusedVariables false
namespace Go.Proofs.YtflpefkohpjjpaaGreatDoor
open Go.RowKit
set_option maxRecDepth 20000
set_option maxHeartbeats 4000000
noncomputable section
structure aqa where
 m1:(p_a:aj) → (p_b:aj) → Option (Int)
 ok1:∀ p_a p_b,FV (m1 p_a p_b) 125 [.dat (aj.lf1 p_a),.dat (aj.lf1 p_b)] (fun r=>.i_ r)
structure aqb where
 m1:(p_p:aC) → (p_levels:Int) → (p_left:Int) → Option (Int)
 ok1:∀ p_p p_levels p_left,FV (m1 p_p p_levels p_left) 198 [.dat (aC.lf1 p_p),.i_ p_levels,.i_ p_left] (fun r=>.i_ r)
structure aqc where
 m1:(p_a:aj) → (p_b:aj) → Option (Bool)
 ok1:∀ p_a p_b,FV (m1 p_a p_b) 200 [.dat (aj.lf1 p_a),.dat (aj.lf1 p_b)] (fun r=>.b_ r)
structure aqd where
 m1:(p_e:aG) → (p_number:Int) → (p_level:Int) → Option (Int × Int)
 ok1:∀ p_e p_number p_level,FV (m1 p_e p_number p_level) 321 [.dat (aG.lf1 p_e),.i_ p_number,.i_ p_level] (fun r=>.tup [.i_ r.1,.i_ r.2])
structure aqe where
 m1:(p_p:aC) → (p_elem:Bool) → Option (Int)
 ok1:∀ p_p p_elem,FV (m1 p_p p_elem) 199 [.dat (aC.lf1 p_p),.b_ p_elem] (fun r=>.i_ r)
structure aqf where
 m1:(p_a:aG) → (p_b:aG) → Option (Bool)
 ok1:∀ p_a p_b,FV (m1 p_a p_b) 201 [.dat (aG.lf1 p_a),.dat (aG.lf1 p_b)] (fun r=>.b_ r)
end
end Go.Proofs.YtflpefkohpjjpaaGreatDoor
set_option linter.unusedSimpArgs false
set_option linter.unusedVariables false
namespace Go.Proofs.YtflpefkohpjjpaaGreatDoor
open Go.RowKit
set_option maxRecDepth 20000
set_option maxHeartbeats 4000000
noncomputable section
structure aqg where
 m1:(p_s:aA) → (p_number:Int) → (p_level:Int) → Option (Int × Int)
 ok1:∀ p_s p_number p_level,FV (m1 p_s p_number p_level) 196 [.dat (aA.lf1 p_s),.i_ p_number,.i_ p_level] (fun r=>.tup [.i_ r.1,.i_ r.2])
end
end Go.Proofs.YtflpefkohpjjpaaGreatDoor
set_option linter.unusedSimpArgs false
set_option linter.unusedVariables false
namespace Go.Proofs.YtflpefkohpjjpaaGreatDoor
open Go.RowKit
theorem ru (s:ByteArray) (k:Nat) (h:k < s.size) : lF s (k:Int) = some s[k] := by
  unfold lF; rw [if_pos (by omega),Int.toNat_natCast]; exact getElem?_pos s k h
theorem dM {α:Type} (f : α → List Lf) {x : α} : ∀ {l:List α},x ∈ l → aQ (f x) ≤ aZ (l.map f)
  | y :: r,h=>by
    simp only [List.map_cons,aZ]
    rcases List.mem_cons.1 h with rfl | h
    · omega
    · have := dM f h; omega
theorem gX {α:Type} (f : α → List Lf) (hf:∀ x,1 ≤ aQ (f x)) : ∀ l:List α,l.length ≤ aZ (l.map f)
  | []=>by simp
  | x :: r=>by have := gX f hf r; have := hf x; simp only [List.map_cons,List.length_cons,aZ]; omega
theorem dw (v:aj) : aQ v.lf1 = 5 + v.fText.size + aZ (v.aU.map aj.lf) + aZ (v.aX.map aB.lf) := by simp only [aj.lf1,aQ,Lf.bulk]; omega
theorem fD (v:aB) : aQ v.lf1 = 1 + v.fName.size + aQ v.fValue.lf1 := by simp only [aB.lf1,jL,aQ,Lf.bulk]; omega
theorem lH (v:aV) : aQ v.lf1 = 2 + aZ (v.dh.map lfS) := by simp only [aV.lf1,aQ,Lf.bulk]; omega
theorem mM (v:bG) : aQ v.lf1 = 2 := by simp only [bG.lf1,aQ,Lf.bulk]
theorem oG (v:fA) : aQ v.lf1 = 3 + aZ (v.dB.map bG.lf) := by simp only [fA.lf1,aQ,Lf.bulk]; omega
theorem kU (v:aG) : aQ v.lf1 = 6 + aZ (v.dh.map lfS) + v.fName.size + aZ (v.fB.map lfS) + aQ v.fArg.lf1 + aZ (v.bW.map aG.lf) := by simp only [aG.lf1,jL,aQ,Lf.bulk]; omega
theorem jf (v:aC) : aQ v.lf1 = 6 + aZ (v.dh.map lfS) + aQ v.fArg.lf1 + aZ (v.fArgs.map aj.lf) + aQ v.dH.lf1 + aQ v.fExpr.lf1 + aZ (v.bW.map aC.lf) := by simp only [aC.lf1,jL,aQ,Lf.bulk]; omega
theorem jH (v:aK) : aQ v.lf1 = 6 + v.fName.size + aZ (v.gG.map aV.lf) + aQ v.bn.lf1 := by simp only [aK.lf1,jL,aQ,Lf.bulk]; omega
theorem oh (v:bC) : aQ v.lf1 = 1 + v.fName.size + aQ v.aW.lf1 := by simp only [bC.lf1,jL,aQ,Lf.bulk]; omega
theorem iP (v:aA) : aQ v.lf1 = 11 + aQ v.jO.lf1 + aQ v.jP.lf1 + aZ (v.jl.map aj.lf) + aZ (v.dN.map lfS) + aZ (v.dX.map bC.lf) + aZ (v.fC.map aA.lf) := by simp only [aA.lf1,jL,aQ,Lf.bulk]; omega
theorem oH (v:bV) : aQ v.lf1 = 4 + v.fName.size + aZ (v.cu.map aK.lf) + aQ v.aW.lf1 := by simp only [bV.lf1,jL,aQ,Lf.bulk]; omega
theorem kJ (v:ak) : aQ v.lf1 = 7 + v.fQ.size + aQ v.iy.lf1 + aQ v.aX.lf1 + aQ v.dJ.lf1 + aQ v.dD.lf1 + aQ v.aT.lf1 + v.lQ.size + aZ (v.dG.map ak.lf) + aZ (v.dO.map lfI) := by simp only [ak.lf1,jL,aQ,Lf.bulk]; omega
theorem rC (v:bM) : aQ v.lf1 = 4 + v.kC.size + aQ v.kD.lf1 := by simp only [bM.lf1,jL,aQ,Lf.bulk]; omega
theorem Pe (s:ByteArray) : aQ (lfS s) = s.size + 1 := by simp only [lfS,aQ,Lf.bulk,Nat.add_zero]
theorem Xb (n:Int) : aQ (lfI n) = 1 := by simp only [lfI,aQ,Lf.bulk]
theorem ji (l:List aj) : l.length ≤ aZ (l.map aj.lf) := gX _ (fun x=>by rw [aj.bD,dw]; omega) l
theorem iF (l:List aB) : l.length ≤ aZ (l.map aB.lf) := gX _ (fun x=>by rw [aB.bD,fD]; omega) l
theorem oI (l:List aV) : l.length ≤ aZ (l.map aV.lf) := gX _ (fun x=>by rw [aV.bD,lH]; omega) l
theorem Iq (l:List bG) : l.length ≤ aZ (l.map bG.lf) := gX _ (fun x=>by have := mM x; rw [bG.bD]; omega) l
theorem Df (l:List aG) : l.length ≤ aZ (l.map aG.lf) := gX _ (fun x=>by rw [aG.bD,kU]; omega) l
theorem wJ (l:List aC) : l.length ≤ aZ (l.map aC.lf) := gX _ (fun x=>by rw [aC.bD,jf]; omega) l
theorem nD (l:List aK) : l.length ≤ aZ (l.map aK.lf) := gX _ (fun x=>by rw [aK.bD,jH]; omega) l
theorem Dh (l:List bC) : l.length ≤ aZ (l.map bC.lf) := gX _ (fun x=>by rw [bC.bD,oh]; omega) l
theorem tZ (l:List aA) : l.length ≤ aZ (l.map aA.lf) := gX _ (fun x=>by rw [aA.bD,iP]; omega) l
theorem Ir (l:List ak) : l.length ≤ aZ (l.map ak.lf) := gX _ (fun x=>by rw [ak.bD,kJ]; omega) l
theorem kZ (l:List ByteArray) : l.length ≤ aZ (l.map lfS) := gX _ (fun x=>by rw [Pe]; omega) l
theorem Iu (l:List Int) : l.length ≤ aZ (l.map lfI) := gX _ (fun x=>by rw [Xb]; omega) l
theorem jT {x:aj} {l:List aj} (h:x ∈ l) : aQ x.lf1 ≤ aZ (l.map aj.lf) := by rw [← aj.bD]; exact dM _ h
theorem iC {x:aB} {l:List aB} (h:x ∈ l) : aQ x.lf1 ≤ aZ (l.map aB.lf) := by rw [← aB.bD]; exact dM _ h
theorem Di {x:aV} {l:List aV} (h:x ∈ l) : aQ x.lf1 ≤ aZ (l.map aV.lf) := dM _ h
theorem ahm {x:aG} {l:List aG} (h:x ∈ l) : aQ x.lf1 ≤ aZ (l.map aG.lf) := by rw [← aG.bD]; exact dM _ h
theorem UK {x:aC} {l:List aC} (h:x ∈ l) : aQ x.lf1 ≤ aZ (l.map aC.lf) := by rw [← aC.bD]; exact dM _ h
theorem MG {x:aK} {l:List aK} (h:x ∈ l) : aQ x.lf1 ≤ aZ (l.map aK.lf) := dM _ h
theorem UL {x:bC} {l:List bC} (h:x ∈ l) : aQ x.lf1 ≤ aZ (l.map bC.lf) := by rw [← bC.bD]; exact dM _ h
theorem Xc {x:aA} {l:List aA} (h:x ∈ l) : aQ x.lf1 ≤ aZ (l.map aA.lf) := by rw [← aA.bD]; exact dM _ h
theorem ab7 {x:ak} {l:List ak} (h:x ∈ l) : aQ x.lf1 ≤ aZ (l.map ak.lf) := by rw [← ak.bD]; exact dM _ h
theorem EM {x:ByteArray} {l:List ByteArray} (h:x ∈ l) : x.size + 1 ≤ aZ (l.map lfS) := by rw [← Pe]; exact dM _ h
/-- numbers -/
theorem rD (x:Int) : (strOfNums [x]).size = 1 := by rw [BA]; rfl
theorem akk (n:Int) : ∃ r,Q46 n = some r ∧ r.size ≤ 11 := by
  unfold Q46 alm Ux OX CV Uy
  simp only [Mo.den,aI,aN,aP,aO]
  have key:∀ a:Int,∃ r,((bT (fun v_:Int × ByteArray × Int=>(bif decide ((v_.2.2:Int) < 10) then some (decide ((128:Int) ≤ v_.1)) else some false).bind fun a_1=>bif a_1 then if v_.2.1.size + (strOfNums [eH .or .u8 (IntKind.wrap .u8 (Int.tmod v_.1 128)) 128]).size ≤ 9223372036854775807 then some (.inl (IntKind.wrap .u64 (Int.tdiv v_.1 128),v_.2.1 ++ strOfNums [eH .or .u8 (IntKind.wrap .u8 (Int.tmod v_.1 128)) 128],IntKind.wrap .i64 (v_.2.2 + 1))) else none else some (.inr (v_.1,v_.2.1))) FU (a,⟨#[]⟩,0)) = some r) ∧ (r:Int × ByteArray).2.size ≤ 10 := by
    intro a
    refine Qu 10 (by omega) (fun (k:Nat) (v:Int × ByteArray × Int)=>v.2.2 = (k:Int) ∧ v.2.1.size = k) (fun (r:Int × ByteArray)=>r.2.size ≤ 10) ⟨rfl,rfl⟩ ?_ ?_
    · rintro k ⟨u,s,i⟩ hk ⟨h1,h2⟩
      simp only at h1 h2
      subst h1
      simp only [decide_eq_true (show (k:Int) < 10 by omega),cond_true,Option.bind_some]
      cases decide ((128:Int) ≤ u) with
      | true =>
        left
        simp only [cond_true,rD,h2]
        rw [if_pos (by omega)]
        exact ⟨_,rfl,inc k (by omega),by rw [ByteArray.size_append,rD,h2]⟩
      | false=>right; exact ⟨_,rfl,by simp only; omega⟩
    · rintro ⟨u,s,i⟩ ⟨h1,h2⟩
      simp only at h1 h2
      subst h1
      exact ⟨_,rfl,by simp only; omega⟩
  have fin:∀ a:Int,∃ r,(Option.bind (bT (fun v_:Int × ByteArray × Int=>(bif decide ((v_.2.2:Int) < 10) then some (decide ((128:Int) ≤ v_.1)) else some false).bind fun a_1=>bif a_1 then if v_.2.1.size + (strOfNums [eH .or .u8 (IntKind.wrap .u8 (Int.tmod v_.1 128)) 128]).size ≤ 9223372036854775807 then some (.inl (IntKind.wrap .u64 (Int.tdiv v_.1 128),v_.2.1 ++ strOfNums [eH .or .u8 (IntKind.wrap .u8 (Int.tmod v_.1 128)) 128],IntKind.wrap .i64 (v_.2.2 + 1))) else none else some (.inr (v_.1,v_.2.1))) FU (a,⟨#[]⟩,0)) (fun r:Int × ByteArray=>if r.2.size + (strOfNums [IntKind.wrap .u8 r.1]).size ≤ 9223372036854775807 then some (r.2 ++ strOfNums [IntKind.wrap .u8 r.1]) else none)) = some r ∧ r.size ≤ 11 := by
    intro a
    obtain ⟨r,h1,h2⟩ := key a
    rw [h1]
    simp only [Option.bind_some,rD]
    rw [if_pos (by omega)]
    exact ⟨_,rfl,by rw [ByteArray.size_append,rD]; omega⟩
  cases decide (n < 0)
  · exact fin _
  · exact fin _
noncomputable def ahn (n:Int) : ByteArray := (Q46 n).getD ⟨#[]⟩
theorem Dj (n:Int) : (ahn n).size ≤ 11 := by
  obtain ⟨r,h,h2⟩ := akk n
  unfold ahn; rw [h]; exact h2
end Go.Proofs.YtflpefkohpjjpaaGreatDoor
set_option linter.unusedSimpArgs false
set_option linter.unusedVariables false
namespace Go.Proofs.YtflpefkohpjjpaaGreatDoor
open Go.RowKit
theorem jc : 1152921504606846975 < FU := by unfold FU; omega
def Tot {ρ:Type} (m:Option ρ) (Q : ρ → Prop) : Prop := ∃ r,m = some r ∧ Q r
def LP {σ ρ:Type} (P : σ → Prop) (Q : ρ → Prop) : σ ⊕ ρ → Prop
  | .inl s=>P s
  | .inr r=>Q r
def Any {ρ:Type} : ρ → Prop := fun _=>True
namespace T
variable {ρ α σ:Type}
theorem ret {Q : ρ → Prop} {r : ρ} (h:Q r) : Tot (some r) Q := ⟨r,rfl,h⟩
theorem any {r : ρ} : Tot (some r) Any := ⟨r,rfl,trivial⟩
theorem bind {m:Option α} {R : α → Prop} {k : α → Option ρ} {Q : ρ → Prop} (h:Tot m R) (h2:∀ a,R a → Tot (k a) Q) : Tot (m.bind k) Q := by
  obtain ⟨a,rfl,ha⟩ := h
  exact h2 a ha
theorem ite {b:Bool} {x y:Option ρ} {Q : ρ → Prop} (h1:b = true → Tot x Q) (h2:b = false → Tot y Q) : Tot (bif b then x else y) Q := by
  cases b
  · exact h2 rfl
  · exact h1 rfl
theorem grd {p:Prop} [Decidable p] {x:Option ρ} {Q : ρ → Prop} (h:p) (h2:Tot x Q) : Tot (if p then x else none) Q := by
  rw [if_pos h]; exact h2
theorem mono {m:Option ρ} {Q R : ρ → Prop} (h:Tot m Q) (h2:∀ r,Q r → R r) : Tot m R := by
  obtain ⟨r,h1,h3⟩ := h; exact ⟨r,h1,h2 r h3⟩
theorem wk {m:Option ρ} {Q : ρ → Prop} (h:Tot m Q) : Tot m Any := mono h fun _ _=>trivial
theorem val {m:Option ρ} {r : ρ} (h:m = some r) : Tot m (fun x=>x = r) := ⟨r,h,rfl⟩
theorem eq {m m':Option ρ} {Q : ρ → Prop} (e:m = m') (h:Tot m' Q) : Tot m Q := e ▸ h
theorem rE {T : σ → Option (σ ⊕ ρ)} {s0 : σ} (n:Nat) (hn:n ≤ 1000000000) (P:Nat → σ → Prop) (Q : ρ → Prop) (h0:P 0 s0) (step:∀ k s,k < n → P k s → Tot (T s) (LP (P (k + 1)) Q)) (fin:∀ s,P n s → Tot (T s) (LP (fun _=>False) Q)) : Tot (bT T FU s0) Q := by
  refine Qu n hn P Q h0 ?_ ?_
  · intro k s hk hP
    obtain ⟨r,h1,h2⟩ := step k s hk hP
    rcases r with v | r
    · exact .inl ⟨v,h1,h2⟩
    · exact .inr ⟨r,h1,h2⟩
  · intro s hP
    obtain ⟨r,h1,h2⟩ := fin s hP
    rcases r with v | r
    · exact h2.elim
    · exact ⟨r,h1,h2⟩
end T
theorem ltt {α:Type} {l:List α} {k:Nat} {x : α} (h:l[k]? = some x) : decide ((k:Int) < (l.length:Int)) = true := iLt (List.getElem?_eq_some_iff.1 h).1
theorem ltn (n:Nat) : decide ((n:Int) < (n:Int)) = false := apK (Nat.lt_irrefl _)
theorem gid {α:Type} {l:List α} {k:Nat} {x : α} (h:l[k]? = some x) : fO l (k:Int) = some x := by rw [ac9,h]
theorem anW {α:Type} {l:List α} {k:Nat} {x : α} (h:l[k]? = some x) : x ∈ l := List.mem_of_getElem? h
theorem Pg {α:Type} {l:List α} {k:Nat} {x : α} (h:l[k]? = some x) : k < l.length := (List.getElem?_eq_some_iff.1 h).1
theorem qA (l m:List (List Lf)) : aZ (l ++ m) = aZ l + aZ m := by
  induction l with
  | nil=>simp [aZ]
  | cons x l ih=>simp only [List.cons_append,aZ,ih]; omega
theorem rF {α:Type} (f : α → List Lf) {l:List α} {k:Nat} {x : α} (h:l[k]? = some x) : aZ ((l.take (k + 1)).map f) = aZ ((l.take k).map f) + aQ (f x) := by
  have hk := Pg h
  rw [List.take_succ_eq_append_getElem hk,List.map_append,qA]
  have:l[k] = x := by rw [List.getElem?_eq_getElem hk] at h; injection h
  simp only [this,List.map_cons,List.map_nil,aZ]; omega
theorem gZ {α:Type} (f : α → List Lf) (l:List α) (k:Nat) : aZ ((l.take k).map f) ≤ aZ (l.map f) := by
  have := qA ((l.take k).map f) ((l.drop k).map f)
  rw [← List.map_append,List.take_append_drop] at this; omega
/-- for the printed proofs -/
def MT {ρ:Type} (t:Mo ρ) (Q : ρ → Prop) : Prop := Tot t.den Q
namespace MT
variable {ρ α β γ:Type}
theorem ret {f:Fit} {r : ρ} {Q : ρ → Prop} (h:Q r) : MT (.ret f r) Q := ⟨r,rfl,h⟩
theorem any {f:Fit} {r : ρ} : MT (.ret f r) Any := ⟨r,rfl,trivial⟩
theorem say {qs:List Ans} {Φ:List Prop} {ok:dS Φ} {k:Mo ρ} {Q : ρ → Prop} (h:MT k Q) : MT (.say qs ok k) Q := h
theorem ite {b:Bool} {t:b = true → Mo ρ} {e:b = false → Mo ρ} {Q : ρ → Prop} (h1:∀ h,MT (t h) Q) (h2:∀ h,MT (e h) Q) : MT (.ite b t e) Q := by
  cases b
  · exact h2 rfl
  · exact h1 rfl
theorem grd {p:Prop} [d:Decidable p] {k:p → Mo ρ} {Q : ρ → Prop} (h:p) (h2:∀ h,MT (k h) Q) : MT (.grd p k) Q := by
  unfold MT Tot
  show ∃ r,Jy p _ = some r ∧ Q r
  unfold Jy
  cases d with
  | isTrue hh=>exact h2 hh
  | isFalse hh=>exact absurd h hh
theorem ask {m:Option α} {k:(a : α) → m = some a → Mo ρ} {R : α → Prop} {Q : ρ → Prop} (h:Tot m R) (h2:∀ a h,R a → MT (k a h) Q) : MT (.ask m k) Q := by
  obtain ⟨a,rfl,ha⟩ := h
  exact h2 a rfl ha
theorem fG {m:Option (α ⊕ β)} {k1:(a : α) → m = some (.inl a) → Mo ρ} {k2:(b : β) → m = some (.inr b) → Mo ρ} {R : α ⊕ β → Prop} {Q : ρ → Prop} (h:Tot m R) (h1:∀ a h,R (.inl a) → MT (k1 a h) Q) (h2:∀ b h,R (.inr b) → MT (k2 b h) Q) : MT (.fG m k1 k2) Q := by
  obtain ⟨a,rfl,ha⟩ := h
  rcases a with a | a
  · exact h1 a rfl ha
  · exact h2 a rfl ha
theorem Zx {m:Option (α ⊕ β ⊕ γ)} {k1:(a : α) → m = some (.inl a) → Mo ρ} {k2:(b : β) → m = some (.inr (.inl b)) → Mo ρ} {k3:(c : γ) → m = some (.inr (.inr c)) → Mo ρ} {R : α ⊕ β ⊕ γ → Prop} {Q : ρ → Prop} (h:Tot m R) (h1:∀ a h,R (.inl a) → MT (k1 a h) Q) (h2:∀ b h,R (.inr (.inl b)) → MT (k2 b h) Q) (h3:∀ b h,R (.inr (.inr b)) → MT (k3 b h) Q) : MT (.Zx m k1 k2 k3) Q := by
  obtain ⟨a,rfl,ha⟩ := h
  rcases a with a | a | a
  · exact h1 a rfl ha
  · exact h2 a rfl ha
  · exact h3 a rfl ha
end MT
/-- a call, shut -/
structure Clo {ρ:Type} (m:Option ρ) : Prop where
  h:Tot m Any
namespace MT
variable {ρ α β γ:Type}
theorem kK {m:Option α} {k:(a : α) → m = some a → Mo ρ} {Q : ρ → Prop} (h:Clo m) (h2:∀ a h,MT (k a h) Q) : MT (.ask m k) Q := ask h.h fun a h _=>h2 a h
theorem aly {m:Option (α ⊕ β)} {k1:(a : α) → m = some (.inl a) → Mo ρ} {k2:(b : β) → m = some (.inr b) → Mo ρ} {Q : ρ → Prop} (h:Clo m) (h1:∀ a h,MT (k1 a h) Q) (h2:∀ b h,MT (k2 b h) Q) : MT (.fG m k1 k2) Q := fG h.h (fun a h _=>h1 a h) (fun a h _=>h2 a h)
end MT
theorem dV {α:Type} (l:List α) (i:Int) (h0 : 0 ≤ i) (h1:i < l.length) : Tot (fO l i) (fun x=>x ∈ l) := by
  obtain ⟨x,h2,h3⟩ := ah4 h0 h1
  exact ⟨x,h2,List.mem_of_getElem? h3⟩
namespace T
variable {ρ σ:Type}
theorem akl {T : σ → Option (σ ⊕ ρ)} {s0 : σ} (c : σ → Int) (P : σ → Prop) (Q : ρ → Prop) (h0:c s0 = 0) (hP:P s0) (step:∀ (k:Nat) s,k ≤ 100000000 → c s = k → P s → Tot (T s) (LP (fun v=>c v = IntKind.wrap .i64 ((k:Int) + 1) ∧ P v ∧ k < 100000000) Q)) : Tot (bT T FU s0) Q := by
  refine xZ (fun s=>0 ≤ c s ∧ c s ≤ 100000000 ∧ P s) (fun s=>100000000 - (c s).toNat) Q ?_ FU s0 ⟨by omega,by omega,hP⟩ (by have := jc; omega)
  rintro s ⟨h1,h2,h3⟩
  obtain ⟨r,h4,h5⟩ := step (c s).toNat s (by omega) (by omega) h3
  rcases r with v | r
  · have h5:c v = IntKind.wrap .i64 (((c s).toNat:Int) + 1) ∧ P v ∧ (c s).toNat < 100000000 := h5
    have h6 := h5.1
    rw [inc _ (by omega)] at h6
    exact .inl ⟨v,h4,⟨by omega,by omega,h5.2.1⟩,by omega⟩
  · exact .inr ⟨r,h4,h5⟩
theorem cnt {T:Int → Option (Int ⊕ ρ)} (Q : ρ → Prop) (step:∀ k:Nat,k ≤ 100000000 → Tot (T (k:Int)) (LP (fun v=>v = IntKind.wrap .i64 ((k:Int) + 1) ∧ k < 100000000) Q)) : Tot (bT T FU 0) Q :=
  akl (fun v=>v) (fun _=>True) Q rfl trivial fun k s hk hs _=>by
    obtain rfl:s = (k:Int) := hs
    refine mono (step k hk) ?_
    rintro (v | r) h
    · exact ⟨h.1,trivial,h.2⟩
    · exact h
theorem apn {α:Type} {T : α × Int → Option ((α × Int) ⊕ ρ)} {a : α} (Q : ρ → Prop) (step:∀ (a : α) (k:Nat),k ≤ 100000000 → Tot (T (a,(k:Int))) (LP (fun v=>v.2 = IntKind.wrap .i64 ((k:Int) + 1) ∧ k < 100000000) Q)) : Tot (bT T FU (a,0)) Q :=
  akl (fun v=>v.2) (fun _=>True) Q rfl trivial fun k s hk hs _=>by
    obtain ⟨a,i⟩ := s
    obtain rfl:i = (k:Int) := hs
    refine mono (step a k hk) ?_
    rintro (v | r) h
    · exact ⟨h.1,trivial,h.2⟩
    · exact h
theorem Ja {α:Type} {T:Int × α → Option ((Int × α) ⊕ ρ)} {a : α} (Q : ρ → Prop) (step:∀ (k:Nat) (a : α),k ≤ 100000000 → Tot (T ((k:Int),a)) (LP (fun v=>v.1 = IntKind.wrap .i64 ((k:Int) + 1) ∧ k < 100000000) Q)) : Tot (bT T FU (0,a)) Q :=
  akl (fun v=>v.1) (fun _=>True) Q rfl trivial fun k s hk hs _=>by
    obtain ⟨i,a⟩ := s
    obtain rfl:i = (k:Int) := hs
    refine mono (step k a hk) ?_
    rintro (v | r) h
    · exact ⟨h.1,trivial,h.2⟩
    · exact h
end T
end Go.Proofs.YtflpefkohpjjpaaGreatDoor
set_option linter.unusedSimpArgs false
set_option linter.unusedVariables false
namespace Go.Proofs.YtflpefkohpjjpaaGreatDoor
open Go.RowKit
/-- codec.ReadNum -/
def RnQ (s:ByteArray) (a:Int) (x:Int × Int × Int) : Prop := x.2.2 = 0 → a < x.2.1 ∧ x.2.1 ≤ s.size
theorem UM (s:ByteArray) (hs:s.size ≤ 100000000) (a:Int) (h0 : 0 ≤ a) (h1:a ≤ s.size) : Tot (Q65 s a) (RnQ s a) := by
  unfold Q65 ale Uc
  simp only [Mo.den,aP,aI,aJ,aN,aO,decide_eq_false (show ¬ a < 0 by omega),decide_eq_false (show ¬ (s.size:Int) < a by omega),cond_false,Option.bind_some]
  obtain ⟨k,rfl⟩ := Int.eq_ofNat_of_zero_le h0
  have key:Tot (YO (k:Int) s 0 0) (RnQ s k) := by
    refine T.rE (s.size - k) (by omega) (fun i v=>v.2 = (i:Int) ∧ k + i ≤ s.size) _ ⟨rfl,by omega⟩ ?_ ?_
    · rintro i ⟨u,v⟩ hi ⟨hv,hk⟩
      have hv:v = (i:Int) := hv
      subst hv
      have e:IntKind.wrap .i64 ((k:Int) + (i:Int)) = ((k + i:Nat) : Int) := by rw [w64 (by omega) (by omega)]; rfl
      have hb:(((k + i:Nat) : Int) == (s.size:Int)) = false := by rw [beq_eq_false_iff_ne]; omega
      simp only [CB,Ud,Ls,Mo.den,aP,aI,aJ,aN,aO,e,hb,cond_false,ru s (k + i) (by omega),Option.bind_some]
      refine T.bind (R := Any) ?_ fun b _=>T.bind (R := Any) ?_ fun c _=>T.ite (fun _=>T.ret (fun h=>by cases h)) fun _=>T.grd ?_ (T.ite (fun _=>T.ret (fun _=>?_)) fun _=>T.ret ⟨?_,?_⟩)
      · exact T.ite (fun _=>T.any) fun _=>T.any
      · exact T.ite (fun _=>T.any) fun _=>T.ite (fun _=>T.any) fun _=>T.any
      · rw [w64 (by omega) (by omega)]; omega
      · show (k:Int) < IntKind.wrap .i64 (((k + i:Nat) : Int) + 1) ∧ IntKind.wrap .i64 (((k + i:Nat) : Int) + 1) ≤ (s.size:Int)
        rw [inc (k + i) (by omega)]; omega
      · exact inc i (by omega)
      · omega
    · rintro ⟨u,v⟩ ⟨hv,hk⟩
      have hv:v = ((s.size - k:Nat) : Int) := hv
      subst hv
      have e:IntKind.wrap .i64 ((k:Int) + ((s.size - k:Nat) : Int)) = (s.size:Int) := by rw [w64 (by omega) (by omega)]; omega
      simp only [CB,Mo.den,aP,aI,aJ,aN,aO,e,beq_self_eq_true,cond_true]
      exact T.ret (fun h=>by cases h)
  obtain ⟨r,h,hr⟩ := key
  rw [h]
  exact T.ret hr
/-- what is left to be read; 0 behind an error -/
def muR (r:ah) : Nat := if r.bH = true then 0 else ((r.dP.size:Int) - r.fat).toNat + 1
structure RdI (s:ByteArray) (r:ah) : Prop where
  tx:r.dP = s
  a0 : 0 ≤ r.fat
  a1:r.fat ≤ s.size
  l0 : 0 ≤ r.aY
  l1:r.aY ≤ 64
structure RC (s:ByteArray) (r r':ah) (z c:Nat) : Prop where
  i:RdI s r'
  l:r'.aY = r.aY
  m0:muR r = 0 → muR r' = 0 ∧ z ≤ c
  m1 : 1 ≤ muR r → muR r' < muR r ∧ z + 100 ≤ 100 * (muR r - muR r') + c
theorem RC.seq {s:ByteArray} {r r1 r2:ah} {z1 c1 z2 c2:Nat} (h:RC s r r1 z1 c1) (k:RC s r1 r2 z2 c2) (hc:c2 ≤ 100) : RC s r r2 (z1 + z2) (c1 + c2) := by
  refine ⟨k.i,k.l.trans h.l,fun h0=>?_,fun h1=>?_⟩
  · obtain ⟨a1,a2⟩ := h.m0 h0
    obtain ⟨b1,b2⟩ := k.m0 a1
    exact ⟨b1,by omega⟩
  · obtain ⟨a1,a2⟩ := h.m1 h1
    rcases Nat.eq_zero_or_pos (muR r1) with h0 | h0
    · obtain ⟨b1,b2⟩ := k.m0 h0
      exact ⟨by omega,by omega⟩
    · obtain ⟨b1,b2⟩ := k.m1 h0
      exact ⟨by omega,by omega⟩
theorem RC.z {s:ByteArray} {r r':ah} {z c z' c':Nat} (h:RC s r r' z c) (hz:z' ≤ z) (hc:c ≤ c') : RC s r r' z' c' :=
  ⟨h.i,h.l,fun h0=>⟨(h.m0 h0).1,by have := (h.m0 h0).2; omega⟩,fun h1=>⟨(h.m1 h1).1,by have := (h.m1 h1).2; omega⟩⟩
def Rdr {α:Type} (s:ByteArray) (F:ah → Option (α × ah)) (sz : α → Nat) (c:Nat) : Prop := ∀ r,RdI s r → Tot (F r) (fun x=>RC s r x.2 (sz x.1) c)
theorem anX {r:ah} (h:r.bH = true) : muR r = 0 := by unfold muR; rw [if_pos h]
theorem xG {r:ah} (h:r.bH = false) : muR r = ((r.dP.size:Int) - r.fat).toNat + 1 := by unfold muR; rw [h]; rfl
theorem akm {r:ah} (h:muR r = 0) : r.bH = true := by
  unfold muR at h
  split at h
  · assumption
  · omega
/-- an error -/
theorem RC.bad {s:ByteArray} {r r':ah} (hi:RdI s r') (hl:r'.aY = r.aY) (hb:r'.bH = true) : RC s r r' 1 1 := by
  have := anX hb
  exact ⟨hi,hl,fun _=>⟨this,Nat.le_refl _⟩,fun h=>⟨by omega,by omega⟩⟩
theorem gK (s:ByteArray) (hs:s.size ≤ 100000000) : Rdr s Q35 (fun _=>1) 1 := by
  intro r hr
  simp only [Q35,alf,Mo.den,aP,aI,aJ,aN,aO]
  refine T.ite (fun hb=>T.ret (RC.bad hr rfl hb)) fun hb=>?_
  rw [hr.tx]
  refine T.bind (UM s hs r.fat hr.a0 hr.a1) fun x hx=>T.ite (fun _=>T.ret ?_) fun he=>T.ret ?_
  · exact RC.bad ⟨rfl,hr.a0,hr.a1,hr.l0,hr.l1⟩ rfl rfl
  · have he : x.2.2 = 0 := by simpa using he
    obtain ⟨h1,h2⟩ := hx he
    have a0 := hr.a0
    have m1 := xG hb
    have m2:muR (ah.mk s x.2.1 r.aY r.bH) = ((s.size:Int) - x.2.1).toNat + 1 := xG hb
    rw [hr.tx] at m1
    refine ⟨⟨rfl,by show (0:Int) ≤ x.2.1; omega,h2,hr.l0,hr.l1⟩,rfl,fun h=>?_,fun _=>⟨?_,?_⟩⟩
    · rw [akm h] at hb; cases hb
    · show muR (ah.mk s x.2.1 r.aY r.bH) < _; omega
    · show 1 + 100 ≤ 100 * (muR r - muR (ah.mk s x.2.1 r.aY r.bH)) + 1; omega
theorem lg (s:ByteArray) (hs:s.size ≤ 100000000) : Rdr s Q60 (fun _=>1) 1 := by
  intro r hr
  have a0 := hr.a0
  have a1 := hr.a1
  simp only [Q60,afT,Hf,Mo.den,aP,aI,aJ,aN,aO]
  cases hb:r.bH with
  | true=>exact T.ret (RC.bad ⟨hr.tx,hr.a0,hr.a1,hr.l0,hr.l1⟩ rfl rfl)
  | false =>
    rw [hr.tx]
    simp only [cond_false]
    obtain ⟨k,hk⟩ := Int.eq_ofNat_of_zero_le a0
    rw [hk] at a1
    by_cases h:s.size ≤ k
    · rw [hk, decide_eq_true (show (s.size : Int) ≤ (k : Int) by omega)]
      exact T.ret (RC.bad ⟨rfl,by show (0:Int) ≤ (k:Int); omega,by show (k:Int) ≤ s.size; omega,hr.l0,hr.l1⟩ rfl rfl)
    · rw [hk, decide_eq_false (show ¬ (s.size : Int) ≤ (k : Int) by omega), ru s k (by omega)]
      simp only [cond_false,Option.bind_some]
      refine T.ite (fun _=>T.ret (RC.bad ⟨rfl,by show (0:Int) ≤ (k:Int); omega,by show (k:Int) ≤ s.size; omega,hr.l0,hr.l1⟩ rfl rfl)) fun _=>?_
      have e:IntKind.wrap .i64 (IntKind.wrap .i64 ((k:Int) + 1) - 1) = (k:Int) := by rw [inc k (by omega),w64 (by omega) (by omega)]; omega
      rw [e,ru s k (by omega),inc k (by omega)]
      simp only [Option.bind_some]
      have m1 := xG hb
      have m2:muR (ah.mk s ((k + 1:Nat) : Int) r.aY false) = ((s.size:Int) - ((k + 1:Nat) : Int)).toNat + 1 := xG rfl
      rw [hr.tx,hk] at m1
      refine T.ret ⟨⟨rfl,by show (0:Int) ≤ ((k + 1:Nat) : Int); omega,by show ((k + 1:Nat) : Int) ≤ s.size; omega,hr.l0,hr.l1⟩,rfl,fun h=>?_,fun _=>⟨?_,?_⟩⟩
      · rw [akm h] at hb; cases hb
      · show muR (ah.mk s ((k + 1:Nat) : Int) r.aY false) < _; omega
      · show 1 + 100 ≤ 100 * (muR r - muR (ah.mk s ((k + 1:Nat) : Int) r.aY false)) + 1; omega
theorem kL (s:ByteArray) (hs:s.size ≤ 100000000) : Rdr s Q72 (fun t=>t.size + 1) 1 := by
  intro r hr
  simp only [Q72,alg,Ue,Mo.den,aP,aI,aJ,aN,aO]
  refine T.bind (gK s hs r hr) fun x hx=>?_
  have hi := hx.i
  have a0 := hi.a0
  have a1 := hi.a1
  rw [hi.tx]
  have hbad:∀ y:ah,y = ah.mk s x.2.fat x.2.aY true → RC s r y ((⟨#[]⟩ : ByteArray).size + 1) 1 := fun y hy=>by
    subst hy
    exact RC.bad ⟨rfl,hi.a0,hi.a1,hi.l0,hi.l1⟩ hx.l rfl
  cases hb:x.2.bH with
  | true=>exact T.ret (hbad _ rfl)
  | false =>
    simp only [cond_false]
    by_cases h0:x.1 < 0
    · rw [decide_eq_true h0]; exact T.ret (hbad _ rfl)
    rw [decide_eq_false h0]
    simp only [cond_false,Option.bind_some]
    rw [w64 (x := (s.size:Int) - x.2.fat) (by omega) (by omega)]
    by_cases h1:(s.size:Int) - x.2.fat < x.1
    · rw [decide_eq_true h1]; exact T.ret (hbad _ rfl)
    rw [decide_eq_false h1]
    simp only [cond_false]
    rw [w64 (x := x.2.fat + x.1) (by omega) (by omega),w64 (x := x.2.fat + x.1 - x.1) (by omega) (by omega)]
    refine T.grd ⟨by omega,by omega,by omega⟩ (T.ret ?_)
    have hr0 : 1 ≤ muR r := by
      rcases Nat.eq_zero_or_pos (muR r) with h | h
      · have := akm (hx.m0 h).1; rw [this] at hb; cases hb
      · exact h
    obtain ⟨q1,q2⟩ := hx.m1 hr0
    have m1 := xG hb
    have m2:muR (ah.mk s (x.2.fat + x.1) x.2.aY false) = ((s.size:Int) - (x.2.fat + x.1)).toNat + 1 := xG rfl
    rw [hi.tx] at m1
    have hsz:(s.extract (x.2.fat + x.1 - x.1).toNat (x.2.fat + x.1).toNat).size = x.1.toNat := by
      rw [ByteArray.size_extract]; omega
    refine ⟨⟨rfl,by show (0:Int) ≤ x.2.fat + x.1; omega,by show x.2.fat + x.1 ≤ s.size; omega,hi.l0,hi.l1⟩,hx.l,fun h=>by omega,fun _=>⟨?_,?_⟩⟩
    · show muR (ah.mk s (x.2.fat + x.1) x.2.aY false) < _; omega
    · show (s.extract (x.2.fat + x.1 - x.1).toNat (x.2.fat + x.1).toNat).size + 1 + 100 ≤ 100 * (muR r - muR (ah.mk s (x.2.fat + x.1) x.2.aY false)) + 1
      rw [hsz]; omega
end Go.Proofs.YtflpefkohpjjpaaGreatDoor
set_option linter.unusedSimpArgs false
set_option linter.unusedVariables false
namespace Go.Proofs.YtflpefkohpjjpaaGreatDoor
open Go.RowKit
theorem Xd {α:Type} (lf : α → List Lf) (l:List α) (x : α) : aZ ((l ++ [x]).map lf) = aZ (l.map lf) + aQ (lf x) := by
  rw [List.map_append,qA]; simp only [List.map_cons,List.map_nil,aZ]; omega
/-- a list's reader: what is printed for each type of elements -/
noncomputable def lV {α:Type} (L:Int → (Int × ah × List α) → Option ((Int × ah × List α) ⊕ (ah × List α))) (r:ah) : Option (List α × ah) :=
  (Q35 r).bind fun q=>(bif decide (q.1 < 0) then some true else some (decide ((64:Int) ≤ q.2.aY))).bind fun c=>(bif c then some (ah.mk q.2.dP q.2.fat q.2.aY true) else some q.2).bind fun y =>
    (bT (L q.1) FU (0,ah.mk y.dP y.fat (IntKind.wrap .i64 (y.aY + 1)) y.bH,[])).bind fun z=>some (z.2,ah.mk z.1.dP z.1.fat (IntKind.wrap .i64 (z.1.aY - 1)) z.1.bH)
theorem aho {α:Type} (s:ByteArray) (hs:s.size ≤ 100000000) (F:ah → Option (α × ah)) (lf : α → List Lf) (c by_:Nat) (hc:c ≤ 100) (hby:by_ ≤ 2000)
    (L:Int → (Int × ah × List α) → Option ((Int × ah × List α) ⊕ (ah × List α)))
    (hL:∀ n v r l,L n (v,r,l) = (bif decide ((v:Int) < n) then some (!r.bH) else some false).bind fun b=>bif b then (F r).bind fun x=>if (l.length + [x.1].length) * by_ ≤ 140737488355328 then some (.inl (IntKind.wrap .i64 (v + 1),x.2,l ++ [x.1])) else none else some (.inr (r,l)))
    (r:ah) (hr:RdI s r) (hF:∀ y,RdI s y → y.aY = r.aY + 1 → Tot (F y) (fun x=>RC s y x.2 (aQ (lf x.1)) c)) : Tot (lV L r) (fun x=>RC s r x.2 (1 + aZ (x.1.map lf)) 1) := by
  unfold lV
  refine T.bind (gK s hs r hr) fun q hq=>?_
  have hi := hq.i
  -- an error ahead of the loop
  have dead:∀ y:ah,y.dP = s → 0 ≤ y.fat → y.fat ≤ s.size → y.aY = r.aY → y.bH = true → Tot ((bT (L q.1) FU (0,ah.mk y.dP y.fat (IntKind.wrap .i64 (y.aY + 1)) y.bH,[])).bind fun z=>some (z.2,ah.mk z.1.dP z.1.fat (IntKind.wrap .i64 (z.1.aY - 1)) z.1.bH)) (fun x=>RC s r x.2 (1 + aZ (x.1.map lf)) 1) := fun y h1 h2 h3 h4 h5=>by
    have l0 := hr.l0
    have l1 := hr.l1
    refine T.bind (R := fun z=>z = (ah.mk y.dP y.fat (IntKind.wrap .i64 (y.aY + 1)) y.bH,[])) (T.rE 0 (by omega) (fun _ v=>v = (0,ah.mk y.dP y.fat (IntKind.wrap .i64 (y.aY + 1)) y.bH,[])) _ rfl (fun k v h=>by omega) ?_) ?_
    · rintro v rfl
      rw [hL,h5]
      cases decide ((0:Int) < q.1) <;> exact T.ret rfl
    · rintro z rfl
      have e:IntKind.wrap .i64 (IntKind.wrap .i64 (y.aY + 1) - 1) = r.aY := by rw [w64 (x := y.aY + 1) (by omega) (by omega),w64 (by omega) (by omega),h4]; omega
      exact T.ret (RC.bad ⟨h1,h2,h3,by show (0:Int) ≤ IntKind.wrap .i64 (IntKind.wrap .i64 (y.aY + 1) - 1); rw [e]; exact l0,by show IntKind.wrap .i64 (IntKind.wrap .i64 (y.aY + 1) - 1) ≤ 64; rw [e]; exact l1⟩ e h5)
  have hdead := dead (ah.mk q.2.dP q.2.fat q.2.aY true) hi.tx hi.a0 hi.a1 hq.l rfl
  have l0 := hi.l0
  have l1 := hi.l1
  have hlv := hq.l
  by_cases h0:q.1 < 0
  · rw [decide_eq_true h0]; exact hdead
  rw [decide_eq_false h0]
  by_cases h1:(64:Int) ≤ q.2.aY
  · rw [decide_eq_true h1]; exact hdead
  rw [decide_eq_false h1]
  simp only [cond_false,Option.bind_some]
  rw [w64 (x := q.2.aY + 1) (by omega) (by omega)]
  have hmu:muR (ah.mk q.2.dP q.2.fat (q.2.aY + 1) q.2.bH) = muR q.2 := rfl
  have hm0:muR q.2 ≤ 100000001 := by
    unfold muR
    rw [hi.tx]
    have := hi.a0
    split <;> omega
  have key := xZ (T := L q.1) (fun v=>RdI s v.2.1 ∧ v.2.1.aY = q.2.aY + 1 ∧ muR v.2.1 ≤ muR q.2 ∧ v.2.2.length ≤ muR q.2 - muR v.2.1 ∧ aZ (v.2.2.map lf) ≤ 100 * (muR q.2 - muR v.2.1)) (fun v=>muR v.2.1)
    (fun z=>RdI s z.1 ∧ z.1.aY = q.2.aY + 1 ∧ muR z.1 ≤ muR q.2 ∧ aZ (z.2.map lf) ≤ 100 * (muR q.2 - muR z.1)) ?_ FU (0,ah.mk q.2.dP q.2.fat (q.2.aY + 1) q.2.bH,[]) ⟨⟨hi.tx,hi.a0,hi.a1,by show (0:Int) ≤ q.2.aY + 1; omega,by show q.2.aY + 1 ≤ 64; omega⟩,rfl,Nat.le_of_eq hmu,Nat.zero_le _,Nat.zero_le _⟩ (by show muR (ah.mk q.2.dP q.2.fat (q.2.aY + 1) q.2.bH) < FU; rw [hmu]; have := jc; omega)
  · obtain ⟨z,hz,k1,k2,k3,k4⟩ := key
    rw [hz]
    have e:IntKind.wrap .i64 (z.1.aY - 1) = r.aY := by rw [k2,w64 (by omega) (by omega),← hlv]; omega
    have hmz:muR (ah.mk z.1.dP z.1.fat (IntKind.wrap .i64 (z.1.aY - 1)) z.1.bH) = muR z.1 := rfl
    refine T.ret ⟨⟨k1.tx,k1.a0,k1.a1,by show (0:Int) ≤ IntKind.wrap .i64 (z.1.aY - 1); rw [e]; exact hr.l0,by show IntKind.wrap .i64 (z.1.aY - 1) ≤ 64; rw [e]; exact hr.l1⟩,e,fun h=>?_,fun h=>?_⟩
    · obtain ⟨a1,a2⟩ := hq.m0 h
      show muR (ah.mk z.1.dP z.1.fat (IntKind.wrap .i64 (z.1.aY - 1)) z.1.bH) = 0 ∧ _
      rw [hmz]
      exact ⟨by omega,by show 1 + aZ (z.2.map lf) ≤ 1; omega⟩
    · obtain ⟨a1,a2⟩ := hq.m1 h
      show muR (ah.mk z.1.dP z.1.fat (IntKind.wrap .i64 (z.1.aY - 1)) z.1.bH) < _ ∧ 1 + aZ (z.2.map lf) + 100 ≤ 100 * (muR r - muR (ah.mk z.1.dP z.1.fat (IntKind.wrap .i64 (z.1.aY - 1)) z.1.bH)) + 1
      rw [hmz]
      omega
  · rintro ⟨v,y,l⟩ ⟨i1,i2,i3,i4,i5⟩
    have i1:RdI s y := i1
    have i2:y.aY = q.2.aY + 1 := i2
    have i3:muR y ≤ muR q.2 := i3
    have i4:l.length ≤ muR q.2 - muR y := i4
    have i5:aZ (l.map lf) ≤ 100 * (muR q.2 - muR y) := i5
    rw [hL]
    cases hd:decide (v < q.1) with
    | false=>exact .inr ⟨_,rfl,i1,i2,i3,i5⟩
    | true =>
      simp only [cond_true,Option.bind_some]
      cases hb:y.bH with
      | true=>exact .inr ⟨_,rfl,i1,i2,i3,i5⟩
      | false =>
        have hy : 1 ≤ muR y := by rw [xG hb]; omega
        obtain ⟨x,hx,hr⟩ := hF y i1 (by rw [i2,hlv])
        obtain ⟨m1,m2⟩ := hr.m1 hy
        rw [hx]
        simp only [Bool.not_false,cond_true,Option.bind_some]
        have hlen:(l.length + [x.1].length) * by_ ≤ 140737488355328 := by
          have h2:l.length + [x.1].length ≤ 100000002 := by simp only [List.length_cons,List.length_nil]; omega
          exact Nat.le_trans (Nat.mul_le_mul h2 hby) (by decide)
        rw [if_pos hlen]
        refine .inl ⟨_,rfl,⟨hr.i,hr.l.trans i2,by show muR x.2 ≤ _; omega,?_,?_⟩,m1⟩
        · show (l ++ [x.1]).length ≤ muR q.2 - muR x.2
          rw [List.length_append,List.length_cons,List.length_nil]; omega
        · show aZ ((l ++ [x.1]).map lf) ≤ 100 * (muR q.2 - muR x.2)
          rw [Xd]; omega
end Go.Proofs.YtflpefkohpjjpaaGreatDoor
set_option linter.unusedSimpArgs false
set_option linter.unusedVariables false
namespace Go.Proofs.YtflpefkohpjjpaaGreatDoor
open Go.RowKit
def tb (t:Tr) : Nat := aQ (aj.lf t.gv)
theorem A8:∀ l:List Tr,Tr.gvs l = l.map Tr.gv
  | []=>by unfold Tr.gvs; rfl
  | x :: r=>by unfold Tr.gvs; rw [A8 r]; rfl
theorem UO (nm:ByteArray) (t:Tr) : ∀ (ns:List ByteArray) (ds:List Tr),ns.length = ds.length → Tr.gfs (ns ++ [nm]) (ds ++ [t]) = Tr.gfs ns ds ++ [.mk nm t.gv]
  | [],[],_=>by simp [Tr.gfs]
  | n :: nr,x :: r,h=>by
    rw [List.cons_append,List.cons_append]
    unfold Tr.gfs
    rw [UO nm t nr r (by simpa using h)]; rfl
theorem ahp (k i:Int) (s:ByteArray) (l:List Tr) (ns:List ByteArray) (ds:List Tr) : tb (.mk k i s l ns ds) = 5 + s.size + aZ ((Tr.gvs l).map aj.lf) + aZ ((Tr.gfs ns ds).map aB.lf) := by
  unfold tb
  rw [aj.bD,dw]
  unfold Tr.gv
  rfl
theorem rH (k:Nat) (i:Int) (s:ByteArray) : tb (kF k i s) = 5 + s.size := by
  unfold kF
  rw [ahp]
  simp [Tr.gvs,Tr.gfs,aZ]
def Gets (s:ByteArray) (f:Nat → Nat → Except Int (Tr × Nat × Nat)) : Prop := ∀ p bg t q bg',p ≤ s.size → bg ≤ 1024 → f p bg = .ok (t,q,bg') → p < q ∧ tb t + 1 ≤ 6 * (q - p)
theorem UQ {s:ByteArray} {f:Nat → Nat → Except Int (Tr × Nat × Nat)} (hg:Goes s f) (hf:Gets s f) : ∀ (n p bg:Nat) (acc l:List Tr) (q bg':Nat),p ≤ s.size → bg ≤ 1024 → rdL f n p bg acc = .ok (l,q,bg') → p ≤ q ∧ aZ ((Tr.gvs l).map aj.lf) ≤ aZ ((Tr.gvs acc).map aj.lf) + 6 * (q - p)
  | 0,p,bg,acc,l,q,bg',hp,hb,h=>by
    simp only [rdL] at h; injection h with h; injection h with h1 h2; injection h2 with h2 h3; subst h1 h2; exact ⟨Nat.le_refl _,by omega⟩
  | n + 1,p,bg,acc,l,q,bg',hp,hb,h=>by
    simp only [rdL] at h
    cases he:f p bg with
    | error e=>rw [he] at h; cases h
    | ok x =>
      obtain ⟨t,q1,b1⟩ := x
      rw [he] at h
      have h0 := hg _ _ _ _ _ hp hb he
      have h1 := hf _ _ _ _ _ hp hb he
      have h2 := UQ hg hf n q1 b1 _ _ _ _ h0.1 h0.2.2 h
      have e1:aZ ((Tr.gvs (acc ++ [t])).map aj.lf) = aZ ((Tr.gvs acc).map aj.lf) + tb t := by
        rw [A8,A8,List.map_append,List.map_append,qA]; simp only [List.map_cons,List.map_nil,aZ,tb]; omega
      rw [e1] at h2
      omega
theorem UR {s:ByteArray} {f:Nat → Nat → Except Int (Tr × Nat × Nat)} (hg:Goes s f) (hf:Gets s f) : ∀ (n p bg:Nat) (ns:List ByteArray) (ds:List Tr) (l:List ByteArray × List Tr) (q bg':Nat),p ≤ s.size → bg ≤ 1024 → ns.length = ds.length → rdF s f n p bg ns ds = .ok (l,q,bg') → p ≤ q ∧ aZ ((Tr.gfs l.1 l.2).map aB.lf) ≤ aZ ((Tr.gfs ns ds).map aB.lf) + 6 * (q - p)
  | 0,p,bg,ns,ds,l,q,bg',hp,hb,hl,h=>by
    simp only [rdF] at h; injection h with h; injection h with h1 h2; injection h2 with h2 h3; subst h1 h2; exact ⟨Nat.le_refl _,Nat.le_add_right _ _⟩
  | n + 1,p,bg,ns,ds,l,q,bg',hp,hb,hl,h=>by
    simp only [rdF] at h
    cases hn:lG s p with
    | error e=>rw [hn] at h; cases h
    | ok mq =>
      obtain ⟨m,q0⟩ := mq
      rw [hn] at h
      simp only at h
      have h0 := qW hp hn
      split at h
      · cases ht:kW s q0 m.toNat with
        | error e=>rw [ht] at h; cases h
        | ok tq =>
          obtain ⟨nm,q2⟩ := tq
          rw [ht] at h
          simp only at h
          have h3 := ny h0.2 ht
          split at h
          · cases he:f q2 bg with
            | error e=>rw [he] at h; cases h
            | ok x =>
              obtain ⟨t,q1,b1⟩ := x
              rw [he] at h
              have h4 := hg _ _ _ _ _ h3.2.1 hb he
              have h1 := hf _ _ _ _ _ h3.2.1 hb he
              have h2 := UR hg hf n q1 b1 _ _ _ _ _ h4.1 h4.2.2 (by rw [List.length_append,List.length_append,hl]; rfl) h
              have e1:aZ ((Tr.gfs (ns ++ [nm]) (ds ++ [t])).map aB.lf) = aZ ((Tr.gfs ns ds).map aB.lf) + (1 + nm.size + tb t) := by
                rw [UO _ _ _ _ hl,List.map_append,qA]
                simp only [List.map_cons,List.map_nil,aZ]
                rw [aB.bD,fD]
                unfold tb
                rw [aj.bD]
                show _ + (1 + nm.size + aQ t.gv.lf1 + 0) = _
                omega
              rw [e1] at h2
              omega
          · cases h
      · cases h
theorem UU {s:ByteArray} {p:Nat} {t:ByteArray} {q:Nat} (hp:p ≤ s.size) (h:textS s p = .ok (t,q)) : p + t.size < q := by
  unfold textS textF at h
  cases hn:dY s p with
  | error e=>rw [hn] at h; cases h
  | ok nq =>
    obtain ⟨m,r⟩ := nq
    rw [hn] at h
    simp only at h
    have h3 := jy hp hn
    split at h
    · have h4 := ny h3.2.1 h
      omega
    · cases h
theorem UW (s:ByteArray) : ∀ d,Gets s (rdT s d)
  | 0=>by intro p bg t q bg' _ _ h; simp [rdT] at h
  | d + 1=>by
    intro p bg t q bg' hp hb h
    have ih := UW s d
    have ig := sZ s d
    rw [rdT] at h
    have fin:∀ (t0:Tr) (q0 b0:Nat),(Except.ok (t0,q0,b0) : Except Int (Tr × Nat × Nat)) = .ok (t,q,bg') → t0 = t ∧ q0 = q := fun t0 q0 b0 h=>by
      injection h with h; injection h with h1 h2; injection h2 with h2 h3; exact ⟨h1,h2⟩
    by_cases c0 : 1024 ≤ bg
    · rw [if_pos c0] at h; cases h
    rw [if_neg c0] at h
    by_cases c1:s.size ≤ p
    · rw [if_pos c1] at h; cases h
    rw [if_neg c1] at h
    by_cases c2:bZ s p = 1 ∨ bZ s p = 2 ∨ bZ s p = 11
    · rw [if_pos c2] at h
      obtain ⟨rfl,rfl⟩ := fin _ _ _ h
      rw [rH]; exact ⟨by omega,by show 5 + 0 + 1 ≤ _; omega⟩
    rw [if_neg c2] at h
    by_cases c3:bZ s p = 3
    · rw [if_pos c3] at h
      cases hn:lG s (p + 1) with
      | error e=>rw [hn] at h; cases h
      | ok x =>
        obtain ⟨n,q0⟩ := x; rw [hn] at h
        obtain ⟨rfl,rfl⟩ := fin _ _ _ h
        have := qW (by omega) hn
        rw [rH]; exact ⟨by omega,by show 5 + 0 + 1 ≤ _; omega⟩
    rw [if_neg c3] at h
    by_cases c4:bZ s p = 10
    · rw [if_pos c4] at h
      cases hn:dY s (p + 1) with
      | error e=>rw [hn] at h; cases h
      | ok x =>
        obtain ⟨n,q0⟩ := x; rw [hn] at h
        obtain ⟨rfl,rfl⟩ := fin _ _ _ h
        have := jy (by omega) hn
        rw [rH]; exact ⟨by omega,by show 5 + 0 + 1 ≤ _; omega⟩
    rw [if_neg c4] at h
    by_cases c5:bZ s p = 9
    · rw [if_pos c5] at h
      split at h
      · cases h
      · split at h
        · cases h
        · obtain ⟨rfl,rfl⟩ := fin _ _ _ h
          rw [rH]; exact ⟨by omega,by show 5 + 0 + 1 ≤ _; omega⟩
    rw [if_neg c5] at h
    by_cases c6:bZ s p = 4
    · rw [if_pos c6] at h
      cases hn:textS s (p + 1) with
      | error e=>rw [hn] at h; cases h
      | ok x =>
        obtain ⟨n,q0⟩ := x; rw [hn] at h; simp only at h; have := UU (by omega) hn
        split at h
        · obtain ⟨rfl,rfl⟩ := fin _ _ _ h
          rw [rH]; exact ⟨by omega,by omega⟩
        · cases h
    rw [if_neg c6] at h
    by_cases c7:bZ s p = 7
    · rw [if_pos c7] at h
      cases hn:textS s (p + 1) with
      | error e=>rw [hn] at h; cases h
      | ok x =>
        obtain ⟨n,q0⟩ := x; rw [hn] at h; have := UU (by omega) hn
        obtain ⟨rfl,rfl⟩ := fin _ _ _ h
        rw [rH]; exact ⟨by omega,by omega⟩
    rw [if_neg c7] at h
    by_cases c8:bZ s p = 8
    · rw [if_pos c8] at h
      cases hn:kW s (p + 1) 12 with
      | error e=>rw [hn] at h; cases h
      | ok x =>
        obtain ⟨n,q0⟩ := x; rw [hn] at h; have := ny (by omega) hn
        obtain ⟨rfl,rfl⟩ := fin _ _ _ h
        rw [rH]; exact ⟨by omega,by omega⟩
    rw [if_neg c8] at h
    by_cases c9:bZ s p = 6
    · rw [if_pos c9] at h
      cases hn:dY s (p + 1) with
      | error e=>rw [hn] at h; cases h
      | ok x =>
        obtain ⟨n,q0⟩ := x; rw [hn] at h; simp only at h; have h1 := jy (by omega) hn
        cases hl:rdL (rdT s d) n.toNat q0 (bg + 1) [] with
        | error e=>rw [hl] at h; cases h
        | ok y =>
          obtain ⟨l,q2,b2⟩ := y
          rw [hl] at h
          have h2 := UQ ig ih _ _ _ _ _ _ _ h1.2.1 (by omega) hl
          obtain ⟨rfl,rfl⟩ := fin _ _ _ h
          have e0:aZ ((Tr.gvs []).map aj.lf) = 0 := by rw [A8]; rfl
          have e1:aZ ((Tr.gfs [] []).map aB.lf) = 0 := by simp [Tr.gfs,aZ]
          rw [ahp,e1]
          rw [e0] at h2
          exact ⟨by omega,by show 5 + 0 + _ + 0 + 1 ≤ _; omega⟩
    rw [if_neg c9] at h
    by_cases c10:bZ s p = 5
    · rw [if_pos c10] at h
      cases hn:dY s (p + 1) with
      | error e=>rw [hn] at h; cases h
      | ok x =>
        obtain ⟨n,q0⟩ := x; rw [hn] at h; simp only at h; have h1 := jy (by omega) hn
        cases hl:rdF s (rdT s d) n.toNat q0 (bg + 1) [] [] with
        | error e=>rw [hl] at h; cases h
        | ok y =>
          obtain ⟨⟨ns,ds⟩,q2,b2⟩ := y
          rw [hl] at h
          have h2 := UR ig ih _ _ _ _ _ _ _ _ h1.2.1 (by omega) rfl hl
          obtain ⟨rfl,rfl⟩ := fin _ _ _ h
          have e0:aZ ((Tr.gvs []).map aj.lf) = 0 := by rw [A8]; rfl
          have e1:aZ ((Tr.gfs [] []).map aB.lf) = 0 := by simp [Tr.gfs,aZ]
          rw [ahp,e0]
          rw [e1] at h2
          have h2:q0 ≤ q2 ∧ aZ ((Tr.gfs ns ds).map aB.lf) ≤ 0 + 6 * (q2 - q0) := h2
          exact ⟨by omega,by show 5 + 0 + 0 + _ + 1 ≤ _; omega⟩
    rw [if_neg c10] at h
    cases h
end Go.Proofs.YtflpefkohpjjpaaGreatDoor
set_option linter.unusedSimpArgs false
set_option linter.unusedVariables false
namespace Go.Proofs.YtflpefkohpjjpaaGreatDoor
open Go.RowKit
theorem anY {c:Int} (h:Bad c) : okI c = true := by
  rcases h with rfl | rfl | rfl <;> decide
theorem anZ {n:Nat} (h:n ≤ 100000000) : okI (n:Int) = true := by
  unfold okI
  rw [decide_eq_true (show (-9223372036854775808:Int) ≤ (n:Int) by omega),decide_eq_true (show (n:Int) ≤ 9223372036854775807 by omega)]; rfl
theorem ahq (s:ByteArray) (hs:s.size ≤ 100000000) (a:Int) (h0 : 0 ≤ a) (h1:a ≤ s.size) : Tot (adw s a) (fun r=>r.2.2 = 0 → a < r.2.1 ∧ r.2.1 ≤ s.size ∧ (aQ r.1.lf1:Int) + 1 ≤ 6 * (r.2.1 - a)) := by
  obtain ⟨k,rfl⟩ := Int.eq_ofNat_of_zero_le h0
  have hb:Nat.ble s.size 1000000000000000 = true := Nat.ble_eq_true_of_le (by omega)
  have e:FW s (k:Int) = xC (rdT s 16 k 0) := by
    unfold FW
    rw [if_neg (by omega),Int.toNat_natCast]
  unfold adw
  rw [hb]
  unfold Ya
  rw [e]
  cases hr:rdT s 16 k 0 with
  | error c =>
    have hc := Za s 16 _ _ _ hr
    have h2:okI (xC (.error c)).2.1 = true := by show okI 0 = true; decide
    have h3:okI (xC (.error c)).2.2 = true := anY hc
    rw [h2,h3]
    refine T.ret fun h=>?_
    have h:c = 0 := h
    rcases hc with rfl | rfl | rfl <;> cases h
  | ok x =>
    obtain ⟨t,q,b⟩ := x
    obtain ⟨g1,_,_⟩ := sZ s 16 _ _ _ _ _ (by omega) (by omega) hr
    obtain ⟨g2,g3⟩ := UW s 16 _ _ _ _ _ (by omega) (by omega) hr
    have h2:okI (xC (.ok (t,q,b))).2.1 = true := anZ (by omega)
    have h3:okI (xC (.ok (t,q,b))).2.2 = true := by show okI 0 = true; decide
    rw [h2,h3]
    refine T.ret fun _=>?_
    show (k:Int) < (q:Int) ∧ (q:Int) ≤ (s.size:Int) ∧ ((aQ t.gv.lf1:Nat) : Int) + 1 ≤ 6 * ((q:Int) - (k:Int))
    unfold tb at g3
    rw [aj.bD] at g3
    exact ⟨by omega,by omega,by omega⟩
theorem RC.add {s:ByteArray} {r r':ah} {z c:Nat} (k:Nat) (h:RC s r r' z c) : RC s r r' (z + k) (c + k) :=
  ⟨h.i,h.l,fun h0=>⟨(h.m0 h0).1,by have := (h.m0 h0).2; omega⟩,fun h1=>⟨(h.m1 h1).1,by have := (h.m1 h1).2; omega⟩⟩
theorem ab8 (s:ByteArray) (hs:s.size ≤ 100000000) (r:ah) (hr:RdI s r) : Tot (Q60 r) (fun x=>RC s r x.2 1 1 ∧ (x.1 = true → x.2.bH = false)) := by
  obtain ⟨x,hx,hc⟩ := lg s hs r hr
  refine ⟨x,hx,hc,fun ht=>?_⟩
  simp only [Q60,afT,Hf,Mo.den,aP,aI,aJ,aN,aO] at hx
  obtain ⟨b,hb,hx⟩ := Fh hx
  cases b with
  | true=>injection hx with hx; rw [← hx] at ht; cases ht
  | false =>
    simp only [cond_false] at hx
    obtain ⟨u,_,hx⟩ := Fh hx
    injection hx with hx
    rw [← hx]
    cases hf:r.bH with
    | false=>rfl
    | true=>rw [hf] at hb; cases hb
theorem lJ (s:ByteArray) (hs:s.size ≤ 100000000) : Rdr s Q97 (fun v=>aQ v.lf1) 5 := by
  intro r hr
  have hz:aQ (aj.mk 0 0 ⟨#[]⟩ [] []).lf1 = 1 + 4 := by rw [dw]; rfl
  simp only [Q97,alh,Mo.den,aP,aI,aJ,aN,aO]
  refine T.bind (ab8 s hs r hr) fun x hx=>?_
  obtain ⟨hc,ht⟩ := hx
  have hi := hc.i
  refine T.ite (fun _=>T.ret (by show RC s r x.2 (aQ (aj.mk 0 0 ⟨#[]⟩ [] []).lf1) 5; rw [hz]; exact hc.add 4)) fun hb=>?_
  have hb:x.1 = true := by simpa using hb
  have hf := ht hb
  rw [hi.tx]
  refine T.bind (ahq s hs x.2.fat hi.a0 hi.a1) fun y hy=>T.ite (fun _=>T.ret ?_) fun he=>T.ret ?_
  · show RC s r (ah.mk s x.2.fat x.2.aY true) (aQ (aj.mk 0 0 ⟨#[]⟩ [] []).lf1) 5
    rw [hz]
    have hbad:RC s r (ah.mk s x.2.fat x.2.aY true) 1 1 := RC.bad ⟨rfl,hi.a0,hi.a1,hi.l0,hi.l1⟩ hc.l rfl
    exact hbad.add 4
  · obtain ⟨k1, k2, k3⟩ := hy (by simpa using he)
    have hr0 : 1 ≤ muR r := by
      rcases Nat.eq_zero_or_pos (muR r) with h | h
      · have := akm (hc.m0 h).1; rw [this] at hf; cases hf
      · exact h
    obtain ⟨q1,q2⟩ := hc.m1 hr0
    have a0 := hi.a0
    have m1 := xG hf
    have m2:muR (ah.mk s y.2.1 x.2.aY x.2.bH) = ((s.size:Int) - y.2.1).toNat + 1 := xG hf
    rw [hi.tx] at m1
    refine ⟨⟨rfl,by show (0:Int) ≤ y.2.1; omega,k2,hi.l0,hi.l1⟩,hc.l,fun h=>by omega,fun _=>⟨?_,?_⟩⟩
    · show muR (ah.mk s y.2.1 x.2.aY x.2.bH) < _; omega
    · show aQ y.1.lf1 + 100 ≤ 100 * (muR r - muR (ah.mk s y.2.1 x.2.aY x.2.bH)) + 5; omega
end Go.Proofs.YtflpefkohpjjpaaGreatDoor
set_option linter.unusedSimpArgs false
set_option linter.unusedVariables false
namespace Go.Proofs.YtflpefkohpjjpaaGreatDoor
open Go.RowKit
/-- one round of a list's reader -/
noncomputable def Dl {α:Type} (F:ah → Option (α × ah)) (by_:Nat) (n:Int) : (Int × ah × List α) → Option ((Int × ah × List α) ⊕ (ah × List α)) :=
  fun v=>(bif decide ((v.1:Int) < n) then some (!v.2.1.bH) else some false).bind fun b=>bif b then (F v.2.1).bind fun x=>if (v.2.2.length + [x.1].length) * by_ ≤ 140737488355328 then some (.inl (IntKind.wrap .i64 (v.1 + 1),x.2,v.2.2 ++ [x.1])) else none else some (.inr (v.2.1,v.2.2))
theorem kM {α:Type} {s:ByteArray} (hs:s.size ≤ 100000000) {F:ah → Option (α × ah)} {lf : α → List Lf} {c by_:Nat} (hc:c ≤ 100) (hby:by_ ≤ 2000) {r:ah} (hr:RdI s r) (hF:∀ y,RdI s y → y.aY = r.aY + 1 → Tot (F y) (fun x=>RC s y x.2 (aQ (lf x.1)) c)) : Tot (lV (Dl F by_) r) (fun x=>RC s r x.2 (1 + aZ (x.1.map lf)) 1) :=
  aho s hs F lf c by_ hc hby (Dl F by_) (fun n v y l=>rfl) r hr hF
theorem uf (s:ByteArray) (hs:s.size ≤ 100000000) : Rdr s Q12 (fun l=>1 + aZ (l.map lfS)) 1 := fun r hr=>by
  have h := kM hs (F := ajv) (lf := lfS) (c := 1) (by_ := 16) (by omega) (by omega) hr fun y hy _ => by
    obtain ⟨x,hx,hc⟩ := kL s hs y hy
    refine ⟨x,?_,(by show RC s y x.2 (aQ (lfS x.1)) 1; rw [Pe]; exact hc)⟩
    simp only [ajv,afU,Mo.den,aP,aI,aJ,aN,aO,hx,Option.bind_some]
  refine T.eq ?_ h
  unfold Q12 ali lV Dl
  simp only [Mo.den,aP,aI,aJ,aN,aO,Uf,WO,Hg,Ov,CG,Lu]
theorem ab9 (s:ByteArray) (hs:s.size ≤ 100000000) : Rdr s afX (fun x=>aQ x.lf1) 2 := fun r hr=>by
  simp only [afX,afW,Mo.den,aP,aI,aJ,aN,aO]
  refine T.bind (uf s hs r hr) fun x1 h1=>T.bind (lg s hs _ h1.i) fun x2 h2=>T.ret ?_
  exact (h1.seq h2 (by omega)).z (by show aQ (aV.mk x1.1 x2.1).lf1 ≤ _; rw [lH]; show 2 + aZ (x1.1.map lfS) ≤ 1 + aZ (x1.1.map lfS) + 1; omega) (by omega)
end Go.Proofs.YtflpefkohpjjpaaGreatDoor
set_option linter.unusedSimpArgs false
set_option linter.unusedVariables false
namespace Go.Proofs.YtflpefkohpjjpaaGreatDoor
open Go.RowKit
theorem ahr (s:ByteArray) (hs:s.size ≤ 100000000) : Rdr s Q20 (fun l=>1 + aZ (l.map lfI)) 1 := fun r hr=>by
  have h := kM hs (F := ajL) (lf := lfI) (c := 1) (by_ := 8) (by omega) (by omega) hr fun y hy _ => (by
    obtain ⟨x,hx,hc⟩ := gK s hs y hy
    refine ⟨x,?_,(by show RC s y x.2 (aQ (lfI x.1)) 1; rw [Xb]; exact hc)⟩
    simp only [ajL,agn,Mo.den,aP,aI,aJ,aN,aO,hx,Option.bind_some])
  refine T.eq ?_ h
  unfold Q20 alk lV Dl
  simp only [Mo.den,aP,aI,aJ,aN,aO,Uu,WY,Ic,OT,CS,LV]
theorem Iw (s:ByteArray) (hs:s.size ≤ 100000000) : Rdr s Q6 (fun l=>1 + aZ (l.map aj.lf)) 1 := fun r hr=>by
  have h := kM hs (F := Q97) (lf := aj.lf) (c := 5) (by_ := 80) (by omega) (by omega) hr fun y hy _=>(by simp only [aj.bD]; exact lJ s hs y hy)
  refine T.eq ?_ h
  unfold Q6 aoZ lV Dl
  simp only [Mo.den,aP,aI,aJ,aN,aO,YQ,af0,Oz,WR,Ht,Ui]
theorem Xe (s:ByteArray) (hs:s.size ≤ 100000000) : Rdr s Q7 (fun l=>1 + aZ (l.map aV.lf)) 1 := fun r hr=>by
  have h := kM hs (F := afX) (lf := aV.lf) (c := 2) (by_ := 32) (by omega) (by omega) hr fun y hy _=>(by simp only [aV.bD]; exact ab9 s hs y hy)
  refine T.eq ?_ h
  unfold Q7 aoX lV Dl
  simp only [Mo.den,aP,aI,aJ,aN,aO,YP,afY,Ox,WQ,Hr,Ug]
theorem acd (s:ByteArray) (hs:s.size ≤ 100000000) : Rdr s af5 (fun x=>aQ x.lf1) 2 := fun r hr=>by
  unfold af5 af4
  simp only [Mo.den,aP,aI,aJ,aN,aO]
  refine T.bind (gK s hs _ hr) fun x1 k1=>?_
  refine T.bind (gK s hs _ k1.i) fun x2 h2=>?_
  have k2 := k1.seq h2 (by decide)
  have hb := mM (bG.mk x1.1 x2.1)
  try dsimp only at hb
  dsimp only at k2
  exact T.ret (k2.z (by dsimp only; omega) (by omega))
theorem Xf (s:ByteArray) (hs:s.size ≤ 100000000) : Rdr s Q8 (fun l=>1 + aZ (l.map bG.lf)) 1 := fun r hr=>by
  have h := kM hs (F := af5) (lf := bG.lf) (c := 2) (by_ := 16) (by omega) (by omega) hr fun y hy _=>(by simp only [bG.bD]; exact acd s hs y hy)
  refine T.eq ?_ h
  unfold Q8 ao0 lV Dl
  simp only [Mo.den,aP,aI,aJ,aN,aO,YR,af6,OB,WS,Hu,Uk]
theorem Ph (s:ByteArray) (hs:s.size ≤ 100000000) (n:Nat) : ∀ F,2 * n ≤ F → ∀ r,RdI s r → (64:Int) - r.aY < (n:Int) → Tot ((oz F).m1 r) (fun x=>RC s r x.2 (aQ x.1.lf1) 11) := by
  induction n with
  | zero=>intro F _ r hr h; exact absurd h (by have := hr.l1; omega)
  | succ n ih =>
    intro F hF r hr hn
    obtain ⟨G,rfl⟩ : ∃ G,F = G + 2 := ⟨F - 2,by omega⟩
    have hl:∀ r,RdI s r → (64:Int) - r.aY < ((n + 1:Nat) : Int) → Tot ((oz (G + 1)).m2 r) (fun x=>RC s r x.2 (1 + aZ (x.1.map aG.lf)) 1) := fun r hr hn=>by
      have h := kM hs (F := (oz G).m1) (lf := aG.lf) (c := 11) (by_ := 184) (by omega) (by omega) hr fun y hy hv=>(by simp only [aG.bD]; exact ih G (by omega) y hy (by omega))
      refine T.eq ?_ h
      show Mo.den (YS (oz G) r) = _
      unfold YS lV Dl
      simp only [Mo.den,aP,aI,aJ,aN,aO,Um,WT,Hw,OE,CJ,LD]
    show Tot (Mo.den (OD (oz (G + 1)) r)) _
    unfold OD
    simp only [Mo.den,aP,aI,aJ,aN,aO]
    refine T.bind (gK s hs _ hr) fun x1 k1=>?_
    refine T.bind (uf s hs _ k1.i) fun x2 h2=>?_
    have k2 := k1.seq h2 (by decide)
    refine T.bind (kL s hs _ k2.i) fun x3 h3=>?_
    have k3 := k2.seq h3 (by decide)
    refine T.bind (uf s hs _ k3.i) fun x4 h4=>?_
    have k4 := k3.seq h4 (by decide)
    refine T.bind (lJ s hs _ k4.i) fun x5 h5=>?_
    have k5 := k4.seq h5 (by decide)
    refine T.bind (gK s hs _ k5.i) fun x6 h6=>?_
    have k6 := k5.seq h6 (by decide)
    refine T.bind (hl _ k6.i (by have := k6.l; omega)) fun x7 h7=>?_
    have k7 := k6.seq h7 (by decide)
    have hb := kU (aG.mk x1.1 x2.1 x3.1 x4.1 x5.1 x6.1 x7.1)
    simp only [aG.fOp,aG.dh,aG.fName,aG.fB,aG.fArg,aG.fN,aG.bW] at hb
    dsimp only at k7
    exact T.ret (k7.z (by dsimp only; omega) (by omega))
theorem ahs (s:ByteArray) (hs:s.size ≤ 100000000) : Rdr s ao2 (fun x=>aQ x.lf1) 11 := fun r hr=>Ph s hs 66 FU (by have := jc; omega) r hr (by have := hr.l0; omega)
theorem Pj (s:ByteArray) (hs:s.size ≤ 100000000) (n:Nat) : ∀ F,2 * n ≤ F → ∀ r,RdI s r → (64:Int) - r.aY < (n:Int) → Tot ((oC F).m1 r) (fun x=>RC s r x.2 (aQ x.1.lf1) 25) := by
  induction n with
  | zero=>intro F _ r hr h; exact absurd h (by have := hr.l1; omega)
  | succ n ih =>
    intro F hF r hr hn
    obtain ⟨G,rfl⟩ : ∃ G,F = G + 2 := ⟨F - 2,by omega⟩
    have hl:∀ r,RdI s r → (64:Int) - r.aY < ((n + 1:Nat) : Int) → Tot ((oC (G + 1)).m2 r) (fun x=>RC s r x.2 (1 + aZ (x.1.map aC.lf)) 1) := fun r hr hn=>by
      have h := kM hs (F := (oC G).m1) (lf := aC.lf) (c := 25) (by_ := 400) (by omega) (by omega) hr fun y hy hv=>(by simp only [aC.bD]; exact ih G (by omega) y hy (by omega))
      refine T.eq ?_ h
      show Mo.den (YT (oC G) r) = _
      unfold YT lV Dl
      simp only [Mo.den,aP,aI,aJ,aN,aO,Un,WU,Hz,OH,CO,LH]
    show Tot (Mo.den (OG (oC (G + 1)) r)) _
    unfold OG
    simp only [Mo.den,aP,aI,aJ,aN,aO]
    refine T.bind (gK s hs _ hr) fun x1 k1=>?_
    refine T.bind (uf s hs _ k1.i) fun x2 h2=>?_
    have k2 := k1.seq h2 (by decide)
    refine T.bind (lJ s hs _ k2.i) fun x3 h3=>?_
    have k3 := k2.seq h3 (by decide)
    refine T.bind (Iw s hs _ k3.i) fun x4 h4=>?_
    have k4 := k3.seq h4 (by decide)
    refine T.bind (gK s hs _ k4.i) fun x5 h5=>?_
    have k5 := k4.seq h5 (by decide)
    refine T.bind (gK s hs _ k5.i) fun x6 h6=>?_
    have k6 := k5.seq h6 (by decide)
    refine T.bind (gK s hs _ k6.i) fun x7 h7=>?_
    have k7 := k6.seq h7 (by decide)
    refine T.bind (Xf s hs _ k7.i) fun x8 h8=>?_
    have k8 := k7.seq h8 (by decide)
    refine T.bind (gK s hs _ k8.i) fun x9 h9=>?_
    have k9 := k8.seq h9 (by decide)
    refine T.bind (ahs s hs _ k9.i) fun x10 h10=>?_
    have k10 := k9.seq h10 (by decide)
    refine T.bind (hl _ k10.i (by have := k10.l; omega)) fun x11 h11=>?_
    have k11 := k10.seq h11 (by decide)
    have hb := jf (aC.mk x1.1 x2.1 x3.1 x4.1 x5.1 x6.1 (fA.mk x7.1 x8.1 x9.1) x10.1 x11.1)
    have hsh := oG (fA.mk x7.1 x8.1 x9.1)
    simp only [aC.fOp,aC.dh,aC.fArg,aC.fArgs,aC.fN,aC.fM,aC.dH,aC.fExpr,aC.bW] at hb
    try dsimp only at hsh
    dsimp only at k11
    exact T.ret (k11.z (by dsimp only; omega) (by omega))
theorem aht (s:ByteArray) (hs:s.size ≤ 100000000) : Rdr s ao3 (fun x=>aQ x.lf1) 25 := fun r hr=>Pj s hs 66 FU (by have := jc; omega) r hr (by have := hr.l0; omega)
theorem MI (s:ByteArray) (hs:s.size ≤ 100000000) : Rdr s agd (fun x=>aQ x.lf1) 31 := fun r hr=>by
  unfold agd agc
  simp only [Mo.den,aP,aI,aJ,aN,aO]
  refine T.bind (kL s hs _ hr) fun x1 k1=>?_
  refine T.bind (gK s hs _ k1.i) fun x2 h2=>?_
  have k2 := k1.seq h2 (by decide)
  refine T.bind (Xe s hs _ k2.i) fun x3 h3=>?_
  have k3 := k2.seq h3 (by decide)
  refine T.bind (lg s hs _ k3.i) fun x4 h4=>?_
  have k4 := k3.seq h4 (by decide)
  refine T.bind (lg s hs _ k4.i) fun x5 h5=>?_
  have k5 := k4.seq h5 (by decide)
  refine T.bind (lg s hs _ k5.i) fun x6 h6=>?_
  have k6 := k5.seq h6 (by decide)
  refine T.bind (aht s hs _ k6.i) fun x7 h7=>?_
  have k7 := k6.seq h7 (by decide)
  have hb := jH (aK.mk x1.1 x2.1 x3.1 x4.1 x5.1 x6.1 x7.1)
  try dsimp only at hb
  dsimp only at k7
  exact T.ret (k7.z (by dsimp only; omega) (by omega))
theorem UY (s:ByteArray) (hs:s.size ≤ 100000000) : Rdr s Q9 (fun l=>1 + aZ (l.map aK.lf)) 1 := fun r hr=>by
  have h := kM hs (F := agd) (lf := aK.lf) (c := 31) (by_ := 456) (by omega) (by omega) hr fun y hy _=>(by simp only [aK.bD]; exact MI s hs y hy)
  refine T.eq ?_ h
  unfold Q9 ao4 lV Dl
  simp only [Mo.den,aP,aI,aJ,aN,aO,YV,agf,OI,WV,H7,Uo]
theorem Iy (s:ByteArray) (hs:s.size ≤ 100000000) (n:Nat) : ∀ F,3 * n ≤ F → ∀ r,RdI s r → (64:Int) - r.aY < (n:Int) → Tot ((jA F).m1 r) (fun x=>RC s r x.2 (aQ x.1.lf1) 21) := by
  induction n with
  | zero=>intro F _ r hr h; exact absurd h (by have := hr.l1; omega)
  | succ n ih =>
    intro F hF r hr hn
    obtain ⟨G,rfl⟩ : ∃ G,F = G + 3 := ⟨F - 3,by omega⟩
    have hp:∀ r,RdI s r → (64:Int) - r.aY < (n:Int) → Tot ((jA (G + 1)).m4 r) (fun x=>RC s r x.2 (aQ x.1.lf1) 22) := fun r hr hn=>by
      show Tot (Mo.den (OQ (jA G) r)) _
      unfold OQ
      simp only [Mo.den,aP,aI,aJ,aN,aO]
      refine T.bind (kL s hs _ hr) fun x1 k1=>?_
      refine T.bind (ih G (by omega) _ k1.i (by have := k1.l; omega)) fun x2 h2=>?_
      have k2 := k1.seq h2 (by decide)
      have hb := oh (bC.mk x1.1 x2.1)
      simp only [bC.fName,bC.aW] at hb
      dsimp only at k2
      exact T.ret (k2.z (by dsimp only; omega) (by omega))
    have hlProp:∀ r,RdI s r → (64:Int) - r.aY < ((n + 1:Nat) : Int) → Tot ((jA (G + 2)).m2 r) (fun x=>RC s r x.2 (1 + aZ (x.1.map bC.lf)) 1) := fun r hr hn=>by
      have h := kM hs (F := (jA (G + 1)).m4) (lf := bC.lf) (c := 22) (by_ := 328) (by omega) (by omega) hr fun y hy hv=>(by simp only [bC.bD]; exact hp y hy (by omega))
      refine T.eq ?_ h
      show Mo.den (YW (jA (G + 1)) r) = _
      unfold YW lV Dl
      simp only [Mo.den,aP,aI,aJ,aN,aO,Us,WW,H8,OM,CP,LK]
    have hlSchema:∀ r,RdI s r → (64:Int) - r.aY < ((n + 1:Nat) : Int) → Tot ((jA (G + 2)).m3 r) (fun x=>RC s r x.2 (1 + aZ (x.1.map aA.lf)) 1) := fun r hr hn=>by
      have h := kM hs (F := (jA (G + 1)).m1) (lf := aA.lf) (c := 21) (by_ := 312) (by omega) (by omega) hr fun y hy hv=>(by simp only [aA.bD]; exact ih (G + 1) (by omega) y hy (by omega))
      refine T.eq ?_ h
      show Mo.den (YX (jA (G + 1)) r) = _
      unfold YX lV Dl
      simp only [Mo.den,aP,aI,aJ,aN,aO,Ut,WX,Ia,OO,CQ,LQ]
    show Tot (Mo.den (OL (jA (G + 2)) r)) _
    unfold OL
    simp only [Mo.den,aP,aI,aJ,aN,aO]
    refine T.bind (gK s hs _ hr) fun x1 k1=>?_
    refine T.bind (lg s hs _ k1.i) fun x2 h2=>?_
    have k2 := k1.seq h2 (by decide)
    refine T.bind (lJ s hs _ k2.i) fun x3 h3=>?_
    have k3 := k2.seq h3 (by decide)
    refine T.bind (lg s hs _ k3.i) fun x4 h4=>?_
    have k4 := k3.seq h4 (by decide)
    refine T.bind (lJ s hs _ k4.i) fun x5 h5=>?_
    have k5 := k4.seq h5 (by decide)
    refine T.bind (Iw s hs _ k5.i) fun x6 h6=>?_
    have k6 := k5.seq h6 (by decide)
    refine T.bind (gK s hs _ k6.i) fun x7 h7=>?_
    have k7 := k6.seq h7 (by decide)
    refine T.bind (gK s hs _ k7.i) fun x8 h8=>?_
    have k8 := k7.seq h8 (by decide)
    refine T.bind (uf s hs _ k8.i) fun x9 h9=>?_
    have k9 := k8.seq h9 (by decide)
    refine T.bind (hlProp _ k9.i (by have := k9.l; omega)) fun x10 h10=>?_
    have k10 := k9.seq h10 (by decide)
    refine T.bind (lg s hs _ k10.i) fun x11 h11=>?_
    have k11 := k10.seq h11 (by decide)
    refine T.bind (hlSchema _ k11.i (by have := k11.l; omega)) fun x12 h12=>?_
    have k12 := k11.seq h12 (by decide)
    refine T.bind (lg s hs _ k12.i) fun x13 h13=>?_
    have k13 := k12.seq h13 (by decide)
    have hb := iP (aA.mk x1.1 x2.1 x3.1 x4.1 x5.1 x6.1 x7.1 x8.1 x9.1 x10.1 x11.1 x12.1 x13.1)
    simp only [aA.jw,aA.iR,aA.jO,aA.iT,aA.jP,aA.jl,aA.iU,aA.iV,aA.dN,aA.dX,aA.jo,aA.fC,aA.eP] at hb
    dsimp only at k13
    exact T.ret (k13.z (by dsimp only; omega) (by omega))
theorem Xg (s:ByteArray) (hs:s.size ≤ 100000000) : Rdr s ao6 (fun x=>aQ x.lf1) 21 := fun r hr=>Iy s hs 66 FU (by have := jc; omega) r hr (by have := hr.l0; omega)
theorem ace (s:ByteArray) (hs:s.size ≤ 100000000) : Rdr s anj (fun x=>aQ x.lf1) 25 := fun r hr=>by
  unfold anj agm
  simp only [Mo.den,aP,aI,aJ,aN,aO]
  refine T.bind (kL s hs _ hr) fun x1 k1=>?_
  refine T.bind (UY s hs _ k1.i) fun x2 h2=>?_
  have k2 := k1.seq h2 (by decide)
  refine T.bind (Xg s hs _ k2.i) fun x3 h3=>?_
  have k3 := k2.seq h3 (by decide)
  refine T.bind (gK s hs _ k3.i) fun x4 h4=>?_
  have k4 := k3.seq h4 (by decide)
  refine T.bind (gK s hs _ k4.i) fun x5 h5=>?_
  have k5 := k4.seq h5 (by decide)
  have hb := oH (bV.mk x1.1 x2.1 x3.1 x4.1 x5.1)
  try dsimp only at hb
  dsimp only at k5
  exact T.ret (k5.z (by dsimp only; omega) (by omega))
theorem Je (s:ByteArray) (hs:s.size ≤ 100000000) (n:Nat) : ∀ F,2 * n ≤ F → ∀ r,RdI s r → (64:Int) - r.aY < (n:Int) → Tot ((oD F).m1 r) (fun x=>RC s r x.2 (aQ x.1.lf1) 78) := by
  induction n with
  | zero=>intro F _ r hr h; exact absurd h (by have := hr.l1; omega)
  | succ n ih =>
    intro F hF r hr hn
    obtain ⟨G,rfl⟩ : ∃ G,F = G + 2 := ⟨F - 2,by omega⟩
    have hl:∀ r,RdI s r → (64:Int) - r.aY < ((n + 1:Nat) : Int) → Tot ((oD (G + 1)).m2 r) (fun x=>RC s r x.2 (1 + aZ (x.1.map ak.lf)) 1) := fun r hr hn=>by
      have h := kM hs (F := (oD G).m1) (lf := ak.lf) (c := 78) (by_ := 1168) (by omega) (by omega) hr fun y hy hv=>(by simp only [ak.bD]; exact ih G (by omega) y hy (by omega))
      refine T.eq ?_ h
      show Mo.den (YZ (oD G) r) = _
      unfold YZ lV Dl
      simp only [Mo.den,aP,aI,aJ,aN,aO,Uw,WZ,Ig,OV,CU,LX]
    show Tot (Mo.den (OU (oD (G + 1)) r)) _
    unfold OU
    simp only [Mo.den,aP,aI,aJ,aN,aO]
    refine T.bind (gK s hs _ hr) fun x1 k1=>?_
    refine T.bind (kL s hs _ k1.i) fun x2 h2=>?_
    have k2 := k1.seq h2 (by decide)
    refine T.bind (lJ s hs _ k2.i) fun x3 h3=>?_
    have k3 := k2.seq h3 (by decide)
    refine T.bind (lJ s hs _ k3.i) fun x4 h4=>?_
    have k4 := k3.seq h4 (by decide)
    refine T.bind (lJ s hs _ k4.i) fun x5 h5=>?_
    have k5 := k4.seq h5 (by decide)
    refine T.bind (ace s hs _ k5.i) fun x6 h6=>?_
    have k6 := k5.seq h6 (by decide)
    refine T.bind (MI s hs _ k6.i) fun x7 h7=>?_
    have k7 := k6.seq h7 (by decide)
    refine T.bind (kL s hs _ k7.i) fun x8 h8=>?_
    have k8 := k7.seq h8 (by decide)
    refine T.bind (gK s hs _ k8.i) fun x9 h9=>?_
    have k9 := k8.seq h9 (by decide)
    refine T.bind (hl _ k9.i (by have := k9.l; omega)) fun x10 h10=>?_
    have k10 := k9.seq h10 (by decide)
    refine T.bind (ahr s hs _ k10.i) fun x11 h11=>?_
    have k11 := k10.seq h11 (by decide)
    refine T.bind (lg s hs _ k11.i) fun x12 h12=>?_
    have k12 := k11.seq h12 (by decide)
    have hb := kJ (ak.mk x1.1 x2.1 x3.1 x4.1 x5.1 x6.1 x7.1 x8.1 x9.1 x10.1 x11.1 x12.1)
    simp only [ak.aF,ak.fQ,ak.iy,ak.aX,ak.dJ,ak.dD,ak.aT,ak.lQ,ak.eG,ak.dG,ak.dO,ak.gq] at hb
    dsimp only at k12
    exact T.ret (k12.z (by dsimp only; omega) (by omega))
theorem acf (s:ByteArray) (hs:s.size ≤ 100000000) : Rdr s ao7 (fun x=>aQ x.lf1) 78 := fun r hr=>Je s hs 66 FU (by have := jc; omega) r hr (by have := hr.l0; omega)
end Go.Proofs.YtflpefkohpjjpaaGreatDoor
set_option linter.unusedSimpArgs false
set_option linter.unusedVariables false
namespace Go.Proofs.YtflpefkohpjjpaaGreatDoor
open Go.RowKit
mutual
noncomputable def wrF:Lf → ByteArray
  | .int _ n=>ahn n
  | .str s=>ahn (s.size:Int) ++ s
  | .bool b=>if b then ⟨#[1]⟩ else ⟨#[0]⟩
  | .rows _ l=>ahn (l.length:Int) ++ wrQ l
noncomputable def wrQ:List (List Lf) → ByteArray
  | []=>ByteArray.empty
  | r :: q=>wrL r ++ wrQ q
noncomputable def wrL:List Lf → ByteArray
  | []=>ByteArray.empty
  | x :: r=>wrF x ++ wrL r
end
theorem apo (b:UInt8) : (⟨#[b]⟩ : ByteArray).size = 1 := rfl
mutual
theorem an0:∀ x:Lf,(wrF x).size ≤ 12 * x.bulk
  | .int _ n=>by have := Dj n; simp only [wrF,Lf.bulk]; omega
  | .str s=>by have := Dj (s.size:Int); simp only [wrF,Lf.bulk,ByteArray.size_append]; omega
  | .bool b=>by cases b <;> simp [wrF,Lf.bulk,apo]
  | .rows _ l=>by have := Dj (l.length:Int); have := ahu l; simp only [wrF,Lf.bulk,ByteArray.size_append]; omega
theorem ahu:∀ l:List (List Lf),(wrQ l).size ≤ 12 * aZ l
  | []=>by simp [wrQ,aZ]
  | r :: q=>by have := ahv r; have := ahu q; simp only [wrQ,aZ,ByteArray.size_append]; omega
theorem ahv:∀ l:List Lf,(wrL l).size ≤ 12 * aQ l
  | []=>by simp [wrL,aQ]
  | x :: r=>by have := an0 x; have := ahv r; simp only [wrL,aQ,ByteArray.size_append]; omega
end
/-- m appends s -/
def Ap (m:ay → Option ay) (s:ByteArray) : Prop := ∀ b,b.Ed = true → b.fS.size + s.size ≤ 4611686018427387904 → m b = some ⟨b.fS ++ s,b.I9,b.Ed⟩
theorem Ap.bind {m k:ay → Option ay} {s t:ByteArray} (h:Ap m s) (h2:Ap k t) : Ap (fun b=>(m b).bind k) (s ++ t) := by
  intro b hb hs
  rw [ByteArray.size_append] at hs
  show (m b).bind k = _
  rw [h b hb (by omega),Option.bind_some]
  refine (h2 ⟨b.fS ++ s,b.I9,b.Ed⟩ hb (by simp only [ByteArray.size_append]; omega)).trans ?_
  simp only [ByteArray.append_assoc]
theorem Ap.nil:Ap some ByteArray.empty := fun b _ _=>by rw [ByteArray.append_empty]
theorem Ap.of {m k:ay → Option ay} {s:ByteArray} (h:Ap k s) (e:∀ b,b.Ed = true → m b = k b) : Ap m s := fun b hb hs=>by rw [e b hb]; exact h b hb hs
theorem Ap.loop {α:Type} (f : α → List Lf) (l:List α) (g : α → ay → Option ay) (T:Int × ay → Option ((Int × ay) ⊕ ay)) (hl:l.length ≤ 1000000000)
    (hg:∀ x ∈ l,Ap (g x) (wrL (f x)))
    (hT:∀ (k:Nat) s,(∀ x,l[k]? = some x → T ((k:Int),s) = (g x s).bind fun r=>some (.inl (IntKind.wrap .i64 ((k:Int) + 1),r))) ∧ (l[k]? = none → T ((k:Int),s) = some (.inr s))) :
    Ap (fun b=>bT T FU (0,b)) (wrQ (l.map f)) := by
  intro b hb hs
  have key:∀ (m:List α) (k:Nat) (b:ay) (n:Nat),l.drop k = m → m.length < n → b.Ed = true → b.fS.size + (wrQ (m.map f)).size ≤ 4611686018427387904 →
      bT T n ((k:Int),b) = some ⟨b.fS ++ wrQ (m.map f),b.I9,b.Ed⟩ := by
    intro m
    induction m with
    | nil =>
      intro k b n hd hn hb hs
      obtain ⟨n,rfl⟩ : ∃ j,n = j + 1 := ⟨n - 1,by simp at hn; omega⟩
      have h1:l[k]? = none := by
        have := congrArg List.length hd
        simp only [List.length_drop,List.length_nil] at this
        rw [List.getElem?_eq_none]; omega
      unfold bT
      rw [(hT k b).2 h1]
      simp only [List.map_nil,wrQ,ByteArray.append_empty,Option.bind_some]
    | cons x m ih =>
      intro k b n hd hn hb hs
      obtain ⟨n,rfl⟩ : ∃ j,n = j + 1 := ⟨n - 1,by simp at hn; omega⟩
      have h1:l[k]? = some x := by rw [← List.head?_drop,hd]; rfl
      have h2:l.drop (k + 1) = m := by rw [← List.tail_drop,hd]; rfl
      have hk:k < l.length := (List.getElem?_eq_some_iff.1 h1).1
      simp only [List.map_cons,wrQ,ByteArray.size_append] at hs
      unfold bT
      rw [(hT k b).1 x h1,hg x (List.mem_of_getElem? h1) b hb (by omega)]
      simp only [Option.bind_some]
      rw [inc k (by omega)]
      refine (ih (k + 1) ⟨b.fS ++ wrL (f x),b.I9,b.Ed⟩ n h2 (by simp at hn; omega) hb (by simp only [ByteArray.size_append]; omega)).trans ?_
      simp only [List.map_cons,wrQ,ByteArray.append_assoc]
  exact key l 0 b FU rfl (akv (by omega)) hb hs
end Go.Proofs.YtflpefkohpjjpaaGreatDoor
set_option linter.unusedSimpArgs false
set_option linter.unusedVariables false
namespace Go.Proofs.YtflpefkohpjjpaaGreatDoor
open Go.RowKit
end Go.Proofs.YtflpefkohpjjpaaGreatDoor
set_option linter.unusedSimpArgs false
set_option linter.unusedVariables false
namespace Go.Proofs.YtflpefkohpjjpaaGreatDoor
open Go.RowKit
/-- a path -/
def alz (p:List ByteArray) : Bool := decide (1 ≤ p.length) && decide (p.length ≤ 16) && p.all nameB
theorem UZ {α:Type} (f : α → Bool) {l:List α} {k:Nat} {x : α} (h:l[k]? = some x) : (l.take (k + 1)).all f = ((l.take k).all f && f x) := by
  have hk := Pg h
  have:l[k] = x := by rw [List.getElem?_eq_getElem hk] at h; injection h
  rw [List.take_succ_eq_append_getElem hk,List.all_append,this]; simp
theorem ahw {α:Type} (f : α → Bool) {l:List α} {k:Nat} {x : α} (h:l[k]? = some x) (hf:f x = false) : l.all f = false := by
  rw [List.all_eq_false]; exact ⟨x,anW h,by simp [hf]⟩
/-- the missing value -/
def MJ (v:aj) : Bool := v.aF == 0 && v.eU == 0 && decide (v.fText = ⟨#[]⟩) && (v.aU.length:Int) == 0 && (v.aX.length:Int) == 0
/-- parts -/
def parts (v:aj) : List aj := (if v.aF = 6 then v.aU else []) ++ (if v.aF = 5 then v.aX.map aB.fValue else [])
theorem Iz {v x:aj} (h:x ∈ parts v) : aQ x.lf1 < aQ v.lf1 := by
  rw [dw v]
  unfold parts at h
  rcases List.mem_append.1 h with h | h
  · split at h
    · have := jT h; omega
    · simp at h
  · split at h
    · obtain ⟨f,hf,rfl⟩ := List.mem_map.1 h
      have := iC hf; rw [fD] at this; omega
    · simp at h
end Go.Proofs.YtflpefkohpjjpaaGreatDoor
set_option linter.unusedSimpArgs false
set_option linter.unusedVariables false
namespace Go.Proofs.YtflpefkohpjjpaaGreatDoor
open Go.RowKit
def iQ (f:aj → Nat → Nat) (lim:Nat) : List aj → Nat → Nat
  | [],n=>n
  | p :: r,n=>if f p n < lim then iQ f lim r (f p n) else f p n
theorem rJ (f:aj → Nat → Nat) (lim:Nat) (p:aj) (r:List aj) (n:Nat) : iQ f lim (p :: r) n = if f p n < lim then iQ f lim r (f p n) else f p n := rfl
mutual
def aj.cnt:aj → Nat
  | .mk k _ _ l d=>1 + ((if k = 6 then aj.cnts l else 0) + (if k = 5 then aB.cnts d else 0))
def aj.cnts:List aj → Nat
  | []=>0
  | x :: r=>x.cnt + aj.cnts r
def aB.cnts:List aB → Nat
  | []=>0
  | .mk _ x :: r=>x.cnt + aB.cnts r
end
mutual
def aj.dep:aj → Nat
  | .mk k _ _ l d=>1 + max (if k = 6 then aj.deps l else 0) (if k = 5 then aB.deps d else 0)
def aj.deps:List aj → Nat
  | []=>0
  | x :: r=>max x.dep (aj.deps r)
def aB.deps:List aB → Nat
  | []=>0
  | .mk _ x :: r=>max x.dep (aB.deps r)
end
def qB:List Nat → Nat
  | []=>0
  | x :: r=>x + qB r
def oJ:List Nat → Nat
  | []=>0
  | x :: r=>max x (oJ r)
theorem U0:∀ l m:List Nat,qB (l ++ m) = qB l + qB m
  | [],m=>(Nat.zero_add _).symm
  | x :: r,m=>by show x + qB (r ++ m) = (x + qB r) + qB m; rw [U0 r m]; omega
theorem U1:∀ l m:List Nat,oJ (l ++ m) = max (oJ l) (oJ m)
  | [],m=>by show oJ m = max 0 (oJ m); omega
  | x :: r,m=>by show max x (oJ (r ++ m)) = max (max x (oJ r)) (oJ m); rw [U1 r m]; omega
theorem Zb:∀ l:List aj,aj.cnts l = qB (l.map aj.cnt)
  | []=>by simp [aj.cnts,qB]
  | x :: r=>by simp [aj.cnts,qB,Zb r]
theorem U2:∀ l:List aB,aB.cnts l = qB ((l.map aB.fValue).map aj.cnt)
  | []=>by simp [aB.cnts,qB]
  | .mk n x :: r=>by simp [aB.cnts,qB,U2 r,aB.fValue]
theorem Zc:∀ l:List aj,aj.deps l = oJ (l.map aj.dep)
  | []=>by simp [aj.deps,oJ]
  | x :: r=>by simp [aj.deps,oJ,Zc r]
theorem U3:∀ l:List aB,aB.deps l = oJ ((l.map aB.fValue).map aj.dep)
  | []=>by simp [aB.deps,oJ]
  | .mk n x :: r=>by simp [aB.deps,oJ,U3 r,aB.fValue]
theorem MK (v:aj) : v.cnt = 1 + qB ((parts v).map aj.cnt) := by
  cases v with
  | mk k i s l d =>
    unfold parts
    rw [List.map_append,U0]
    unfold aj.cnt
    rw [Zb,U2]
    simp only [aj.aF,aj.aU,aj.aX]
    by_cases h6:k = 6
    · subst h6; simp [qB]
    · by_cases h5:k = 5
      · subst h5; simp [qB]
      · simp [h6,h5,qB]
theorem ML (v:aj) : v.dep = 1 + oJ ((parts v).map aj.dep) := by
  cases v with
  | mk k i s l d =>
    unfold parts
    rw [List.map_append,U1]
    unfold aj.dep
    rw [Zc,U3]
    simp only [aj.aF,aj.aU,aj.aX]
    by_cases h6:k = 6
    · subst h6; simp [oJ]
    · by_cases h5:k = 5
      · subst h5; simp [oJ]
      · simp [h6,h5,oJ]
theorem XT (v:aj) : 1 ≤ v.cnt := by rw [MK]; omega
theorem XU (v:aj) : 1 ≤ v.dep := by rw [ML]; omega
/-- counting up to a bound -/
theorem MN (most:Nat) : ∀ (l:List aj) (n:Nat),n < most → iQ (fun p n=>n + min p.cnt (most - n)) most l n = min (n + qB (l.map aj.cnt)) most
  | [],n,h=>by unfold iQ; simp only [List.map_nil,qB]; omega
  | p :: r,n,h=>by
    unfold iQ
    simp only [List.map_cons,qB]
    split
    · rename_i hc
      rw [MN most r _ hc]
      omega
    · omega
theorem MO (most:Nat) (hm : 1 ≤ most) : ∀ (l:List aj) (n:Nat),n ≤ most - 1 → (l = [] ∨ n < most - 1 → iQ (fun p n=>max n (min p.dep (most - 1))) (most - 1) l n = min (max n (oJ (l.map aj.dep))) (most - 1))
  | [],n,h,_=>by unfold iQ; simp only [List.map_nil,oJ]; omega
  | p :: r,n,h,hh=>by
    have hn:n < most - 1 := hh.resolve_left (by simp)
    unfold iQ
    simp only [List.map_cons,oJ]
    split
    · rename_i hc
      rw [MO most hm r _ (by omega) (.inr hc)]
      omega
    · omega

theorem acg (R:RB2) (v:aj) (f:aj → Nat → Nat) (lim:Nat) (b1:Int) (I:Nat → Prop) (hb:aQ v.lf1 ≤ 100000000)
    (h3:∀ p ∈ parts v,∀ n:Nat,I n → R.m3 p n b1 = some (decide (f p n < lim),(f p n:Int),b1) ∧ (f p n < lim → I (f p n))) (n:Nat) (hn:I n) :
    Mo.den (QS R v n b1) = some (((iQ f lim (parts v) n:Nat) : Int),b1) := by
  have hl := ji v.aU
  have hd := iF v.aX
  rw [dw] at hb
  unfold QS
  simp only [Mo.den,aP,aI,aJ,aN,aO]
  by_cases h6:v.aF = 6
  · have e6 : (v.aF == 6) = true := by simpa using h6
    have hp:parts v = v.aU := by unfold parts; rw [if_pos h6,if_neg (by omega),List.append_nil]
    rw [e6,hp]
    simp only [cond_true]
    have key:Tot (V9 R v 0 n b1) (fun r=>match r with | .inl o=>o = (((iQ f lim v.aU n:Nat) : Int),b1) | .inr o=>o = (((iQ f lim v.aU n:Nat) : Int),b1)) := by
      refine T.rE v.aU.length (by omega) (fun k s=>∃ m:Nat,s = ((k:Int),(m:Int),b1) ∧ I m ∧ iQ f lim v.aU n = iQ f lim (v.aU.drop k) m) _ ⟨n,rfl,hn,rfl⟩ ?_ ?_
      · rintro k s hk ⟨m,rfl,hm,he⟩
        have hx := List.getElem?_eq_getElem hk
        have hdr:v.aU.drop k = v.aU[k] :: v.aU.drop (k + 1) := List.drop_eq_getElem_cons hk
        obtain ⟨q1,q2⟩ := h3 v.aU[k] (by rw [hp]; exact List.getElem_mem hk) m hm
        simp only [yU,Mo.den,aP,aI,aJ,aN,aO,ltt hx,gid hx,cond_true,Option.bind_some,q1]
        rw [hdr,rJ] at he
        by_cases hc:f v.aU[k] m < lim
        · rw [if_pos hc] at he
          rw [decide_eq_true hc]
          exact T.ret ⟨_,by rw [inc k (by omega)],q2 hc,he⟩
        · rw [if_neg hc] at he
          rw [decide_eq_false hc]
          exact T.ret (show _ = _ by rw [he])
      · rintro s ⟨m,rfl,hm,he⟩
        rw [List.drop_length] at he
        have he:iQ f lim v.aU n = m := he
        simp only [yU,Mo.den,aP,aI,aJ,aN,aO,ltn,cond_false]
        exact T.ret (show _ = _ by rw [he])
    obtain ⟨r,h,hr⟩ := key
    rw [h]
    rcases r with r | r
    · have hr:r = _ := hr
      subst hr; rfl
    · have hr:r = _ := hr
      subst hr; rfl
  · have e6 : (v.aF == 6) = false := by simpa using h6
    by_cases h5:v.aF = 5
    · have e5 : (v.aF == 5) = true := by simpa using h5
      have hp:parts v = v.aX.map aB.fValue := by unfold parts; rw [if_neg h6,if_pos h5,List.nil_append]
      rw [e6,e5,hp]
      simp only [cond_true,cond_false]
      have key:Tot (Wh R v 0 n b1) (fun r=>match r with | .inl o=>o = (((iQ f lim (v.aX.map aB.fValue) n:Nat) : Int),b1) | .inr o=>o = (((iQ f lim (v.aX.map aB.fValue) n:Nat) : Int),b1)) := by
        refine T.rE v.aX.length (by omega) (fun k s=>∃ m:Nat,s = ((k:Int),(m:Int),b1) ∧ I m ∧ iQ f lim (v.aX.map aB.fValue) n = iQ f lim ((v.aX.drop k).map aB.fValue) m) _ ⟨n,rfl,hn,rfl⟩ ?_ ?_
        · rintro k s hk ⟨m,rfl,hm,he⟩
          have hx := List.getElem?_eq_getElem hk
          have hdr:v.aX.drop k = v.aX[k] :: v.aX.drop (k + 1) := List.drop_eq_getElem_cons hk
          obtain ⟨q1,q2⟩ := h3 v.aX[k].fValue (by rw [hp]; exact List.mem_map.2 ⟨_,List.getElem_mem hk,rfl⟩) m hm
          simp only [yX,Mo.den,aP,aI,aJ,aN,aO,ltt hx,gid hx,cond_true,Option.bind_some,q1]
          rw [hdr,List.map_cons,rJ] at he
          by_cases hc:f v.aX[k].fValue m < lim
          · rw [if_pos hc] at he
            rw [decide_eq_true hc]
            exact T.ret ⟨_,by rw [inc k (by omega)],q2 hc,he⟩
          · rw [if_neg hc] at he
            rw [decide_eq_false hc]
            exact T.ret (show _ = _ by rw [he])
        · rintro s ⟨m,rfl,hm,he⟩
          rw [List.drop_length,List.map_nil] at he
          have he:iQ f lim (v.aX.map aB.fValue) n = m := he
          simp only [yX,Mo.den,aP,aI,aJ,aN,aO,ltn,cond_false]
          exact T.ret (show _ = _ by rw [he])
      obtain ⟨r,h,hr⟩ := key
      rw [h]
      rcases r with r | r
      · have hr:r = _ := hr
        subst hr; rfl
      · have hr:r = _ := hr
        subst hr; rfl
    · have e5 : (v.aF == 5) = false := by simpa using h5
      have hp:parts v = [] := by unfold parts; rw [if_neg h6,if_neg h5]; rfl
      rw [e6,e5,hp]
      rfl

theorem ach (R:RB3) (v:aj) (f:aj → Nat → Nat) (lim:Nat) (b1:Int) (I:Nat → Prop) (hb:aQ v.lf1 ≤ 100000000)
    (h3:∀ p ∈ parts v,∀ n:Nat,I n → R.m3 p n b1 = some (decide (f p n < lim),(f p n:Int),b1) ∧ (f p n < lim → I (f p n))) (n:Nat) (hn:I n) :
    Mo.den (QX R v n b1) = some (((iQ f lim (parts v) n:Nat) : Int),b1) := by
  have hl := ji v.aU
  have hd := iF v.aX
  rw [dw] at hb
  unfold QX
  simp only [Mo.den,aP,aI,aJ,aN,aO]
  by_cases h6:v.aF = 6
  · have e6 : (v.aF == 6) = true := by simpa using h6
    have hp:parts v = v.aU := by unfold parts; rw [if_pos h6,if_neg (by omega),List.append_nil]
    rw [e6,hp]
    simp only [cond_true]
    have key:Tot (Wi R v 0 n b1) (fun r=>match r with | .inl o=>o = (((iQ f lim v.aU n:Nat) : Int),b1) | .inr o=>o = (((iQ f lim v.aU n:Nat) : Int),b1)) := by
      refine T.rE v.aU.length (by omega) (fun k s=>∃ m:Nat,s = ((k:Int),(m:Int),b1) ∧ I m ∧ iQ f lim v.aU n = iQ f lim (v.aU.drop k) m) _ ⟨n,rfl,hn,rfl⟩ ?_ ?_
      · rintro k s hk ⟨m,rfl,hm,he⟩
        have hx := List.getElem?_eq_getElem hk
        have hdr:v.aU.drop k = v.aU[k] :: v.aU.drop (k + 1) := List.drop_eq_getElem_cons hk
        obtain ⟨q1,q2⟩ := h3 v.aU[k] (by rw [hp]; exact List.getElem_mem hk) m hm
        simp only [yZ,Mo.den,aP,aI,aJ,aN,aO,ltt hx,gid hx,cond_true,Option.bind_some,q1]
        rw [hdr,rJ] at he
        by_cases hc:f v.aU[k] m < lim
        · rw [if_pos hc] at he
          rw [decide_eq_true hc]
          exact T.ret ⟨_,by rw [inc k (by omega)],q2 hc,he⟩
        · rw [if_neg hc] at he
          rw [decide_eq_false hc]
          exact T.ret (show _ = _ by rw [he])
      · rintro s ⟨m,rfl,hm,he⟩
        rw [List.drop_length] at he
        have he:iQ f lim v.aU n = m := he
        simp only [yZ,Mo.den,aP,aI,aJ,aN,aO,ltn,cond_false]
        exact T.ret (show _ = _ by rw [he])
    obtain ⟨r,h,hr⟩ := key
    rw [h]
    rcases r with r | r
    · have hr:r = _ := hr
      subst hr; rfl
    · have hr:r = _ := hr
      subst hr; rfl
  · have e6 : (v.aF == 6) = false := by simpa using h6
    by_cases h5:v.aF = 5
    · have e5 : (v.aF == 5) = true := by simpa using h5
      have hp:parts v = v.aX.map aB.fValue := by unfold parts; rw [if_neg h6,if_pos h5,List.nil_append]
      rw [e6,e5,hp]
      simp only [cond_true,cond_false]
      have key:Tot (Wj R v 0 n b1) (fun r=>match r with | .inl o=>o = (((iQ f lim (v.aX.map aB.fValue) n:Nat) : Int),b1) | .inr o=>o = (((iQ f lim (v.aX.map aB.fValue) n:Nat) : Int),b1)) := by
        refine T.rE v.aX.length (by omega) (fun k s=>∃ m:Nat,s = ((k:Int),(m:Int),b1) ∧ I m ∧ iQ f lim (v.aX.map aB.fValue) n = iQ f lim ((v.aX.drop k).map aB.fValue) m) _ ⟨n,rfl,hn,rfl⟩ ?_ ?_
        · rintro k s hk ⟨m,rfl,hm,he⟩
          have hx := List.getElem?_eq_getElem hk
          have hdr:v.aX.drop k = v.aX[k] :: v.aX.drop (k + 1) := List.drop_eq_getElem_cons hk
          obtain ⟨q1,q2⟩ := h3 v.aX[k].fValue (by rw [hp]; exact List.mem_map.2 ⟨_,List.getElem_mem hk,rfl⟩) m hm
          simp only [y7,Mo.den,aP,aI,aJ,aN,aO,ltt hx,gid hx,cond_true,Option.bind_some,q1]
          rw [hdr,List.map_cons,rJ] at he
          by_cases hc:f v.aX[k].fValue m < lim
          · rw [if_pos hc] at he
            rw [decide_eq_true hc]
            exact T.ret ⟨_,by rw [inc k (by omega)],q2 hc,he⟩
          · rw [if_neg hc] at he
            rw [decide_eq_false hc]
            exact T.ret (show _ = _ by rw [he])
        · rintro s ⟨m,rfl,hm,he⟩
          rw [List.drop_length,List.map_nil] at he
          have he:iQ f lim (v.aX.map aB.fValue) n = m := he
          simp only [y7,Mo.den,aP,aI,aJ,aN,aO,ltn,cond_false]
          exact T.ret (show _ = _ by rw [he])
      obtain ⟨r,h,hr⟩ := key
      rw [h]
      rcases r with r | r
      · have hr:r = _ := hr
        subst hr; rfl
      · have hr:r = _ := hr
        subst hr; rfl
    · have e5 : (v.aF == 5) = false := by simpa using h5
      have hp:parts v = [] := by unfold parts; rw [if_neg h6,if_neg h5]; rfl
      rw [e6,e5,hp]
      rfl

theorem Xh:∀ (F:Nat) (v:aj) (most:Nat),3 * aQ v.lf1 ≤ F → aQ v.lf1 ≤ 100000000 → 1 ≤ most → most ≤ 2000 → (oW F).m1 v most = some ((min v.cnt most:Nat) : Int) := by
  intro F
  induction F using Nat.strongRecOn with
  | _ F ih =>
  intro v most hF hb h1 h2
  have hp := dw v
  obtain ⟨F,rfl⟩ : ∃ G,F = G + 3 := ⟨F - 3,by omega⟩
  show Mo.den (NY (oW (F + 2)) v most) = _
  unfold NY
  simp only [Mo.den,aP,aI,aJ,aN,aO]
  by_cases hm:most = 1
  · subst hm
    have := XT v
    rw [show min v.cnt 1 = 1 by omega]
    rfl
  · rw [show ((1 : Int) == (most : Int)) = false by rw [beq_eq_false_iff_ne]; omega]
    have he:(oW (F + 2)).m2 v 1 most = some (((min v.cnt most:Nat) : Int),(most:Int)) := by
      show Mo.den (QS (oW (F + 1)) v 1 most) = _
      have := acg (oW (F + 1)) v (fun p n=>n + min p.cnt (most - n)) most most (fun n=>n < most) hb (fun p hq n hn=>?_) 1 (show 1 < most by omega)
      · rw [show ((1:Int)) = ((1:Nat) : Int) from rfl,this,MN most _ 1 (by omega),← MK]
      · refine ⟨?_,fun h=>h⟩
        have hlt := Iz hq
        show Mo.den (NZ (oW F) p n most) = _
        unfold NZ
        have hsub:IntKind.wrap .i64 ((most:Int) - (n:Int)) = ((most - n:Nat) : Int) := by rw [w64 (by omega) (by omega)]; omega
        simp only [Mo.den,aP,aI,aJ,aN,aO,hsub,ih F (by omega) p (most - n) (by omega) (by omega) (by omega) (by omega),Option.bind_some]
        rw [w64 (by omega) (by omega),show (n:Int) + ((min p.cnt (most - n) : Nat) : Int) = ((n + min p.cnt (most - n) : Nat) : Int) by omega]
        congr 2
        rw [Bool.eq_iff_iff]; simp only [decide_eq_true_iff]; omega
    simp only [cond_false,he,Option.bind_some]
theorem aci (v:aj) (hb:aQ v.lf1 ≤ 100000000) : amx v = some ((min v.cnt 1025:Nat) : Int) := by
  simp only [amx,adQ,Mo.den,aP,aI,aJ,aN,aO]
  have:aot v 1025 = some ((min v.cnt 1025:Nat) : Int) := Xh FU v 1025 (by have := jc; omega) hb (by omega) (by omega)
  rw [this]; rfl
theorem Xi:∀ (F:Nat) (v:aj) (most:Nat),3 * aQ v.lf1 ≤ F → aQ v.lf1 ≤ 100000000 → 1 ≤ most → most ≤ 2000 → (oZ F).m1 v most = some ((min v.dep most:Nat) : Int) := by
  intro F
  induction F using Nat.strongRecOn with
  | _ F ih =>
  intro v most hF hb h1 h2
  have hp := dw v
  obtain ⟨F,rfl⟩ : ∃ G,F = G + 3 := ⟨F - 3,by omega⟩
  show Mo.den (N7 (oZ (F + 2)) v most) = _
  unfold N7
  simp only [Mo.den,aP,aI,aJ,aN,aO]
  have hpos := XU v
  by_cases hm:most = 1
  · subst hm
    rw [show min v.dep 1 = 1 by omega]
    rfl
  · rw [show ((most : Int) == (1 : Int)) = false by rw [beq_eq_false_iff_ne]; omega]
    have he:(oZ (F + 2)).m2 v 0 most = some (((min v.dep most - 1:Nat) : Int),(most:Int)) := by
      show Mo.den (QX (oZ (F + 1)) v 0 most) = _
      have := ach (oZ (F + 1)) v (fun p n=>max n (min p.dep (most - 1))) (most - 1) most (fun n=>n < most - 1) hb (fun p hq n hn=>?_) 0 (show 0 < most - 1 by omega)
      · rw [show ((0 : Int)) = ((0 : Nat) : Int) from rfl, this, MO most h1 _ 0 (by omega) (.inr (by omega))]
        have e := ML v
        rw [show min (max 0 (oJ ((parts v).map aj.dep))) (most - 1) = min v.dep most - 1 by omega]
      · refine ⟨?_,fun h=>h⟩
        have hlt := Iz hq
        show Mo.den (N8 (oZ F) p n most) = _
        unfold N8
        have hsub:IntKind.wrap .i64 ((most:Int) - 1) = ((most - 1:Nat) : Int) := by rw [w64 (by omega) (by omega)]; omega
        simp only [Mo.den,aP,aI,aJ,aN,aO,hsub,ih F (by omega) p (most - 1) (by omega) (by omega) (by omega) (by omega),Option.bind_some]
        rw [show (if ((min p.dep (most - 1) : Nat) : Int) > (n:Int) then ((min p.dep (most - 1) : Nat) : Int) else (n:Int)) = ((max n (min p.dep (most - 1)) : Nat) : Int) by split <;> omega]
        congr 2
        rw [Bool.eq_iff_iff]; simp only [decide_eq_true_iff]; omega
    simp only [cond_false,he,Option.bind_some]
    rw [w64 (by omega) (by omega)]
    congr 1
    omega
theorem acj (v:aj) (hb:aQ v.lf1 ≤ 100000000) : amy v = some ((min v.dep 17:Nat) : Int) := by
  simp only [amy,adT,Mo.den,aP,aI,aJ,aN,aO]
  have:aou v 17 = some ((min v.dep 17:Nat) : Int) := Xi FU v 17 (by have := jc; omega) hb (by omega) (by omega)
  rw [this]; rfl
end Go.Proofs.YtflpefkohpjjpaaGreatDoor
set_option linter.unusedSimpArgs false
set_option linter.unusedVariables false
namespace Go.Proofs.YtflpefkohpjjpaaGreatDoor
open Go.RowKit
theorem size_nil {s:ByteArray} (h:s.size < 1) : s = ⟨#[]⟩ := by
  cases s with
  | mk d =>
    have h:d.size < 1 := h
    have:d = #[] := Array.eq_empty_of_size_eq_zero (by omega)
    rw [this]
theorem Zd {s:ByteArray} (h:¬ s.size < 1) : ¬ s = ⟨#[]⟩ := fun e=>h (by rw [e]; exact Nat.zero_lt_one)


theorem wK (s:ByteArray) : Q23 s = some (nameB s) := by
  have key:s.size ≤ 32 → Tot (ED s 0) (fun r=>match r with | .inl _=>s.data.toList.all (fun c=>l9 c.toNat) = false | .inr _=>s.data.toList.all (fun c=>l9 c.toNat) = true) := by
    intro h2
    refine T.rE s.size (by omega) (fun k v=>v = (k:Int) ∧ ∀ i (hi:i < s.size),i < k → l9 s[i].toNat = true) _ ⟨rfl,fun i _ h=>absurd h (by omega)⟩ ?_ ?_
    · rintro k v hk ⟨rfl,hv⟩
      have hc:l9 s[k].toNat = (decide (33 ≤ s[k].toNat) && decide (s[k].toNat ≤ 126) && !(s[k].toNat == 46)) := rfl
      have e46:((s[k].toNat:Int) == 46) = (s[k].toNat == 46) := by rw [Bool.eq_iff_iff]; simp; omega
      simp only [ql,BU,BX,Mo.den,aP,aI,aJ,aN,aO,iLt hk,cond_true,ru s k hk,Option.bind_some]
      by_cases a1:s[k].toNat < 33
      · rw [decide_eq_true (show (s[k].toNat : Int) < 33 by omega)]
        simp only [cond_true,Option.bind_some]
        exact T.ret (xY s _ k hk (by rw [hc,decide_eq_false (show ¬ 33 ≤ s[k].toNat by omega)]; rfl))
      rw [decide_eq_false (show ¬ (s[k].toNat:Int) < 33 by omega)]; simp only [cond_false,Option.bind_some]
      by_cases a2 : 126 < s[k].toNat
      · rw [decide_eq_true (show (126 : Int) < (s[k].toNat : Int) by omega)]
        simp only [cond_true,Option.bind_some]
        exact T.ret (xY s _ k hk (by rw [hc,decide_eq_false (show ¬ s[k].toNat ≤ 126 by omega),Bool.and_false]; rfl))
      rw [decide_eq_false (show ¬ (126:Int) < (s[k].toNat:Int) by omega),e46]; simp only [cond_false,Option.bind_some]
      cases a3:s[k].toNat == 46 with
      | true =>
        simp only [cond_true]
        exact T.ret (xY s _ k hk (by rw [hc,a3,Bool.not_true,Bool.and_false]))
      | false =>
        simp only [cond_false]
        refine T.ret ⟨inc k (by omega),fun i hi hl=>?_⟩
        rcases Nat.lt_succ_iff_lt_or_eq.1 hl with h3 | rfl
        · exact hv i hi h3
        · rw [hc,a3,decide_eq_true (show 33 ≤ s[i].toNat by omega),decide_eq_true (show s[i].toNat ≤ 126 by omega)]; rfl
    · rintro v ⟨rfl,hv⟩
      simp only [ql,Mo.den,aP,aI,aJ,aN,aO,ltn,cond_false]
      exact T.ret (Ny s _ fun i hi=>hv i hi hi)
  unfold Q23 adU FY FZ
  simp only [Mo.den,aP,aI,aJ,aN,aO]
  by_cases h0:s.size < 1
  · rw [decide_eq_true (show (s.size : Int) < 1 by omega)]
    rw [JA s (by omega)]; rfl
  rw [decide_eq_false (show ¬ (s.size:Int) < 1 by omega)]; simp only [cond_false]
  by_cases h1 : 32 < s.size
  · rw [decide_eq_true (show (32:Int) < (s.size:Int) by omega),Jz s h1]; rfl
  rw [decide_eq_false (show ¬ (32:Int) < (s.size:Int) by omega)]; simp only [Option.bind_some,cond_false]
  have hz:lF s 0 = some s[0] := ru s 0 (by omega)
  rw [hz,xX s (by omega) (by omega)]
  simp only [Option.bind_some]
  have e36:((s[0].toNat:Int) == 36) = (s[0].toNat == 36) := by rw [Bool.eq_iff_iff]; simp; omega
  rw [e36]
  cases hq:s[0].toNat == 36 with
  | true=>rfl
  | false =>
    obtain ⟨r,h,hr⟩ := key (by omega)
    simp only [cond_false,Bool.not_false,Bool.true_and,h,Option.bind_some]
    rcases r with r | r
    · have hr : _ = false := hr
      rw [hr]; all_goals rfl
    · have hr : _ = true := hr
      rw [hr]; all_goals rfl

theorem wL (s:ByteArray) : Q45 s = some (nameB s) := (rfl:Q45 s = Q23 s).trans (wK s)
theorem MP (s:ByteArray) : Q44 s = some (nameB s) := (rfl:Q44 s = Q23 s).trans (wK s)
theorem acn (s:ByteArray) : Q30 s = some (nameB s) := by
  rw [← wK s]
  have e:decide (s = (⟨#[]⟩ : ByteArray)) = decide ((s.size:Int) < 1) := by
    by_cases h:s.size < 1
    · rw [decide_eq_true (size_nil h),decide_eq_true (by omega)]
    · rw [decide_eq_false (Zd h),decide_eq_false (by omega)]
  simp only [Q30,akI,Oe,Ci,KP,KO,Rw,Ru,Mo.den,aP,aI,aJ,aN,aO,Q23,adU,ED,ql,BX,BU,FZ,FY,Mo.den,aP,aI,aJ,aN,aO,e]

theorem aco (s:ByteArray) : Q34 s = some (!nameB s) := by
  have key:s.size ≤ 32 → Tot (Og s 0) (fun r=>match r with | .inl _=>s.data.toList.all (fun c=>l9 c.toNat) = false | .inr _=>s.data.toList.all (fun c=>l9 c.toNat) = true) := by
    intro h2
    refine T.rE s.size (by omega) (fun k v=>v = (k:Int) ∧ ∀ i (hi:i < s.size),i < k → l9 s[i].toNat = true) _ ⟨rfl,fun i _ h=>absurd h (by omega)⟩ ?_ ?_
    · rintro k v hk ⟨rfl,hv⟩
      have hc:l9 s[k].toNat = (decide (33 ≤ s[k].toNat) && decide (s[k].toNat ≤ 126) && !(s[k].toNat == 46)) := rfl
      have e46:((s[k].toNat:Int) == 46) = (s[k].toNat == 46) := by rw [Bool.eq_iff_iff]; simp; omega
      simp only [vS,KT,KU,Mo.den,aP,aI,aJ,aN,aO,iLt hk,cond_true,ru s k hk,Option.bind_some]
      by_cases a1:s[k].toNat < 33
      · rw [decide_eq_true (show (s[k].toNat : Int) < 33 by omega)]
        simp only [cond_true,Option.bind_some]
        exact T.ret (xY s _ k hk (by rw [hc,decide_eq_false (show ¬ 33 ≤ s[k].toNat by omega)]; rfl))
      rw [decide_eq_false (show ¬ (s[k].toNat:Int) < 33 by omega)]; simp only [cond_false,Option.bind_some]
      by_cases a2 : 126 < s[k].toNat
      · rw [decide_eq_true (show (126 : Int) < (s[k].toNat : Int) by omega)]
        simp only [cond_true,Option.bind_some]
        exact T.ret (xY s _ k hk (by rw [hc,decide_eq_false (show ¬ s[k].toNat ≤ 126 by omega),Bool.and_false]; rfl))
      rw [decide_eq_false (show ¬ (126:Int) < (s[k].toNat:Int) by omega),e46]; simp only [cond_false,Option.bind_some]
      cases a3:s[k].toNat == 46 with
      | true =>
        simp only [cond_true]
        exact T.ret (xY s _ k hk (by rw [hc,a3,Bool.not_true,Bool.and_false]))
      | false =>
        simp only [cond_false]
        refine T.ret ⟨inc k (by omega),fun i hi hl=>?_⟩
        rcases Nat.lt_succ_iff_lt_or_eq.1 hl with h3 | rfl
        · exact hv i hi h3
        · rw [hc,a3,decide_eq_true (show 33 ≤ s[i].toNat by omega),decide_eq_true (show s[i].toNat ≤ 126 by omega)]; rfl
    · rintro v ⟨rfl,hv⟩
      simp only [vS,Mo.den,aP,aI,aJ,aN,aO,ltn,cond_false]
      exact T.ret (Ny s _ fun i hi=>hv i hi hi)
  unfold Q34 akJ Rx Ry
  simp only [Mo.den,aP,aI,aJ,aN,aO]
  by_cases h0:s.size < 1
  · rw [decide_eq_true (show (s.size : Int) < 1 by omega)]
    rw [JA s (by omega)]; rfl
  rw [decide_eq_false (show ¬ (s.size:Int) < 1 by omega)]; simp only [cond_false]
  by_cases h1 : 32 < s.size
  · rw [decide_eq_true (show (32:Int) < (s.size:Int) by omega),Jz s h1]; rfl
  rw [decide_eq_false (show ¬ (32:Int) < (s.size:Int) by omega)]; simp only [Option.bind_some,cond_false]
  have hz:lF s 0 = some s[0] := ru s 0 (by omega)
  rw [hz,xX s (by omega) (by omega)]
  simp only [Option.bind_some]
  have e36:((s[0].toNat:Int) == 36) = (s[0].toNat == 36) := by rw [Bool.eq_iff_iff]; simp; omega
  rw [e36]
  cases hq:s[0].toNat == 36 with
  | true=>rfl
  | false =>
    obtain ⟨r,h,hr⟩ := key (by omega)
    simp only [cond_false,Bool.not_false,Bool.true_and,h,Option.bind_some]
    rcases r with r | r
    · have hr : _ = false := hr
      rw [hr]; all_goals rfl
    · have hr : _ = true := hr
      rw [hr]; all_goals rfl


/-! ### sound values -/
def hasB (n:ByteArray) (l:List ByteArray) : Bool := l.any fun m=>decide (n = m)
mutual
def aj.snd:aj → Bool
  | .mk k i s l d=>(Nz k i s l.length d.length && NC k i s) && (aj.lX l && aB.lX [] d)
def aj.lX:List aj → Bool
  | []=>true
  | x :: r=>x.snd && aj.lX r
def aB.lX:List ByteArray → List aB → Bool
  | _,[]=>true
  | seen,.mk n x :: r=>(nameB n && !hasB n seen) && (x.snd && aB.lX (n :: seen) r)
end
theorem U4:∀ l:List aj,aj.lX l = l.all aj.snd
  | []=>by unfold aj.lX; rfl
  | x :: r=>by unfold aj.lX; rw [U4 r]; rfl
def Pm (l:List ByteArray) : List (ByteArray × Bool) := l.map fun n=>(n,true)
theorem MQ (n:ByteArray) : ∀ l:List ByteArray,sO (Pm l) n false = hasB n l
  | []=>rfl
  | x :: r=>by
    show (if n = x then true else sO (Pm r) n false) = (decide (n = x) || hasB n r)
    rw [MQ n r]
    by_cases h:n = x
    · rw [if_pos h,decide_eq_true h]; rfl
    · rw [if_neg h,decide_eq_false h]; rfl
theorem Xj (seen:List ByteArray) (n:ByteArray) (x:aj) (r:List aB) : aB.lX seen (.mk n x :: r) = ((nameB n && !hasB n seen) && (x.snd && aB.lX (n :: seen) r)) := by rw [aB.lX]
theorem acp (seen:List ByteArray) : aB.lX seen [] = true := by rw [aB.lX]
theorem an1 (v:aj) : v.snd = ((Nz v.aF v.eU v.fText v.aU.length v.aX.length && NC v.aF v.eU v.fText) && (aj.lX v.aU && aB.lX [] v.aX)) := by
  cases v with
  | mk k i s l d=>rw [aj.snd]; rfl
theorem U5 (R:RB4) (l:List aB) (hl:l.length ≤ 100000000) (h1:∀ x ∈ l,R.m1 x.fValue = some x.fValue.snd) : Mo.den (Yh R l) = some (aB.lX [] l) := by
  unfold Yh
  simp only [Mo.den,aP,aI,aJ,aN,aO]
  have key:Tot (Oa R l 0 []) (fun r=>match r with | .inl _=>aB.lX [] l = false | .inr _=>aB.lX [] l = true) := by
    refine T.rE l.length (by omega) (fun k s=>∃ m:List ByteArray,m.length = k ∧ s = ((k:Int),Pm m) ∧ aB.lX [] l = aB.lX m (l.drop k)) _ ⟨[],rfl,rfl,rfl⟩ ?_ ?_
    · rintro k s hk ⟨m,hm,rfl,he⟩
      have hx := List.getElem?_eq_getElem hk
      have hdr:l.drop k = l[k] :: l.drop (k + 1) := List.drop_eq_getElem_cons hk
      have q1 := h1 l[k] (List.getElem_mem hk)
      rw [hdr] at he
      obtain ⟨n,x⟩ : ∃ n x,l[k] = aB.mk n x := by cases l[k] with | mk n x=>exact ⟨n,x,rfl⟩
      obtain ⟨x,e⟩ := x
      rw [e] at q1 he
      rw [Xj] at he
      simp only [vC,Rf,Rh,Mo.den,aP,aI,aJ,aN,aO,ltt hx,gid hx,cond_true,Option.bind_some,e,aB.fName,aB.fValue,wK,MQ]
      simp only [aB.fValue] at q1
      rw [q1]
      cases a:nameB n with
      | false=>rw [a] at he; exact T.ret (show _ = false by rw [he]; rfl)
      | true =>
        cases b:hasB n m with
        | true=>rw [a,b] at he; exact T.ret (show _ = false by rw [he]; rfl)
        | false =>
          cases c:x.snd with
          | false=>rw [a,b,c] at he; exact T.ret (show _ = false by rw [he]; rfl)
          | true =>
            rw [a,b,c] at he
            refine T.grd (by rw [Pm,List.length_map]; unfold maxLen; omega) (T.ret ⟨n :: m,by simp [hm],by rw [inc k (by omega)]; rfl,by rw [he]; rfl⟩)
    · rintro s ⟨m,hm,rfl,he⟩
      rw [List.drop_length,acp] at he
      simp only [vC,Mo.den,aP,aI,aJ,aN,aO,ltn,cond_false]
      exact T.ret he
  obtain ⟨r,h,hr⟩ := key
  rw [h]
  rcases r with r | r
  · have hr : _ = false := hr
    rw [hr]; all_goals rfl
  · have hr : _ = true := hr
    rw [hr]; all_goals rfl
theorem acr (R:RB4) (v:aj) (hl:v.aU.length ≤ 100000000) (h1:∀ x ∈ v.aU,R.m1 x = some x.snd) : Tot (N9 R v 0) (fun r=>match r with | .inl _=>aj.lX v.aU = false | .inr _=>aj.lX v.aU = true) := by
  rw [U4]
  refine T.rE v.aU.length (by omega) (fun k s=>s = (k:Int) ∧ (v.aU.take k).all aj.snd = true) _ ⟨rfl,by simp⟩ ?_ ?_
  · rintro k s hk ⟨rfl,he⟩
    have hx := List.getElem?_eq_getElem hk
    simp only [vk,Mo.den,aP,aI,aJ,aN,aO,ltt hx,gid hx,cond_true,Option.bind_some,h1 _ (List.getElem_mem hk)]
    cases c:v.aU[k].snd with
    | false=>exact T.ret (ahw _ hx c)
    | true=>exact T.ret ⟨inc k (by omega),by rw [UZ _ hx,he,c]; rfl⟩
  · rintro s ⟨rfl,he⟩
    simp only [vk,Mo.den,aP,aI,aJ,aN,aO,ltn,cond_false]
    rw [List.take_length] at he
    exact T.ret he
theorem Xk:∀ (F:Nat) (v:aj),2 * aQ v.lf1 ≤ F → aQ v.lf1 ≤ 100000000 → (tu F).m1 v = some v.snd := by
  intro F
  induction F using Nat.strongRecOn with
  | _ F ih =>
  intro v hF hb
  have hp := dw v
  have hl := ji v.aU
  have hd := iF v.aX
  obtain ⟨F,rfl⟩ : ∃ G,F = G + 2 := ⟨F - 2,by omega⟩
  show Mo.den (Yg (tu (F + 1)) v) = _
  have hL := acr (tu (F + 1)) v (by omega) fun x hx=>ih (F + 1) (by omega) x (by have := jT hx; omega) (by have := jT hx; omega)
  have hD:(tu (F + 1)).m2 v.aX = some (aB.lX [] v.aX) := U5 (tu F) v.aX (by omega) fun x hx=>ih F (by omega) x.fValue (by have := iC hx; rw [fD] at this; omega) (by have := iC hx; rw [fD] at this; omega)
  obtain ⟨r0,hL,hr0⟩ := hL
  clear ih hF hb hp hl hd
  rw [an1]
  unfold Yg
  simp only [QY,QZ,J7,J8,J9,Ko,Kq,Kr,Kt,Ku,Kv,Kw,Ky,Mo.den,aP,aI,aJ,aN,aO,hL,hD,aoo]
  clear hL hD
  generalize v.aF = k at *
  generalize v.eU = i at *
  generalize v.fText = s at *
  generalize v.aU = l at *
  generalize v.aX = d at *
  unfold Nz NC
  have ei:(i != 0) = !(i == 0) := rfl
  have es:∀ dd:Decidable (s = (⟨#[]⟩ : ByteArray)),@decide _ dd = decide (s.size = 0) := fun dd=>by
    by_cases h:s.size = 0
    · rw [decide_eq_true h,decide_eq_true (size_nil (by omega))]
    · rw [decide_eq_false h,decide_eq_false (Zd (by omega))]
  have el:decide ((0:Int) < (l.length:Int)) = !(l.length == 0) := by
    cases l with
    | nil=>rfl
    | cons x r=>rw [decide_eq_true (show (0:Int) < ((x :: r).length:Int) by rw [List.length_cons]; omega)]; rfl
  have ed:decide ((0:Int) < (d.length:Int)) = !(d.length == 0) := by
    cases d with
    | nil=>rfl
    | cons x r=>rw [decide_eq_true (show (0:Int) < ((x :: r).length:Int) by rw [List.length_cons]; omega)]; rfl
  simp only [ei,es,el,ed]
  have e4:decide ((s.size:Int) ≤ 4096) = decide (s.size ≤ 4096) := by rw [Bool.eq_iff_iff]; simp; omega
  have e12:((s.size:Int) == 12) = decide (s.size = 12) := by rw [Bool.eq_iff_iff]; simp; omega
  simp only [e4,e12]
  have hl0:(l.length == 0) = true → aj.lX l = true := fun h=>by
    have:l = [] := List.eq_nil_of_length_eq_zero (by simpa using h)
    rw [this]; unfold aj.lX; rfl
  have hd0:(d.length == 0) = true → aB.lX [] d = true := fun h=>by
    have:d = [] := List.eq_nil_of_length_eq_zero (by simpa using h)
    rw [this]; unfold aB.lX; rfl
  clear ei es el ed e4 e12
  generalize aj.lX l = A at *
  generalize aB.lX [] d = B at *
  generalize (l.length == 0) = nl at *
  generalize (d.length == 0) = nd at *
  generalize DC s = u at *
  generalize decide (s.size ≤ 4096) = c1 at *
  generalize decide (s.size = 12) = c2 at *
  generalize decide (s.size = 0) = c3 at *
  have hk:k = 1 ∨ k = 2 ∨ k = 3 ∨ k = 4 ∨ k = 5 ∨ k = 6 ∨ k = 7 ∨ k = 8 ∨ k = 9 ∨ k = 10 ∨ k = 11 ∨ (k ≠ 1 ∧ k ≠ 2 ∧ k ≠ 3 ∧ k ≠ 4 ∧ k ≠ 5 ∧ k ≠ 6 ∧ k ≠ 7 ∧ k ≠ 8 ∧ k ≠ 9 ∧ k ≠ 10 ∧ k ≠ 11) := by omega
  rcases hk with rfl | rfl | rfl | rfl | rfl | rfl | rfl | rfl | rfl | rfl | rfl | ⟨n1,n2,n3,n4,n5,n6,n7,n8,n9,n10,n11⟩
  case inr.inr.inr.inr.inr.inr.inr.inr.inr.inr.inr =>
    have f:∀ c:Int,k ≠ c → (k == c) = false := fun c h=>by simpa using h
    simp only [bne,f _ n1,f _ n2,f _ n3,f _ n4,f _ n5,f _ n6,f _ n7,f _ n8,f _ n9,f _ n10,f _ n11]
    simp only [n1,n2,n3,n4,n5,n6,n7,n8,n9,n10,n11,or_self,if_false,decide_false]
    cases nl <;> cases nd <;> cases c3 <;> cases (i == 0) <;> rfl
  all_goals (rcases r0 with r0 | r0 <;> (have hr0:A = _ := hr0; subst hr0))
  all_goals simp (decide := true) only [if_true,if_false]
  all_goals (cases nl <;> cases nd <;> cases c3 <;> cases (i == 0) <;> first | rfl | skip)
  all_goals (first | (cases B <;> first | rfl | (exact absurd (hl0 rfl) (by decide)) | (exact absurd (hd0 rfl) (by decide)) | skip) | skip)
  all_goals (cases u <;> cases c1 <;> cases c2 <;> first | rfl | (cases (i == 1) <;> rfl) | (cases decide (0 ≤ i) <;> rfl))
theorem acs (v:aj) (hb:aQ v.lf1 ≤ 100000000) : Q11 v = some v.snd := Xk FU v (by have := jc; omega) hb
/-- valid values -/
def U6 (v:aj) : Bool := decide (v.cnt ≤ 1024) && (decide (v.dep ≤ 16) && v.snd)
theorem Dn (v:aj) (hb:aQ v.lf1 ≤ 100000000) : aiO v = some (U6 v) := by
  simp only [aiO,adV,Mo.den,aP,aI,aJ,aN,aO,aci v hb,acj v hb,acs v hb,Option.bind_some,U6]
  rw [show decide (((min v.cnt 1025:Nat) : Int) ≤ 1024) = decide (v.cnt ≤ 1024) by rw [Bool.eq_iff_iff]; simp; omega,show decide (((min v.dep 17:Nat) : Int) ≤ 16) = decide (v.dep ≤ 16) by rw [Bool.eq_iff_iff]; simp; omega]
  cases decide (v.cnt ≤ 1024) <;> cases decide (v.dep ≤ 16) <;> rfl
end Go.Proofs.YtflpefkohpjjpaaGreatDoor
set_option linter.unusedSimpArgs false
set_option linter.unusedVariables false
namespace Go.Proofs.YtflpefkohpjjpaaGreatDoor
open Go.RowKit
theorem T.an2 {α ρ:Type} {F:Int × List α → Option ((Int × List α) ⊕ ρ)} (Q : ρ → Prop) (step:∀ (k:Nat) (m:List α),k ≤ 100000000 → m.length ≤ k → Tot (F ((k:Int),m)) (LP (fun v=>v.1 = IntKind.wrap .i64 ((k:Int) + 1) ∧ v.2.length ≤ k + 1 ∧ k < 100000000) Q)) : Tot (bT F FU (0,[])) Q :=
  T.akl (fun v=>v.1) (fun v=>(v.2.length:Int) ≤ v.1) Q rfl (Int.le_refl _) fun k s hk hs hP=>by
    obtain ⟨i,m⟩ := s
    obtain rfl:i = (k:Int) := hs
    have hP:(m.length:Int) ≤ (k:Int) := hP
    refine T.mono (step k m hk (by omega)) ?_
    rintro (v | r) h
    · refine ⟨h.1,?_,h.2.2⟩
      have h1 := h.1
      have h2 := h.2.1
      show (v.2.length:Int) ≤ v.1
      rw [h1,inc k (by omega)]; omega
    · exact h
theorem gU (v:aj) (h:aQ v.lf1 ≤ 100000000) : Tot (aiO v) Any := ⟨_,Dn v h,trivial⟩
theorem U7 (a b:ByteArray) : amk a b = some (V8 a b) := rfl
theorem Po (p:List ByteArray) (h:p.length ≤ 100000000) : amL p = some (!(p.all nameB)) := by
  have key:Tot (Wn p 0) (fun r=>match r with | .inl k=>0 ≤ k ∧ p.all nameB = false | .inr _=>p.all nameB = true) := by
    refine T.rE p.length (by omega) (fun k s=>s = (k:Int) ∧ (p.take k).all nameB = true) _ ⟨rfl,by simp⟩ ?_ ?_
    · rintro k s hk ⟨rfl,hv⟩
      have hx := List.getElem?_eq_getElem hk
      simp only [zh,Mo.den,aP,aI,aJ,aN,aO,ltt hx,gid hx,cond_true,Option.bind_some,aco]
      cases hb:nameB p[k] with
      | false=>exact T.ret ⟨by omega,ahw _ hx hb⟩
      | true=>exact T.ret ⟨inc k (by omega),by rw [UZ _ hx,hv,hb]; rfl⟩
    · rintro s ⟨rfl,hv⟩
      simp only [zh,Mo.den,aP,aI,aJ,aN,aO,ltn,cond_false]
      exact T.ret (show p.all nameB = true by rw [List.take_length] at hv; exact hv)
  obtain ⟨r,h1,hr⟩ := key
  simp only [amL,ad8,Q28,akK,Mo.den,aP,aI,aJ,aN,aO,h1,Option.bind_some]
  rcases r with r | r
  · have hr : 0 ≤ r ∧ p.all nameB = false := hr
    rw [hr.2]
    show some (decide (0 ≤ r)) = _
    rw [decide_eq_true hr.1]; rfl
  · have hr:p.all nameB = true := hr
    rw [hr]; rfl
theorem qC (p:List ByteArray) : Q99 p = some (alz p) := by
  unfold Q99 akL RF RG KY alz
  simp only [Mo.den,aP,aI,aJ,aN,aO]
  by_cases h0 : 1 ≤ p.length
  · rw [decide_eq_true (show (1 : Int) ≤ (p.length : Int) by omega), decide_eq_true h0]
    by_cases h1:p.length ≤ 16
    · rw [decide_eq_true (show (p.length : Int) ≤ 16 by omega), decide_eq_true h1]
      simp only [cond_true,Option.bind_some,Po p (by omega),Bool.not_not,Bool.true_and]
    · rw [decide_eq_false (show ¬ (p.length:Int) ≤ 16 by omega),decide_eq_false h1]; rfl
  · rw [decide_eq_false (show ¬ (1:Int) ≤ (p.length:Int) by omega),decide_eq_false h0]; rfl
theorem IB (x:Int) : 0 ≤ IntKind.wrap .u64 x ∧ IntKind.wrap .u64 x < 18446744073709551616 := by
  rw [sS]; omega
theorem ap3 {v:Int} (h : 0 ≤ v) : wM .u64 v 7 = ((v.toNat / 128:Nat) : Int) := by
  obtain ⟨a,rfl⟩ := Int.eq_ofNat_of_zero_le h
  rw [Int.toNat_natCast]
  show Int.fdiv (a:Int) (2 ^ min (7:Int).toNat (IntKind.u64).bits) = _
  rw [show (2:Int) ^ min (7:Int).toNat (IntKind.u64).bits = ((128:Nat) : Int) from rfl,Int.fdiv_eq_ediv_of_nonneg _ (by omega)]
  omega
/-- how far the groups of a number reach -/
def grp (k:Nat) (v:Int) : Prop := 0 ≤ v ∧ v.toNat * 128 ^ k < 18446744073709551616
theorem grp.next {k:Nat} {v:Int} (h:grp k v) : grp (k + 1) (wM .u64 v 7) := by
  rw [ap3 h.1]
  refine ⟨by omega,?_⟩
  rw [Int.toNat_natCast,Nat.pow_succ,Nat.mul_comm (128 ^ k) 128,← Nat.mul_assoc]
  exact Nat.lt_of_le_of_lt (Nat.mul_le_mul_right _ (Nat.div_mul_le_self _ _)) h.2
theorem grp.last {v:Int} (h:grp 10 v) : decide ((128:Int) ≤ v) = false := by
  have h1 := h.1
  have h2 := h.2
  refine decide_eq_false ?_
  have:(128:Nat) ^ 10 = 1180591620717411303424 := by decide
  rw [this] at h2
  omega
theorem Pq (n:Int) : ∃ u,aiR n = some u ∧ grp 0 u := by
  simp only [aiR,ad3,Mo.den,aP,aI,aJ,aN,aO]
  refine ⟨_,rfl,?_⟩
  have h:∀ a b:Int,0 ≤ eH .xor .u64 a b ∧ eH .xor .u64 a b < 18446744073709551616 := fun a b=>IB _
  have := h (IX .u64 (IntKind.wrap .u64 n) 1) (IntKind.wrap .u64 (wM .i64 n 63))
  exact ⟨this.1,by rw [Nat.pow_zero]; omega⟩
theorem iI (n:Int) : Tot (Q83 n) Any := by
  unfold Q83 akF
  obtain ⟨u,hu,hg⟩ := Pq n
  simp only [Mo.den,aP,aI,aJ,aN,aO,hu,Option.bind_some]
  refine T.bind (R := Any) (T.rE 10 (by omega) (fun k s=>grp k s.2) _ hg ?_ ?_) fun _ _=>T.any
  · rintro k ⟨c,v⟩ hk hv
    simp only [F5,Mo.den,aP,aI,aJ,aN,aO]
    exact T.ite (fun _=>T.ret hv.next) fun _=>T.ret trivial
  · rintro ⟨c,v⟩ hv
    have hv:grp 10 v := hv
    simp only [F5,Mo.den,aP,aI,aJ,aN,aO,hv.last,cond_false]
    exact T.ret trivial
theorem fE (n:Int) (l:List Int) (hl:l.length ≤ 100000000000) : Tot (Q36 n l) (fun r=>r.length ≤ l.length + 11) := by
  unfold Q36 ak6
  obtain ⟨u,hu,hg⟩ := Pq n
  simp only [Mo.den,aP,aI,aJ,aN,aO,hu,Option.bind_some]
  refine T.bind (R := fun r=>r.2.length ≤ l.length + 10) (T.rE 10 (by omega) (fun k s=>grp k s.1 ∧ s.2.length = l.length + k) _ ⟨hg,rfl⟩ ?_ ?_) fun r hr=>T.grd (by simp only [List.length_cons,List.length_nil]; omega) (T.ret ?_)
  · rintro k ⟨v,m⟩ hk ⟨hv,hm⟩
    have hm:m.length = l.length + k := hm
    simp only [Ag,Mo.den,aP,aI,aJ,aN,aO]
    refine T.ite (fun _=>T.grd (by simp only [List.length_cons,List.length_nil]; omega) (T.ret ⟨hv.next,?_⟩)) fun _=>T.ret ?_
    · rw [List.length_append,List.length_cons,List.length_nil]; omega
    · show m.length ≤ _; omega
  · rintro ⟨v,m⟩ ⟨hv,hm⟩
    have hv:grp 10 v := hv
    have hm:m.length = l.length + 10 := hm
    simp only [Ag,Mo.den,aP,aI,aJ,aN,aO,hv.last,cond_false]
    exact T.ret (by show m.length ≤ _; omega)
  · rw [List.length_append,List.length_cons,List.length_nil]; omega
end Go.Proofs.YtflpefkohpjjpaaGreatDoor
