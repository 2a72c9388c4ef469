/- Printed by dec.py. -/
import Derived.Test.YtpdlghcgekojlaaGreatDoorQD6
set_option linter.unusedSimpArgs false
set_option linter.unusedVariables false
namespace Go.Proofs.YtpdlghcgekojlaaGreatDoor
open Go.RowKit
set_option maxRecDepth 20000
set_option maxHeartbeats 4000000
noncomputable section
structure jT where
 m1:(p_v:ah)→Option (List Int)
 ok1:∀(p_v:ah) (r:List Int),m1 p_v=some r→FnH Tryz.prog GI 150 [.raw (.slice none 0 0),.dat (ah.lf1 p_v)] [] (.own 0) [.row 5 1 (r.map (lfK .u8))]
 m2:(p_v:ah)→(p_s0:List Int)→Option (List Int)
 ok2:∀(p_v:ah) (p_s0:List Int) (r:List Int),m2 p_v p_s0=some r→FnH Tryz.prog GI 150 [.own 0,.dat (ah.lf1 p_v)] [.row 5 1 (p_s0.map (lfK .u8))] (.own 1) [.dead,.row 5 1 (r.map (lfK .u8))]
noncomputable def Bo(R_:jT)(p_v:ah):Mo (((List Int))):=
 .stop
noncomputable def NM(R_:jT)(p_v:ah):Option (((List Int))):=Mo.den (Bo R_ p_v)
noncomputable def kZ  (r_:((List Int))):St:=⟨[(0,.own 2)],[.dead,.dead,.row 5 1 (r_.map (lfK .u8))]⟩
theorem Pn{R_:jT}{p_v:ah}{r_:((List Int))}(h:NM R_ p_v=some r_):bQ Tryz.f150 0 [1,1,0,1] (.normal) (kZ r_) ⟨[(0,.own 2),(3,.ptr 0 0),(19,.i_ p_v.aK)],[.box 40 (.dat (ah.lf1 p_v)),.dead,.row 5 1 ([IntKind.wrap .u8 p_v.aK].map (lfK .u8))]⟩:=
 bM aG (Bo R_ p_v) (fun _=>.normal) kZ (by kernel_rfl) h
noncomputable def Xf(R_:jT)(p_v:ah):Mo (List Int):=
 .say [.rows ([IntKind.wrap .u8 p_v.aK].map (lfK .u8))] (okc (by simp[lfI,lfK]:[IntKind.wrap .u8 p_v.aK].map (lfK .u8)=[]++[((lfK .u8) (IntKind.wrap .u8 p_v.aK))]) ok0)<|
 .grd ((([]:List Int).length+[IntKind.wrap .u8 p_v.aK].length)*1≤140737488355328) fun h0=>
 .say [] (okc (by first|(simp;done)|simpa using h0:(([]:List (List Lf)).length+[((lfK .u8) (IntKind.wrap .u8 p_v.aK))].length)*1≤140737488355328) ok0)<|
 .ask (NM R_ p_v) fun r0 h1=>
 .say [.part [.kill 1] 6 [0,3,19] 3 (.normal) (kZ r0).T (kZ r0).H] (ok1 (Pn h1))<|
 .ret ⟨[.mvn 2],[0],[(3,0)],1⟩ (r0)
theorem aaf(R_:jT)(p_v:ah)(r:List Int)(h:Mo.den (Xf R_ p_v)=some r):FnH Tryz.prog GI 150 [.raw (.slice none 0 0),.dat (ah.lf1 p_v)] [] (.own 0) [.row 5 1 (r.map (lfK .u8))]:=
 dh aG Tryz.func150 (by kernel_rfl) (by kernel_rfl) (by kernel_rfl) (Xf R_ p_v) (fun r=>[.own 0]) (fun r=>[.row 5 1 (r.map (lfK .u8))]) (by kernel_rfl) h
noncomputable def IJ(R_:jT)(p_s0:List Int)(p_v:ah):Mo (Bool):=
 .ite (p_v.aK==3) (fun c0=>
 .say [.br true] (ok1 c0)<|
 .ret ⟨[],[0,3,19,20],[],4⟩ (p_v.aK==3)) fun _=>.stop
noncomputable def Xg(R_:jT)(p_s0:List Int)(p_v:ah):Option (Bool):=Mo.den (IJ R_ p_s0 p_v)
noncomputable def xZ(p_s0:List Int)(p_v:ah)(r_:Bool):St:=⟨[(0,.own 3),(3,.ptr 1 0),(19,.i_ p_v.aK),(20,.b_ r_)],[.dead,.box 40 (.dat (ah.lf1 p_v)),.dead,.row 5 1 ((p_s0++[IntKind.wrap .u8 p_v.aK]).map (lfK .u8))]⟩
theorem Xh{R_:jT}{p_s0:List Int}{p_v:ah}{r_:Bool}(h:Xg R_ p_s0 p_v=some r_):bQ Tryz.f150 1 [1,1,0,1,0,0,1] (.normal) (xZ p_s0 p_v r_) ⟨[(0,.own 3),(3,.ptr 1 0),(19,.i_ p_v.aK),(20,.lf (.bool (p_v.aK==3)))],[.dead,.box 40 (.dat (ah.lf1 p_v)),.dead,.row 5 1 ((p_s0++[IntKind.wrap .u8 p_v.aK]).map (lfK .u8))]⟩:=
 bM aG (IJ R_ p_s0 p_v) (fun _=>.normal) (xZ p_s0 p_v) (by kernel_rfl) h
noncomputable def IK(R_:jT)(p_v:ah):(Int×(List Int))→Mo ((Int×(List Int))⊕((List Int))):=fun(v0,l0)=>
 .ite (decide ((0:Int)≤v0)) (fun c0=>
 .say [.br true,.rows ((l0++[IntKind.wrap .u8 (BJ .u64 (gW .xor .u64 (IntKind.wrap .u64 p_v.fB) 9223372036854775808) v0)]).map (lfK .u8))] (ok1 c0)<|
 .grd ((0:Int)≤v0) fun h0=>
 .say [] (okc h0 (okc (by simp[lfI,lfK]:(l0++[IntKind.wrap .u8 (BJ .u64 (gW .xor .u64 (IntKind.wrap .u64 p_v.fB) 9223372036854775808) v0)]).map (lfK .u8)=(l0.map (lfK .u8))++[((lfK .u8) (IntKind.wrap .u8 (BJ .u64 (gW .xor .u64 (IntKind.wrap .u64 p_v.fB) 9223372036854775808) v0)))]) ok0))<|
 .grd ((l0.length+[IntKind.wrap .u8 (BJ .u64 (gW .xor .u64 (IntKind.wrap .u64 p_v.fB) 9223372036854775808) v0)].length)*1≤140737488355328) fun h1=>
 .say [] (okc (by simpa using h1:((l0.map (lfK .u8)).length+[((lfK .u8) (IntKind.wrap .u8 (BJ .u64 (gW .xor .u64 (IntKind.wrap .u64 p_v.fB) 9223372036854775808) v0)))].length)*1≤140737488355328) ok0)<|
 .ret ⟨[],[0,5,6],[(5,3)],4⟩ (.inl (IntKind.wrap .i64 (v0-8),l0++[IntKind.wrap .u8 (BJ .u64 (gW .xor .u64 (IntKind.wrap .u64 p_v.fB) 9223372036854775808) v0)]))) fun c0=>
 .say [.br false] (ok1 c0)<|
 .ret ⟨[],[0],[],4⟩ (.inr (l0))
noncomputable def Xi(R_:jT)(p_v:ah)(v0:Int)(l0:List Int):Option (((List Int))):=dF (fun v_=>(IK R_ p_v v_).den) FU (v0,l0)
noncomputable def IL(R_:jT)(p_v:ah):(Int×(List Int))→St:=fun(v0,l0)=>⟨[(0,.own 3),(5,.lf (.int .u64 (gW .xor .u64 (IntKind.wrap .u64 p_v.fB) 9223372036854775808))),(6,.i_ v0)],[.dead,.dead,.dead,.row 5 1 (l0.map (lfK .u8))]⟩
noncomputable def nJ  (r_:((List Int))):St:=⟨[(0,.own 3)],[.dead,.dead,.dead,.row 5 1 (r_.map (lfK .u8))]⟩
theorem Xj{R_:jT}{p_v:ah}{v0:Int}{l0:List Int}{r_:((List Int))}(h:Xi R_ p_v v0 l0=some r_):bQ Tryz.f150 1 [1,1,0,1,0,1,0,1,1,0] (.exit 1) (nJ r_) (IL R_ p_v (v0,l0)):=
 bU aG (body:=(Code.sub (bodyC Tryz.f150) [1,1,0,1,0,1,0,1,1,0,0])) (by kernel_rfl) (IK R_ p_v) (IL R_ p_v) (fun _=>.exit 1) nJ (fun r_=>rfl) (fun v_=>by kernel_rfl) h
noncomputable def Bq(R_:jT)(p_s0:List Int)(p_v:ah):Mo (((List Int))):=
 .ask (Xg R_ p_s0 p_v) fun r0 h0=>
 .say [.pt_ 1 [0,3,19,20] 4 (.normal) (xZ p_s0 p_v r0)] (ok1 (Xh h0))<|
 .ite (r0) (fun c0=>
 .say [.br true] (ok1 c0)<|
 .ask (Xi R_ p_v 56 (p_s0++[IntKind.wrap .u8 p_v.aK])) fun r1 h1=>
 .say [.part [.kill 1] 0 [0,5,6] 4 (.exit 1) (nJ r1).T (nJ r1).H] (ok1 (Xj h1))<|
 .ret ⟨[],[0],[],4⟩ (r1)) fun _=>.stop
noncomputable def NP(R_:jT)(p_s0:List Int)(p_v:ah):Option (((List Int))):=Mo.den (Bq R_ p_s0 p_v)
noncomputable def lg  (r_:((List Int))):St:=⟨[(0,.own 3)],[.dead,.dead,.dead,.row 5 1 (r_.map (lfK .u8))]⟩
theorem Po{R_:jT}{p_s0:List Int}{p_v:ah}{r_:((List Int))}(h:NP R_ p_s0 p_v=some r_):bQ Tryz.f150 1 [1,1,0,1] (.normal) (lg r_) ⟨[(0,.own 3),(3,.ptr 1 0),(19,.i_ p_v.aK)],[.dead,.box 40 (.dat (ah.lf1 p_v)),.dead,.row 5 1 ((p_s0++[IntKind.wrap .u8 p_v.aK]).map (lfK .u8))]⟩:=
 bM aG (Bq R_ p_s0 p_v) (fun _=>.normal) lg (by kernel_rfl) h
noncomputable def Xk(R_:jT)(p_v:ah)(p_s0:List Int):Mo (List Int):=
 .say [.rows ((p_s0++[IntKind.wrap .u8 p_v.aK]).map (lfK .u8))] (okc (by simp[lfI,lfK]:(p_s0++[IntKind.wrap .u8 p_v.aK]).map (lfK .u8)=(p_s0.map (lfK .u8))++[((lfK .u8) (IntKind.wrap .u8 p_v.aK))]) ok0)<|
 .grd ((p_s0.length+[IntKind.wrap .u8 p_v.aK].length)*1≤140737488355328) fun h0=>
 .say [] (okc (by simpa using h0:((p_s0.map (lfK .u8)).length+[((lfK .u8) (IntKind.wrap .u8 p_v.aK))].length)*1≤140737488355328) ok0)<|
 .ask (NP R_ p_s0 p_v) fun r0 h1=>
 .say [.part [.kill 2] 6 [0,3,19] 4 (.normal) (lg r0).T (lg r0).H] (ok1 (Po h1))<|
 .ret ⟨[.mvn 3],[0],[(4,1)],2⟩ (r0)
theorem aag(R_:jT)(p_v:ah)(p_s0:List Int)(r:List Int)(h:Mo.den (Xk R_ p_v p_s0)=some r):FnH Tryz.prog GI 150 [.own 0,.dat (ah.lf1 p_v)] [.row 5 1 (p_s0.map (lfK .u8))] (.own 1) [.dead,.row 5 1 (r.map (lfK .u8))]:=
 dh aG Tryz.func150 (by kernel_rfl) (by kernel_rfl) (by kernel_rfl) (Xk R_ p_v p_s0) (fun r=>[.own 1]) (fun r=>[.dead,.row 5 1 (r.map (lfK .u8))]) (by kernel_rfl) h
noncomputable def qH:Nat→jT
 |0=>{ m1:=fun p_v=>none,ok1:=fun _ _ h=>(by cases h),m2:=fun p_v p_s0=>none,ok2:=fun _ _ _ h=>(by cases h) }
 |n_+1=>{ m1:=fun p_v=>Mo.den (Xf (qH n_) p_v),ok1:=fun p_v r h=>aaf (qH n_) p_v r h,m2:=fun p_v p_s0=>Mo.den (Xk (qH n_) p_v p_s0),ok2:=fun p_v p_s0 r h=>aag (qH n_) p_v p_s0 r h }
noncomputable def Q17(p_v:ah)(p_s0:List Int):Option (List Int):=(qH FU).m2 p_v p_s0
theorem adQ(p_v:ah)(p_s0:List Int)(r:List Int)(h:Q17 p_v p_s0=some r):FnH Tryz.prog GI 150 [.own 0,.dat (ah.lf1 p_v)] [.row 5 1 (p_s0.map (lfK .u8))] (.own 1) [.dead,.row 5 1 (r.map (lfK .u8))]:=(qH FU).ok2 p_v p_s0 r h
noncomputable def IQ(l0:List Int)(p_desc:List Bool)(p_l:List ah)(v0:Int):Mo (Unit⊕((List Int))):=
 .ask (iM p_l v0) fun x0 h0=>
 .say [.row (ah.lf1 x0)] (okc (bZ ah.aW h0) ok0)<|
 .ask (Q81 x0) fun r0 h1=>
 .say [.res (.b_ r0)] (ok1 (adP _ _ h1))<|
 .ite (!r0) (fun _=>.stop) fun c0=>
 .say [.br false,.num l0.length,.at_ 22 2,.tod 29] (okc c0 (okc (by simp:l0.length=(l0.map (lfK .u8)).length) ok0))<|
 .ask (Q17 x0 l0) fun r1 h2=>
 .say [.dP [0] (.own 1) [.dead,.row 5 1 (r1.map (lfK .u8))]] (ok1 (adQ _ _ _ h2))<|
 .ask (iM p_desc v0) fun x1 h3=>
 .say [.row (lfB x1)] (okc (bZ (fun _=>rfl) h3:(0:Int)≤v0∧(p_desc.map lfB)[v0.toNat]?=some (lfB x1)) ok0)<|
 .ite (x1) (fun _=>.stop) fun c1=>
 .say [.br false] (ok1 c1)<|
 .ret ⟨[.kill 1],[1,6,16,17,18],[(2,0)],3⟩ (.inr (r1))
noncomputable def Xl(l0:List Int)(p_desc:List Bool)(p_l:List ah)(v0:Int):Option (Unit⊕((List Int))):=Mo.den (IQ l0 p_desc p_l v0)
noncomputable def yc(r_:Unit⊕((List Int))):Exit:=match r_ with
 |.inl o_=>.ret
 |.inr (o_)=>.normal
noncomputable def yg(p_desc:List Bool)(p_l:List ah)(v0:Int)(r_:Unit⊕((List Int))):St:=match r_ with
 |.inl o_=>⟨[(4,.lf (.str ⟨#[]⟩)),(5,.i_ 8)],[.dead]⟩
 |.inr (o_)=>⟨[(1,.lf (.rows 1 (p_desc.map lfB))),(6,.own 0),(16,.lf (.rows 5 (p_l.map ah.lf))),(17,.i_ (p_l.length:Int)),(18,.i_ v0)],[.row 5 1 (o_.map (lfK .u8)),.dead,.dead]⟩
theorem Xm{l0:List Int}{p_desc:List Bool}{p_l:List ah}{v0:Int}{r_:Unit⊕((List Int))}(h:Xl l0 p_desc p_l v0=some r_):bQ Tryz.f92 0 [1,1,1,0,1,0,0,1,1,0] (yc r_) (yg p_desc p_l v0 r_) ⟨[(1,.lf (.rows 1 (p_desc.map lfB))),(6,.own 0),(16,.lf (.rows 5 (p_l.map ah.lf))),(17,.i_ (p_l.length:Int)),(18,.i_ v0)],[.row 5 1 (l0.map (lfK .u8))]⟩:=
 bM aG (IQ l0 p_desc p_l v0) yc (yg p_desc p_l v0) (by kernel_rfl) h
noncomputable def Bv(p_desc:List Bool)(p_l:List ah):(Int×(List Int))→Mo ((Int×(List Int))⊕(Unit⊕((List Int)))):=fun(v0,l0)=>
 .ite (decide ((v0:Int)<(p_l.length:Int))) (fun c0=>
 .say [.br true] (ok1 c0)<|
 .ask2 (Xl l0 p_desc p_l v0) (fun _ _=>.stop) fun o0 h0=>
 .say [.pt_ 8 [1,6,16,17,18] 1 (yc (.inr (o0))) (yg p_desc p_l v0 (.inr (o0)))] (ok1 (Xm h0))<|
 .ret ⟨[],[1,6,16,17,18],[],1⟩ (.inl (IntKind.wrap .i64 (v0+1),o0))) fun c0=>
 .say [.br false] (ok1 c0)<|
 .ret ⟨[],[6],[],1⟩ (.inr (.inr (l0)))
noncomputable def NQ(p_desc:List Bool)(p_l:List ah)(v0:Int)(l0:List Int):Option (Unit⊕((List Int))):=dF (fun v_=>(Bv p_desc p_l v_).den) FU (v0,l0)
noncomputable def Bz(p_desc:List Bool)(p_l:List ah):(Int×(List Int))→St:=fun(v0,l0)=>⟨[(1,.lf (.rows 1 (p_desc.map lfB))),(6,.own 0),(16,.lf (.rows 5 (p_l.map ah.lf))),(17,.i_ (p_l.length:Int)),(18,.i_ v0)],[.row 5 1 (l0.map (lfK .u8))]⟩
noncomputable def qJ(r_:Unit⊕((List Int))):Exit:=match r_ with
 |.inl o_=>.ret
 |.inr (o_)=>.exit 0
noncomputable def lq  (r_:Unit⊕((List Int))):St:=match r_ with
 |.inl o_=>⟨[(4,.lf (.str ⟨#[]⟩)),(5,.i_ 8)],[.dead]⟩
 |.inr (o_)=>⟨[(6,.own 0)],[.row 5 1 (o_.map (lfK .u8))]⟩
theorem Pq{p_desc:List Bool}{p_l:List ah}{v0:Int}{l0:List Int}{r_:Unit⊕((List Int))}(h:NQ p_desc p_l v0 l0=some r_):bQ Tryz.f92 0 [1,1,1,0,1,0] (qJ r_) (lq r_) (Bz p_desc p_l (v0,l0)):=
 bU aG (body:=(Code.sub (bodyC Tryz.f92) [1,1,1,0,1,0,0])) (by kernel_rfl) (Bv p_desc p_l) (Bz p_desc p_l) qJ lq (fun r_=>by rcases r_ with _|_<;>rfl) (fun v_=>by kernel_rfl) h
noncomputable def abA(p_l:List ah)(p_desc:List Bool):Mo (ByteArray×Int):=
 .say [.num p_l.length,.num p_desc.length] (okc (ln_ p_l ah.lf) (okc (ln_ p_desc lfB) ok0))<|
 .ite ((p_l.length:Int) != (p_desc.length:Int)) (fun _=>.stop) fun c0=>
 .say [.br false,.num p_l.length] (okc c0 (okc (ln_ p_l ah.lf) (okc (by simp[lfI,lfK]:(([]:List Int).map (lfK .u8))=[]) ok0)))<|
 .ask2 (NQ p_desc p_l 0 ([]:List Int)) (fun _ _=>.stop) fun o0 h0=>
 .say [.part [.yU 6 5 1,.ji 0 (([]:List Int).map (lfK .u8))] 0 [1,6,16,17,18] 1 (qJ (.inr (o0))) (lq (.inr (o0))).T (lq (.inr (o0))).H,.nums o0] (okc (Pq h0) (okc (by simp[lfI,lfK]:(o0.map (lfK .u8))=o0.map fun n=>[Lf.int .u8 n]) ok0))<|
 .ret (cZ 2) (strOfNums o0,0)
noncomputable def Q30(p_l:List ah)(p_desc:List Bool):Option (ByteArray×Int):=Mo.den (abA p_l p_desc)
theorem adR(p_l:List ah)(p_desc:List Bool)(r:ByteArray×Int)(h:Q30 p_l p_desc=some r):Fn Tryz.prog GI 92 [.lf (.rows 5 (p_l.map ah.lf)),.lf (.rows 1 (p_desc.map lfB))] (.tup [.lf (.str r.1),.i_ r.2]):=
 dK aG Tryz.func92 (by kernel_rfl) (by kernel_rfl) (by kernel_rfl) (abA p_l p_desc) (fun r=>[.lf (.str r.1),.i_ r.2]) (by kernel_rfl) h
noncomputable def abB(p_key:ah):Mo (ByteArray×Bool):=
 .ite (p_key.aK==0) (fun _=>.stop) fun c0=>
 .say [.br false,.at_ 8 3,.PG 1 ([p_key].map ah.lf),.PG 2 ([false].map lfB)] (okc c0 (okc (by simp[ah.aW]:[p_key].map ah.lf=[(ah.lf1 p_key)]) (okc (by simp[lfB]:[false].map lfB=[(lfB false)]) ok0)))<|
 .ask (Q30 [p_key] [false]) fun r0 h0=>
 .say [.res (.tup [.lf (.str r0.1),.i_ r0.2])] (ok1 (adR _ _ _ h0))<|
 .ret (cZ 2) (r0.1,r0.2==0)
noncomputable def Q57(p_key:ah):Option (ByteArray×Bool):=Mo.den (abB p_key)
theorem KI(p_key:ah)(r:ByteArray×Bool)(h:Q57 p_key=some r):Fn Tryz.prog GI 54 [.dat (ah.lf1 p_key)] (.tup [.lf (.str r.1),.b_ r.2]):=
 dK aG Tryz.func54 (by kernel_rfl) (by kernel_rfl) (by kernel_rfl) (abB p_key) (fun r=>[.lf (.str r.1),.b_ r.2]) (by kernel_rfl) h
noncomputable def IU(p_b0_0:Int)(p_b0_1:List ak)(p_s1:aU)(p_s2:List (ByteArray×au))(p_s3:List (ByteArray×aA))(p_space:ByteArray)(r0:ByteArray×Bool):Mo (Bool):=
 .ite (!r0.2) (fun _=>.stop) fun c0=>
 .say [.gd 12002 false,.num (p_s1.row (aI p_space p_s1.dir) r0.1).length] (okc c0 (okc (ln_ (p_s1.row (aI p_space p_s1.dir) r0.1) aC.lf) ok0))<|
 .ret ⟨[],[9,31],[],6⟩ (((p_s1.row (aI p_space p_s1.dir) r0.1).length:Int)==0)
noncomputable def Xn(p_b0_0:Int)(p_b0_1:List ak)(p_s1:aU)(p_s2:List (ByteArray×au))(p_s3:List (ByteArray×aA))(p_space:ByteArray)(r0:ByteArray×Bool):Option (Bool):=Mo.den (IU p_b0_0 p_b0_1 p_s1 p_s2 p_s3 p_space r0)
noncomputable def nK(p_b0_0:Int)(p_b0_1:List ak)(p_s1:aU)(p_s2:List (ByteArray×au))(p_s3:List (ByteArray×aA))(p_space:ByteArray)(r0:ByteArray×Bool)(r_:Bool):St:=⟨[(9,.own 5),(31,.b_ r_)],[.box 113 (.agg [.i_ p_b0_0,.lf (.rows 25 (p_b0_1.map ak.lf)),.mp 1,.mp 2,.mp 3]),.res (aY p_s1 (outOf (aI p_space p_s1.dir) r0.1)) (some 5),.res (bD p_s2) none,.res (bF p_s3) none,.dead,.row 147 6 ((p_s1.row (aI p_space p_s1.dir) r0.1).map aC.lf)]⟩
theorem Xo{p_b0_0:Int}{p_b0_1:List ak}{p_s1:aU}{p_s2:List (ByteArray×au)}{p_s3:List (ByteArray×aA)}{p_space:ByteArray}{r0:ByteArray×Bool}{r_:Bool}(h:Xn p_b0_0 p_b0_1 p_s1 p_s2 p_s3 p_space r0=some r_):bQ Tryz.f31 4 [1,1,1,1,0,0] (.normal) (nK p_b0_0 p_b0_1 p_s1 p_s2 p_s3 p_space r0 r_) ⟨[(8,.b_ r0.2),(9,.own 5)],[.box 113 (.agg [.i_ p_b0_0,.lf (.rows 25 (p_b0_1.map ak.lf)),.mp 1,.mp 2,.mp 3]),.res (aY p_s1 (outOf (aI p_space p_s1.dir) r0.1)) (some 5),.res (bD p_s2) none,.res (bF p_s3) none,.dead,.row 147 6 ((p_s1.row (aI p_space p_s1.dir) r0.1).map aC.lf)]⟩:=
 bM aG (IU p_b0_0 p_b0_1 p_s1 p_s2 p_s3 p_space r0) (fun _=>.normal) (nK p_b0_0 p_b0_1 p_s1 p_s2 p_s3 p_space r0) (by kernel_rfl) h
noncomputable def ae0(p_space:ByteArray)(p_key:ah)(p_b0_0:Int)(p_b0_1:List ak)(p_s1:aU)(p_s2:List (ByteArray×au))(p_s3:List (ByteArray×aA))(r:Int):List AV:=[.i_ r]
noncomputable def abC(p_space:ByteArray)(p_key:ah)(p_b0_0:Int)(p_b0_1:List ak)(p_s1:aU)(p_s2:List (ByteArray×au))(p_s3:List (ByteArray×aA))(r:Int):List Slot:=[.box 113 (.agg [.i_ p_b0_0,.lf (.rows 25 (p_b0_1.map ak.lf)),.mp 1,.mp 2,.mp 3]),.res (aY p_s1 none) none,.res (bD p_s2) none,.res (bF p_s3) none]
noncomputable def abD(p_space:ByteArray)(p_key:ah)(p_b0_0:Int)(p_b0_1:List ak)(p_s1:aU)(p_s2:List (ByteArray×au))(p_s3:List (ByteArray×aA)):Mo (Int):=
 .say [.br false] (ok1 (rfl:false=false))<|
 .ask (Q57 p_key) fun r0 h0=>
 .say [.res (.tup [.lf (.str r0.1),.b_ r0.2]),.opH [1] (.hnd 0 (aI p_space p_s1.dir)) [.res (aY p_s1 none) none],.opH [1] (.own 1) [.res (aY p_s1 (outOf (aI p_space p_s1.dir) r0.1)) (some 1),.row 147 6 ((p_s1.row (aI p_space p_s1.dir) r0.1).map aC.lf)]] (okc (KI _ _ h0) (okc (Zr p_s1 p_space) (okc (tC p_s1 r0.1 (aI p_space p_s1.dir)) ok0)))<|
 .ask (Xn p_b0_0 p_b0_1 p_s1 p_s2 p_s3 p_space r0) fun r1 h1=>
 .say [.part [.kill 4] 17 [8,9] 6 (.normal) (nK p_b0_0 p_b0_1 p_s1 p_s2 p_s3 p_space r0 r1).T (nK p_b0_0 p_b0_1 p_s1 p_s2 p_s3 p_space r0 r1).H] (ok1 (Xo h1))<|
 .ite (r1) (fun c0=>
 .say [.br true] (okc c0 (okc (rP p_s1 r0.1 (aI p_space p_s1.dir)) ok0))<|
 .ret ⟨[.gho [1,5] [.res (aY p_s1 none) none,.dead]],[0],[],4⟩ ((0:Int))) fun c0=>
 .say [.br false,.num (p_s1.row (aI p_space p_s1.dir) r0.1).length] (okc c0 (okc (ln_ (p_s1.row (aI p_space p_s1.dir) r0.1) aC.lf) ok0))<|
 .ask (iM (p_s1.row (aI p_space p_s1.dir) r0.1) (IntKind.wrap .i64 (((p_s1.row (aI p_space p_s1.dir) r0.1).length:Int)-1))) fun x0 h2=>
 .say [.row (aC.lf1 x0)] (okc (rO aC.aW h2) (okc ((bZ aC.aW h2).2) (okc (rP p_s1 r0.1 (aI p_space p_s1.dir)) ok0)))<|
 .ret ⟨[.gho [1,5] [.res (aY p_s1 none) none,.dead]],[0],[],4⟩ (x0.dS)
noncomputable def Q40(p_space:ByteArray)(p_key:ah)(p_b0_0:Int)(p_b0_1:List ak)(p_s1:aU)(p_s2:List (ByteArray×au))(p_s3:List (ByteArray×aA)):Option (Int):=Mo.den (abD p_space p_key p_b0_0 p_b0_1 p_s1 p_s2 p_s3)
theorem Xp(p_space:ByteArray)(p_key:ah)(p_b0_0:Int)(p_b0_1:List ak)(p_s1:aU)(p_s2:List (ByteArray×au))(p_s3:List (ByteArray×aA))(r:Int)(h:Q40 p_space p_key p_b0_0 p_b0_1 p_s1 p_s2 p_s3=some r):FnH Tryz.prog GI 31 [.ptr 0 0,.lf (.str p_space),.dat (ah.lf1 p_key)] [.box 113 (.agg [.i_ p_b0_0,.lf (.rows 25 (p_b0_1.map ak.lf)),.mp 1,.mp 2,.mp 3]),.res (aY p_s1 none) none,.res (bD p_s2) none,.res (bF p_s3) none] (resV (ae0 p_space p_key p_b0_0 p_b0_1 p_s1 p_s2 p_s3 r)) (abC p_space p_key p_b0_0 p_b0_1 p_s1 p_s2 p_s3 r):=
 dh aG Tryz.func31 (by kernel_rfl) (by kernel_rfl) (by kernel_rfl) (abD p_space p_key p_b0_0 p_b0_1 p_s1 p_s2 p_s3) (ae0 p_space p_key p_b0_0 p_b0_1 p_s1 p_s2 p_s3) (abC p_space p_key p_b0_0 p_b0_1 p_s1 p_s2 p_s3) (by kernel_rfl) h
noncomputable def ae1(p_w:ay)(p_t:Int)(p_b0_0:Int)(p_b0_1:List ak)(p_s1:aU)(p_s2:List (ByteArray×au))(p_s3:List (ByteArray×aA))(r:Int):List AV:=[.i_ r]
noncomputable def abE(p_w:ay)(p_t:Int)(p_b0_0:Int)(p_b0_1:List ak)(p_s1:aU)(p_s2:List (ByteArray×au))(p_s3:List (ByteArray×aA))(r:Int):List Slot:=[.box 113 (.agg [.i_ p_b0_0,.lf (.rows 25 (p_b0_1.map ak.lf)),.mp 1,.mp 2,.mp 3]),.res (aY p_s1 none) none,.res (bD p_s2) none,.res (bF p_s3) none]
noncomputable def abG(p_w:ay)(p_t:Int)(p_b0_0:Int)(p_b0_1:List ak)(p_s1:aU)(p_s2:List (ByteArray×au))(p_s3:List (ByteArray×aA)):Mo (Int):=
 .say [.iY (.q 0 (.q 1 (.q 2 (.q 3 (.q 4 (.q 5 (.l 6 (.q 7 (.q 8 (.q 9 (.q 10 (.q 11 .fin)))))))))))) (some 6) [] [.opH [1] (.tup [.hnd 0 (aI p_w.aT p_s1.dir),.lf (.bool ((aI p_w.aT p_s1.dir).isSome))]) [.res (aY p_s1 none) none]] [0,2,4,8] 5 [(0,.ptr 0 0),(2,.i_ p_t),(4,.ptr 4 0),(8,.lf (.bool ((aI p_w.aT p_s1.dir).isSome)))] [.box 113 (.agg [.i_ p_b0_0,.lf (.rows 25 (p_b0_1.map ak.lf)),.mp 1,.mp 2,.mp 3]),.res (aY p_s1 none) none,.res (bD p_s2) none,.res (bF p_s3) none,.box 64 (.dat (ay.lf1 p_w))]] (okc (tu p_s1 p_w.aT) (okc (rf_ ⟨[(0,.ptr 0 0),(2,.i_ p_t),(4,.ptr 4 0),(8,.lf (.bool ((aI p_w.aT p_s1.dir).isSome)))],[.box 113 (.agg [.i_ p_b0_0,.lf (.rows 25 (p_b0_1.map ak.lf)),.mp 1,.mp 2,.mp 3]),.res (aY p_s1 none) none,.res (bD p_s2) none,.res (bF p_s3) none,.box 64 (.dat (ay.lf1 p_w))]⟩) ok0))<|
 .ite (!((aI p_w.aT p_s1.dir).isSome)) (fun _=>.stop) fun c0=>
 .say [.br false] (ok1 c0)<|
 .ask (Q29 p_w.aT p_w.jh p_b0_0 p_b0_1 p_s1 p_s2 p_s3) fun r0 h0=>
 .say [.dP [0,1,2,3] (.lf (.str r0)) [.box 113 (.agg [.i_ p_b0_0,.lf (.rows 25 (p_b0_1.map ak.lf)),.mp 1,.mp 2,.mp 3]),.res (aY p_s1 none) none,.res (bD p_s2) none,.res (bF p_s3) none]] (ok1 (Xe _ _ _ _ _ _ _ _ h0))<|
 .ite (!decide ((r0:ByteArray)=(⟨#[]⟩:ByteArray))) (fun _=>.stop) fun c1=>
 .say [.br false] (ok1 c1)<|
 .ask (Q40 p_w.aT p_w.jh p_b0_0 p_b0_1 p_s1 p_s2 p_s3) fun r1 h1=>
 .say [.dP [0,1,2,3] (.i_ r1) [.box 113 (.agg [.i_ p_b0_0,.lf (.rows 25 (p_b0_1.map ak.lf)),.mp 1,.mp 2,.mp 3]),.res (aY p_s1 none) none,.res (bD p_s2) none,.res (bF p_s3) none]] (ok1 (Xp _ _ _ _ _ _ _ _ h1))<|
 .ite (decide ((p_t:Int)≤r1)) (fun _=>.stop) fun c2=>
 .say [.br false] (ok1 c2)<|
 .ret ⟨[.kill 4],[0],[],4⟩ ((0:Int))
noncomputable def Q56(p_w:ay)(p_t:Int)(p_b0_0:Int)(p_b0_1:List ak)(p_s1:aU)(p_s2:List (ByteArray×au))(p_s3:List (ByteArray×aA)):Option (Int):=Mo.den (abG p_w p_t p_b0_0 p_b0_1 p_s1 p_s2 p_s3)
theorem adS(p_w:ay)(p_t:Int)(p_b0_0:Int)(p_b0_1:List ak)(p_s1:aU)(p_s2:List (ByteArray×au))(p_s3:List (ByteArray×aA))(r:Int)(h:Q56 p_w p_t p_b0_0 p_b0_1 p_s1 p_s2 p_s3=some r):FnH Tryz.prog GI 113 [.ptr 0 0,.dat (ay.lf1 p_w),.i_ p_t] [.box 113 (.agg [.i_ p_b0_0,.lf (.rows 25 (p_b0_1.map ak.lf)),.mp 1,.mp 2,.mp 3]),.res (aY p_s1 none) none,.res (bD p_s2) none,.res (bF p_s3) none] (resV (ae1 p_w p_t p_b0_0 p_b0_1 p_s1 p_s2 p_s3 r)) (abE p_w p_t p_b0_0 p_b0_1 p_s1 p_s2 p_s3 r):=
 dh aG Tryz.func113 (by kernel_rfl) (by kernel_rfl) (by kernel_rfl) (abG p_w p_t p_b0_0 p_b0_1 p_s1 p_s2 p_s3) (ae1 p_w p_t p_b0_0 p_b0_1 p_s1 p_s2 p_s3) (abE p_w p_t p_b0_0 p_b0_1 p_s1 p_s2 p_s3) (by kernel_rfl) h
structure yh where
 m1:(p_v:ah)→Option (ah)
 ok1:∀(p_v:ah) (r:ah),m1 p_v=some r→Fn Tryz.prog GI 55 [.dat (ah.lf1 p_v)] (.dat (ah.lf1 r))
noncomputable def IV(R_:yh)(p_v:ah):(Int×(List ah))→Mo ((Int×(List ah))⊕((List ah))):=fun(v0,l0)=>
 .ite (decide ((v0:Int)<(p_v.dL.length:Int))) (fun _=>.stop) fun c0=>
 .say [.br false] (ok1 c0)<|
 .ret ⟨[],[1,2,3],[],4⟩ (.inr (l0))
noncomputable def Xq(R_:yh)(p_v:ah)(v0:Int)(l0:List ah):Option (((List ah))):=dF (fun v_=>(IV R_ p_v v_).den) FU (v0,l0)
noncomputable def IW(R_:yh)(p_v:ah):(Int×(List ah))→St:=fun(v0,l0)=>⟨[(1,.ptr 0 0),(2,.ptr 1 0),(3,.ptr 2 0),(12,.lf (.rows 5 (p_v.dL.map ah.lf))),(13,.i_ (p_v.dL.length:Int)),(14,.i_ v0)],[.box 40 (.dat (ah.lf1 p_v)),.box 40 (.agg [.i_ 0,.i_ 0,.lf (.str ⟨#[]⟩),.aN 5,.aN 6]),.box 40 (.agg [.i_ p_v.aK,.i_ p_v.fB,.lf (.str p_v.fText),.own 3,.aN 6]),.row 40 5 (l0.map ah.lf)]⟩
noncomputable def nM(p_v:ah)(r_:((List ah))):St:=⟨[(1,.ptr 0 0),(2,.ptr 1 0),(3,.ptr 2 0)],[.box 40 (.dat (ah.lf1 p_v)),.box 40 (.agg [.i_ 0,.i_ 0,.lf (.str ⟨#[]⟩),.aN 5,.aN 6]),.box 40 (.agg [.i_ p_v.aK,.i_ p_v.fB,.lf (.str p_v.fText),.own 3,.aN 6]),.row 40 5 (r_.map ah.lf)]⟩
theorem Xr{R_:yh}{p_v:ah}{v0:Int}{l0:List ah}{r_:((List ah))}(h:Xq R_ p_v v0 l0=some r_):bQ Tryz.f55 0 [1,1,1,0,1,0] (.exit 0) (nM p_v r_) (IW R_ p_v (v0,l0)):=
 bU aG (body:=(Code.sub (bodyC Tryz.f55) [1,1,1,0,1,0,0])) (by kernel_rfl) (IV R_ p_v) (IW R_ p_v) (fun _=>.exit 0) (nM p_v) (fun r_=>rfl) (fun v_=>by kernel_rfl) h
noncomputable def IX(R_:yh)(p_v:ah)(r0:((List ah))):(Int×(List aF))→Mo ((Int×(List aF))⊕((List aF))):=fun(v0,l0)=>
 .ite (decide ((v0:Int)<(p_v.bI.length:Int))) (fun c0=>
 .say [.br true] (ok1 c0)<|
 .ask (iM p_v.bI v0) fun x0 h0=>
 .say [.row (aF.lf1 x0)] (okc (bZ aF.aW h0) ok0)<|
 .ask (R_.m1 x0.fValue) fun r1 h1=>
 .say [.iY (.q 0 (.q 2 (.q 3 (.q 4 (.q 5 (.alt 1 (.l 6 (.q 7 (.l 8 (.l 9 (.q 10 (.l 11 .fin)))))) (.l 6 (.q 7 (.alt 1 (.l 8 (.l 9 (.q 10 (.l 11 .fin)))) (.l 8 (.l 1 (.l 9 (.q 10 (.l 11 .fin)))))))))))))) (some 11) [4,6,7] [.both [.at_ 24 1,.resv 2,.res (.dat (ah.lf1 r1)),.slot 6,.rows ((l0++[aF.mk x0.fName r1]).map aF.lf),.slot 7] [.at_ 24 6,.resv 2,.res (.dat (ah.lf1 r1)),.both [.slot 6,.rows ((l0++[aF.mk x0.fName r1]).map aF.lf),.slot 7] [.slot 6,.rows ((l0++[aF.mk x0.fName r1]).map aF.lf),.slot 7]]] [2,3,27,28,29] 8 [(2,.ptr 1 0),(3,.ptr 2 0),(27,.lf (.rows 6 (p_v.bI.map aF.lf))),(28,.i_ (p_v.bI.length:Int)),(29,.i_ v0)] [.dead,.box 40 (.agg [.i_ 0,.i_ 0,.lf (.str ⟨#[]⟩),.aN 5,.aN 6]),.box 40 (.agg [.i_ p_v.aK,.i_ p_v.fB,.lf (.str p_v.fText),.own 3,.own 7]),.row 40 5 (r0.map ah.lf),.dead,.box 138 (.agg ((aF.lf1 x0).map AV.lf)),.row 138 6 [(aF.lf1 (aF.mk x0.fName r1))],.row 138 6 ((l0++[aF.mk x0.fName r1]).map aF.lf)]] (okc (R_.ok1 _ _ h1) (okc (by simp[aF.aW]:(l0++[aF.mk x0.fName r1]).map aF.lf=(l0.map aF.lf)++[(aF.lf1 (aF.mk x0.fName r1))]) ok0))<|
 .grd ((l0.length+[aF.mk x0.fName r1].length)*96≤140737488355328) fun h2=>
 .say [] (okc (cp_ aF.lf h2) (okc (rf_ ⟨[(2,.ptr 1 0),(3,.ptr 2 0),(27,.lf (.rows 6 (p_v.bI.map aF.lf))),(28,.i_ (p_v.bI.length:Int)),(29,.i_ v0)],[.dead,.box 40 (.agg [.i_ 0,.i_ 0,.lf (.str ⟨#[]⟩),.aN 5,.aN 6]),.box 40 (.agg [.i_ p_v.aK,.i_ p_v.fB,.lf (.str p_v.fText),.own 3,.own 7]),.row 40 5 (r0.map ah.lf),.dead,.box 138 (.agg ((aF.lf1 x0).map AV.lf)),.row 138 6 [(aF.lf1 (aF.mk x0.fName r1))],.row 138 6 ((l0++[aF.mk x0.fName r1]).map aF.lf)]⟩) (okc (R_.ok1 _ _ h1) (okc (by simp[aF.aW]:(l0++[aF.mk x0.fName r1]).map aF.lf=(l0.map aF.lf)++[(aF.lf1 (aF.mk x0.fName r1))]) (okc (cp_ aF.lf h2) (okc (rf_ ⟨[(2,.ptr 1 0),(3,.ptr 2 0),(27,.lf (.rows 6 (p_v.bI.map aF.lf))),(28,.i_ (p_v.bI.length:Int)),(29,.i_ v0)],[.dead,.box 40 (.agg [.i_ 0,.i_ 0,.lf (.str ⟨#[]⟩),.aN 5,.aN 6]),.box 40 (.agg [.i_ p_v.aK,.i_ p_v.fB,.lf (.str p_v.fText),.own 3,.own 7]),.row 40 5 (r0.map ah.lf),.dead,.box 138 (.agg ((aF.lf1 x0).map AV.lf)),.row 138 6 [(aF.lf1 (aF.mk x0.fName r1))],.row 138 6 ((l0++[aF.mk x0.fName r1]).map aF.lf)]⟩) (okc (by simp[aF.aW]:(l0++[aF.mk x0.fName r1]).map aF.lf=(l0.map aF.lf)++[(aF.lf1 (aF.mk x0.fName r1))]) (okc (cp_ aF.lf h2) (okc (rf_ ⟨[(2,.ptr 1 0),(3,.ptr 2 0),(27,.lf (.rows 6 (p_v.bI.map aF.lf))),(28,.i_ (p_v.bI.length:Int)),(29,.i_ v0)],[.dead,.box 40 (.agg [.i_ 0,.i_ 0,.lf (.str ⟨#[]⟩),.aN 5,.aN 6]),.box 40 (.agg [.i_ p_v.aK,.i_ p_v.fB,.lf (.str p_v.fText),.own 3,.own 7]),.row 40 5 (r0.map ah.lf),.dead,.box 138 (.agg ((aF.lf1 x0).map AV.lf)),.row 138 6 [(aF.lf1 (aF.mk x0.fName r1))],.row 138 6 ((l0++[aF.mk x0.fName r1]).map aF.lf)]⟩) ok0)))))))))<|
 .ret ⟨[],[2,3,27,28,29],[(7,4)],5⟩ (.inl (IntKind.wrap .i64 (v0+1),l0++[aF.mk x0.fName r1]))) fun c0=>
 .say [.br false] (ok1 c0)<|
 .ret ⟨[],[2,3],[],5⟩ (.inr (l0))
noncomputable def Xt(R_:yh)(p_v:ah)(r0:((List ah)))(v0:Int)(l0:List aF):Option (((List aF))):=dF (fun v_=>(IX R_ p_v r0 v_).den) FU (v0,l0)
noncomputable def IY(R_:yh)(p_v:ah)(r0:((List ah))):(Int×(List aF))→St:=fun(v0,l0)=>⟨[(2,.ptr 1 0),(3,.ptr 2 0),(27,.lf (.rows 6 (p_v.bI.map aF.lf))),(28,.i_ (p_v.bI.length:Int)),(29,.i_ v0)],[.dead,.box 40 (.agg [.i_ 0,.i_ 0,.lf (.str ⟨#[]⟩),.aN 5,.aN 6]),.box 40 (.agg [.i_ p_v.aK,.i_ p_v.fB,.lf (.str p_v.fText),.own 3,.own 4]),.row 40 5 (r0.map ah.lf),.row 138 6 (l0.map aF.lf)]⟩
noncomputable def nN(p_v:ah)(r0:((List ah)))(r_:((List aF))):St:=⟨[(2,.ptr 1 0),(3,.ptr 2 0)],[.dead,.box 40 (.agg [.i_ 0,.i_ 0,.lf (.str ⟨#[]⟩),.aN 5,.aN 6]),.box 40 (.agg [.i_ p_v.aK,.i_ p_v.fB,.lf (.str p_v.fText),.own 3,.own 4]),.row 40 5 (r0.map ah.lf),.row 138 6 (r_.map aF.lf)]⟩
theorem Xu{R_:yh}{p_v:ah}{r0:((List ah))}{v0:Int}{l0:List aF}{r_:((List aF))}(h:Xt R_ p_v r0 v0 l0=some r_):bQ Tryz.f55 0 [1,1,1,1,0,1,0] (.exit 2) (nN p_v r0 r_) (IY R_ p_v r0 (v0,l0)):=
 bU aG (body:=(Code.sub (bodyC Tryz.f55) [1,1,1,1,0,1,0,0])) (by kernel_rfl) (IX R_ p_v r0) (IY R_ p_v r0) (fun _=>.exit 2) (nN p_v r0) (fun r_=>rfl) (fun v_=>by kernel_rfl) h
noncomputable def Xv(R_:yh)(p_v:ah):Mo (ah):=
 .say [.num p_v.dL.length] (okc (ln_ p_v.dL ah.lf) (okc (by simp[ah.aW]:(([]:List ah).map ah.lf)=[]) ok0))<|
 .ask (Xq R_ p_v 0 ([]:List ah)) fun r0 h0=>
 .say [.part [.PI 2 3 40,.ji 3 (([]:List ah).map ah.lf)] 0 [1,2,3,12,13,14] 4 (.exit 0) (nM p_v r0).T (nM p_v r0).H,.num p_v.bI.length] (okc (Xr h0) (okc (ln_ p_v.bI aF.lf) (okc (by simp[aF.aW]:(([]:List aF).map aF.lf)=[]) ok0)))<|
 .ask (Xt R_ p_v r0 0 ([]:List aF)) fun r1 h1=>
 .say [.part [.kill 0,.PI 2 4 138,.ji 4 (([]:List aF).map aF.lf)] 0 [2,3,27,28,29] 5 (.exit 2) (nN p_v r0 r1).T (nN p_v r0 r1).H,.at_ 0 0,.frz 3,.frz 4] (ok1 (Xu h1))<|
 .ret (cZ 1) (ah.mk p_v.aK p_v.fB p_v.fText r0 r1)
theorem aah(R_:yh)(p_v:ah)(r:ah)(h:Mo.den (Xv R_ p_v)=some r):Fn Tryz.prog GI 55 [.dat (ah.lf1 p_v)] (.dat (ah.lf1 r)):=
 dK aG Tryz.func55 (by kernel_rfl) (by kernel_rfl) (by kernel_rfl) (Xv R_ p_v) (fun r=>[.dat (ah.lf1 r)]) (by kernel_rfl) h
noncomputable def Dt:Nat→yh
 |0=>{ m1:=fun p_v=>none,ok1:=fun _ _ h=>(by cases h) }
 |n_+1=>{ m1:=fun p_v=>Mo.den (Xv (Dt n_) p_v),ok1:=fun p_v r h=>aah (Dt n_) p_v r h }
noncomputable def Q24(p_v:ah):Option (ah):=(Dt FU).m1 p_v
theorem Xw(p_v:ah)(r:ah)(h:Q24 p_v=some r):Fn Tryz.prog GI 55 [.dat (ah.lf1 p_v)] (.dat (ah.lf1 r)):=(Dt FU).ok1 p_v r h
noncomputable def IZ(p_b0_0:Int)(p_b0_1:List ak)(p_s1:aU)(p_s2:List (ByteArray×au))(p_s3:List (ByteArray×aA))(p_stamp:Int)(p_w:ay)(r0:ByteArray×Bool):Mo (Bool):=
 .ite (!((aI p_w.aT p_s1.dir).isSome)) (fun _=>.stop) fun c0=>
 .say [.gd 8002 false] (ok1 c0)<|
 .ret ⟨[],[2,4,7,9,33],[],7⟩ (!r0.2)
noncomputable def Xx(p_b0_0:Int)(p_b0_1:List ak)(p_s1:aU)(p_s2:List (ByteArray×au))(p_s3:List (ByteArray×aA))(p_stamp:Int)(p_w:ay)(r0:ByteArray×Bool):Option (Bool):=Mo.den (IZ p_b0_0 p_b0_1 p_s1 p_s2 p_s3 p_stamp p_w r0)
noncomputable def yj(p_b0_0:Int)(p_b0_1:List ak)(p_s1:aU)(p_s2:List (ByteArray×au))(p_s3:List (ByteArray×aA))(p_stamp:Int)(p_w:ay)(r0:ByteArray×Bool)(r_:Bool):St:=⟨[(2,.i_ p_stamp),(4,.ptr 4 0),(7,.ptr 5 0),(9,.ptr 6 0),(33,.b_ r_)],[.box 113 (.agg [.i_ p_b0_0,.lf (.rows 25 (p_b0_1.map ak.lf)),.mp 1,.mp 2,.mp 3]),.res (aY p_s1 none) none,.res (bD p_s2) none,.res (bF p_s3) none,.box 64 (.dat (ay.lf1 p_w)),.box 139 (.agg [.hnd 1 (aI p_w.aT p_s1.dir)]),.box 9 (.dat [(.str r0.1)])]⟩
theorem Xy{p_b0_0:Int}{p_b0_1:List ak}{p_s1:aU}{p_s2:List (ByteArray×au)}{p_s3:List (ByteArray×aA)}{p_stamp:Int}{p_w:ay}{r0:ByteArray×Bool}{r_:Bool}(h:Xx p_b0_0 p_b0_1 p_s1 p_s2 p_s3 p_stamp p_w r0=some r_):bQ Tryz.f114 4 [1,1,1,0,0] (.normal) (yj p_b0_0 p_b0_1 p_s1 p_s2 p_s3 p_stamp p_w r0 r_) ⟨[(2,.i_ p_stamp),(4,.ptr 4 0),(7,.ptr 5 0),(8,.lf (.bool ((aI p_w.aT p_s1.dir).isSome))),(9,.ptr 6 0),(10,.b_ r0.2)],[.box 113 (.agg [.i_ p_b0_0,.lf (.rows 25 (p_b0_1.map ak.lf)),.mp 1,.mp 2,.mp 3]),.res (aY p_s1 none) none,.res (bD p_s2) none,.res (bF p_s3) none,.box 64 (.dat (ay.lf1 p_w)),.box 139 (.agg [.hnd 1 (aI p_w.aT p_s1.dir)]),.box 9 (.dat [(.str r0.1)])]⟩:=
 bM aG (IZ p_b0_0 p_b0_1 p_s1 p_s2 p_s3 p_stamp p_w r0) (fun _=>.normal) (yj p_b0_0 p_b0_1 p_s1 p_s2 p_s3 p_stamp p_w r0) (by kernel_rfl) h
noncomputable def I4(p_b0_0:Int)(p_b0_1:List ak)(p_s1:aU)(p_s2:List (ByteArray×au))(p_s3:List (ByteArray×aA))(p_stamp:Int)(p_w:ay)(r0:ByteArray×Bool):Mo (aC):=
 .ite (p_w.aK==2) (fun c0=>
 .say [.br true] (ok1 c0)<|
 .ask (Q24 p_w.bI) fun r1 h0=>
 .say [.res (.dat (ah.lf1 r1))] (ok1 (Xw _ _ h0))<|
 .ret ⟨[.norm 7,.kill 4],[7,9,11],[],8⟩ (aC.mk p_stamp r1)) fun _=>.stop
noncomputable def Xz(p_b0_0:Int)(p_b0_1:List ak)(p_s1:aU)(p_s2:List (ByteArray×au))(p_s3:List (ByteArray×aA))(p_stamp:Int)(p_w:ay)(r0:ByteArray×Bool):Option (aC):=Mo.den (I4 p_b0_0 p_b0_1 p_s1 p_s2 p_s3 p_stamp p_w r0)
noncomputable def yt(p_b0_0:Int)(p_b0_1:List ak)(p_s1:aU)(p_s2:List (ByteArray×au))(p_s3:List (ByteArray×aA))(p_w:ay)(r0:ByteArray×Bool)(r_:aC):St:=⟨[(7,.ptr 5 0),(9,.ptr 6 0),(11,.ptr 7 0)],[.box 113 (.agg [.i_ p_b0_0,.lf (.rows 25 (p_b0_1.map ak.lf)),.mp 1,.mp 2,.mp 3]),.res (aY p_s1 none) none,.res (bD p_s2) none,.res (bF p_s3) none,.dead,.box 139 (.agg [.hnd 1 (aI p_w.aT p_s1.dir)]),.box 9 (.dat [(.str r0.1)]),.box 147 (.dat (aC.lf1 r_))]⟩
theorem XA{p_b0_0:Int}{p_b0_1:List ak}{p_s1:aU}{p_s2:List (ByteArray×au)}{p_s3:List (ByteArray×aA)}{p_stamp:Int}{p_w:ay}{r0:ByteArray×Bool}{r_:aC}(h:Xz p_b0_0 p_b0_1 p_s1 p_s2 p_s3 p_stamp p_w r0=some r_):bQ Tryz.f114 4 [1,1,1,1,1,0,1] (.normal) (yt p_b0_0 p_b0_1 p_s1 p_s2 p_s3 p_w r0 r_) ⟨[(4,.ptr 4 0),(7,.ptr 5 0),(9,.ptr 6 0),(11,.ptr 7 0),(38,.lf (.bool (p_w.aK==2)))],[.box 113 (.agg [.i_ p_b0_0,.lf (.rows 25 (p_b0_1.map ak.lf)),.mp 1,.mp 2,.mp 3]),.res (aY p_s1 none) none,.res (bD p_s2) none,.res (bF p_s3) none,.box 64 (.dat (ay.lf1 p_w)),.box 139 (.agg [.hnd 1 (aI p_w.aT p_s1.dir)]),.box 9 (.dat [(.str r0.1)]),.box 147 (Zm aez [(0,.i_ p_stamp)])]⟩:=
 bM aG (I4 p_b0_0 p_b0_1 p_s1 p_s2 p_s3 p_stamp p_w r0) (fun _=>.normal) (yt p_b0_0 p_b0_1 p_s1 p_s2 p_s3 p_w r0) (by kernel_rfl) h
noncomputable def ae2(p_w:ay)(p_stamp:Int)(p_b0_0:Int)(p_b0_1:List ak)(p_s1:aU)(p_s2:List (ByteArray×au))(p_s3:List (ByteArray×aA))(r:(Unit)⊕(aU×ByteArray)):List AV:=match r with
 |.inl o_=>[.raw (.func (.func 177) #[] #[])]
 |.inr (o_)=>[.clo 178 [.ptr 5 0,.ptr 6 0]]
noncomputable def abH(p_w:ay)(p_stamp:Int)(p_b0_0:Int)(p_b0_1:List ak)(p_s1:aU)(p_s2:List (ByteArray×au))(p_s3:List (ByteArray×aA))(r:(Unit)⊕(aU×ByteArray)):List Slot:=match r with
 |.inl o_=>[.box 113 (.agg [.i_ p_b0_0,.lf (.rows 25 (p_b0_1.map ak.lf)),.mp 1,.mp 2,.mp 3]),.res (aY p_s1 none) none,.res (bD p_s2) none,.res (bF p_s3) none]
 |.inr (o_)=>[.box 113 (.agg [.i_ p_b0_0,.lf (.rows 25 (p_b0_1.map ak.lf)),.mp 1,.mp 2,.mp 3]),.res (aY o_.1 none) none,.res (bD p_s2) none,.res (bF p_s3) none,.dead,.box 139 (.agg [.hnd 1 (aI p_w.aT p_s1.dir)]),.box 9 (.dat [(.str o_.2)])]
noncomputable def abI(p_w:ay)(p_stamp:Int)(p_b0_0:Int)(p_b0_1:List ak)(p_s1:aU)(p_s2:List (ByteArray×au))(p_s3:List (ByteArray×aA)):Mo ((Unit)⊕(aU×ByteArray)):=
 .say [.iY (.q 0 (.q 1 (.q 2 (.q 3 (.q 4 (.q 5 (.alt 6 (.q 7 (.q 8 (.q 9 (.l 10 (.l 11 (.q 12 .fin)))))) (.l 10 (.l 6 (.q 7 (.q 8 (.q 9 (.l 11 (.q 12 .fin)))))))))))))) none [1,5] [.both [.at_ 4 6,.resv 1,.opH [1] (.tup [.hnd 0 (aI p_w.aT p_s1.dir),.lf (.bool ((aI p_w.aT p_s1.dir).isSome))]) [.res (aY p_s1 none) none],.slot 5] [.at_ 4 10,.resv 1,.slot 5,.opH [1] (.tup [.hnd 0 (aI p_w.aT p_s1.dir),.lf (.bool ((aI p_w.aT p_s1.dir).isSome))]) [.res (aY p_s1 none) none]]] [2,4,7,8] 6 [(2,.i_ p_stamp),(4,.ptr 4 0),(7,.ptr 5 0),(8,.lf (.bool ((aI p_w.aT p_s1.dir).isSome)))] [.box 113 (.agg [.i_ p_b0_0,.lf (.rows 25 (p_b0_1.map ak.lf)),.mp 1,.mp 2,.mp 3]),.res (aY p_s1 none) none,.res (bD p_s2) none,.res (bF p_s3) none,.box 64 (.dat (ay.lf1 p_w)),.box 139 (.agg [.hnd 1 (aI p_w.aT p_s1.dir)])]] (okc (tu p_s1 p_w.aT) (okc (rf_ ⟨[(2,.i_ p_stamp),(4,.ptr 4 0),(7,.ptr 5 0),(8,.lf (.bool ((aI p_w.aT p_s1.dir).isSome)))],[.box 113 (.agg [.i_ p_b0_0,.lf (.rows 25 (p_b0_1.map ak.lf)),.mp 1,.mp 2,.mp 3]),.res (aY p_s1 none) none,.res (bD p_s2) none,.res (bF p_s3) none,.box 64 (.dat (ay.lf1 p_w)),.box 139 (.agg [.hnd 1 (aI p_w.aT p_s1.dir)])]⟩) (okc (tu p_s1 p_w.aT) (okc (rf_ ⟨[(2,.i_ p_stamp),(4,.ptr 4 0),(7,.ptr 5 0),(8,.lf (.bool ((aI p_w.aT p_s1.dir).isSome)))],[.box 113 (.agg [.i_ p_b0_0,.lf (.rows 25 (p_b0_1.map ak.lf)),.mp 1,.mp 2,.mp 3]),.res (aY p_s1 none) none,.res (bD p_s2) none,.res (bF p_s3) none,.box 64 (.dat (ay.lf1 p_w)),.box 139 (.agg [.hnd 1 (aI p_w.aT p_s1.dir)])]⟩) ok0))))<|
 .ask (Q57 p_w.jh) fun r0 h0=>
 .say [.res (.tup [.lf (.str r0.1),.b_ r0.2])] (ok1 (KI _ _ h0))<|
 .ask (Xx p_b0_0 p_b0_1 p_s1 p_s2 p_s3 p_stamp p_w r0) fun r1 h1=>
 .say [.pt_ 13 [2,4,7,8,9,10] 7 (.normal) (yj p_b0_0 p_b0_1 p_s1 p_s2 p_s3 p_stamp p_w r0 r1)] (ok1 (Xy h1))<|
 .ite (r1) (fun _=>.stop) fun c0=>
 .say [.br false] (ok1 c0)<|
 .ask (Xz p_b0_0 p_b0_1 p_s1 p_s2 p_s3 p_stamp p_w r0) fun r2 h2=>
 .say [.pt_ 1 [4,7,9,11,38] 8 (.normal) (yt p_b0_0 p_b0_1 p_s1 p_s2 p_s3 p_w r0 r2)] (okc (XA h2) (okc (tC p_s1 r0.1 (aI p_w.aT p_s1.dir)) (okc (LK (aY p_s1 (outOf (aI p_w.aT p_s1.dir) r0.1)) 147 6 ((p_s1.row (aI p_w.aT p_s1.dir) r0.1).map aC.lf)) (okc (ap_ aC.aW (p_s1.row (aI p_w.aT p_s1.dir) r0.1) r2) ok0))))<|
 .grd (((p_s1.row (aI p_w.aT p_s1.dir) r0.1).length+[r2].length)*88≤140737488355328) fun h3=>
 .say [] (okc (cp_ aC.lf h3) ok0)<|
 .ask (aI p_w.aT p_s1.dir) fun j6967 h4=>
 .say [.iY (.q 0 (.q 1 (.q 2 (.q 3 (.q 5 (.alt 4 (.l 6 (.l 7 (.l 8 .fin))) (.l 6 (.l 4 (.l 7 (.l 8 .fin)))))))))) (some 8) [1,8,9,10] [.both [.at_ 18 4,.resv 2,.opH [1] (.own 1) [.res (aY p_s1 (outOf (aI p_w.aT p_s1.dir) r0.1)) (some 1),.row 147 6 ((p_s1.row (aI p_w.aT p_s1.dir) r0.1).map aC.lf)],.slot 8,.at_ 18 7,.gho [1,10] [.res (aY p_s1 (outOf (aI p_w.aT p_s1.dir) r0.1)) none,.row 147 6 ((p_s1.row (aI p_w.aT p_s1.dir) r0.1).map aC.lf)],.rows (((p_s1.row (aI p_w.aT p_s1.dir) r0.1)++[r2]).map aC.lf),.slot 9,.opH [1,9] (.raw undef) [.res (aY (p_s1.put j6967 r0.1 ((p_s1.row (aI p_w.aT p_s1.dir) r0.1)++[r2])) none) none,.dead]] [.at_ 18 6,.resv 2,.slot 8,.opH [1] (.own 1) [.res (aY p_s1 (outOf (aI p_w.aT p_s1.dir) r0.1)) (some 1),.row 147 6 ((p_s1.row (aI p_w.aT p_s1.dir) r0.1).map aC.lf)],.at_ 18 7,.gho [1,10] [.res (aY p_s1 (outOf (aI p_w.aT p_s1.dir) r0.1)) none,.row 147 6 ((p_s1.row (aI p_w.aT p_s1.dir) r0.1).map aC.lf)],.rows (((p_s1.row (aI p_w.aT p_s1.dir) r0.1)++[r2]).map aC.lf),.slot 9,.opH [1,9] (.raw undef) [.res (aY (p_s1.put j6967 r0.1 ((p_s1.row (aI p_w.aT p_s1.dir) r0.1)++[r2])) none) none,.dead]]] [7,9] 11 [(7,.ptr 5 0),(9,.ptr 6 0)] [.box 113 (.agg [.i_ p_b0_0,.lf (.rows 25 (p_b0_1.map ak.lf)),.mp 1,.mp 2,.mp 3]),.res (aY (p_s1.put j6967 r0.1 ((p_s1.row (aI p_w.aT p_s1.dir) r0.1)++[r2])) none) none,.res (bD p_s2) none,.res (bF p_s3) none,.dead,.box 139 (.agg [.hnd 1 (aI p_w.aT p_s1.dir)]),.box 9 (.dat [(.str r0.1)]),.box 147 (.dat (aC.lf1 r2)),.row 147 6 [(aC.lf1 r2)],.dead,.dead]] ok0<|
 .grd ((p_s1.inner j6967).length<maxLen) fun h5=>
 .say [] (okc (LJ p_s1 r0.1 _ j6967 ((p_s1.row (aI p_w.aT p_s1.dir) r0.1)++[r2]) h4 h5) (okc (rf_ ⟨[(7,.ptr 5 0),(9,.ptr 6 0)],[.box 113 (.agg [.i_ p_b0_0,.lf (.rows 25 (p_b0_1.map ak.lf)),.mp 1,.mp 2,.mp 3]),.res (aY (p_s1.put j6967 r0.1 ((p_s1.row (aI p_w.aT p_s1.dir) r0.1)++[r2])) none) none,.res (bD p_s2) none,.res (bF p_s3) none,.dead,.box 139 (.agg [.hnd 1 (aI p_w.aT p_s1.dir)]),.box 9 (.dat [(.str r0.1)]),.box 147 (.dat (aC.lf1 r2)),.row 147 6 [(aC.lf1 r2)],.dead,.dead]⟩) (okc (tC p_s1 r0.1 (aI p_w.aT p_s1.dir)) (okc (LK (aY p_s1 (outOf (aI p_w.aT p_s1.dir) r0.1)) 147 6 ((p_s1.row (aI p_w.aT p_s1.dir) r0.1).map aC.lf)) (okc (ap_ aC.aW (p_s1.row (aI p_w.aT p_s1.dir) r0.1) r2) (okc (cp_ aC.lf h3) (okc (LJ p_s1 r0.1 _ j6967 ((p_s1.row (aI p_w.aT p_s1.dir) r0.1)++[r2]) h4 h5) (okc (rf_ ⟨[(7,.ptr 5 0),(9,.ptr 6 0)],[.box 113 (.agg [.i_ p_b0_0,.lf (.rows 25 (p_b0_1.map ak.lf)),.mp 1,.mp 2,.mp 3]),.res (aY (p_s1.put j6967 r0.1 ((p_s1.row (aI p_w.aT p_s1.dir) r0.1)++[r2])) none) none,.res (bD p_s2) none,.res (bF p_s3) none,.dead,.box 139 (.agg [.hnd 1 (aI p_w.aT p_s1.dir)]),.box 9 (.dat [(.str r0.1)]),.box 147 (.dat (aC.lf1 r2)),.row 147 6 [(aC.lf1 r2)],.dead,.dead]⟩) ok0))))))))<|
 .ret ⟨[.kill 7,.kill 8],[0],[],7⟩ (.inr ((p_s1.put j6967 r0.1 ((p_s1.row (aI p_w.aT p_s1.dir) r0.1)++[r2]),r0.1)))
noncomputable def Q33(p_w:ay)(p_stamp:Int)(p_b0_0:Int)(p_b0_1:List ak)(p_s1:aU)(p_s2:List (ByteArray×au))(p_s3:List (ByteArray×aA)):Option ((Unit)⊕(aU×ByteArray)):=Mo.den (abI p_w p_stamp p_b0_0 p_b0_1 p_s1 p_s2 p_s3)
theorem adT(p_w:ay)(p_stamp:Int)(p_b0_0:Int)(p_b0_1:List ak)(p_s1:aU)(p_s2:List (ByteArray×au))(p_s3:List (ByteArray×aA))(r:(Unit)⊕(aU×ByteArray))(h:Q33 p_w p_stamp p_b0_0 p_b0_1 p_s1 p_s2 p_s3=some r):FnH Tryz.prog GI 114 [.ptr 0 0,.dat (ay.lf1 p_w),.i_ p_stamp] [.box 113 (.agg [.i_ p_b0_0,.lf (.rows 25 (p_b0_1.map ak.lf)),.mp 1,.mp 2,.mp 3]),.res (aY p_s1 none) none,.res (bD p_s2) none,.res (bF p_s3) none] (resV (ae2 p_w p_stamp p_b0_0 p_b0_1 p_s1 p_s2 p_s3 r)) (abH p_w p_stamp p_b0_0 p_b0_1 p_s1 p_s2 p_s3 r):=
 dh aG Tryz.func114 (by kernel_rfl) (by kernel_rfl) (by kernel_rfl) (abI p_w p_stamp p_b0_0 p_b0_1 p_s1 p_s2 p_s3) (ae2 p_w p_stamp p_b0_0 p_b0_1 p_s1 p_s2 p_s3) (abH p_w p_stamp p_b0_0 p_b0_1 p_s1 p_s2 p_s3) (by kernel_rfl) h
noncomputable def abJ(p_d:ak)(p_b0:ByteArray):Mo (Bool):=
 .ret ⟨[.kill 1],[0],[],1⟩ (decide ((p_d.fName:ByteArray)=(p_b0:ByteArray)))
noncomputable def Q82(p_d:ak)(p_b0:ByteArray):Option (Bool):=Mo.den (abJ p_d p_b0)
theorem adU(p_d:ak)(p_b0:ByteArray)(r:Bool)(h:Q82 p_d p_b0=some r):FnH Tryz.prog GI 141 [.dat (ak.lf1 p_d),.ptr 0 0] [.box 9 (.dat [(.str p_b0)])] (.b_ r) [.box 9 (.dat [(.str p_b0)])]:=
 dh aG Tryz.func141 (by kernel_rfl) (by kernel_rfl) (by kernel_rfl) (abJ p_d p_b0) (fun r=>[.b_ r]) (fun r=>[.box 9 (.dat [(.str p_b0)])]) (by kernel_rfl) h
noncomputable def I5(p_b0:ByteArray)(p_s:List ak):(Int)→Mo ((Int)⊕(Int)⊕Unit):=fun(v0)=>
 .ite (decide ((v0:Int)<(p_s.length:Int))) (fun c0=>
 .say [.br true] (ok1 c0)<|
 .ask (iM p_s v0) fun x0 h0=>
 .say [.row (ak.lf1 x0)] (okc (bZ ak.aW h0) ok0)<|
 .ask (Q82 x0 p_b0) fun r0 h1=>
 .say [.dP [0] (.b_ r0) [.box 9 (.dat [(.str p_b0)])]] (ok1 (adU _ _ _ h1))<|
 .ite (r0) (fun c1=>
 .say [.br true] (ok1 c1)<|
 .ret ⟨[],[4],[],1⟩ (.inr (.inl (v0)))) fun _=>.stop) fun c0=>
 .say [.br false] (ok1 c0)<|
 .ret ⟨[],[],[],1⟩ (.inr (.inr (())))
noncomputable def XB(p_b0:ByteArray)(p_s:List ak)(v0:Int):Option ((Int)⊕Unit):=dF (fun v_=>(I5 p_b0 p_s v_).den) FU (v0)
noncomputable def I7(p_b0:ByteArray)(p_s:List ak):(Int)→St:=fun(v0)=>⟨[(0,.lf (.rows 25 (p_s.map ak.lf))),(1,.clo 141 [.ptr 0 0]),(7,.i_ (p_s.length:Int)),(8,.i_ v0)],[.box 9 (.dat [(.str p_b0)])]⟩
noncomputable def nO(r_:(Int)⊕Unit):Exit:=match r_ with
 |.inl o_=>.ret
 |.inr (o_)=>.exit 0
noncomputable def nP(p_b0:ByteArray)(r_:(Int)⊕Unit):St:=match r_ with
 |.inl o_=>⟨[(4,.i_ o_)],[.box 9 (.dat [(.str p_b0)])]⟩
 |.inr (o_)=>⟨[],[.box 9 (.dat [(.str p_b0)])]⟩
theorem I8{p_b0:ByteArray}{p_s:List ak}{v0:Int}{r_:(Int)⊕Unit}(h:XB p_b0 p_s v0=some r_):bQ Tryz.f140 1 [1,0,1,0] (nO r_) (nP p_b0 r_) (I7 p_b0 p_s (v0)):=
 bU aG (body:=(Code.sub (bodyC Tryz.f140) [1,0,1,0,0])) (by kernel_rfl) (I5 p_b0 p_s) (I7 p_b0 p_s) nO (nP p_b0) (fun r_=>by rcases r_ with _|_<;>rfl) (fun v_=>by kernel_rfl) h
noncomputable def abK(p_s:List ak)(p_b0:ByteArray):Mo (Int):=
 .say [.num p_s.length] (okc (ln_ p_s ak.lf) ok0)<|
 .ask2 (XB p_b0 p_s 0) (fun o0 h0=>
 .say [.pt_ 0 [0,1,7,8] 1 (nO (.inl o0)) (nP p_b0 (.inl o0))] (ok1 (I8 h0))<|
 .ret ⟨[],[0],[],1⟩ (o0)) fun o1 h0=>
 .say [.pt_ 0 [0,1,7,8] 1 (nO (.inr (o1))) (nP p_b0 (.inr (o1)))] (ok1 (I8 h0))<|
 .ret ⟨[],[0],[],1⟩ ((-1))
noncomputable def Q27(p_s:List ak)(p_b0:ByteArray):Option (Int):=Mo.den (abK p_s p_b0)
theorem adV(p_s:List ak)(p_b0:ByteArray)(r:Int)(h:Q27 p_s p_b0=some r):FnH Tryz.prog GI 140 [.lf (.rows 25 (p_s.map ak.lf)),.clo 141 [.ptr 0 0]] [.box 9 (.dat [(.str p_b0)])] (.i_ r) [.box 9 (.dat [(.str p_b0)])]:=
 dh aG Tryz.func140 (by kernel_rfl) (by kernel_rfl) (by kernel_rfl) (abK p_s p_b0) (fun r=>[.i_ r]) (fun r=>[.box 9 (.dat [(.str p_b0)])]) (by kernel_rfl) h
noncomputable def abL(p_l:List ak)(p_name:ByteArray):Mo (Int):=
 .ask (Q27 p_l p_name) fun r0 h0=>
 .say [.dP [0] (.i_ r0) [.box 9 (.dat [(.str p_name)])]] (ok1 (adV _ _ _ h0))<|
 .ret (cZ 1) (r0)
noncomputable def Q78(p_l:List ak)(p_name:ByteArray):Option (Int):=Mo.den (abL p_l p_name)
theorem XC(p_l:List ak)(p_name:ByteArray)(r:Int)(h:Q78 p_l p_name=some r):Fn Tryz.prog GI 82 [.lf (.rows 25 (p_l.map ak.lf)),.lf (.str p_name)] (.i_ r):=
 dK aG Tryz.func82 (by kernel_rfl) (by kernel_rfl) (by kernel_rfl) (abL p_l p_name) (fun r=>[.i_ r]) (by kernel_rfl) h
structure qK where
 m1:(p_v:ah)→Option (ah)
 ok1:∀(p_v:ah) (r:ah),m1 p_v=some r→Fn Tryz.prog GI 194 [.dat (ah.lf1 p_v)] (.dat (ah.lf1 r))
 m2:(p_l:List ah)→Option (List ah)
 ok2:∀(p_l:List ah) (r:List ah),m2 p_l=some r→Fn Tryz.prog GI 195 [.lf (.rows 5 (p_l.map ah.lf))] (.lf (.rows 5 (r.map ah.lf)))
noncomputable def I9(R_:qK)(p_v:ah)(r0:List ah):(Int×(List aF))→Mo ((Int×(List aF))⊕((List aF))):=fun(v0,l0)=>
 .ite (decide ((v0:Int)<(p_v.bI.length:Int))) (fun _=>.stop) fun c0=>
 .say [.br false] (ok1 c0)<|
 .ret ⟨[],[2,3],[],4⟩ (.inr (l0))
noncomputable def XD(R_:qK)(p_v:ah)(r0:List ah)(v0:Int)(l0:List aF):Option (((List aF))):=dF (fun v_=>(I9 R_ p_v r0 v_).den) FU (v0,l0)
noncomputable def Ja(R_:qK)(p_v:ah)(r0:List ah):(Int×(List aF))→St:=fun(v0,l0)=>⟨[(2,.ptr 1 0),(3,.ptr 2 0),(17,.lf (.rows 6 (p_v.bI.map aF.lf))),(18,.i_ (p_v.bI.length:Int)),(19,.i_ v0)],[.dead,.box 40 (.agg [.i_ 0,.i_ 0,.lf (.str ⟨#[]⟩),.aN 5,.aN 6]),.box 40 (.agg [.i_ p_v.aK,.i_ p_v.fB,.lf (.str p_v.fText),.lf (.rows 5 (r0.map ah.lf)),.own 3]),.row 138 6 (l0.map aF.lf)]⟩
noncomputable def nR(p_v:ah)(r0:List ah)(r_:((List aF))):St:=⟨[(2,.ptr 1 0),(3,.ptr 2 0)],[.dead,.box 40 (.agg [.i_ 0,.i_ 0,.lf (.str ⟨#[]⟩),.aN 5,.aN 6]),.box 40 (.agg [.i_ p_v.aK,.i_ p_v.fB,.lf (.str p_v.fText),.lf (.rows 5 (r0.map ah.lf)),.own 3]),.row 138 6 (r_.map aF.lf)]⟩
theorem XE{R_:qK}{p_v:ah}{r0:List ah}{v0:Int}{l0:List aF}{r_:((List aF))}(h:XD R_ p_v r0 v0 l0=some r_):bQ Tryz.f194 0 [1,1,0,1,0] (.exit 0) (nR p_v r0 r_) (Ja R_ p_v r0 (v0,l0)):=
 bU aG (body:=(Code.sub (bodyC Tryz.f194) [1,1,0,1,0,0])) (by kernel_rfl) (I9 R_ p_v r0) (Ja R_ p_v r0) (fun _=>.exit 0) (nR p_v r0) (fun r_=>rfl) (fun v_=>by kernel_rfl) h
noncomputable def XF(R_:qK)(p_v:ah):Mo (ah):=
 .ask (R_.m2 p_v.dL) fun r0 h0=>
 .say [.iY (.q 0 (.q 1 (.q 2 (.q 3 (.q 4 (.q 5 (.q 6 (.q 7 (.alt 8 (.q 9 (.l 10 (.l 11 .fin))) (.l 10 (.l 8 (.q 9 (.l 11 .fin))))))))))))) (some 11) [2] [.both [.at_ 4 8,.resv 1,.res (.lf (.rows 5 (r0.map ah.lf))),.slot 2] [.at_ 4 10,.resv 1,.slot 2,.res (.lf (.rows 5 (r0.map ah.lf)))]] [1,2,3] 3 [(1,.ptr 0 0),(2,.ptr 1 0),(3,.ptr 2 0)] [.box 40 (.dat (ah.lf1 p_v)),.box 40 (.agg [.i_ 0,.i_ 0,.lf (.str ⟨#[]⟩),.aN 5,.aN 6]),.box 40 (.agg [.i_ p_v.aK,.i_ p_v.fB,.lf (.str p_v.fText),.lf (.rows 5 (r0.map ah.lf)),.aN 6])],.num p_v.bI.length] (okc (R_.ok2 _ _ h0) (okc (rf_ ⟨[(1,.ptr 0 0),(2,.ptr 1 0),(3,.ptr 2 0)],[.box 40 (.dat (ah.lf1 p_v)),.box 40 (.agg [.i_ 0,.i_ 0,.lf (.str ⟨#[]⟩),.aN 5,.aN 6]),.box 40 (.agg [.i_ p_v.aK,.i_ p_v.fB,.lf (.str p_v.fText),.lf (.rows 5 (r0.map ah.lf)),.aN 6])]⟩) (okc (R_.ok2 _ _ h0) (okc (rf_ ⟨[(1,.ptr 0 0),(2,.ptr 1 0),(3,.ptr 2 0)],[.box 40 (.dat (ah.lf1 p_v)),.box 40 (.agg [.i_ 0,.i_ 0,.lf (.str ⟨#[]⟩),.aN 5,.aN 6]),.box 40 (.agg [.i_ p_v.aK,.i_ p_v.fB,.lf (.str p_v.fText),.lf (.rows 5 (r0.map ah.lf)),.aN 6])]⟩) (okc (ln_ p_v.bI aF.lf) (okc (by simp[aF.aW]:(([]:List aF).map aF.lf)=[]) ok0))))))<|
 .ask (XD R_ p_v r0 0 ([]:List aF)) fun r1 h1=>
 .say [.part [.kill 0,.PI 2 4 138,.ji 3 (([]:List aF).map aF.lf)] 0 [2,3,17,18,19] 4 (.exit 0) (nR p_v r0 r1).T (nR p_v r0 r1).H,.at_ 0 0,.frz 3] (ok1 (XE h1))<|
 .ret (cZ 1) (ah.mk p_v.aK p_v.fB p_v.fText r0 r1)
theorem aai(R_:qK)(p_v:ah)(r:ah)(h:Mo.den (XF R_ p_v)=some r):Fn Tryz.prog GI 194 [.dat (ah.lf1 p_v)] (.dat (ah.lf1 r)):=
 dK aG Tryz.func194 (by kernel_rfl) (by kernel_rfl) (by kernel_rfl) (XF R_ p_v) (fun r=>[.dat (ah.lf1 r)]) (by kernel_rfl) h
noncomputable def Jb(R_:qK)(p_l:List ah):(Int×(List ah))→Mo ((Int×(List ah))⊕((List ah))):=fun(v0,l0)=>
 .ite (decide ((v0:Int)<(p_l.length:Int))) (fun _=>.stop) fun c0=>
 .say [.br false] (ok1 c0)<|
 .ret ⟨[],[3],[],1⟩ (.inr (l0))
noncomputable def XG(R_:qK)(p_l:List ah)(v0:Int)(l0:List ah):Option (((List ah))):=dF (fun v_=>(Jb R_ p_l v_).den) FU (v0,l0)
noncomputable def Jc(R_:qK)(p_l:List ah):(Int×(List ah))→St:=fun(v0,l0)=>⟨[(3,.own 0),(6,.lf (.rows 5 (p_l.map ah.lf))),(7,.i_ (p_l.length:Int)),(8,.i_ v0)],[.row 40 5 (l0.map ah.lf)]⟩
noncomputable def nS  (r_:((List ah))):St:=⟨[(3,.own 0)],[.row 40 5 (r_.map ah.lf)]⟩
theorem XH{R_:qK}{p_l:List ah}{v0:Int}{l0:List ah}{r_:((List ah))}(h:XG R_ p_l v0 l0=some r_):bQ Tryz.f195 0 [1,1,0,1,0] (.exit 0) (nS r_) (Jc R_ p_l (v0,l0)):=
 bU aG (body:=(Code.sub (bodyC Tryz.f195) [1,1,0,1,0,0])) (by kernel_rfl) (Jb R_ p_l) (Jc R_ p_l) (fun _=>.exit 0) nS (fun r_=>rfl) (fun v_=>by kernel_rfl) h
noncomputable def XI(R_:qK)(p_l:List ah):Mo (List ah):=
 .say [.num p_l.length] (okc (ln_ p_l ah.lf) (okc (by simp[ah.aW]:(([]:List ah).map ah.lf)=[]) ok0))<|
 .ask (XG R_ p_l 0 ([]:List ah)) fun r0 h0=>
 .say [.part [.yU 3 40 5,.ji 0 (([]:List ah).map ah.lf)] 0 [3,6,7,8] 1 (.exit 0) (nS r0).T (nS r0).H,.at_ 0 0,.frz 0] (ok1 (XH h0))<|
 .ret (cZ 1) (r0)
theorem aaj(R_:qK)(p_l:List ah)(r:List ah)(h:Mo.den (XI R_ p_l)=some r):Fn Tryz.prog GI 195 [.lf (.rows 5 (p_l.map ah.lf))] (.lf (.rows 5 (r.map ah.lf))):=
 dK aG Tryz.func195 (by kernel_rfl) (by kernel_rfl) (by kernel_rfl) (XI R_ p_l) (fun r=>[.lf (.rows 5 (r.map ah.lf))]) (by kernel_rfl) h
noncomputable def kL:Nat→qK
 |0=>{ m1:=fun p_v=>none,ok1:=fun _ _ h=>(by cases h),m2:=fun p_l=>none,ok2:=fun _ _ h=>(by cases h) }
 |n_+1=>{ m1:=fun p_v=>Mo.den (XF (kL n_) p_v),ok1:=fun p_v r h=>aai (kL n_) p_v r h,m2:=fun p_l=>Mo.den (XI (kL n_) p_l),ok2:=fun p_l r h=>aaj (kL n_) p_l r h }
noncomputable def Q38(p_v:ah):Option (ah):=(kL FU).m1 p_v
theorem XJ(p_v:ah)(r:ah)(h:Q38 p_v=some r):Fn Tryz.prog GI 194 [.dat (ah.lf1 p_v)] (.dat (ah.lf1 r)):=(kL FU).ok1 p_v r h
noncomputable def Q39(p_l:List ah):Option (List ah):=(kL FU).m2 p_l
theorem adW(p_l:List ah)(r:List ah)(h:Q39 p_l=some r):Fn Tryz.prog GI 195 [.lf (.rows 5 (p_l.map ah.lf))] (.lf (.rows 5 (r.map ah.lf))):=(kL FU).ok2 p_l r h
structure afy where
 m1:(p_x:aO)→Option (aO)
 ok1:∀(p_x:aO) (r:aO),m1 p_x=some r→Fn Tryz.prog GI 238 [.dat (aO.lf1 p_x)] (.dat (aO.lf1 r))
structure afz where
 m1:(p_p:aJ)→Option (aJ)
 ok1:∀(p_p:aJ) (r:aJ),m1 p_p=some r→Fn Tryz.prog GI 193 [.dat (aJ.lf1 p_p)] (.dat (aJ.lf1 r))
structure yu where
 m1:(p_s:aj)→Option (aj)
 ok1:∀(p_s:aj) (r:aj),m1 p_s=some r→Fn Tryz.prog GI 143 [.dat (aj.lf1 p_s)] (.dat (aj.lf1 r))
noncomputable def Jd(R_:yu)(p_s:aj)(r0:ah)(r1:ah)(r2:List ah)(r3:List ByteArray):(Int×(List bC))→Mo ((Int×(List bC))⊕((List bC))):=fun(v0,l0)=>
 .ite (decide ((v0:Int)<(p_s.dD.length:Int))) (fun _=>.stop) fun c0=>
 .say [.br false] (ok1 c0)<|
 .ret ⟨[],[1,2,3],[],3⟩ (.inr (l0))
noncomputable def XK(R_:yu)(p_s:aj)(r0:ah)(r1:ah)(r2:List ah)(r3:List ByteArray)(v0:Int)(l0:List bC):Option (((List bC))):=dF (fun v_=>(Jd R_ p_s r0 r1 r2 r3 v_).den) FU (v0,l0)
noncomputable def Je(R_:yu)(p_s:aj)(r0:ah)(r1:ah)(r2:List ah)(r3:List ByteArray):(Int×(List bC))→St:=fun(v0,l0)=>⟨[(1,.ptr 0 0),(2,.ptr 1 0),(3,.own 2),(26,.lf (.rows 22 (p_s.dD.map bC.lf))),(27,.i_ (p_s.dD.length:Int)),(28,.i_ v0)],[.box 46 (.dat (aj.lf1 (aj.bn (aj.dO (aj.gy (aj.gu p_s r0) r1) r2) r3))),.box 46 (Z46),.row 206 22 (l0.map bC.lf)]⟩
noncomputable def nT(p_s:aj)(r0:ah)(r1:ah)(r2:List ah)(r3:List ByteArray)(r_:((List bC))):St:=⟨[(1,.ptr 0 0),(2,.ptr 1 0),(3,.own 2)],[.box 46 (.dat (aj.lf1 (aj.bn (aj.dO (aj.gy (aj.gu p_s r0) r1) r2) r3))),.box 46 (Z46),.row 206 22 (r_.map bC.lf)]⟩
theorem XL{R_:yu}{p_s:aj}{r0:ah}{r1:ah}{r2:List ah}{r3:List ByteArray}{v0:Int}{l0:List bC}{r_:((List bC))}(h:XK R_ p_s r0 r1 r2 r3 v0 l0=some r_):bQ Tryz.f143 0 [1,1,1,1,1,1,0,1,0] (.exit 0) (nT p_s r0 r1 r2 r3 r_) (Je R_ p_s r0 r1 r2 r3 (v0,l0)):=
 bU aG (body:=(Code.sub (bodyC Tryz.f143) [1,1,1,1,1,1,0,1,0,0])) (by kernel_rfl) (Jd R_ p_s r0 r1 r2 r3) (Je R_ p_s r0 r1 r2 r3) (fun _=>.exit 0) (nT p_s r0 r1 r2 r3) (fun r_=>rfl) (fun v_=>by kernel_rfl) h
noncomputable def Jf(R_:yu)(p_s:aj)(r0:ah)(r1:ah)(r2:List ah)(r3:List ByteArray)(r4:((List bC))):(Int×(List aj))→Mo ((Int×(List aj))⊕((List aj))):=fun(v0,l0)=>
 .ite (decide ((v0:Int)<(((aj.bn (aj.dO (aj.gy (aj.gu p_s r0) r1) r2) r3).dI).length:Int))) (fun _=>.stop) fun c0=>
 .say [.br false] (ok1 c0)<|
 .ret ⟨[],[1,2,6],[],4⟩ (.inr (l0))
noncomputable def XM(R_:yu)(p_s:aj)(r0:ah)(r1:ah)(r2:List ah)(r3:List ByteArray)(r4:((List bC)))(v0:Int)(l0:List aj):Option (((List aj))):=dF (fun v_=>(Jf R_ p_s r0 r1 r2 r3 r4 v_).den) FU (v0,l0)
noncomputable def Jg(R_:yu)(p_s:aj)(r0:ah)(r1:ah)(r2:List ah)(r3:List ByteArray)(r4:((List bC))):(Int×(List aj))→St:=fun(v0,l0)=>⟨[(1,.ptr 0 0),(2,.ptr 1 0),(6,.own 3),(45,.lf (.rows 21 (((aj.bn (aj.dO (aj.gy (aj.gu p_s r0) r1) r2) r3).dI).map aj.lf))),(46,.i_ (((aj.bn (aj.dO (aj.gy (aj.gu p_s r0) r1) r2) r3).dI).length:Int)),(47,.i_ v0)],[.box 46 (Zm (.agg ((aj.lf1 (aj.bn (aj.dO (aj.gy (aj.gu p_s r0) r1) r2) r3)).map AV.lf)) [(2,.i_ (((aj.bn (aj.dO (aj.gy (aj.gu p_s r0) r1) r2) r3).iR).aK)),(3,.i_ (((aj.bn (aj.dO (aj.gy (aj.gu p_s r0) r1) r2) r3).iR).fB)),(4,.lf (.str (((aj.bn (aj.dO (aj.gy (aj.gu p_s r0) r1) r2) r3).iR).fText))),(5,.lf (.rows 5 ((((aj.bn (aj.dO (aj.gy (aj.gu p_s r0) r1) r2) r3).iR).dL).map ah.lf))),(6,.lf (.rows 6 ((((aj.bn (aj.dO (aj.gy (aj.gu p_s r0) r1) r2) r3).iR).bI).map aF.lf))),(8,.i_ (((aj.bn (aj.dO (aj.gy (aj.gu p_s r0) r1) r2) r3).iT).aK)),(9,.i_ (((aj.bn (aj.dO (aj.gy (aj.gu p_s r0) r1) r2) r3).iT).fB)),(10,.lf (.str (((aj.bn (aj.dO (aj.gy (aj.gu p_s r0) r1) r2) r3).iT).fText))),(11,.lf (.rows 5 ((((aj.bn (aj.dO (aj.gy (aj.gu p_s r0) r1) r2) r3).iT).dL).map ah.lf))),(12,.lf (.rows 6 ((((aj.bn (aj.dO (aj.gy (aj.gu p_s r0) r1) r2) r3).iT).bI).map aF.lf))),(17,.own 2)]),.box 46 (Z46),.row 206 22 (r4.map bC.lf),.row 46 21 (l0.map aj.lf)]⟩
noncomputable def nU(p_s:aj)(r0:ah)(r1:ah)(r2:List ah)(r3:List ByteArray)(r4:((List bC)))(r_:((List aj))):St:=⟨[(1,.ptr 0 0),(2,.ptr 1 0),(6,.own 3)],[.box 46 (Zm (.agg ((aj.lf1 (aj.bn (aj.dO (aj.gy (aj.gu p_s r0) r1) r2) r3)).map AV.lf)) [(2,.i_ (((aj.bn (aj.dO (aj.gy (aj.gu p_s r0) r1) r2) r3).iR).aK)),(3,.i_ (((aj.bn (aj.dO (aj.gy (aj.gu p_s r0) r1) r2) r3).iR).fB)),(4,.lf (.str (((aj.bn (aj.dO (aj.gy (aj.gu p_s r0) r1) r2) r3).iR).fText))),(5,.lf (.rows 5 ((((aj.bn (aj.dO (aj.gy (aj.gu p_s r0) r1) r2) r3).iR).dL).map ah.lf))),(6,.lf (.rows 6 ((((aj.bn (aj.dO (aj.gy (aj.gu p_s r0) r1) r2) r3).iR).bI).map aF.lf))),(8,.i_ (((aj.bn (aj.dO (aj.gy (aj.gu p_s r0) r1) r2) r3).iT).aK)),(9,.i_ (((aj.bn (aj.dO (aj.gy (aj.gu p_s r0) r1) r2) r3).iT).fB)),(10,.lf (.str (((aj.bn (aj.dO (aj.gy (aj.gu p_s r0) r1) r2) r3).iT).fText))),(11,.lf (.rows 5 ((((aj.bn (aj.dO (aj.gy (aj.gu p_s r0) r1) r2) r3).iT).dL).map ah.lf))),(12,.lf (.rows 6 ((((aj.bn (aj.dO (aj.gy (aj.gu p_s r0) r1) r2) r3).iT).bI).map aF.lf))),(17,.own 2)]),.box 46 (Z46),.row 206 22 (r4.map bC.lf),.row 46 21 (r_.map aj.lf)]⟩
theorem XO{R_:yu}{p_s:aj}{r0:ah}{r1:ah}{r2:List ah}{r3:List ByteArray}{r4:((List bC))}{v0:Int}{l0:List aj}{r_:((List aj))}(h:XM R_ p_s r0 r1 r2 r3 r4 v0 l0=some r_):bQ Tryz.f143 0 [1,1,1,1,1,1,1,1,1,0,1,0] (.exit 2) (nU p_s r0 r1 r2 r3 r4 r_) (Jg R_ p_s r0 r1 r2 r3 r4 (v0,l0)):=
 bU aG (body:=(Code.sub (bodyC Tryz.f143) [1,1,1,1,1,1,1,1,1,0,1,0,0])) (by kernel_rfl) (Jf R_ p_s r0 r1 r2 r3 r4) (Jg R_ p_s r0 r1 r2 r3 r4) (fun _=>.exit 2) (nU p_s r0 r1 r2 r3 r4) (fun r_=>rfl) (fun v_=>by kernel_rfl) h
noncomputable def XP(R_:yu)(p_s:aj):Mo (aj):=
 .ask (Q38 p_s.iR) fun r0 h0=>
 .say [.res (.dat (ah.lf1 r0))] (ok1 (XJ _ _ h0))<|
 .ask (Q38 p_s.iT) fun r1 h1=>
 .say [.res (.dat (ah.lf1 r1))] (ok1 (XJ _ _ h1))<|
 .ask (Q39 p_s.gY) fun r2 h2=>
 .say [.res (.lf (.rows 5 (r2.map ah.lf)))] (ok1 (adW _ _ h2))<|
 .ask (Q83 p_s.bT) fun r3 h3=>
 .say [.res (.lf (.rows 1 (r3.map lfS))),.num p_s.dD.length] (okc (ac2 _ _ h3) (okc (ln_ p_s.dD bC.lf) (okc (by simp[bC.aW]:(([]:List bC).map bC.lf)=[]) ok0)))<|
 .ask (XK R_ p_s r0 r1 r2 r3 0 ([]:List bC)) fun r4 h4=>
 .say [.part [.yU 3 206 22,.ji 2 (([]:List bC).map bC.lf)] 0 [1,2,3,26,27,28] 3 (.exit 0) (nT p_s r0 r1 r2 r3 r4).T (nT p_s r0 r1 r2 r3 r4).H,.num ((aj.bn (aj.dO (aj.gy (aj.gu p_s r0) r1) r2) r3).dI).length] (okc (XL h4) (okc (ln_ ((aj.bn (aj.dO (aj.gy (aj.gu p_s r0) r1) r2) r3).dI) aj.lf) (okc (by simp[aj.aW]:(([]:List aj).map aj.lf)=[]) ok0)))<|
 .ask (XM R_ p_s r0 r1 r2 r3 r4 0 ([]:List aj)) fun r5 h5=>
 .say [.part [.yU 6 46 21,.ji 3 (([]:List aj).map aj.lf)] 0 [1,2,6,45,46,47] 4 (.exit 2) (nU p_s r0 r1 r2 r3 r4 r5).T (nU p_s r0 r1 r2 r3 r4 r5).H,.at_ 0 0,.frz 2,.frz 3] (ok1 (XO h5))<|
 .ret (cZ 1) (aj.acM (aj.acL (aj.gy (aj.gu (aj.bn (aj.dO (aj.gy (aj.gu p_s r0) r1) r2) r3) ((aj.bn (aj.dO (aj.gy (aj.gu p_s r0) r1) r2) r3).iR)) ((aj.bn (aj.dO (aj.gy (aj.gu p_s r0) r1) r2) r3).iT)) r4) r5)
theorem aak(R_:yu)(p_s:aj)(r:aj)(h:Mo.den (XP R_ p_s)=some r):Fn Tryz.prog GI 143 [.dat (aj.lf1 p_s)] (.dat (aj.lf1 r)):=
 dK aG Tryz.func143 (by kernel_rfl) (by kernel_rfl) (by kernel_rfl) (XP R_ p_s) (fun r=>[.dat (aj.lf1 r)]) (by kernel_rfl) h
noncomputable def Du:Nat→yu
 |0=>{ m1:=fun p_s=>none,ok1:=fun _ _ h=>(by cases h) }
 |n_+1=>{ m1:=fun p_s=>Mo.den (XP (Du n_) p_s),ok1:=fun p_s r h=>aak (Du n_) p_s r h }
noncomputable def Q23(p_s:aj):Option (aj):=(Du FU).m1 p_s
theorem adX(p_s:aj)(r:aj)(h:Q23 p_s=some r):Fn Tryz.prog GI 143 [.dat (aj.lf1 p_s)] (.dat (aj.lf1 r)):=(Du FU).ok1 p_s r h
noncomputable def Jh(p_d:ak):(Int×(List aP))→Mo ((Int×(List aP))⊕((List aP))):=fun(v0,l0)=>
 .ite (decide ((v0:Int)<(p_d.dJ.length:Int))) (fun _=>.stop) fun c0=>
 .say [.br false] (ok1 c0)<|
 .ret ⟨[],[1,2,3],[],3⟩ (.inr (l0))
noncomputable def XQ(p_d:ak)(v0:Int)(l0:List aP):Option (((List aP))):=dF (fun v_=>(Jh p_d v_).den) FU (v0,l0)
noncomputable def Ji(p_d:ak):(Int×(List aP))→St:=fun(v0,l0)=>⟨[(1,.ptr 0 0),(2,.ptr 1 0),(3,.own 2),(7,.lf (.rows 31 (p_d.dJ.map aP.lf))),(8,.i_ (p_d.dJ.length:Int)),(9,.i_ v0)],[.box 48 (.dat (ak.lf1 p_d)),.box 48 (Z48),.row 60 31 (l0.map aP.lf)]⟩
noncomputable def nV(p_d:ak)(r_:((List aP))):St:=⟨[(1,.ptr 0 0),(2,.ptr 1 0),(3,.own 2)],[.box 48 (.dat (ak.lf1 p_d)),.box 48 (Z48),.row 60 31 (r_.map aP.lf)]⟩
theorem XR{p_d:ak}{v0:Int}{l0:List aP}{r_:((List aP))}(h:XQ p_d v0 l0=some r_):bQ Tryz.f83 0 [1,1,0,1,0] (.exit 0) (nV p_d r_) (Ji p_d (v0,l0)):=
 bU aG (body:=(Code.sub (bodyC Tryz.f83) [1,1,0,1,0,0])) (by kernel_rfl) (Jh p_d) (Ji p_d) (fun _=>.exit 0) (nV p_d) (fun r_=>rfl) (fun v_=>by kernel_rfl) h
noncomputable def abM(p_d:ak):Mo (ak):=
 .say [.num p_d.dJ.length] (okc (ln_ p_d.dJ aP.lf) (okc (by simp[aP.aW]:(([]:List aP).map aP.lf)=[]) ok0))<|
 .ask (XQ p_d 0 ([]:List aP)) fun r0 h0=>
 .say [.part [.yU 3 60 31,.ji 2 (([]:List aP).map aP.lf)] 0 [1,2,3,7,8,9] 3 (.exit 0) (nV p_d r0).T (nV p_d r0).H] (ok1 (XR h0))<|
 .ask (Q23 p_d.jm) fun r1 h1=>
 .say [.res (.dat (aj.lf1 r1)),.at_ 0 0,.frz 2] (ok1 (adX _ _ h1))<|
 .ret (cZ 1) (ak.mk p_d.fName r0 r1 p_d.sS p_d.rH)
noncomputable def Q41(p_d:ak):Option (ak):=Mo.den (abM p_d)
theorem XT(p_d:ak)(r:ak)(h:Q41 p_d=some r):Fn Tryz.prog GI 83 [.dat (ak.lf1 p_d)] (.dat (ak.lf1 r)):=
 dK aG Tryz.func83 (by kernel_rfl) (by kernel_rfl) (by kernel_rfl) (abM p_d) (fun r=>[.dat (ak.lf1 r)]) (by kernel_rfl) h
noncomputable def Jj(p_l:List ak):(Int×(List ak))→Mo ((Int×(List ak))⊕((List ak))):=fun(v0,l0)=>
 .ite (decide ((v0:Int)<(p_l.length:Int))) (fun _=>.stop) fun c0=>
 .say [.br false] (ok1 c0)<|
 .ret ⟨[],[3],[],1⟩ (.inr (l0))
noncomputable def XU(p_l:List ak)(v0:Int)(l0:List ak):Option (((List ak))):=dF (fun v_=>(Jj p_l v_).den) FU (v0,l0)
noncomputable def Jk(p_l:List ak):(Int×(List ak))→St:=fun(v0,l0)=>⟨[(3,.own 0),(6,.lf (.rows 25 (p_l.map ak.lf))),(7,.i_ (p_l.length:Int)),(8,.i_ v0)],[.row 48 25 (l0.map ak.lf)]⟩
noncomputable def nX  (r_:((List ak))):St:=⟨[(3,.own 0)],[.row 48 25 (r_.map ak.lf)]⟩
theorem XV{p_l:List ak}{v0:Int}{l0:List ak}{r_:((List ak))}(h:XU p_l v0 l0=some r_):bQ Tryz.f96 0 [1,1,0,1,0] (.exit 0) (nX r_) (Jk p_l (v0,l0)):=
 bU aG (body:=(Code.sub (bodyC Tryz.f96) [1,1,0,1,0,0])) (by kernel_rfl) (Jj p_l) (Jk p_l) (fun _=>.exit 0) nX (fun r_=>rfl) (fun v_=>by kernel_rfl) h
noncomputable def abN(p_l:List ak):Mo (List ak):=
 .say [.num p_l.length] (okc (ln_ p_l ak.lf) (okc (by simp[ak.aW]:(([]:List ak).map ak.lf)=[]) ok0))<|
 .ask (XU p_l 0 ([]:List ak)) fun r0 h0=>
 .say [.part [.yU 3 48 25,.ji 0 (([]:List ak).map ak.lf)] 0 [3,6,7,8] 1 (.exit 0) (nX r0).T (nX r0).H] (ok1 (XV h0))<|
 .ret ⟨[.mvn 0],[0],[(1,0)],1⟩ (r0)
noncomputable def Q42(p_l:List ak):Option (List ak):=Mo.den (abN p_l)
theorem adY(p_l:List ak)(r:List ak)(h:Q42 p_l=some r):FnH Tryz.prog GI 96 [.lf (.rows 25 (p_l.map ak.lf))] [] (.own 0) [.row 48 25 (r.map ak.lf)]:=
 dh aG Tryz.func96 (by kernel_rfl) (by kernel_rfl) (by kernel_rfl) (abN p_l) (fun r=>[.own 0]) (fun r=>[.row 48 25 (r.map ak.lf)]) (by kernel_rfl) h
noncomputable def abO(p_i:Int)(p_s0:List ak)(p_s1:List ak):Mo (List ak):=
 .say [.opH [0] (.any) [.row 48 25 (p_s0.map ak.lf)],.num p_s1.length] ok0<|
 .grd ((0:Int)≤p_i∧p_i≤(p_s0.length:Int)) fun h0=>
 .say [] (okc (ZE p_s0 p_i h0.1 h0.2) (okc (ln_ p_s1 ak.lf) ok0))<|
 .ite ((p_s1.length:Int)==0) (fun _=>.stop) fun c0=>
 .say [.br false,.num p_s0.length,.br true,.rows ((p_s0++p_s1).map ak.lf)] (okc c0 (okc (ln_ p_s0 ak.lf) ok0))<|
 .ite (p_i==(p_s0.length:Int)) (fun c1=>
 .say [] (okc c1 (okc (by simp[ak.aW]:(p_s0++p_s1).map ak.lf=(p_s0.map ak.lf)++(p_s1.map ak.lf)) ok0))<|
 .grd ((p_s0.length+p_s1.length)*368≤140737488355328) fun h1=>
 .say [] (okc (by simpa using h1:((p_s0.map ak.lf).length+(p_s1.map ak.lf).length)*368≤140737488355328) ok0)<|
 .ret ⟨[.mvn 2],[0],[(3,2)],3⟩ (p_s0++p_s1)) fun _=>.stop
noncomputable def Q59(p_i:Int)(p_s0:List ak)(p_s1:List ak):Option (List ak):=Mo.den (abO p_i p_s0 p_s1)
theorem adZ(p_i:Int)(p_s0:List ak)(p_s1:List ak)(r:List ak)(h:Q59 p_i p_s0 p_s1=some r):FnH Tryz.prog GI 95 [.own 0,.i_ p_i,.own 1] [.row 48 25 (p_s0.map ak.lf),.row 48 25 (p_s1.map ak.lf)] (.own 2) [.dead,.row 48 25 (p_s1.map ak.lf),.row 48 25 (r.map ak.lf)]:=
 dh aG Tryz.func95 (by kernel_rfl) (by kernel_rfl) (by kernel_rfl) (abO p_i p_s0 p_s1) (fun r=>[.own 2]) (fun r=>[.dead,.row 48 25 (p_s1.map ak.lf),.row 48 25 (r.map ak.lf)]) (by kernel_rfl) h
noncomputable def Jl(p_d:ak)(p_l:List ak)(v0:Int):Mo (Bool):=
 .say [.order [(true,0),(true,1),(true,2),(true,3),(true,4),(true,5),(true,6),(true,7),(true,8),(true,9),(true,10),(true,11),(true,12),(true,13)] none [],.num p_l.length] (okc (ln_ p_l ak.lf) ok0)<|
 .ite (decide ((v0:Int)<(p_l.length:Int))) (fun _=>.stop) fun c0=>
 .say [.gd 20004 false] (ok1 c0)<|
 .ret ⟨[],[0,3,7,34],[],1⟩ (false)
noncomputable def XW(p_d:ak)(p_l:List ak)(v0:Int):Option (Bool):=Mo.den (Jl p_d p_l v0)
noncomputable def yw(p_d:ak)(p_l:List ak)(v0:Int)(r_:Bool):St:=⟨[(0,.lf (.rows 25 (p_l.map ak.lf))),(3,.ptr 0 0),(7,.i_ v0),(34,.b_ r_)],[.box 48 (.dat (ak.lf1 p_d))]⟩
theorem XY{p_d:ak}{p_l:List ak}{v0:Int}{r_:Bool}(h:XW p_d p_l v0=some r_):bQ Tryz.f58 0 [1,1,1,1,1,0,0,0,0,0] (.normal) (yw p_d p_l v0 r_) ⟨[(0,.lf (.rows 25 (p_l.map ak.lf))),(3,.ptr 0 0),(7,.i_ v0)],[.box 48 (.dat (ak.lf1 p_d))]⟩:=
 bM aG (Jl p_d p_l v0) (fun _=>.normal) (yw p_d p_l v0) (by kernel_rfl) h
noncomputable def Jm(p_d:ak)(p_l:List ak):(Int)→Mo ((Int)⊕(Int)):=fun(v0)=>
 .ask (XW p_d p_l v0) fun r0 h0=>
 .say [.pt_ 25 [0,3,7] 1 (.normal) (yw p_d p_l v0 r0)] (ok1 (XY h0))<|
 .ite (r0) (fun _=>.stop) fun c0=>
 .say [.br false] (ok1 c0)<|
 .ret ⟨[],[0,3,7],[],1⟩ (.inr (v0))
noncomputable def XZ(p_d:ak)(p_l:List ak)(v0:Int):Option (Int):=dF (fun v_=>(Jm p_d p_l v_).den) FU (v0)
noncomputable def Jo(p_d:ak)(p_l:List ak):(Int)→St:=fun(v0)=>⟨[(0,.lf (.rows 25 (p_l.map ak.lf))),(3,.ptr 0 0),(7,.i_ v0)],[.box 48 (.dat (ak.lf1 p_d))]⟩
noncomputable def yx(p_d:ak)(p_l:List ak)(r_:Int):St:=⟨[(0,.lf (.rows 25 (p_l.map ak.lf))),(3,.ptr 0 0),(7,.i_ r_)],[.box 48 (.dat (ak.lf1 p_d))]⟩
theorem X0{p_d:ak}{p_l:List ak}{v0:Int}{r_:Int}(h:XZ p_d p_l v0=some r_):bQ Tryz.f58 0 [1,1,1,1,1,0,0] (.exit 0) (yx p_d p_l r_) (Jo p_d p_l (v0)):=
 bU aG (body:=(Code.sub (bodyC Tryz.f58) [1,1,1,1,1,0,0,0])) (by kernel_rfl) (Jm p_d p_l) (Jo p_d p_l) (fun _=>.exit 0) (yx p_d p_l) (fun r_=>rfl) (fun v_=>by kernel_rfl) h
noncomputable def abP(p_l:List ak)(p_d:ak):Mo ((List ak)×Int):=
 .ask (Q25 p_d) fun r0 h0=>
 .say [.res (.i_ r0)] (ok1 (WG _ _ h0))<|
 .ite (r0 != 0) (fun _=>.stop) fun c0=>
 .say [.br false] (ok1 c0)<|
 .ask (Q78 p_l p_d.fName) fun r1 h1=>
 .say [.res (.i_ r1)] (ok1 (XC _ _ _ h1))<|
 .ite (decide ((0:Int)≤r1)) (fun _=>.stop) fun c1=>
 .say [.br false,.num p_l.length] (okc c1 (okc (ln_ p_l ak.lf) ok0))<|
 .ite (decide ((16:Int)≤(p_l.length:Int))) (fun _=>.stop) fun c2=>
 .say [.br false] (ok1 c2)<|
 .ask (XZ p_d p_l 0) fun r2 h2=>
 .say [.pt_ 0 [0,3,7] 1 (.exit 0) (yx p_d p_l r2)] (ok1 (X0 h2))<|
 .ask (Q42 p_l) fun r3 h3=>
 .say [] (ok1 (adY _ _ h3))<|
 .ask (Q41 p_d) fun r4 h4=>
 .say [] (okc (XT _ _ h4) (okc (by simp[ak.aW]:([r4].map ak.lf)=[(ak.lf1 r4)]) ok0))<|
 .ask (Q59 r2 r3 [r4]) fun r5 h5=>
 .say [.iY (.q 0 (.q 2 (.q 3 (.l 1 (.l 4 (.l 5 (.l 6 (.q 7 (.q 8 .fin))))))))) (some 6) [1] [.at_ 24 1,.resv 1,.dP [] (.own 0) [.row 48 25 (r3.map ak.lf)],.res (.dat (ak.lf1 r4)),.slot 1,.at_ 24 6,.ji 1 ([r4].map ak.lf),.dP [2,1] (.own 2) [.dead,.row 48 25 ([r4].map ak.lf),.row 48 25 (r5.map ak.lf)]] [4,5] 4 [(4,.own 3),(5,.i_ 0)] [.box 48 (.dat (ak.lf1 p_d)),.row 48 25 ([r4].map ak.lf),.dead,.row 48 25 (r5.map ak.lf)],.at_ 0 0,.frz 3] (okc (adZ _ _ _ _ h5) (okc (rf_ ⟨[(4,.own 3),(5,.i_ 0)],[.box 48 (.dat (ak.lf1 p_d)),.row 48 25 ([r4].map ak.lf),.dead,.row 48 25 (r5.map ak.lf)]⟩) ok0))<|
 .ret (cZ 2) (r5,0)
noncomputable def Q36(p_l:List ak)(p_d:ak):Option ((List ak)×Int):=Mo.den (abP p_l p_d)
theorem ad1(p_l:List ak)(p_d:ak)(r:(List ak)×Int)(h:Q36 p_l p_d=some r):Fn Tryz.prog GI 58 [.lf (.rows 25 (p_l.map ak.lf)),.dat (ak.lf1 p_d)] (.tup [.lf (.rows 25 (r.1.map ak.lf)),.i_ r.2]):=
 dK aG Tryz.func58 (by kernel_rfl) (by kernel_rfl) (by kernel_rfl) (abP p_l p_d) (fun r=>[.lf (.rows 25 (r.1.map ak.lf)),.i_ r.2]) (by kernel_rfl) h
noncomputable def Jp(p_b0_0:Int)(p_b0_1:List ak)(p_s1:aU)(p_s2:List (ByteArray×au))(p_s3:List (ByteArray×aA))(p_t:Int)(p_w:ay):Mo (Bool):=
 .ite (p_w.aK==2) (fun c0=>
 .say [.br true] (ok1 c0)<|
 .ret ⟨[],[2,3,4,8,18,19],[],6⟩ (p_w.aK==2)) fun c0=>
 .say [.br false] (ok1 c0)<|
 .ret ⟨[],[2,3,4,8,18,19],[],6⟩ (p_w.aK==3)
noncomputable def X3(p_b0_0:Int)(p_b0_1:List ak)(p_s1:aU)(p_s2:List (ByteArray×au))(p_s3:List (ByteArray×aA))(p_t:Int)(p_w:ay):Option (Bool):=Mo.den (Jp p_b0_0 p_b0_1 p_s1 p_s2 p_s3 p_t p_w)
noncomputable def yA(p_b0_0:Int)(p_b0_1:List ak)(p_s1:aU)(p_s2:List (ByteArray×au))(p_s3:List (ByteArray×aA))(p_t:Int)(p_w:ay)(r_:Bool):St:=⟨[(2,.i_ p_t),(3,.ptr 4 0),(4,.ptr 5 0),(8,.lf (.rows 25 (p_b0_1.map ak.lf))),(18,.i_ p_w.aK),(19,.b_ r_)],[.box 113 (.agg [.i_ p_b0_0,.lf (.rows 25 (p_b0_1.map ak.lf)),.mp 1,.mp 2,.mp 3]),.res (aY p_s1 none) none,.res (bD p_s2) none,.res (bF p_s3) none,.box 26 (.agg [.ptr 0 0]),.box 64 (.dat (ay.lf1 p_w))]⟩
theorem X4{p_b0_0:Int}{p_b0_1:List ak}{p_s1:aU}{p_s2:List (ByteArray×au)}{p_s3:List (ByteArray×aA)}{p_t:Int}{p_w:ay}{r_:Bool}(h:X3 p_b0_0 p_b0_1 p_s1 p_s2 p_s3 p_t p_w=some r_):bQ Tryz.f74 4 [1,1,1,0,1,0,0,1] (.normal) (yA p_b0_0 p_b0_1 p_s1 p_s2 p_s3 p_t p_w r_) ⟨[(2,.i_ p_t),(3,.ptr 4 0),(4,.ptr 5 0),(8,.lf (.rows 25 (p_b0_1.map ak.lf))),(18,.i_ p_w.aK),(19,.lf (.bool (p_w.aK==2)))],[.box 113 (.agg [.i_ p_b0_0,.lf (.rows 25 (p_b0_1.map ak.lf)),.mp 1,.mp 2,.mp 3]),.res (aY p_s1 none) none,.res (bD p_s2) none,.res (bF p_s3) none,.box 26 (.agg [.ptr 0 0]),.box 64 (.dat (ay.lf1 p_w))]⟩:=
 bM aG (Jp p_b0_0 p_b0_1 p_s1 p_s2 p_s3 p_t p_w) (fun _=>.normal) (yA p_b0_0 p_b0_1 p_s1 p_s2 p_s3 p_t p_w) (by kernel_rfl) h
noncomputable def BA(p_b0_0:Int)(p_b0_1:List ak)(p_s1:aU)(p_s2:List (ByteArray×au))(p_s3:List (ByteArray×aA))(p_t:Int)(p_w:ay):Mo ((Int)⊕Unit⊕(aU×ByteArray)⊕((List ak)×Int)):=
 .ask (X3 p_b0_0 p_b0_1 p_s1 p_s2 p_s3 p_t p_w) fun r0 h0=>
 .say [.pt_ 1 [2,3,4,8,18,19] 6 (.normal) (yA p_b0_0 p_b0_1 p_s1 p_s2 p_s3 p_t p_w r0)] (ok1 (X4 h0))<|
 .ite (r0) (fun c0=>
 .say [.br true] (ok1 c0)<|
 .ask (Q56 p_w p_t p_b0_0 p_b0_1 p_s1 p_s2 p_s3) fun r1 h1=>
 .say [.dP [0,1,2,3] (.i_ r1) [.box 113 (.agg [.i_ p_b0_0,.lf (.rows 25 (p_b0_1.map ak.lf)),.mp 1,.mp 2,.mp 3]),.res (aY p_s1 none) none,.res (bD p_s2) none,.res (bF p_s3) none]] (ok1 (adS _ _ _ _ _ _ _ _ h1))<|
 .ite (r1 != 0) (fun _=>.stop) fun c1=>
 .say [.br false] (ok1 c1)<|
 .ask2 (Q33 p_w p_t p_b0_0 p_b0_1 p_s1 p_s2 p_s3) (fun _ _=>.stop) fun o0 h2=>
 .say [.dP [0,1,2,3] (.clo 178 [.ptr 5 0,.ptr 6 0]) [.box 113 (.agg [.i_ p_b0_0,.lf (.rows 25 (p_b0_1.map ak.lf)),.mp 1,.mp 2,.mp 3]),.res (aY o0.1 none) none,.res (bD p_s2) none,.res (bF p_s3) none,.dead,.box 139 (.agg [.hnd 1 (aI p_w.aT p_s1.dir)]),.box 9 (.dat [(.str o0.2)])]] (ok1 (adT _ _ _ _ _ _ _ _ h2))<|
 .ret ⟨[.kill 4,.kill 5],[6,7],[],9⟩ (.inr (.inr (.inl (o0.1,o0.2))))) fun c0=>
 .say [.br false] (ok1 c0)<|
 .ite (p_w.aK==4) (fun c2=>
 .say [.br true] (ok1 c2)<|
 .ask (Q36 p_b0_1 p_w.kC) fun r2 h3=>
 .say [.iY (.q 0 (.q 1 (.q 2 (.q 3 (.q 4 (.q 5 (.l 6 (.q 7 (.q 8 (.q 9 (.q 10 (.q 11 .fin)))))))))))) (some 6) [] [.res (.tup [.lf (.rows 25 (r2.1.map ak.lf)),.i_ r2.2])] [3,4,8,9] 6 [(3,.ptr 4 0),(4,.ptr 5 0),(8,.lf (.rows 25 (r2.1.map ak.lf))),(9,.i_ r2.2)] [.box 113 (.agg [.i_ p_b0_0,.lf (.rows 25 (p_b0_1.map ak.lf)),.mp 1,.mp 2,.mp 3]),.res (aY p_s1 none) none,.res (bD p_s2) none,.res (bF p_s3) none,.box 26 (.agg [.ptr 0 0]),.box 64 (.dat (ay.lf1 p_w))]] (okc (ad1 _ _ _ h3) (okc (rf_ ⟨[(3,.ptr 4 0),(4,.ptr 5 0),(8,.lf (.rows 25 (r2.1.map ak.lf))),(9,.i_ r2.2)],[.box 113 (.agg [.i_ p_b0_0,.lf (.rows 25 (p_b0_1.map ak.lf)),.mp 1,.mp 2,.mp 3]),.res (aY p_s1 none) none,.res (bD p_s2) none,.res (bF p_s3) none,.box 26 (.agg [.ptr 0 0]),.box 64 (.dat (ay.lf1 p_w))]⟩) ok0))<|
 .ret ⟨[],[3,4,8,9],[],6⟩ (.inr (.inr (.inr ((r2.1,r2.2)))))) fun _=>.stop
noncomputable def NR(p_b0_0:Int)(p_b0_1:List ak)(p_s1:aU)(p_s2:List (ByteArray×au))(p_s3:List (ByteArray×aA))(p_t:Int)(p_w:ay):Option ((Int)⊕Unit⊕(aU×ByteArray)⊕((List ak)×Int)):=Mo.den (BA p_b0_0 p_b0_1 p_s1 p_s2 p_s3 p_t p_w)
noncomputable def lu(r_:(Int)⊕Unit⊕(aU×ByteArray)⊕((List ak)×Int)):Exit:=match r_ with
 |.inl o_=>.ret
 |.inr (.inl o_)=>.ret
 |.inr (.inr (.inl o_))=>.ret
 |.inr (.inr (.inr (o_)))=>.normal
noncomputable def lC(p_b0_0:Int)(p_b0_1:List ak)(p_s1:aU)(p_s2:List (ByteArray×au))(p_s3:List (ByteArray×aA))(p_w:ay)(r_:(Int)⊕Unit⊕(aU×ByteArray)⊕((List ak)×Int)):St:=match r_ with
 |.inl o_=>⟨[(6,.raw (.nilFunc)),(7,.i_ o_)],[.box 113 (.agg [.i_ p_b0_0,.lf (.rows 25 (p_b0_1.map ak.lf)),.mp 1,.mp 2,.mp 3]),.res (aY p_s1 none) none,.res (bD p_s2) none,.res (bF p_s3) none,.dead,.dead]⟩
 |.inr (.inl o_)=>⟨[(6,.raw (.func (.func 177) #[] #[])),(7,.i_ 0)],[.box 113 (.agg [.i_ p_b0_0,.lf (.rows 25 (p_b0_1.map ak.lf)),.mp 1,.mp 2,.mp 3]),.res (aY p_s1 none) none,.res (bD p_s2) none,.res (bF p_s3) none,.dead,.dead]⟩
 |.inr (.inr (.inl o_))=>⟨[(6,.clo 178 [.ptr 7 0,.ptr 8 0]),(7,.i_ 0)],[.box 113 (.agg [.i_ p_b0_0,.lf (.rows 25 (p_b0_1.map ak.lf)),.mp 1,.mp 2,.mp 3]),.res (aY o_.1 none) none,.res (bD p_s2) none,.res (bF p_s3) none,.dead,.dead,.dead,.box 139 (.agg [.hnd 1 (aI p_w.aT p_s1.dir)]),.box 9 (.dat [(.str o_.2)])]⟩
 |.inr (.inr (.inr (o_)))=>⟨[(3,.ptr 4 0),(4,.ptr 5 0),(8,.lf (.rows 25 (o_.1.map ak.lf))),(9,.i_ o_.2)],[.box 113 (.agg [.i_ p_b0_0,.lf (.rows 25 (p_b0_1.map ak.lf)),.mp 1,.mp 2,.mp 3]),.res (aY p_s1 none) none,.res (bD p_s2) none,.res (bF p_s3) none,.box 26 (.agg [.ptr 0 0]),.box 64 (.dat (ay.lf1 p_w))]⟩
theorem BD{p_b0_0:Int}{p_b0_1:List ak}{p_s1:aU}{p_s2:List (ByteArray×au)}{p_s3:List (ByteArray×aA)}{p_t:Int}{p_w:ay}{r_:(Int)⊕Unit⊕(aU×ByteArray)⊕((List ak)×Int)}(h:NR p_b0_0 p_b0_1 p_s1 p_s2 p_s3 p_t p_w=some r_):bQ Tryz.f74 4 [1,1,1,0,1] (lu r_) (lC p_b0_0 p_b0_1 p_s1 p_s2 p_s3 p_w r_) ⟨[(2,.i_ p_t),(3,.ptr 4 0),(4,.ptr 5 0),(8,.lf (.rows 25 (p_b0_1.map ak.lf))),(18,.i_ p_w.aK)],[.box 113 (.agg [.i_ p_b0_0,.lf (.rows 25 (p_b0_1.map ak.lf)),.mp 1,.mp 2,.mp 3]),.res (aY p_s1 none) none,.res (bD p_s2) none,.res (bF p_s3) none,.box 26 (.agg [.ptr 0 0]),.box 64 (.dat (ay.lf1 p_w))]⟩:=
 bM aG (BA p_b0_0 p_b0_1 p_s1 p_s2 p_s3 p_t p_w) lu (lC p_b0_0 p_b0_1 p_s1 p_s2 p_s3 p_w) (by kernel_rfl) h
noncomputable def ae3(p_w:ay)(p_t:Int)(p_b0_0:Int)(p_b0_1:List ak)(p_s1:aU)(p_s2:List (ByteArray×au))(p_s3:List (ByteArray×aA))(r:(Int)⊕(Unit)⊕(aU×ByteArray)⊕(List ak)⊕(List ak)⊕(List ak)):List AV:=match r with
 |.inl o_=>[.raw (.nilFunc),.i_ o_]
 |.inr (.inl o_)=>[.raw (.func (.func 177) #[] #[]),.i_ 0]
 |.inr (.inr (.inl o_))=>[.clo 178 [.ptr 7 0,.ptr 8 0],.i_ 0]
 |.inr (.inr (.inr (.inl o_)))=>[.clo 118 [.ptr 6 0,.ptr 4 0,.ptr 5 0],.i_ 0]
 |.inr (.inr (.inr (.inr (.inl o_))))=>[.clo 119 [.ptr 6 0,.ptr 4 0,.ptr 7 0,.ptr 5 0],.i_ 0]
 |.inr (.inr (.inr (.inr (.inr (o_)))))=>[.clo 120 [.ptr 6 0,.ptr 4 0],.i_ 0]
noncomputable def abQ(p_w:ay)(p_t:Int)(p_b0_0:Int)(p_b0_1:List ak)(p_s1:aU)(p_s2:List (ByteArray×au))(p_s3:List (ByteArray×aA))(r:(Int)⊕(Unit)⊕(aU×ByteArray)⊕(List ak)⊕(List ak)⊕(List ak)):List Slot:=match r with
 |.inl o_=>[.box 113 (.agg [.i_ p_b0_0,.lf (.rows 25 (p_b0_1.map ak.lf)),.mp 1,.mp 2,.mp 3]),.res (aY p_s1 none) none,.res (bD p_s2) none,.res (bF p_s3) none]
 |.inr (.inl o_)=>[.box 113 (.agg [.i_ p_b0_0,.lf (.rows 25 (p_b0_1.map ak.lf)),.mp 1,.mp 2,.mp 3]),.res (aY p_s1 none) none,.res (bD p_s2) none,.res (bF p_s3) none]
 |.inr (.inr (.inl o_))=>[.box 113 (.agg [.i_ p_b0_0,.lf (.rows 25 (p_b0_1.map ak.lf)),.mp 1,.mp 2,.mp 3]),.res (aY o_.1 none) none,.res (bD p_s2) none,.res (bF p_s3) none,.dead,.dead,.dead,.box 139 (.agg [.hnd 1 (aI p_w.aT p_s1.dir)]),.box 9 (.dat [(.str o_.2)])]
 |.inr (.inr (.inr (.inl o_)))=>[.box 113 (.agg [.i_ p_b0_0,.lf (.rows 25 (o_.map ak.lf)),.mp 1,.mp 2,.mp 3]),.res (aY (p_s1.make p_w.kC.fName) none) none,.res (bD p_s2) none,.res (bF p_s3) none,.box 26 (.agg [.ptr 0 0]),.box 64 (.dat (ay.lf1 p_w)),.box 28 (.dat [(.rows 25 (p_b0_1.map ak.lf))])]
 |.inr (.inr (.inr (.inr (.inl o_))))=>[.box 113 (.agg [.i_ p_b0_0,.lf (.rows 25 (o_.map ak.lf)),.mp 1,.mp 2,.mp 3]),.res (aY (p_s1.unlink p_w.aT) none) none,.res (bD p_s2) none,.res (bF p_s3) none,.box 26 (.agg [.ptr 0 0]),.box 64 (.dat (ay.lf1 p_w)),.box 28 (.dat [(.rows 25 (p_b0_1.map ak.lf))]),.box 139 (.agg [.hnd 1 (aI p_w.aT p_s1.dir)])]
 |.inr (.inr (.inr (.inr (.inr (o_)))))=>[.box 113 (.agg [.i_ p_b0_0,.lf (.rows 25 (o_.map ak.lf)),.mp 1,.mp 2,.mp 3]),.res (aY p_s1 none) none,.res (bD p_s2) none,.res (bF p_s3) none,.box 26 (.agg [.ptr 0 0]),.dead,.box 28 (.dat [(.rows 25 (p_b0_1.map ak.lf))])]
noncomputable def abR(p_w:ay)(p_t:Int)(p_b0_0:Int)(p_b0_1:List ak)(p_s1:aU)(p_s2:List (ByteArray×au))(p_s3:List (ByteArray×aA)):Mo ((Int)⊕(Unit)⊕(aU×ByteArray)⊕(List ak)⊕(List ak)⊕(List ak)):=
 .ask3 (NR p_b0_0 p_b0_1 p_s1 p_s2 p_s3 p_t p_w) (fun _ _=>.stop) (fun _ _=>.stop) fun o0 h0=>
 .ask2 (some o0) (fun o1 h1=>
 .say [.pt_ 6 [2,3,4,8,18] 6 (lu (.inr (.inr (.inl o1)))) (lC p_b0_0 p_b0_1 p_s1 p_s2 p_s3 p_w (.inr (.inr (.inl o1))))] (okc (BD (ZA h0 h1)) ok0)<|
 .ret ⟨[],[0,1],[],9⟩ (.inr (.inr (.inl (o1.1,o1.2))))) fun o2 h1=>
 .say [.pt_ 6 [2,3,4,8,18] 6 (lu (.inr (.inr (.inr (o2))))) (lC p_b0_0 p_b0_1 p_s1 p_s2 p_s3 p_w (.inr (.inr (.inr (o2)))))] (okc (BD (ZA h0 h1)) ok0)<|
 .ite (o2.2 != 0) (fun _=>.stop) fun c0=>
 .say [.br false] (ok1 c0)<|
 .ite (p_w.aK==4) (fun c1=>
 .say [.br true,.order [(true,0),(true,1),(true,2),(true,3),(true,4),(true,5),(true,6),(false,7),(false,8)] (some 8) [7],.opH [] (.mp 0) [.res ac0 none],.opH [1,7] (.raw undef) [.res (aY (p_s1.make p_w.kC.fName) none) none,.dead]] (okc c1 (ok1 Zv))<|
 .grd (p_s1.dir.length<maxLen) fun h2=>
 .say [] (ok1 (Zt p_s1 p_w.kC.fName h2))<|
 .ret ⟨[.norm 6],[0,1],[],7⟩ (.inr (.inr (.inr (.inl (o2.1)))))) fun _=>.stop
noncomputable def Q22(p_w:ay)(p_t:Int)(p_b0_0:Int)(p_b0_1:List ak)(p_s1:aU)(p_s2:List (ByteArray×au))(p_s3:List (ByteArray×aA)):Option ((Int)⊕(Unit)⊕(aU×ByteArray)⊕(List ak)⊕(List ak)⊕(List ak)):=Mo.den (abR p_w p_t p_b0_0 p_b0_1 p_s1 p_s2 p_s3)
theorem X5(p_w:ay)(p_t:Int)(p_b0_0:Int)(p_b0_1:List ak)(p_s1:aU)(p_s2:List (ByteArray×au))(p_s3:List (ByteArray×aA))(r:(Int)⊕(Unit)⊕(aU×ByteArray)⊕(List ak)⊕(List ak)⊕(List ak))(h:Q22 p_w p_t p_b0_0 p_b0_1 p_s1 p_s2 p_s3=some r):FnH Tryz.prog GI 74 [.ptr 0 0,.dat (ay.lf1 p_w),.i_ p_t] [.box 113 (.agg [.i_ p_b0_0,.lf (.rows 25 (p_b0_1.map ak.lf)),.mp 1,.mp 2,.mp 3]),.res (aY p_s1 none) none,.res (bD p_s2) none,.res (bF p_s3) none] (resV (ae3 p_w p_t p_b0_0 p_b0_1 p_s1 p_s2 p_s3 r)) (abQ p_w p_t p_b0_0 p_b0_1 p_s1 p_s2 p_s3 r):=
 dh aG Tryz.func74 (by kernel_rfl) (by kernel_rfl) (by kernel_rfl) (abR p_w p_t p_b0_0 p_b0_1 p_s1 p_s2 p_s3) (ae3 p_w p_t p_b0_0 p_b0_1 p_s1 p_s2 p_s3) (abQ p_w p_t p_b0_0 p_b0_1 p_s1 p_s2 p_s3) (by kernel_rfl) h
end
end Go.Proofs.YtpdlghcgekojlaaGreatDoor
set_option linter.unusedSimpArgs false
set_option linter.unusedVariables false
namespace Go.Proofs.YtpdlghcgekojlaaGreatDoor
open Go.RowKit
set_option maxRecDepth 20000
set_option maxHeartbeats 4000000
noncomputable section
noncomputable def Jq(p_b0_0:Int)(p_b0_1:List ak)(p_s1:aU)(p_s2:List (ByteArray×au))(p_s3:List (ByteArray×aA))(p_t:Int)(p_w:ay):Mo (Bool):=
 .ite (p_w.aK==1) (fun _=>.stop) fun c0=>
 .say [.br false] (ok1 c0)<|
 .ret ⟨[],[0,2,4,12,13],[],5⟩ (p_w.aK==12)
noncomputable def X6(p_b0_0:Int)(p_b0_1:List ak)(p_s1:aU)(p_s2:List (ByteArray×au))(p_s3:List (ByteArray×aA))(p_t:Int)(p_w:ay):Option (Bool):=Mo.den (Jq p_b0_0 p_b0_1 p_s1 p_s2 p_s3 p_t p_w)
noncomputable def yB(p_b0_0:Int)(p_b0_1:List ak)(p_s1:aU)(p_s2:List (ByteArray×au))(p_s3:List (ByteArray×aA))(p_t:Int)(p_w:ay)(r_:Bool):St:=⟨[(0,.ptr 0 0),(2,.i_ p_t),(4,.ptr 4 0),(12,.i_ p_w.aK),(13,.b_ r_)],[.box 113 (.agg [.i_ p_b0_0,.lf (.rows 25 (p_b0_1.map ak.lf)),.mp 1,.mp 2,.mp 3]),.res (aY p_s1 none) none,.res (bD p_s2) none,.res (bF p_s3) none,.box 64 (.dat (ay.lf1 p_w))]⟩
theorem X7{p_b0_0:Int}{p_b0_1:List ak}{p_s1:aU}{p_s2:List (ByteArray×au)}{p_s3:List (ByteArray×aA)}{p_t:Int}{p_w:ay}{r_:Bool}(h:X6 p_b0_0 p_b0_1 p_s1 p_s2 p_s3 p_t p_w=some r_):bQ Tryz.f40 4 [1,0,1,0,0,1] (.normal) (yB p_b0_0 p_b0_1 p_s1 p_s2 p_s3 p_t p_w r_) ⟨[(0,.ptr 0 0),(2,.i_ p_t),(4,.ptr 4 0),(12,.i_ p_w.aK),(13,.lf (.bool (p_w.aK==1)))],[.box 113 (.agg [.i_ p_b0_0,.lf (.rows 25 (p_b0_1.map ak.lf)),.mp 1,.mp 2,.mp 3]),.res (aY p_s1 none) none,.res (bD p_s2) none,.res (bF p_s3) none,.box 64 (.dat (ay.lf1 p_w))]⟩:=
 bM aG (Jq p_b0_0 p_b0_1 p_s1 p_s2 p_s3 p_t p_w) (fun _=>.normal) (yB p_b0_0 p_b0_1 p_s1 p_s2 p_s3 p_t p_w) (by kernel_rfl) h
noncomputable def Jr(p_b0_0:Int)(p_b0_1:List ak)(p_s1:aU)(p_s2:List (ByteArray×au))(p_s3:List (ByteArray×aA))(p_t:Int)(p_w:ay):Mo ((Int×(List ak)×aU)):=
 .ask3 (Q22 p_w p_t p_b0_0 p_b0_1 p_s1 p_s2 p_s3) (fun _ _=>.stop) (fun _ _=>.stop) fun o0 h0=>
 .ask3 (some o0) (fun o1 h1=>
 .say [.dP [0,1,2,3] (.tup [.clo 178 [.ptr 7 0,.ptr 8 0],.i_ 0]) [.box 113 (.agg [.i_ p_b0_0,.lf (.rows 25 (p_b0_1.map ak.lf)),.mp 1,.mp 2,.mp 3]),.res (aY o1.1 none) none,.res (bD p_s2) none,.res (bF p_s3) none,.dead,.dead,.dead,.box 139 (.agg [.hnd 1 (aI p_w.aT p_s1.dir)]),.box 9 (.dat [(.str o1.2)])]] (okc (X5 _ _ _ _ _ _ _ _ (ZA h0 h1)) ok0)<|
 .ret ⟨[.kill 4],[10],[],5⟩ (0,p_b0_1,o1.1)) (fun o2 h1=>
 .say [.dP [0,1,2,3] (.tup [.clo 118 [.ptr 6 0,.ptr 4 0,.ptr 5 0],.i_ 0]) [.box 113 (.agg [.i_ p_b0_0,.lf (.rows 25 (o2.map ak.lf)),.mp 1,.mp 2,.mp 3]),.res (aY (p_s1.make p_w.kC.fName) none) none,.res (bD p_s2) none,.res (bF p_s3) none,.box 26 (.agg [.ptr 0 0]),.box 64 (.dat (ay.lf1 p_w)),.box 28 (.dat [(.rows 25 (p_b0_1.map ak.lf))])]] (okc (X5 _ _ _ _ _ _ _ _ (ZA h0 h1)) ok0)<|
 .ret ⟨[.kill 4],[10],[],5⟩ (0,o2,p_s1.make p_w.kC.fName)) fun _ _=>.stop
noncomputable def X8(p_b0_0:Int)(p_b0_1:List ak)(p_s1:aU)(p_s2:List (ByteArray×au))(p_s3:List (ByteArray×aA))(p_t:Int)(p_w:ay):Option ((Int×(List ak)×aU)):=Mo.den (Jr p_b0_0 p_b0_1 p_s1 p_s2 p_s3 p_t p_w)
noncomputable def yC(p_b0_0:Int)(p_s2:List (ByteArray×au))(p_s3:List (ByteArray×aA))(r_:(Int×(List ak)×aU)):St:=⟨[(10,.i_ r_.1)],[.box 113 (.agg [.i_ p_b0_0,.lf (.rows 25 (r_.2.1.map ak.lf)),.mp 1,.mp 2,.mp 3]),.res (aY r_.2.2 none) none,.res (bD p_s2) none,.res (bF p_s3) none,.dead]⟩
theorem X9{p_b0_0:Int}{p_b0_1:List ak}{p_s1:aU}{p_s2:List (ByteArray×au)}{p_s3:List (ByteArray×aA)}{p_t:Int}{p_w:ay}{r_:(Int×(List ak)×aU)}(h:X8 p_b0_0 p_b0_1 p_s1 p_s2 p_s3 p_t p_w=some r_):bQ Tryz.f40 4 [1,1,0] (.normal) (yC p_b0_0 p_s2 p_s3 r_) ⟨[(0,.ptr 0 0),(2,.i_ p_t),(4,.ptr 4 0)],[.box 113 (.agg [.i_ p_b0_0,.lf (.rows 25 (p_b0_1.map ak.lf)),.mp 1,.mp 2,.mp 3]),.res (aY p_s1 none) none,.res (bD p_s2) none,.res (bF p_s3) none,.box 64 (.dat (ay.lf1 p_w))]⟩:=
 bM aG (Jr p_b0_0 p_b0_1 p_s1 p_s2 p_s3 p_t p_w) (fun _=>.normal) (yC p_b0_0 p_s2 p_s3) (by kernel_rfl) h
noncomputable def ae4(p_w:ay)(p_t:Int)(p_b0_0:Int)(p_b0_1:List ak)(p_s1:aU)(p_s2:List (ByteArray×au))(p_s3:List (ByteArray×aA))(r:Int×(List ak)×aU×List (ByteArray×au)):List AV:=[.i_ r.1]
noncomputable def abS(p_w:ay)(p_t:Int)(p_b0_0:Int)(p_b0_1:List ak)(p_s1:aU)(p_s2:List (ByteArray×au))(p_s3:List (ByteArray×aA))(r:Int×(List ak)×aU×List (ByteArray×au)):List Slot:=[.box 113 (.agg [.i_ p_b0_0,.lf (.rows 25 (r.2.1.map ak.lf)),.mp 1,.mp 2,.mp 3]),.res (aY r.2.2.1 none) none,.res (bD r.2.2.2) none,.res (bF p_s3) none]
noncomputable def abT(p_w:ay)(p_t:Int)(p_b0_0:Int)(p_b0_1:List ak)(p_s1:aU)(p_s2:List (ByteArray×au))(p_s3:List (ByteArray×aA)):Mo (Int×(List ak)×aU×List (ByteArray×au)):=
 .ask (X6 p_b0_0 p_b0_1 p_s1 p_s2 p_s3 p_t p_w) fun r0 h0=>
 .say [.pt_ 1 [0,2,4,12,13] 5 (.normal) (yB p_b0_0 p_b0_1 p_s1 p_s2 p_s3 p_t p_w r0)] (ok1 (X7 h0))<|
 .ite (r0) (fun _=>.stop) fun c0=>
 .say [.br false] (ok1 c0)<|
 .ite (p_w.aK==8) (fun _=>.stop) fun c1=>
 .say [.br false] (ok1 c1)<|
 .ite (p_w.aK==9) (fun _=>.stop) fun c2=>
 .say [.br false] (ok1 c2)<|
 .ite (p_w.aK==10) (fun _=>.stop) fun c3=>
 .say [.br false] (ok1 c3)<|
 .ite (p_w.aK==11) (fun _=>.stop) fun c4=>
 .say [.br false] (ok1 c4)<|
 .ask (X8 p_b0_0 p_b0_1 p_s1 p_s2 p_s3 p_t p_w) fun r1 h1=>
 .say [.pt_ 41 [0,2,4] 5 (.normal) (yC p_b0_0 p_s2 p_s3 r1)] (ok1 (X9 h1))<|
 .ret ⟨[],[0],[],4⟩ (r1.1,r1.2.1,r1.2.2,p_s2)
noncomputable def Q31(p_w:ay)(p_t:Int)(p_b0_0:Int)(p_b0_1:List ak)(p_s1:aU)(p_s2:List (ByteArray×au))(p_s3:List (ByteArray×aA)):Option (Int×(List ak)×aU×List (ByteArray×au)):=Mo.den (abT p_w p_t p_b0_0 p_b0_1 p_s1 p_s2 p_s3)
theorem ad2(p_w:ay)(p_t:Int)(p_b0_0:Int)(p_b0_1:List ak)(p_s1:aU)(p_s2:List (ByteArray×au))(p_s3:List (ByteArray×aA))(r:Int×(List ak)×aU×List (ByteArray×au))(h:Q31 p_w p_t p_b0_0 p_b0_1 p_s1 p_s2 p_s3=some r):FnH Tryz.prog GI 40 [.ptr 0 0,.dat (ay.lf1 p_w),.i_ p_t] [.box 113 (.agg [.i_ p_b0_0,.lf (.rows 25 (p_b0_1.map ak.lf)),.mp 1,.mp 2,.mp 3]),.res (aY p_s1 none) none,.res (bD p_s2) none,.res (bF p_s3) none] (resV (ae4 p_w p_t p_b0_0 p_b0_1 p_s1 p_s2 p_s3 r)) (abS p_w p_t p_b0_0 p_b0_1 p_s1 p_s2 p_s3 r):=
 dh aG Tryz.func40 (by kernel_rfl) (by kernel_rfl) (by kernel_rfl) (abT p_w p_t p_b0_0 p_b0_1 p_s1 p_s2 p_s3) (ae4 p_w p_t p_b0_0 p_b0_1 p_s1 p_s2 p_s3) (abS p_w p_t p_b0_0 p_b0_1 p_s1 p_s2 p_s3) (by kernel_rfl) h
noncomputable def Js(p_e:aZ)(p_s3:List (ByteArray×aA))(r0:Int×(List ak)×aU×List (ByteArray×au)):Mo (((List (ByteArray×aA)))):=
 .ite (!decide ((p_e.eP:ByteArray)=(⟨#[]⟩:ByteArray))) (fun c0=>
 .say [.br true,.order [(true,0),(true,1),(true,2),(true,3),(true,4),(true,5),(true,6),(true,7),(true,8),(true,9),(true,10),(false,11)] (some 11) [],.at_ 28 11,.tod 48,.opH [3] (.raw undef) [.res (bF (eU p_e.eP (aA.mk p_e.jJ p_e.bP) p_s3)) none]] (ok1 c0)<|
 .grd (p_s3.length<maxLen) fun h0=>
 .say [] (okc (Zy p_s3 p_e.eP (aA.mk p_e.jJ p_e.bP) h0) ok0)<|
 .ret ⟨[.kill 4],[],[],5⟩ (eU p_e.eP (aA.mk p_e.jJ p_e.bP) p_s3)) fun c0=>
 .say [.br false] (ok1 c0)<|
 .ret ⟨[.kill 4],[],[],5⟩ (p_s3)
noncomputable def Ya(p_e:aZ)(p_s3:List (ByteArray×aA))(r0:Int×(List ak)×aU×List (ByteArray×au)):Option (((List (ByteArray×aA)))):=Mo.den (Js p_e p_s3 r0)
noncomputable def yD(p_e:aZ)(r0:Int×(List ak)×aU×List (ByteArray×au))(r_:((List (ByteArray×aA)))):St:=⟨[],[.box 113 (.agg [.i_ p_e.bP,.lf (.rows 25 (r0.2.1.map ak.lf)),.mp 1,.mp 2,.mp 3]),.res (aY r0.2.2.1 none) none,.res (bD r0.2.2.2) none,.res (bF r_) none,.dead]⟩
theorem Yb{p_e:aZ}{p_s3:List (ByteArray×aA)}{r0:Int×(List ak)×aU×List (ByteArray×au)}{r_:((List (ByteArray×aA)))}(h:Ya p_e p_s3 r0=some r_):bQ Tryz.f13 4 [1,1,1,1,1,1,0,1] (.normal) (yD p_e r0 r_) ⟨[(0,.ptr 0 0),(3,.ptr 4 0),(37,.lf (.bool (!decide ((p_e.eP:ByteArray)=(⟨#[]⟩:ByteArray)))))],[.box 113 (.agg [.i_ p_e.bP,.lf (.rows 25 (r0.2.1.map ak.lf)),.mp 1,.mp 2,.mp 3]),.res (aY r0.2.2.1 none) none,.res (bD r0.2.2.2) none,.res (bF p_s3) none,.box 66 (.dat (aZ.lf1 p_e))]⟩:=
 bM aG (Js p_e p_s3 r0) (fun _=>.normal) (yD p_e r0) (by kernel_rfl) h
noncomputable def ae5(p_e:aZ)(p_b0_0:Int)(p_b0_1:List ak)(p_s1:aU)(p_s2:List (ByteArray×au))(p_s3:List (ByteArray×aA))(r:Int×Int×(List ak)×aU×(List (ByteArray×au))×List (ByteArray×aA)):List AV:=[.i_ r.1]
noncomputable def abU(p_e:aZ)(p_b0_0:Int)(p_b0_1:List ak)(p_s1:aU)(p_s2:List (ByteArray×au))(p_s3:List (ByteArray×aA))(r:Int×Int×(List ak)×aU×(List (ByteArray×au))×List (ByteArray×aA)):List Slot:=[.box 113 (.agg [.i_ r.2.1,.lf (.rows 25 (r.2.2.1.map ak.lf)),.mp 1,.mp 2,.mp 3]),.res (aY r.2.2.2.1 none) none,.res (bD r.2.2.2.2.1) none,.res (bF r.2.2.2.2.2) none]
noncomputable def abV(p_e:aZ)(p_b0_0:Int)(p_b0_1:List ak)(p_s1:aU)(p_s2:List (ByteArray×au))(p_s3:List (ByteArray×aA)):Mo (Int×Int×(List ak)×aU×(List (ByteArray×au))×List (ByteArray×aA)):=
 .say [.br false] (ok1 (rfl:false=false))<|
 .ask (Q32 p_e) fun r0 h0=>
 .say [.res (.i_ r0)] (ok1 (adM _ _ h0))<|
 .ite (r0 != 0) (fun _=>.stop) fun c0=>
 .say [.br false,.order [(true,0),(true,1),(true,2),(true,3),(true,4),(true,5),(true,6)] none []] (ok1 c0)<|
 .ite (decide ((p_e.bP:Int)≤p_b0_0)) (fun c1=>
 .say [.br true] (ok1 c1)<|
 .ret ⟨[.kill 4],[0],[],4⟩ ((23:Int),p_b0_0,p_b0_1,p_s1,p_s2,p_s3)) fun c1=>
 .say [.br false] (ok1 c1)<|
 .ask (Q31 p_e.Kr p_e.bP p_b0_0 p_b0_1 p_s1 p_s2 p_s3) fun r1 h1=>
 .say [.dP [0,1,2,3] (.i_ r1.1) [.box 113 (.agg [.i_ p_b0_0,.lf (.rows 25 (r1.2.1.map ak.lf)),.mp 1,.mp 2,.mp 3]),.res (aY r1.2.2.1 none) none,.res (bD r1.2.2.2) none,.res (bF p_s3) none]] (ok1 (ad2 _ _ _ _ _ _ _ _ h1))<|
 .ite (r1.1 != 0) (fun _=>.stop) fun c2=>
 .say [.br false] (ok1 c2)<|
 .ask (Ya p_e p_s3 r1) fun r2 h2=>
 .say [.pt_ 1 [0,3,37] 5 (.normal) (yD p_e r1 r2)] (ok1 (Yb h2))<|
 .ret ⟨[],[0],[],4⟩ ((0:Int),p_e.bP,r1.2.1,r1.2.2.1,r1.2.2.2,r2)
noncomputable def Q37(p_e:aZ)(p_b0_0:Int)(p_b0_1:List ak)(p_s1:aU)(p_s2:List (ByteArray×au))(p_s3:List (ByteArray×aA)):Option (Int×Int×(List ak)×aU×(List (ByteArray×au))×List (ByteArray×aA)):=Mo.den (abV p_e p_b0_0 p_b0_1 p_s1 p_s2 p_s3)
theorem KJ(p_e:aZ)(p_b0_0:Int)(p_b0_1:List ak)(p_s1:aU)(p_s2:List (ByteArray×au))(p_s3:List (ByteArray×aA))(r:Int×Int×(List ak)×aU×(List (ByteArray×au))×List (ByteArray×aA))(h:Q37 p_e p_b0_0 p_b0_1 p_s1 p_s2 p_s3=some r):FnH Tryz.prog GI 13 [.ptr 0 0,.dat (aZ.lf1 p_e)] [.box 113 (.agg [.i_ p_b0_0,.lf (.rows 25 (p_b0_1.map ak.lf)),.mp 1,.mp 2,.mp 3]),.res (aY p_s1 none) none,.res (bD p_s2) none,.res (bF p_s3) none] (resV (ae5 p_e p_b0_0 p_b0_1 p_s1 p_s2 p_s3 r)) (abU p_e p_b0_0 p_b0_1 p_s1 p_s2 p_s3 r):=
 dh aG Tryz.func13 (by kernel_rfl) (by kernel_rfl) (by kernel_rfl) (abV p_e p_b0_0 p_b0_1 p_s1 p_s2 p_s3) (ae5 p_e p_b0_0 p_b0_1 p_s1 p_s2 p_s3) (abU p_e p_b0_0 p_b0_1 p_s1 p_s2 p_s3) (by kernel_rfl) h
noncomputable def abW(p_n:Int):Mo (ah):=
 .ret (cZ 1) (ah.mk 3 p_n ⟨#[]⟩ [] [])
noncomputable def Q53(p_n:Int):Option (ah):=Mo.den (abW p_n)
theorem Dv(p_n:Int)(r:ah)(h:Q53 p_n=some r):Fn Tryz.prog GI 35 [.i_ p_n] (.dat (ah.lf1 r)):=
 dK aG Tryz.func35 (by kernel_rfl) (by kernel_rfl) (by kernel_rfl) (abW p_n) (fun r=>[.dat (ah.lf1 r)]) (by kernel_rfl) h
noncomputable def abX(p_n:Int):Mo (ah):=
 .ask (Q53 p_n) fun r0 h0=>
 .say [.res (.dat (ah.lf1 r0)),.at_ 0 0,.PG 1 ([aF.mk ⟨#[95,105,100]⟩ r0].map aF.lf)] (okc (Dv _ _ h0) (okc (by simp[aF.aW]:[aF.mk ⟨#[95,105,100]⟩ r0].map aF.lf=[(aF.lf1 (aF.mk ⟨#[95,105,100]⟩ r0))]) ok0))<|
 .ret (cZ 1) (ah.mk 5 0 ⟨#[]⟩ [] [aF.mk ⟨#[95,105,100]⟩ r0])
noncomputable def Q60(p_n:Int):Option (ah):=Mo.den (abX p_n)
theorem Yc(p_n:Int)(r:ah)(h:Q60 p_n=some r):Fn Tryz.prog GI 36 [.i_ p_n] (.dat (ah.lf1 r)):=
 dK aG Tryz.func36 (by kernel_rfl) (by kernel_rfl) (by kernel_rfl) (abX p_n) (fun r=>[.dat (ah.lf1 r)]) (by kernel_rfl) h
noncomputable def Jt(p_s0:List aC)(p_stamp:Int):(Int)→Mo ((Int)⊕(Int×Int×ByteArray×(List ah)×(List aF))⊕Unit):=fun(v0)=>
 .ite (decide ((0:Int)≤v0)) (fun c0=>
 .say [.br true] (ok1 c0)<|
 .ask (iM p_s0 v0) fun x0 h0=>
 .say [.row (aC.lf1 x0)] (okc (rO aC.aW h0) (okc ((bZ aC.aW h0).2) ok0))<|
 .ite (decide ((x0.dS:Int)≤p_stamp)) (fun c1=>
 .say [.br true] (ok1 c1)<|
 .ask (iM p_s0 v0) fun x1 h1=>
 .say [.row (aC.lf1 x1)] (okc (rO aC.aW h1) (okc ((bZ aC.aW h1).2) ok0))<|
 .ret ⟨[],[4],[],2⟩ (.inr (.inl (x1.jS.aK,x1.jS.fB,x1.jS.fText,x1.jS.dL,x1.jS.bI)))) fun c1=>
 .say [.br false] (ok1 c1)<|
 .ret ⟨[],[0,1,4,5],[],2⟩ (.inl (IntKind.wrap .i64 (v0-1)))) fun c0=>
 .say [.br false] (ok1 c0)<|
 .ret ⟨[],[4],[],2⟩ (.inr (.inr (())))
noncomputable def Yd(p_s0:List aC)(p_stamp:Int)(v0:Int):Option ((Int×Int×ByteArray×(List ah)×(List aF))⊕Unit):=dF (fun v_=>(Jt p_s0 p_stamp v_).den) FU (v0)
noncomputable def Ju(p_s0:List aC)(p_stamp:Int):(Int)→St:=fun(v0)=>⟨[(0,.own 0),(1,.i_ p_stamp),(4,.ptr 1 0),(5,.i_ v0)],[.row 147 6 (p_s0.map aC.lf),.box 40 (.agg [.i_ 0,.i_ 0,.lf (.str ⟨#[]⟩),.aN 5,.aN 6])]⟩
noncomputable def nY(r_:(Int×Int×ByteArray×(List ah)×(List aF))⊕Unit):Exit:=match r_ with
 |.inl o_=>.ret
 |.inr (o_)=>.exit 0
noncomputable def nZ(p_s0:List aC)(r_:(Int×Int×ByteArray×(List ah)×(List aF))⊕Unit):St:=match r_ with
 |.inl o_=>⟨[(4,.ptr 1 0)],[.row 147 6 (p_s0.map aC.lf),.box 40 (.agg [.i_ o_.1,.i_ o_.2.1,.lf (.str o_.2.2.1),.lf (.rows 5 (o_.2.2.2.1.map ah.lf)),.lf (.rows 6 (o_.2.2.2.2.map aF.lf))])]⟩
 |.inr (o_)=>⟨[(4,.ptr 1 0)],[.row 147 6 (p_s0.map aC.lf),.box 40 (.agg [.i_ 0,.i_ 0,.lf (.str ⟨#[]⟩),.aN 5,.aN 6])]⟩
theorem Jv{p_s0:List aC}{p_stamp:Int}{v0:Int}{r_:(Int×Int×ByteArray×(List ah)×(List aF))⊕Unit}(h:Yd p_s0 p_stamp v0=some r_):bQ Tryz.f56 1 [1,0,1,0] (nY r_) (nZ p_s0 r_) (Ju p_s0 p_stamp (v0)):=
 bU aG (body:=(Code.sub (bodyC Tryz.f56) [1,0,1,0,0])) (by kernel_rfl) (Jt p_s0 p_stamp) (Ju p_s0 p_stamp) nY (nZ p_s0) (fun r_=>by rcases r_ with _|_<;>rfl) (fun v_=>by kernel_rfl) h
noncomputable def abY(p_stamp:Int)(p_s0:List aC):Mo (ah):=
 .say [.num p_s0.length] (okc (ln_ p_s0 aC.lf) ok0)<|
 .ask2 (Yd p_s0 p_stamp (IntKind.wrap .i64 ((p_s0.length:Int)-1))) (fun o0 h0=>
 .say [.pt_ 0 [0,1,4,5] 2 (nY (.inl o0)) (nZ p_s0 (.inl o0))] (ok1 (Jv h0))<|
 .ret ⟨[.kill 1],[0],[],1⟩ (ah.mk o0.1 o0.2.1 o0.2.2.1 o0.2.2.2.1 o0.2.2.2.2)) fun o1 h0=>
 .say [.pt_ 0 [0,1,4,5] 2 (nY (.inr (o1))) (nZ p_s0 (.inr (o1)))] (ok1 (Jv h0))<|
 .ret ⟨[.kill 1],[0],[],1⟩ (ah.mk 0 0 ⟨#[]⟩ [] [])
noncomputable def Q34(p_stamp:Int)(p_s0:List aC):Option (ah):=Mo.den (abY p_stamp p_s0)
theorem Ye(p_stamp:Int)(p_s0:List aC)(r:ah)(h:Q34 p_stamp p_s0=some r):FnH Tryz.prog GI 56 [.own 0,.i_ p_stamp] [.row 147 6 (p_s0.map aC.lf)] (.dat (ah.lf1 r)) [.row 147 6 (p_s0.map aC.lf)]:=
 dh aG Tryz.func56 (by kernel_rfl) (by kernel_rfl) (by kernel_rfl) (abY p_stamp p_s0) (fun r=>[.dat (ah.lf1 r)]) (fun r=>[.row 147 6 (p_s0.map aC.lf)]) (by kernel_rfl) h
noncomputable def Jw(p_b0_0:Int)(p_b0_1:List ak)(p_key:ah)(p_s1:aU)(p_s2:List (ByteArray×au))(p_s3:List (ByteArray×aA))(p_space:ByteArray)(p_stamp:Int)(r0:ByteArray):Mo (Bool):=
 .ite (!decide ((r0:ByteArray)=(⟨#[]⟩:ByteArray))) (fun _=>.stop) fun c0=>
 .say [.gd 16002 false] (ok1 c0)<|
 .ret ⟨[],[3,6,8,10,45],[],6⟩ (false)
noncomputable def Yf(p_b0_0:Int)(p_b0_1:List ak)(p_key:ah)(p_s1:aU)(p_s2:List (ByteArray×au))(p_s3:List (ByteArray×aA))(p_space:ByteArray)(p_stamp:Int)(r0:ByteArray):Option (Bool):=Mo.den (Jw p_b0_0 p_b0_1 p_key p_s1 p_s2 p_s3 p_space p_stamp r0)
noncomputable def yE(p_b0_0:Int)(p_b0_1:List ak)(p_key:ah)(p_s1:aU)(p_s2:List (ByteArray×au))(p_s3:List (ByteArray×aA))(p_space:ByteArray)(p_stamp:Int)(r_:Bool):St:=⟨[(3,.i_ p_stamp),(6,.ptr 4 0),(8,.ptr 5 0),(10,.hnd 1 (aI p_space p_s1.dir)),(45,.b_ r_)],[.box 113 (.agg [.i_ p_b0_0,.lf (.rows 25 (p_b0_1.map ak.lf)),.mp 1,.mp 2,.mp 3]),.res (aY p_s1 none) none,.res (bD p_s2) none,.res (bF p_s3) none,.box 40 (.dat (ah.lf1 p_key)),.box 40 (.agg [.i_ 0,.i_ 0,.lf (.str ⟨#[]⟩),.aN 5,.aN 6])]⟩
theorem Yg{p_b0_0:Int}{p_b0_1:List ak}{p_key:ah}{p_s1:aU}{p_s2:List (ByteArray×au)}{p_s3:List (ByteArray×aA)}{p_space:ByteArray}{p_stamp:Int}{r0:ByteArray}{r_:Bool}(h:Yf p_b0_0 p_b0_1 p_key p_s1 p_s2 p_s3 p_space p_stamp r0=some r_):bQ Tryz.f29 4 [1,1,1,1,0,1,0] (.normal) (yE p_b0_0 p_b0_1 p_key p_s1 p_s2 p_s3 p_space p_stamp r_) ⟨[(0,.ptr 0 0),(3,.i_ p_stamp),(6,.ptr 4 0),(8,.ptr 5 0),(10,.hnd 1 (aI p_space p_s1.dir)),(12,.lf (.str r0))],[.box 113 (.agg [.i_ p_b0_0,.lf (.rows 25 (p_b0_1.map ak.lf)),.mp 1,.mp 2,.mp 3]),.res (aY p_s1 none) none,.res (bD p_s2) none,.res (bF p_s3) none,.box 40 (.dat (ah.lf1 p_key)),.box 40 (.agg [.i_ 0,.i_ 0,.lf (.str ⟨#[]⟩),.aN 5,.aN 6])]⟩:=
 bM aG (Jw p_b0_0 p_b0_1 p_key p_s1 p_s2 p_s3 p_space p_stamp r0) (fun _=>.normal) (yE p_b0_0 p_b0_1 p_key p_s1 p_s2 p_s3 p_space p_stamp) (by kernel_rfl) h
noncomputable def ae6(p_space:ByteArray)(p_key:ah)(p_stamp:Int)(p_b0_0:Int)(p_b0_1:List ak)(p_s1:aU)(p_s2:List (ByteArray×au))(p_s3:List (ByteArray×aA))(r:ah×Int):List AV:=[.dat (ah.lf1 r.1),.i_ r.2]
noncomputable def abZ(p_space:ByteArray)(p_key:ah)(p_stamp:Int)(p_b0_0:Int)(p_b0_1:List ak)(p_s1:aU)(p_s2:List (ByteArray×au))(p_s3:List (ByteArray×aA))(r:ah×Int):List Slot:=[.box 113 (.agg [.i_ p_b0_0,.lf (.rows 25 (p_b0_1.map ak.lf)),.mp 1,.mp 2,.mp 3]),.res (aY p_s1 none) none,.res (bD p_s2) none,.res (bF p_s3) none]
noncomputable def ab1(p_space:ByteArray)(p_key:ah)(p_stamp:Int)(p_b0_0:Int)(p_b0_1:List ak)(p_s1:aU)(p_s2:List (ByteArray×au))(p_s3:List (ByteArray×aA)):Mo (ah×Int):=
 .say [.br false,.opH [1] (.tup [.hnd 0 (aI p_space p_s1.dir),.lf (.bool ((aI p_space p_s1.dir).isSome))]) [.res (aY p_s1 none) none]] (okc (rfl:false=false) (ok1 (tu p_s1 p_space)))<|
 .ite (!((aI p_space p_s1.dir).isSome)) (fun _=>.stop) fun c0=>
 .say [.br false] (ok1 c0)<|
 .ask (Q29 p_space p_key p_b0_0 p_b0_1 p_s1 p_s2 p_s3) fun r0 h0=>
 .say [.dP [0,1,2,3] (.lf (.str r0)) [.box 113 (.agg [.i_ p_b0_0,.lf (.rows 25 (p_b0_1.map ak.lf)),.mp 1,.mp 2,.mp 3]),.res (aY p_s1 none) none,.res (bD p_s2) none,.res (bF p_s3) none]] (ok1 (Xe _ _ _ _ _ _ _ _ h0))<|
 .ask (Yf p_b0_0 p_b0_1 p_key p_s1 p_s2 p_s3 p_space p_stamp r0) fun r1 h1=>
 .say [.pt_ 21 [0,3,6,8,10,12] 6 (.normal) (yE p_b0_0 p_b0_1 p_key p_s1 p_s2 p_s3 p_space p_stamp r1)] (ok1 (Yg h1))<|
 .ite (r1) (fun _=>.stop) fun c1=>
 .say [.br false] (ok1 c1)<|
 .ask (Q57 p_key) fun r2 h2=>
 .say [.res (.tup [.lf (.str r2.1),.b_ r2.2])] (ok1 (KI _ _ h2))<|
 .ite (!r2.2) (fun _=>.stop) fun c2=>
 .say [.br false,.opH [1] (.own 1) [.res (aY p_s1 (outOf (aI p_space p_s1.dir) r2.1)) (some 1),.row 147 6 ((p_s1.row (aI p_space p_s1.dir) r2.1).map aC.lf)]] (okc c2 (okc (tC p_s1 r2.1 (aI p_space p_s1.dir)) ok0))<|
 .ask (Q34 p_stamp (p_s1.row (aI p_space p_s1.dir) r2.1)) fun r3 h3=>
 .say [.dP [6] (.dat (ah.lf1 r3)) [.row 147 6 ((p_s1.row (aI p_space p_s1.dir) r2.1).map aC.lf)]] (ok1 (Ye _ _ _ h3))<|
 .ask (Q24 r3) fun r4 h4=>
 .say [.res (.dat (ah.lf1 r4))] (okc (Xw _ _ h4) (okc (rP p_s1 r2.1 (aI p_space p_s1.dir)) ok0))<|
 .ret ⟨[.gho [1,6] [.res (aY p_s1 none) none,.dead],.kill 4,.kill 5],[0,1],[],4⟩ (r4,(0:Int))
noncomputable def Q44(p_space:ByteArray)(p_key:ah)(p_stamp:Int)(p_b0_0:Int)(p_b0_1:List ak)(p_s1:aU)(p_s2:List (ByteArray×au))(p_s3:List (ByteArray×aA)):Option (ah×Int):=Mo.den (ab1 p_space p_key p_stamp p_b0_0 p_b0_1 p_s1 p_s2 p_s3)
theorem ad3(p_space:ByteArray)(p_key:ah)(p_stamp:Int)(p_b0_0:Int)(p_b0_1:List ak)(p_s1:aU)(p_s2:List (ByteArray×au))(p_s3:List (ByteArray×aA))(r:ah×Int)(h:Q44 p_space p_key p_stamp p_b0_0 p_b0_1 p_s1 p_s2 p_s3=some r):FnH Tryz.prog GI 29 [.ptr 0 0,.lf (.str p_space),.dat (ah.lf1 p_key),.i_ p_stamp] [.box 113 (.agg [.i_ p_b0_0,.lf (.rows 25 (p_b0_1.map ak.lf)),.mp 1,.mp 2,.mp 3]),.res (aY p_s1 none) none,.res (bD p_s2) none,.res (bF p_s3) none] (resV (ae6 p_space p_key p_stamp p_b0_0 p_b0_1 p_s1 p_s2 p_s3 r)) (abZ p_space p_key p_stamp p_b0_0 p_b0_1 p_s1 p_s2 p_s3 r):=
 dh aG Tryz.func29 (by kernel_rfl) (by kernel_rfl) (by kernel_rfl) (ab1 p_space p_key p_stamp p_b0_0 p_b0_1 p_s1 p_s2 p_s3) (ae6 p_space p_key p_stamp p_b0_0 p_b0_1 p_s1 p_s2 p_s3) (abZ p_space p_key p_stamp p_b0_0 p_b0_1 p_s1 p_s2 p_s3) (by kernel_rfl) h
noncomputable def Q95(p_m:Option Nat)(p_s0:aU)(r:Unit):List AV:=[.clo 106 [.ptr 1 0]]
noncomputable def ab2(p_m:Option Nat)(p_s0:aU)(r:Unit):List Slot:=[.res (aY p_s0 none) none,.box 139 (.agg [.hnd 0 p_m])]
noncomputable def ab3(p_m:Option Nat)(p_s0:aU):Mo (Unit):=
 .ret ⟨[],[0],[],2⟩ ()
noncomputable def Q51(p_m:Option Nat)(p_s0:aU):Option (Unit):=Mo.den (ab3 p_m p_s0)
theorem ad4(p_m:Option Nat)(p_s0:aU)(r:Unit)(h:Q51 p_m p_s0=some r):FnH Tryz.prog GI 68 [.hnd 0 p_m] [.res (aY p_s0 none) none] (resV (Q95 p_m p_s0 r)) (ab2 p_m p_s0 r):=
 dh aG Tryz.func68 (by kernel_rfl) (by kernel_rfl) (by kernel_rfl) (ab3 p_m p_s0) (Q95 p_m p_s0) (ab2 p_m p_s0) (by kernel_rfl) h
noncomputable def Jy(l0:List ah)(p_b0_0:Int)(p_b0_1:List ak)(p_s1:aU)(p_s2:List (ByteArray×au))(p_s3:List (ByteArray×aA))(p_space:ByteArray)(p_stamp:Int)(r0:List ByteArray)(v0:Int):Mo (((List ah))):=
 .ask (iM r0 v0) fun x0 h0=>
 .say [.row (lfS x0),.opH [1] (.own 1) [.res (aY p_s1 (outOf (aI p_space p_s1.dir) x0)) (some 1),.row 147 6 ((p_s1.row (aI p_space p_s1.dir) x0).map aC.lf)]] (okc (rO lS_ h0) (okc ((bZ lS_ h0).2) (okc (tC p_s1 x0 (aI p_space p_s1.dir)) ok0)))<|
 .ask (Q34 p_stamp (p_s1.row (aI p_space p_s1.dir) x0)) fun r1 h1=>
 .say [.dP [7] (.dat (ah.lf1 r1)) [.row 147 6 ((p_s1.row (aI p_space p_s1.dir) x0).map aC.lf)]] (ok1 (Ye _ _ _ h1))<|
 .ite (r1.aK != 0) (fun _=>.stop) fun c0=>
 .say [.br false] (okc c0 (okc (rP p_s1 x0 (aI p_space p_s1.dir)) ok0))<|
 .ret ⟨[.gho [1,7] [.res (aY p_s1 none) none,.dead]],[2,8,10,33,34,35],[],7⟩ (l0)
noncomputable def Yh(l0:List ah)(p_b0_0:Int)(p_b0_1:List ak)(p_s1:aU)(p_s2:List (ByteArray×au))(p_s3:List (ByteArray×aA))(p_space:ByteArray)(p_stamp:Int)(r0:List ByteArray)(v0:Int):Option (((List ah))):=Mo.den (Jy l0 p_b0_0 p_b0_1 p_s1 p_s2 p_s3 p_space p_stamp r0 v0)
noncomputable def yF(p_b0_0:Int)(p_b0_1:List ak)(p_s1:aU)(p_s2:List (ByteArray×au))(p_s3:List (ByteArray×aA))(p_space:ByteArray)(p_stamp:Int)(r0:List ByteArray)(v0:Int)(r_:((List ah))):St:=⟨[(2,.i_ p_stamp),(8,.hnd 1 (aI p_space p_s1.dir)),(10,.own 6),(33,.own 5),(34,.i_ (r0.length:Int)),(35,.i_ v0)],[.box 113 (.agg [.i_ p_b0_0,.lf (.rows 25 (p_b0_1.map ak.lf)),.mp 1,.mp 2,.mp 3]),.res (aY p_s1 none) none,.res (bD p_s2) none,.res (bF p_s3) none,.dead,.row 9 1 (r0.map lfS),.row 40 5 (r_.map ah.lf)]⟩
theorem Yi{l0:List ah}{p_b0_0:Int}{p_b0_1:List ak}{p_s1:aU}{p_s2:List (ByteArray×au)}{p_s3:List (ByteArray×aA)}{p_space:ByteArray}{p_stamp:Int}{r0:List ByteArray}{v0:Int}{r_:((List ah))}(h:Yh l0 p_b0_0 p_b0_1 p_s1 p_s2 p_s3 p_space p_stamp r0 v0=some r_):bQ Tryz.f37 4 [1,1,1,1,1,1,0,1,0,0,1,1,0] (.normal) (yF p_b0_0 p_b0_1 p_s1 p_s2 p_s3 p_space p_stamp r0 v0 r_) ⟨[(2,.i_ p_stamp),(8,.hnd 1 (aI p_space p_s1.dir)),(10,.own 6),(33,.own 5),(34,.i_ (r0.length:Int)),(35,.i_ v0)],[.box 113 (.agg [.i_ p_b0_0,.lf (.rows 25 (p_b0_1.map ak.lf)),.mp 1,.mp 2,.mp 3]),.res (aY p_s1 none) none,.res (bD p_s2) none,.res (bF p_s3) none,.dead,.row 9 1 (r0.map lfS),.row 40 5 (l0.map ah.lf)]⟩:=
 bM aG (Jy l0 p_b0_0 p_b0_1 p_s1 p_s2 p_s3 p_space p_stamp r0 v0) (fun _=>.normal) (yF p_b0_0 p_b0_1 p_s1 p_s2 p_s3 p_space p_stamp r0 v0) (by kernel_rfl) h
noncomputable def Jz(p_b0_0:Int)(p_b0_1:List ak)(p_s1:aU)(p_s2:List (ByteArray×au))(p_s3:List (ByteArray×aA))(p_space:ByteArray)(p_stamp:Int)(r0:List ByteArray):(Int×(List ah))→Mo ((Int×(List ah))⊕((List ah))):=fun(v0,l0)=>
 .ite (decide ((v0:Int)<(r0.length:Int))) (fun c0=>
 .say [.br true] (ok1 c0)<|
 .ask (Yh l0 p_b0_0 p_b0_1 p_s1 p_s2 p_s3 p_space p_stamp r0 v0) fun r1 h0=>
 .say [.pt_ 8 [2,8,10,33,34,35] 7 (.normal) (yF p_b0_0 p_b0_1 p_s1 p_s2 p_s3 p_space p_stamp r0 v0 r1)] (ok1 (Yi h0))<|
 .ret ⟨[],[2,8,10,33,34,35],[],7⟩ (.inl (IntKind.wrap .i64 (v0+1),r1))) fun c0=>
 .say [.br false] (ok1 c0)<|
 .ret ⟨[.kill 5],[10],[],7⟩ (.inr (l0))
noncomputable def Yj(p_b0_0:Int)(p_b0_1:List ak)(p_s1:aU)(p_s2:List (ByteArray×au))(p_s3:List (ByteArray×aA))(p_space:ByteArray)(p_stamp:Int)(r0:List ByteArray)(v0:Int)(l0:List ah):Option (((List ah))):=dF (fun v_=>(Jz p_b0_0 p_b0_1 p_s1 p_s2 p_s3 p_space p_stamp r0 v_).den) FU (v0,l0)
noncomputable def JA(p_b0_0:Int)(p_b0_1:List ak)(p_s1:aU)(p_s2:List (ByteArray×au))(p_s3:List (ByteArray×aA))(p_space:ByteArray)(p_stamp:Int)(r0:List ByteArray):(Int×(List ah))→St:=fun(v0,l0)=>⟨[(2,.i_ p_stamp),(8,.hnd 1 (aI p_space p_s1.dir)),(10,.own 6),(33,.own 5),(34,.i_ (r0.length:Int)),(35,.i_ v0)],[.box 113 (.agg [.i_ p_b0_0,.lf (.rows 25 (p_b0_1.map ak.lf)),.mp 1,.mp 2,.mp 3]),.res (aY p_s1 none) none,.res (bD p_s2) none,.res (bF p_s3) none,.dead,.row 9 1 (r0.map lfS),.row 40 5 (l0.map ah.lf)]⟩
noncomputable def og(p_b0_0:Int)(p_b0_1:List ak)(p_s1:aU)(p_s2:List (ByteArray×au))(p_s3:List (ByteArray×aA))(r_:((List ah))):St:=⟨[(10,.own 6)],[.box 113 (.agg [.i_ p_b0_0,.lf (.rows 25 (p_b0_1.map ak.lf)),.mp 1,.mp 2,.mp 3]),.res (aY p_s1 none) none,.res (bD p_s2) none,.res (bF p_s3) none,.dead,.dead,.row 40 5 (r_.map ah.lf)]⟩
theorem Yk{p_b0_0:Int}{p_b0_1:List ak}{p_s1:aU}{p_s2:List (ByteArray×au)}{p_s3:List (ByteArray×aA)}{p_space:ByteArray}{p_stamp:Int}{r0:List ByteArray}{v0:Int}{l0:List ah}{r_:((List ah))}(h:Yj p_b0_0 p_b0_1 p_s1 p_s2 p_s3 p_space p_stamp r0 v0 l0=some r_):bQ Tryz.f37 4 [1,1,1,1,1,1,0,1,0] (.exit 0) (og p_b0_0 p_b0_1 p_s1 p_s2 p_s3 r_) (JA p_b0_0 p_b0_1 p_s1 p_s2 p_s3 p_space p_stamp r0 (v0,l0)):=
 bU aG (body:=(Code.sub (bodyC Tryz.f37) [1,1,1,1,1,1,0,1,0,0])) (by kernel_rfl) (Jz p_b0_0 p_b0_1 p_s1 p_s2 p_s3 p_space p_stamp r0) (JA p_b0_0 p_b0_1 p_s1 p_s2 p_s3 p_space p_stamp r0) (fun _=>.exit 0) (og p_b0_0 p_b0_1 p_s1 p_s2 p_s3) (fun r_=>rfl) (fun v_=>by kernel_rfl) h
noncomputable def ae7(p_space:ByteArray)(p_stamp:Int)(p_b0_0:Int)(p_b0_1:List ak)(p_s1:aU)(p_s2:List (ByteArray×au))(p_s3:List (ByteArray×aA))(r:(List ah)×Int):List AV:=[.lf (.rows 5 (r.1.map ah.lf)),.i_ r.2]
noncomputable def ab4(p_space:ByteArray)(p_stamp:Int)(p_b0_0:Int)(p_b0_1:List ak)(p_s1:aU)(p_s2:List (ByteArray×au))(p_s3:List (ByteArray×aA))(r:(List ah)×Int):List Slot:=[.box 113 (.agg [.i_ p_b0_0,.lf (.rows 25 (p_b0_1.map ak.lf)),.mp 1,.mp 2,.mp 3]),.res (aY p_s1 none) none,.res (bD p_s2) none,.res (bF p_s3) none]
noncomputable def ab5(p_space:ByteArray)(p_stamp:Int)(p_b0_0:Int)(p_b0_1:List ak)(p_s1:aU)(p_s2:List (ByteArray×au))(p_s3:List (ByteArray×aA)):Mo ((List ah)×Int):=
 .say [.br false,.opH [1] (.tup [.hnd 0 (aI p_space p_s1.dir),.lf (.bool ((aI p_space p_s1.dir).isSome))]) [.res (aY p_s1 none) none]] (okc (rfl:false=false) (ok1 (tu p_s1 p_space)))<|
 .ite (!((aI p_space p_s1.dir).isSome)) (fun _=>.stop) fun c0=>
 .say [.br false] (ok1 c0)<|
 .ask (Q90 p_space p_stamp p_b0_0 p_b0_1 p_s1 p_s2 p_s3) fun r0 h0=>
 .say [.dP [0,1,2,3] (.b_ r0) [.box 113 (.agg [.i_ p_b0_0,.lf (.rows 25 (p_b0_1.map ak.lf)),.mp 1,.mp 2,.mp 3]),.res (aY p_s1 none) none,.res (bD p_s2) none,.res (bF p_s3) none]] (ok1 (ac6 _ _ _ _ _ _ _ _ h0))<|
 .ite (r0) (fun _=>.stop) fun c1=>
 .say [.br false,.dP [1] (.clo 106 [.ptr 1 0]) [.res (aY p_s1 none) none,.box 139 (.agg [.hnd 0 (aI p_space p_s1.dir)])]] (ok1 c1)<|
 .ask (Q51 (aI p_space p_s1.dir) p_s1) fun r1 h1=>
 .say [] (ok1 (ad4 _ _ _ h1))<|
 .ask (ac5 (aI p_space p_s1.dir) p_s1) fun r2 h2=>
 .say [.dP [4,1] (.own 2) [.box 139 (.agg [.hnd 1 (aI p_space p_s1.dir)]),.res (aY p_s1 none) none,.row 9 1 (r2.map lfS)],.num r2.length] (okc (ZC _ _ _ h2) (okc (ln_ r2 lfS) (okc (by simp[ah.aW]:(([]:List ah).map ah.lf)=[]) ok0)))<|
 .ask (Yj p_b0_0 p_b0_1 p_s1 p_s2 p_s3 p_space p_stamp r2 0 ([]:List ah)) fun r3 h3=>
 .say [.part [.kill 4,.yU 10 40 5,.ji 6 (([]:List ah).map ah.lf)] 0 [2,8,10,33,34,35] 7 (.exit 0) (og p_b0_0 p_b0_1 p_s1 p_s2 p_s3 r3).T (og p_b0_0 p_b0_1 p_s1 p_s2 p_s3 r3).H] (ok1 (Yk h3))<|
 .ret ⟨[.frz 6],[0,1],[],4⟩ (r3,(0:Int))
noncomputable def Q26(p_space:ByteArray)(p_stamp:Int)(p_b0_0:Int)(p_b0_1:List ak)(p_s1:aU)(p_s2:List (ByteArray×au))(p_s3:List (ByteArray×aA)):Option ((List ah)×Int):=Mo.den (ab5 p_space p_stamp p_b0_0 p_b0_1 p_s1 p_s2 p_s3)
theorem ad5(p_space:ByteArray)(p_stamp:Int)(p_b0_0:Int)(p_b0_1:List ak)(p_s1:aU)(p_s2:List (ByteArray×au))(p_s3:List (ByteArray×aA))(r:(List ah)×Int)(h:Q26 p_space p_stamp p_b0_0 p_b0_1 p_s1 p_s2 p_s3=some r):FnH Tryz.prog GI 37 [.ptr 0 0,.lf (.str p_space),.i_ p_stamp] [.box 113 (.agg [.i_ p_b0_0,.lf (.rows 25 (p_b0_1.map ak.lf)),.mp 1,.mp 2,.mp 3]),.res (aY p_s1 none) none,.res (bD p_s2) none,.res (bF p_s3) none] (resV (ae7 p_space p_stamp p_b0_0 p_b0_1 p_s1 p_s2 p_s3 r)) (ab4 p_space p_stamp p_b0_0 p_b0_1 p_s1 p_s2 p_s3 r):=
 dh aG Tryz.func37 (by kernel_rfl) (by kernel_rfl) (by kernel_rfl) (ab5 p_space p_stamp p_b0_0 p_b0_1 p_s1 p_s2 p_s3) (ae7 p_space p_stamp p_b0_0 p_b0_1 p_s1 p_s2 p_s3) (ab4 p_space p_stamp p_b0_0 p_b0_1 p_s1 p_s2 p_s3) (by kernel_rfl) h
noncomputable def ae8(p_session:ByteArray)(p_b0_0:Int)(p_b0_1:List ak)(p_s1:aU)(p_s2:List (ByteArray×au))(p_s3:List (ByteArray×aA))(r:Unit):List AV:=[.i_ (((aI p_session p_s3).getD aA.z).iV),.i_ (((aI p_session p_s3).getD aA.z).dS)]
noncomputable def ab6(p_session:ByteArray)(p_b0_0:Int)(p_b0_1:List ak)(p_s1:aU)(p_s2:List (ByteArray×au))(p_s3:List (ByteArray×aA))(r:Unit):List Slot:=[.box 113 (.agg [.i_ p_b0_0,.lf (.rows 25 (p_b0_1.map ak.lf)),.mp 1,.mp 2,.mp 3]),.res (aY p_s1 none) none,.res (bD p_s2) none,.res (bF p_s3) none]
noncomputable def ab7(p_session:ByteArray)(p_b0_0:Int)(p_b0_1:List ak)(p_s1:aU)(p_s2:List (ByteArray×au))(p_s3:List (ByteArray×aA)):Mo (Unit):=
 .say [.br false,.opH [3] (.dat (aA.lf1 ((aI p_session p_s3).getD aA.z))) [.res (bF p_s3) none],.order [(true,0),(true,1),(true,2),(true,3),(true,4),(true,5)] none []] (okc (rfl:false=false) (ok1 (Zx p_s3 p_session)))<|
 .ret ⟨[.kill 4],[0,1],[],4⟩ ()
noncomputable def Q55(p_session:ByteArray)(p_b0_0:Int)(p_b0_1:List ak)(p_s1:aU)(p_s2:List (ByteArray×au))(p_s3:List (ByteArray×aA)):Option (Unit):=Mo.den (ab7 p_session p_b0_0 p_b0_1 p_s1 p_s2 p_s3)
theorem ad6(p_session:ByteArray)(p_b0_0:Int)(p_b0_1:List ak)(p_s1:aU)(p_s2:List (ByteArray×au))(p_s3:List (ByteArray×aA))(r:Unit)(h:Q55 p_session p_b0_0 p_b0_1 p_s1 p_s2 p_s3=some r):FnH Tryz.prog GI 38 [.ptr 0 0,.lf (.str p_session)] [.box 113 (.agg [.i_ p_b0_0,.lf (.rows 25 (p_b0_1.map ak.lf)),.mp 1,.mp 2,.mp 3]),.res (aY p_s1 none) none,.res (bD p_s2) none,.res (bF p_s3) none] (resV (ae8 p_session p_b0_0 p_b0_1 p_s1 p_s2 p_s3 r)) (ab6 p_session p_b0_0 p_b0_1 p_s1 p_s2 p_s3 r):=
 dh aG Tryz.func38 (by kernel_rfl) (by kernel_rfl) (by kernel_rfl) (ab7 p_session p_b0_0 p_b0_1 p_s1 p_s2 p_s3) (ae8 p_session p_b0_0 p_b0_1 p_s1 p_s2 p_s3) (ab6 p_session p_b0_0 p_b0_1 p_s1 p_s2 p_s3) (by kernel_rfl) h
noncomputable def ab8(p_l:List ak)(p_name:ByteArray):Mo (ak×Bool):=
 .ask (Q78 p_l p_name) fun r0 h0=>
 .say [.res (.i_ r0)] (ok1 (XC _ _ _ h0))<|
 .ite (decide ((r0:Int)<0)) (fun _=>.stop) fun c0=>
 .say [.br false] (ok1 c0)<|
 .ask (iM p_l r0) fun x0 h1=>
 .say [.row (ak.lf1 x0)] (okc (bZ ak.aW h1) ok0)<|
 .ask (Q41 x0) fun r1 h2=>
 .say [.res (.dat (ak.lf1 r1))] (ok1 (XT _ _ h2))<|
 .ret (cZ 2) (r1,true)
noncomputable def Q80(p_l:List ak)(p_name:ByteArray):Option (ak×Bool):=Mo.den (ab8 p_l p_name)
theorem Yl(p_l:List ak)(p_name:ByteArray)(r:ak×Bool)(h:Q80 p_l p_name=some r):Fn Tryz.prog GI 44 [.lf (.rows 25 (p_l.map ak.lf)),.lf (.str p_name)] (.tup [.dat (ak.lf1 r.1),.b_ r.2]):=
 dK aG Tryz.func44 (by kernel_rfl) (by kernel_rfl) (by kernel_rfl) (ab8 p_l p_name) (fun r=>[.dat (ak.lf1 r.1),.b_ r.2]) (by kernel_rfl) h
noncomputable def JB(p_b0_0:Int)(p_b0_1:List ak)(p_s1:aU)(p_s2:List (ByteArray×au))(p_s3:List (ByteArray×aA)):(Int×(List ak))→Mo ((Int×(List ak))⊕((List ak))):=fun(v0,l0)=>
 .ite (decide ((v0:Int)<(p_b0_1.length:Int))) (fun c0=>
 .say [.br true] (ok1 c0)<|
 .ask (iM p_b0_1 v0) fun x0 h0=>
 .say [.row (ak.lf1 x0)] (okc (bZ ak.aW h0) ok0)<|
 .ask (Q80 p_b0_1 x0.fName) fun r0 h1=>
 .say [.iY (.q 0 (.q 1 (.q 2 (.q 3 (.q 4 (.q 5 (.alt 6 (.q 7 (.q 8 (.q 9 (.l 10 (.l 11 (.q 12 .fin)))))) (.l 10 (.l 6 (.q 7 (.q 8 (.q 9 (.l 11 (.q 12 .fin)))))))))))))) none [6] [.both [.at_ 16 6,.resv 1,.res (.tup [.dat (ak.lf1 r0.1),.b_ r0.2]),.slot 6] [.at_ 16 10,.resv 1,.slot 6,.res (.tup [.dat (ak.lf1 r0.1),.b_ r0.2])]] [0,3,6,13,14,15] 7 [(0,.ptr 0 0),(3,.own 4),(6,.ptr 6 0),(13,.lf (.rows 25 (p_b0_1.map ak.lf))),(14,.i_ (p_b0_1.length:Int)),(15,.i_ v0)] [.box 113 (.agg [.i_ p_b0_0,.lf (.rows 25 (p_b0_1.map ak.lf)),.mp 1,.mp 2,.mp 3]),.res (aY p_s1 none) none,.res (bD p_s2) none,.res (bF p_s3) none,.row 48 25 (l0.map ak.lf),.box 48 (.agg ((ak.lf1 x0).map AV.lf)),.box 48 (.agg ((ak.lf1 r0.1).map AV.lf))],.rows ((l0++[r0.1]).map ak.lf)] (okc (Yl _ _ _ h1) (okc (rf_ ⟨[(0,.ptr 0 0),(3,.own 4),(6,.ptr 6 0),(13,.lf (.rows 25 (p_b0_1.map ak.lf))),(14,.i_ (p_b0_1.length:Int)),(15,.i_ v0)],[.box 113 (.agg [.i_ p_b0_0,.lf (.rows 25 (p_b0_1.map ak.lf)),.mp 1,.mp 2,.mp 3]),.res (aY p_s1 none) none,.res (bD p_s2) none,.res (bF p_s3) none,.row 48 25 (l0.map ak.lf),.box 48 (.agg ((ak.lf1 x0).map AV.lf)),.box 48 (.agg ((ak.lf1 r0.1).map AV.lf))]⟩) (okc (Yl _ _ _ h1) (okc (rf_ ⟨[(0,.ptr 0 0),(3,.own 4),(6,.ptr 6 0),(13,.lf (.rows 25 (p_b0_1.map ak.lf))),(14,.i_ (p_b0_1.length:Int)),(15,.i_ v0)],[.box 113 (.agg [.i_ p_b0_0,.lf (.rows 25 (p_b0_1.map ak.lf)),.mp 1,.mp 2,.mp 3]),.res (aY p_s1 none) none,.res (bD p_s2) none,.res (bF p_s3) none,.row 48 25 (l0.map ak.lf),.box 48 (.agg ((ak.lf1 x0).map AV.lf)),.box 48 (.agg ((ak.lf1 r0.1).map AV.lf))]⟩) (okc (ap_ ak.aW l0 r0.1) ok0)))))<|
 .grd ((l0.length+[r0.1].length)*368≤140737488355328) fun h2=>
 .say [] (okc (cp_ ak.lf h2) ok0)<|
 .ret ⟨[],[0,3,13,14,15],[(8,4)],5⟩ (.inl (IntKind.wrap .i64 (v0+1),l0++[r0.1]))) fun c0=>
 .say [.br false] (ok1 c0)<|
 .ret ⟨[],[3],[],5⟩ (.inr (l0))
noncomputable def Ym(p_b0_0:Int)(p_b0_1:List ak)(p_s1:aU)(p_s2:List (ByteArray×au))(p_s3:List (ByteArray×aA))(v0:Int)(l0:List ak):Option (((List ak))):=dF (fun v_=>(JB p_b0_0 p_b0_1 p_s1 p_s2 p_s3 v_).den) FU (v0,l0)
noncomputable def JC(p_b0_0:Int)(p_b0_1:List ak)(p_s1:aU)(p_s2:List (ByteArray×au))(p_s3:List (ByteArray×aA)):(Int×(List ak))→St:=fun(v0,l0)=>⟨[(0,.ptr 0 0),(3,.own 4),(13,.lf (.rows 25 (p_b0_1.map ak.lf))),(14,.i_ (p_b0_1.length:Int)),(15,.i_ v0)],[.box 113 (.agg [.i_ p_b0_0,.lf (.rows 25 (p_b0_1.map ak.lf)),.mp 1,.mp 2,.mp 3]),.res (aY p_s1 none) none,.res (bD p_s2) none,.res (bF p_s3) none,.row 48 25 (l0.map ak.lf)]⟩
noncomputable def oh(p_b0_0:Int)(p_b0_1:List ak)(p_s1:aU)(p_s2:List (ByteArray×au))(p_s3:List (ByteArray×aA))(r_:((List ak))):St:=⟨[(3,.own 4)],[.box 113 (.agg [.i_ p_b0_0,.lf (.rows 25 (p_b0_1.map ak.lf)),.mp 1,.mp 2,.mp 3]),.res (aY p_s1 none) none,.res (bD p_s2) none,.res (bF p_s3) none,.row 48 25 (r_.map ak.lf)]⟩
theorem Yn{p_b0_0:Int}{p_b0_1:List ak}{p_s1:aU}{p_s2:List (ByteArray×au)}{p_s3:List (ByteArray×aA)}{v0:Int}{l0:List ak}{r_:((List ak))}(h:Ym p_b0_0 p_b0_1 p_s1 p_s2 p_s3 v0 l0=some r_):bQ Tryz.f18 4 [1,1,1,0,1,0] (.exit 0) (oh p_b0_0 p_b0_1 p_s1 p_s2 p_s3 r_) (JC p_b0_0 p_b0_1 p_s1 p_s2 p_s3 (v0,l0)):=
 bU aG (body:=(Code.sub (bodyC Tryz.f18) [1,1,1,0,1,0,0])) (by kernel_rfl) (JB p_b0_0 p_b0_1 p_s1 p_s2 p_s3) (JC p_b0_0 p_b0_1 p_s1 p_s2 p_s3) (fun _=>.exit 0) (oh p_b0_0 p_b0_1 p_s1 p_s2 p_s3) (fun r_=>rfl) (fun v_=>by kernel_rfl) h
noncomputable def Q98(p_b0_0:Int)(p_b0_1:List ak)(p_s1:aU)(p_s2:List (ByteArray×au))(p_s3:List (ByteArray×aA))(r:List ak):List AV:=[.lf (.rows 25 (r.map ak.lf))]
noncomputable def ab9(p_b0_0:Int)(p_b0_1:List ak)(p_s1:aU)(p_s2:List (ByteArray×au))(p_s3:List (ByteArray×aA))(r:List ak):List Slot:=[.box 113 (.agg [.i_ p_b0_0,.lf (.rows 25 (p_b0_1.map ak.lf)),.mp 1,.mp 2,.mp 3]),.res (aY p_s1 none) none,.res (bD p_s2) none,.res (bF p_s3) none]
noncomputable def acd(p_b0_0:Int)(p_b0_1:List ak)(p_s1:aU)(p_s2:List (ByteArray×au))(p_s3:List (ByteArray×aA)):Mo (List ak):=
 .say [.br false,.num p_b0_1.length] (okc (rfl:false=false) (okc (ln_ p_b0_1 ak.lf) (okc (by simp[ak.aW]:(([]:List ak).map ak.lf)=[]) ok0)))<|
 .ask (Ym p_b0_0 p_b0_1 p_s1 p_s2 p_s3 0 ([]:List ak)) fun r0 h0=>
 .say [.part [.yU 3 48 25,.ji 4 (([]:List ak).map ak.lf)] 0 [0,3,13,14,15] 5 (.exit 0) (oh p_b0_0 p_b0_1 p_s1 p_s2 p_s3 r0).T (oh p_b0_0 p_b0_1 p_s1 p_s2 p_s3 r0).H] (ok1 (Yn h0))<|
 .ret ⟨[.frz 4],[0],[],4⟩ (r0)
noncomputable def Q35(p_b0_0:Int)(p_b0_1:List ak)(p_s1:aU)(p_s2:List (ByteArray×au))(p_s3:List (ByteArray×aA)):Option (List ak):=Mo.den (acd p_b0_0 p_b0_1 p_s1 p_s2 p_s3)
theorem ad7(p_b0_0:Int)(p_b0_1:List ak)(p_s1:aU)(p_s2:List (ByteArray×au))(p_s3:List (ByteArray×aA))(r:List ak)(h:Q35 p_b0_0 p_b0_1 p_s1 p_s2 p_s3=some r):FnH Tryz.prog GI 18 [.ptr 0 0] [.box 113 (.agg [.i_ p_b0_0,.lf (.rows 25 (p_b0_1.map ak.lf)),.mp 1,.mp 2,.mp 3]),.res (aY p_s1 none) none,.res (bD p_s2) none,.res (bF p_s3) none] (resV (Q98 p_b0_0 p_b0_1 p_s1 p_s2 p_s3 r)) (ab9 p_b0_0 p_b0_1 p_s1 p_s2 p_s3 r):=
 dh aG Tryz.func18 (by kernel_rfl) (by kernel_rfl) (by kernel_rfl) (acd p_b0_0 p_b0_1 p_s1 p_s2 p_s3) (Q98 p_b0_0 p_b0_1 p_s1 p_s2 p_s3) (ab9 p_b0_0 p_b0_1 p_s1 p_s2 p_s3) (by kernel_rfl) h
theorem afw:Qi (opsOf (Code.sub (bodyC Tryz.f10) [1,1,1,1,1,1,1,1,1,0])) [(true,0),(true,1),(true,2),(true,3),(true,4),(true,5),(true,6),(true,7),(true,8),(true,9),(true,10),(true,11),(false,12),(false,13),(true,14),(true,15),(true,16),(true,17),(true,18),(true,19),(true,20),(true,21),(true,22),(true,23),(true,24),(true,25),(true,26),(true,27),(true,28),(true,29),(true,30),(true,31),(true,32),(true,33),(true,34),(true,35),(true,36),(true,37),(false,38),(false,39),(true,40),(true,41),(true,42),(true,43),(false,44),(true,45),(true,46),(true,47),(true,48)] none=true:=by kernel_rfl
noncomputable def ace :Mo (Bool):=
 .say [.dP [] (.ptr 3 0) [.res (aY (⟨[],[]⟩:aU) none) none,.res (bD ([]:List (ByteArray×au))) none,.res (bF ([]:List (ByteArray×aA))) none,.box 113 (.agg [.i_ 0,.lf (.rows 25 (([]:List ak).map ak.lf)),.mp 0,.mp 1,.mp 2])],.dP [3,0,1,2] (.i_ 0) [.box 113 (.agg [.i_ 0,.lf (.rows 25 (([]:List ak).map ak.lf)),.mp 1,.mp 2,.mp 3]),.res (aY (⟨[],[]⟩:aU) none) none,.res (bD ([]:List (ByteArray×au))) none,.res (bF ([]:List (ByteArray×aA))) none],.br false,.at_ 10 5,.tod 23] ok0<|
 .ask (Q75) fun r0 h0=>
 .say [] (ok1 (adn  _ h0))<|
 .ask (Q54 0 ([]:List ak) (⟨[],[]⟩:aU) ([]:List (ByteArray×au)) ([]:List (ByteArray×aA))) fun r1 h1=>
 .say [] (okc (ado _ _ _ _ _ _ h1) (ok1 (rfl:false=false)))<|
 .ask (Q37 (aZ.mk 0 1 ⟨#[]⟩ 0 (ay.aex (ay.sV ay.z 4) (ak.mk ⟨#[99]⟩ [] (aj.Zj aj.z (-1)) 0 0))) 0 ([]:List ak) (⟨[],[]⟩:aU) ([]:List (ByteArray×au)) ([]:List (ByteArray×aA))) fun r2 h2=>
 .say [.dP [3,0,1,2] (.i_ r2.1) [.box 113 (.agg [.i_ r2.2.1,.lf (.rows 25 (r2.2.2.1.map ak.lf)),.mp 1,.mp 2,.mp 3]),.res (aY r2.2.2.2.1 none) none,.res (bD r2.2.2.2.2.1) none,.res (bF r2.2.2.2.2.2) none]] (ok1 (KJ _ _ _ _ _ _ _ h2))<|
 .ask (Q53 1) fun r3 h3=>
 .say [.res (.dat (ah.lf1 r3))] (ok1 (Dv _ _ h3))<|
 .ask (Q60 1) fun r4 h4=>
 .say [.res (.dat (ah.lf1 r4)),.at_ 12 5,.tod 29] (ok1 (Yc _ _ h4))<|
 .ask (Q37 (aZ.mk 0 5 ⟨#[115]⟩ 3 (ay.aew (ay.aev (ay.Qo (ay.sV ay.z 2) ⟨#[99]⟩) r3) r4)) r2.2.1 r2.2.2.1 r2.2.2.2.1 r2.2.2.2.2.1 r2.2.2.2.2.2) fun r5 h5=>
 .say [.dP [3,0,1,2] (.i_ r5.1) [.box 113 (.agg [.i_ r5.2.1,.lf (.rows 25 (r5.2.2.1.map ak.lf)),.mp 1,.mp 2,.mp 3]),.res (aY r5.2.2.2.1 none) none,.res (bD r5.2.2.2.2.1) none,.res (bF r5.2.2.2.2.2) none],.at_ 14 3,.tod 33] (ok1 (KJ _ _ _ _ _ _ _ h5))<|
 .ask (Q37 (aZ.mk 0 5 ⟨#[]⟩ 0 (ay.sV ay.z 1)) r5.2.1 r5.2.2.1 r5.2.2.2.1 r5.2.2.2.2.1 r5.2.2.2.2.2) fun r6 h6=>
 .say [.dP [3,0,1,2] (.i_ r6.1) [.box 113 (.agg [.i_ r6.2.1,.lf (.rows 25 (r6.2.2.1.map ak.lf)),.mp 1,.mp 2,.mp 3]),.res (aY r6.2.2.2.1 none) none,.res (bD r6.2.2.2.2.1) none,.res (bF r6.2.2.2.2.2) none]] (ok1 (KJ _ _ _ _ _ _ _ h6))<|
 .ask (Q53 1) fun r7 h7=>
 .say [.res (.dat (ah.lf1 r7))] (ok1 (Dv _ _ h7))<|
 .ask (Q44 ⟨#[99]⟩ r7 5 r6.2.1 r6.2.2.1 r6.2.2.2.1 r6.2.2.2.2.1 r6.2.2.2.2.2) fun r8 h8=>
 .say [.dP [3,0,1,2] (.tup [.dat (ah.lf1 r8.1),.i_ r8.2]) [.box 113 (.agg [.i_ r6.2.1,.lf (.rows 25 (r6.2.2.1.map ak.lf)),.mp 1,.mp 2,.mp 3]),.res (aY r6.2.2.2.1 none) none,.res (bD r6.2.2.2.2.1) none,.res (bF r6.2.2.2.2.2) none]] (ok1 (ad3 _ _ _ _ _ _ _ _ _ h8))<|
 .ask (Q26 ⟨#[99]⟩ 4 r6.2.1 r6.2.2.1 r6.2.2.2.1 r6.2.2.2.2.1 r6.2.2.2.2.2) fun r9 h9=>
 .say [.dP [3,0,1,2] (.tup [.lf (.rows 5 (r9.1.map ah.lf)),.i_ r9.2]) [.box 113 (.agg [.i_ r6.2.1,.lf (.rows 25 (r6.2.2.1.map ak.lf)),.mp 1,.mp 2,.mp 3]),.res (aY r6.2.2.2.1 none) none,.res (bD r6.2.2.2.2.1) none,.res (bF r6.2.2.2.2.2) none],.dP [3,0,1,2] (.tup [.i_ (((aI ⟨#[115]⟩ r6.2.2.2.2.2).getD aA.z).iV),.i_ (((aI ⟨#[115]⟩ r6.2.2.2.2.2).getD aA.z).dS)]) [.box 113 (.agg [.i_ r6.2.1,.lf (.rows 25 (r6.2.2.1.map ak.lf)),.mp 1,.mp 2,.mp 3]),.res (aY r6.2.2.2.1 none) none,.res (bD r6.2.2.2.2.1) none,.res (bF r6.2.2.2.2.2) none]] (ok1 (ad5 _ _ _ _ _ _ _ _ h9))<|
 .ask (Q55 ⟨#[115]⟩ r6.2.1 r6.2.2.1 r6.2.2.2.1 r6.2.2.2.2.1 r6.2.2.2.2.2) fun r10 h10=>
 .say [] (okc (ad6 _ _ _ _ _ _ _ h10) (ok1 afw))<|
 .ite (r2.1==0) (fun c0=>
 .say [] (ok1 c0)<|
 .ite (r5.1==0) (fun c1=>
 .say [] (ok1 c1)<|
 .ite (r6.1==23) (fun c2=>
 .say [] (ok1 c2)<|
 .ask (Q60 1) fun r11 h11=>
 .say [] (ok1 (Yc _ _ h11))<|
 .ask (Q5 r8.1 r11) fun r12 h12=>
 .say [] (ok1 (aaF _ _ _ h12))<|
 .ite (r12) (fun c3=>
 .say [] (ok1 c3)<|
 .ite (r8.2==0) (fun c4=>
 .say [] (okc c4 (okc (ln_ r9.1 ah.lf) ok0))<|
 .ite ((r9.1.length:Int)==0) (fun c5=>
 .say [] (ok1 c5)<|
 .ite (r9.2==0) (fun c6=>
 .say [] (ok1 c6)<|
 .ite ((((aI ⟨#[115]⟩ r6.2.2.2.2.2).getD aA.z).iV)==3) (fun c7=>
 .say [] (ok1 c7)<|
 .ite ((((aI ⟨#[115]⟩ r6.2.2.2.2.2).getD aA.z).dS)==5) (fun c8=>
 .say [.JR [(true,0),(true,1),(true,2),(true,3),(true,4),(true,5),(true,6),(true,7),(true,8),(true,9),(true,10),(true,11),(false,12),(false,13),(true,14),(true,15),(true,16),(true,17),(true,18),(true,19),(true,20),(true,21),(true,22),(true,23),(true,24),(true,25),(true,26),(true,27),(true,28),(true,29),(true,30),(true,31),(true,32),(true,33),(true,34),(true,35),(true,36),(true,37),(false,38),(false,39),(true,40),(true,41),(true,42),(true,43),(false,44),(true,45),(true,46),(true,47),(true,48)] none [0,1,2,3],.gd 22002 true,.gd 22006 true,.gd 22010 true,.res (.dat (ah.lf1 r11)),.res (.b_ r12),.gd 22015 true,.gd 22019 true,.num r9.1.length,.gd 22024 true,.gd 22028 true,.gd 22032 true,.gd 22036 true] (ok1 c8)<|
 .ask (Q53 1) fun r13 h13=>
 .say [.res (.dat (ah.lf1 r13))] (ok1 (Dv _ _ h13))<|
 .ask (Q40 ⟨#[99]⟩ r13 r6.2.1 r6.2.2.1 r6.2.2.2.1 r6.2.2.2.2.1 r6.2.2.2.2.2) fun r14 h14=>
 .say [.dP [3,0,1,2] (.i_ r14) [.box 113 (.agg [.i_ r6.2.1,.lf (.rows 25 (r6.2.2.1.map ak.lf)),.mp 1,.mp 2,.mp 3]),.res (aY r6.2.2.2.1 none) none,.res (bD r6.2.2.2.2.1) none,.res (bF r6.2.2.2.2.2) none]] (ok1 (Xp _ _ _ _ _ _ _ _ h14))<|
 .ite (r14==5) (fun c9=>
 .say [.gd 22042 true] (ok1 c9)<|
 .ask (Q35 r6.2.1 r6.2.2.1 r6.2.2.2.1 r6.2.2.2.2.1 r6.2.2.2.2.2) fun r15 h15=>
 .say [.dP [3,0,1,2] (.lf (.rows 25 (r15.map ak.lf))) [.box 113 (.agg [.i_ r6.2.1,.lf (.rows 25 (r6.2.2.1.map ak.lf)),.mp 1,.mp 2,.mp 3]),.res (aY r6.2.2.2.1 none) none,.res (bD r6.2.2.2.2.1) none,.res (bF r6.2.2.2.2.2) none],.num r15.length] (okc (ad7 _ _ _ _ _ _ h15) (okc (ln_ r15 ak.lf) ok0))<|
 .ret (cZ 1) ((r15.length:Int)==1)) fun _=>.stop) fun _=>.stop) fun _=>.stop) fun _=>.stop) fun _=>.stop) fun _=>.stop) fun _=>.stop) fun _=>.stop) fun _=>.stop) fun _=>.stop
noncomputable def Q65 :Option (Bool):=Mo.den (ace )
theorem ad8  (r:Bool) (h:Q65 =some r):Fn Tryz.prog GI 10 [] (.b_ r):=
 dK aG Tryz.func10 (by kernel_rfl) (by kernel_rfl) (by kernel_rfl) (ace ) (fun r=>[.b_ r]) (by kernel_rfl) h
noncomputable def NS(p_e:aZ)(r0:aH):Mo (Bool):=
 .ask (Q66 p_e) fun r1 h0=>
 .say [.dP [] (.i_ r1) []] (ok1 (adf _ _ h0))<|
 .ite (r1==3) (fun c0=>
 .say [.gd 8004 true] (ok1 c0)<|
 .ret ⟨[.kill 0],[4,5,6,18],[],3⟩ (r0.Ze==3)) fun c0=>
 .say [.gd 8004 false] (ok1 c0)<|
 .ret ⟨[.kill 0],[4,5,6,18],[],3⟩ (false)
noncomputable def acf(p_e:aZ)(r0:aH):Option (Bool):=Mo.den (NS p_e r0)
noncomputable def rQ(r0:aH)(r_:Bool):St:=⟨[(4,.b_ false),(5,.raw (.pointer none)),(6,.ptr 2 0),(18,.b_ r_)],[.dead,.dead,.box 79 (.agg ((aH.lf1 r0).map AV.lf))]⟩
theorem aal{p_e:aZ}{r0:aH}{r_:Bool}(h:acf p_e r0=some r_):aS Tryz.f7 0 [1,1,1,0] [0,1,2,3,4,5,6,7,8] (rQ r0 r_) ⟨[(2,.ptr 0 0),(4,.b_ false),(5,.raw (.pointer none)),(6,.ptr 2 0)],[.box 66 (.dat (aZ.lf1 p_e)),.dead,.box 79 (.agg ((aH.lf1 r0).map AV.lf))]⟩:=
 aQ aG (NS p_e r0) (rQ r0) (by kernel_rfl) h
noncomputable def NT(r0:aH)(r1:Bool):Mo (Bool):=
 .ite (r1) (fun c0=>
 .say [.gd 8009 true] (ok1 c0)<|
 .ret ⟨[],[4,5,6,23],[],3⟩ (r0.fall==3)) fun c0=>
 .say [.gd 8009 false] (ok1 c0)<|
 .ret ⟨[],[4,5,6,23],[],3⟩ (false)
noncomputable def acg(r0:aH)(r1:Bool):Option (Bool):=Mo.den (NT r0 r1)
noncomputable def Dw(r0:aH)(r_:Bool):St:=⟨[(4,.b_ false),(5,.raw (.pointer none)),(6,.ptr 2 0),(23,.b_ r_)],[.dead,.dead,.box 79 (.agg ((aH.lf1 r0).map AV.lf))]⟩
theorem aam{r0:aH}{r1:Bool}{r_:Bool}(h:acg r0 r1=some r_):aS Tryz.f7 0 [1,1,1,0] [9,10,11,12,13] (Dw r0 r_) ⟨[(4,.b_ false),(5,.raw (.pointer none)),(6,.ptr 2 0),(18,.b_ r1)],[.dead,.dead,.box 79 (.agg ((aH.lf1 r0).map AV.lf))]⟩:=
 aQ aG (NT r0 r1) (Dw r0) (by kernel_rfl) h
noncomputable def JD(r0:aH)(r1:Bool):Mo (Bool):=
 .ite (r1) (fun c0=>
 .say [.gd 8014 true] (ok1 c0)<|
 .ret ⟨[],[4,5,6,28],[],3⟩ (r0.Ls==0)) fun c0=>
 .say [.gd 8014 false] (ok1 c0)<|
 .ret ⟨[],[4,5,6,28],[],3⟩ (false)
noncomputable def Yo(r0:aH)(r1:Bool):Option (Bool):=Mo.den (JD r0 r1)
noncomputable def yG(r0:aH)(r_:Bool):St:=⟨[(4,.b_ false),(5,.raw (.pointer none)),(6,.ptr 2 0),(28,.b_ r_)],[.dead,.dead,.box 79 (.agg ((aH.lf1 r0).map AV.lf))]⟩
theorem Yp{r0:aH}{r1:Bool}{r_:Bool}(h:Yo r0 r1=some r_):aS Tryz.f7 0 [1,1,1,0] [14,15,16,17,18] (yG r0 r_) ⟨[(4,.b_ false),(5,.raw (.pointer none)),(6,.ptr 2 0),(23,.b_ r1)],[.dead,.dead,.box 79 (.agg ((aH.lf1 r0).map AV.lf))]⟩:=
 aQ aG (JD r0 r1) (yG r0) (by kernel_rfl) h
noncomputable def JE(r0:aH)(r1:Bool):Mo (Bool):=
 .ite (r1) (fun c0=>
 .say [.gd 8019 true] (ok1 c0)<|
 .ret ⟨[],[4,5,6,33],[],3⟩ (decide ((r0.rJ:ByteArray)=(⟨#[]⟩:ByteArray)))) fun c0=>
 .say [.gd 8019 false] (ok1 c0)<|
 .ret ⟨[],[4,5,6,33],[],3⟩ (false)
noncomputable def Yq(r0:aH)(r1:Bool):Option (Bool):=Mo.den (JE r0 r1)
noncomputable def yH(r0:aH)(r_:Bool):St:=⟨[(4,.b_ false),(5,.raw (.pointer none)),(6,.ptr 2 0),(33,.b_ r_)],[.dead,.dead,.box 79 (.agg ((aH.lf1 r0).map AV.lf))]⟩
theorem Yr{r0:aH}{r1:Bool}{r_:Bool}(h:Yq r0 r1=some r_):aS Tryz.f7 0 [1,1,1,0] [19,20,21,22,23] (yH r0 r_) ⟨[(4,.b_ false),(5,.raw (.pointer none)),(6,.ptr 2 0),(28,.b_ r1)],[.dead,.dead,.box 79 (.agg ((aH.lf1 r0).map AV.lf))]⟩:=
 aQ aG (JE r0 r1) (yH r0) (by kernel_rfl) h
noncomputable def JF(r0:aH)(r1:Bool):Mo (Bool):=
 .ite (r1) (fun c0=>
 .say [.gd 8024 true] (ok1 c0)<|
 .ret ⟨[],[4,5,6,38],[],3⟩ (r0.iV==0)) fun c0=>
 .say [.gd 8024 false] (ok1 c0)<|
 .ret ⟨[],[4,5,6,38],[],3⟩ (false)
noncomputable def Yt(r0:aH)(r1:Bool):Option (Bool):=Mo.den (JF r0 r1)
noncomputable def yI(r0:aH)(r_:Bool):St:=⟨[(4,.b_ false),(5,.raw (.pointer none)),(6,.ptr 2 0),(38,.b_ r_)],[.dead,.dead,.box 79 (.agg ((aH.lf1 r0).map AV.lf))]⟩
theorem Yu{r0:aH}{r1:Bool}{r_:Bool}(h:Yt r0 r1=some r_):aS Tryz.f7 0 [1,1,1,0] [24,25,26,27,28] (yI r0 r_) ⟨[(4,.b_ false),(5,.raw (.pointer none)),(6,.ptr 2 0),(33,.b_ r1)],[.dead,.dead,.box 79 (.agg ((aH.lf1 r0).map AV.lf))]⟩:=
 aQ aG (JF r0 r1) (yI r0) (by kernel_rfl) h
noncomputable def JG(r0:aH)(r1:Bool):Mo (Bool):=
 .ite (r1) (fun c0=>
 .say [.gd 8029 true] (ok1 c0)<|
 .ret ⟨[],[4,5,6,43],[],3⟩ (r0.dS==0)) fun c0=>
 .say [.gd 8029 false] (ok1 c0)<|
 .ret ⟨[],[4,5,6,43],[],3⟩ (false)
noncomputable def Yv(r0:aH)(r1:Bool):Option (Bool):=Mo.den (JG r0 r1)
noncomputable def yJ(r0:aH)(r_:Bool):St:=⟨[(4,.b_ false),(5,.raw (.pointer none)),(6,.ptr 2 0),(43,.b_ r_)],[.dead,.dead,.box 79 (.agg ((aH.lf1 r0).map AV.lf))]⟩
theorem Yw{r0:aH}{r1:Bool}{r_:Bool}(h:Yv r0 r1=some r_):aS Tryz.f7 0 [1,1,1,0] [29,30,31,32,33] (yJ r0 r_) ⟨[(4,.b_ false),(5,.raw (.pointer none)),(6,.ptr 2 0),(38,.b_ r1)],[.dead,.dead,.box 79 (.agg ((aH.lf1 r0).map AV.lf))]⟩:=
 aQ aG (JG r0 r1) (yJ r0) (by kernel_rfl) h
noncomputable def JH(r0:aH)(r1:Bool):Mo (Bool):=
 .ite (r1) (fun c0=>
 .say [.gd 8034 true] (ok1 c0)<|
 .ask (Q5 r0.jS (ah.mk 0 0 ⟨#[]⟩ [] [])) fun r2 h0=>
 .say [.res (.b_ r2)] (ok1 (aaF _ _ _ h0))<|
 .ret ⟨[],[4,5,6,49],[],3⟩ (r2)) fun c0=>
 .say [.gd 8034 false] (ok1 c0)<|
 .ret ⟨[],[4,5,6,49],[],3⟩ (false)
noncomputable def Yx(r0:aH)(r1:Bool):Option (Bool):=Mo.den (JH r0 r1)
noncomputable def yK(r0:aH)(r_:Bool):St:=⟨[(4,.b_ false),(5,.raw (.pointer none)),(6,.ptr 2 0),(49,.b_ r_)],[.dead,.dead,.box 79 (.agg ((aH.lf1 r0).map AV.lf))]⟩
theorem Yy{r0:aH}{r1:Bool}{r_:Bool}(h:Yx r0 r1=some r_):aS Tryz.f7 0 [1,1,1,0] [34,35,36,37,38,39] (yK r0 r_) ⟨[(4,.b_ false),(5,.raw (.pointer none)),(6,.ptr 2 0),(43,.b_ r1)],[.dead,.dead,.box 79 (.agg ((aH.lf1 r0).map AV.lf))]⟩:=
 aQ aG (JH r0 r1) (yK r0) (by kernel_rfl) h
noncomputable def JI(r0:aH)(r1:Bool):Mo (Bool):=
 .ite (r1) (fun c0=>
 .say [.gd 8040 true,.num r0.zD.length] (okc c0 (okc (ln_ r0.zD ah.lf) ok0))<|
 .ret ⟨[.kill 2],[4,5,55],[],3⟩ ((r0.zD.length:Int)==0)) fun c0=>
 .say [.gd 8040 false] (ok1 c0)<|
 .ret ⟨[.kill 2],[4,5,55],[],3⟩ (false)
noncomputable def Yz(r0:aH)(r1:Bool):Option (Bool):=Mo.den (JI r0 r1)
noncomputable def yL  (r_:Bool):St:=⟨[(4,.b_ false),(5,.raw (.pointer none)),(55,.b_ r_)],[.dead,.dead,.dead]⟩
theorem YA{r0:aH}{r1:Bool}{r_:Bool}(h:Yz r0 r1=some r_):aS Tryz.f7 0 [1,1,1,0] [40,41,42,43,44,45] (yL r_) ⟨[(4,.b_ false),(5,.raw (.pointer none)),(6,.ptr 2 0),(49,.b_ r1)],[.dead,.dead,.box 79 (.agg ((aH.lf1 r0).map AV.lf))]⟩:=
 aQ aG (JI r0 r1) yL (by kernel_rfl) h
noncomputable def JJ(r0:Bool):Mo (Bool):=
 .ite (r0) (fun c0=>
 .say [.gd 8046 true] (ok1 c0)<|
 .ask (Q67) fun r1 h0=>
 .say [.dP [] (.i_ r1) []] (ok1 (adi  _ h0))<|
 .ret ⟨[],[4,5,60],[],3⟩ (r1==0)) fun c0=>
 .say [.gd 8046 false] (ok1 c0)<|
 .ret ⟨[],[4,5,60],[],3⟩ (false)
noncomputable def YB(r0:Bool):Option (Bool):=Mo.den (JJ r0)
noncomputable def yM  (r_:Bool):St:=⟨[(4,.b_ false),(5,.raw (.pointer none)),(60,.b_ r_)],[.dead,.dead,.dead]⟩
theorem YC{r0:Bool}{r_:Bool}(h:YB r0=some r_):aS Tryz.f7 0 [1,1,1,0] [46,47,48,49,50] (yM r_) ⟨[(4,.b_ false),(5,.raw (.pointer none)),(55,.b_ r0)],[.dead,.dead,.dead]⟩:=
 aQ aG (JJ r0) yM (by kernel_rfl) h
noncomputable def JK(r0:Bool):Mo (Bool):=
 .ite (r0) (fun c0=>
 .say [.gd 8051 true] (ok1 c0)<|
 .ask (Q64) fun r1 h0=>
 .say [.dP [] (.lf (.rows 25 (r1.map ak.lf))) [],.num r1.length] (okc (adk  _ h0) (okc (ln_ r1 ak.lf) ok0))<|
 .ret ⟨[],[4,5,66],[],3⟩ ((r1.length:Int)==0)) fun c0=>
 .say [.gd 8051 false] (ok1 c0)<|
 .ret ⟨[],[4,5,66],[],3⟩ (false)
noncomputable def YD(r0:Bool):Option (Bool):=Mo.den (JK r0)
noncomputable def yN  (r_:Bool):St:=⟨[(4,.b_ false),(5,.raw (.pointer none)),(66,.b_ r_)],[.dead,.dead,.dead]⟩
theorem YE{r0:Bool}{r_:Bool}(h:YD r0=some r_):aS Tryz.f7 0 [1,1,1,0] [51,52,53,54,55,56] (yN r_) ⟨[(4,.b_ false),(5,.raw (.pointer none)),(60,.b_ r0)],[.dead,.dead,.dead]⟩:=
 aQ aG (JK r0) yN (by kernel_rfl) h
noncomputable def JL(r0:Bool):Mo (Bool):=
 .ite (r0) (fun c0=>
 .say [.gd 8057 true] (ok1 c0)<|
 .ask (Q62) fun r1 h0=>
 .say [.dP [] (.lf (.rows 1 (r1.map lfS))) [],.num r1.length] (okc (adl  _ h0) (okc (ln_ r1 lfS) ok0))<|
 .ret ⟨[],[4,72],[],3⟩ ((r1.length:Int)==0)) fun c0=>
 .say [.gd 8057 false] (ok1 c0)<|
 .ret ⟨[],[4,72],[],3⟩ (false)
noncomputable def YF(r0:Bool):Option (Bool):=Mo.den (JL r0)
noncomputable def yO  (r_:Bool):St:=⟨[(4,.b_ false),(72,.b_ r_)],[.dead,.dead,.dead]⟩
theorem YG{r0:Bool}{r_:Bool}(h:YF r0=some r_):aS Tryz.f7 0 [1,1,1,0] [57,58,59,60,61,62] (yO r_) ⟨[(4,.b_ false),(5,.raw (.pointer none)),(66,.b_ r0)],[.dead,.dead,.dead]⟩:=
 aQ aG (JL r0) yO (by kernel_rfl) h
noncomputable def JM(r0:Bool):Mo (Bool):=
 .ite (r0) (fun c0=>
 .say [.gd 8063 true] (ok1 c0)<|
 .ask (Q65) fun r1 h0=>
 .say [.res (.b_ r1)] (ok1 (ad8  _ h0))<|
 .ret ⟨[],[4,75],[],3⟩ (r1)) fun c0=>
 .say [.gd 8063 false] (ok1 c0)<|
 .ret ⟨[],[4,75],[],3⟩ (false)
noncomputable def YH(r0:Bool):Option (Bool):=Mo.den (JM r0)
noncomputable def yP  (r_:Bool):St:=⟨[(4,.b_ false),(75,.b_ r_)],[.dead,.dead,.dead]⟩
theorem YI{r0:Bool}{r_:Bool}(h:YH r0=some r_):aS Tryz.f7 0 [1,1,1,0] [63,64,65] (yP r_) ⟨[(4,.b_ false),(72,.b_ r0)],[.dead,.dead,.dead]⟩:=
 aQ aG (JM r0) yP (by kernel_rfl) h
noncomputable def JO(r0:Bool):Mo (Unit):=
 .ret ⟨[],[4],[],3⟩ ()
noncomputable def YJ(r0:Bool):Option (Unit):=Mo.den (JO r0)
noncomputable def yQ(r0:Bool)(r_:Unit):St:=⟨[(4,.b_ r0)],[.dead,.dead,.dead]⟩
theorem YK{r0:Bool}{r_:Unit}(h:YJ r0=some r_):aS Tryz.f7 0 [1,1,1,0] [66] (yQ r0 r_) ⟨[(4,.b_ false),(75,.b_ r0)],[.dead,.dead,.dead]⟩:=
 aQ aG (JO r0) (yQ r0) (by kernel_rfl) h
noncomputable def ae9(p_e:aZ)(p_q:bf):Mo (Bool):=
 .ask (Q74 p_q) fun r0 h0=>
 .say [.dP [] (.dat (aH.lf1 r0)) []] (ok1 (ade _ _ h0))<|
 .ask (acf p_e r0) fun r1 h1=>
 .say [.seg 3 [.kill 1] 9 [2,4,5,6] 3 (rQ r0 r1).T (rQ r0 r1).H] (ok1 (aal h1))<|
 .ask (acg r0 r1) fun r2 h2=>
 .say [.sg_ 3 5 [4,5,6,18] 3 (Dw r0 r2)] (ok1 (aam h2))<|
 .ask (Yo r0 r2) fun r3 h3=>
 .say [.sg_ 3 5 [4,5,6,23] 3 (yG r0 r3)] (ok1 (Yp h3))<|
 .ask (Yq r0 r3) fun r4 h4=>
 .say [.sg_ 3 5 [4,5,6,28] 3 (yH r0 r4)] (ok1 (Yr h4))<|
 .ask (Yt r0 r4) fun r5 h5=>
 .say [.sg_ 3 5 [4,5,6,33] 3 (yI r0 r5)] (ok1 (Yu h5))<|
 .ask (Yv r0 r5) fun r6 h6=>
 .say [.sg_ 3 5 [4,5,6,38] 3 (yJ r0 r6)] (ok1 (Yw h6))<|
 .ask (Yx r0 r6) fun r7 h7=>
 .say [.sg_ 3 6 [4,5,6,43] 3 (yK r0 r7)] (ok1 (Yy h7))<|
 .ask (Yz r0 r7) fun r8 h8=>
 .say [.sg_ 3 6 [4,5,6,49] 3 (yL r8)] (ok1 (YA h8))<|
 .ask (YB r8) fun r9 h9=>
 .say [.sg_ 3 5 [4,5,55] 3 (yM r9)] (ok1 (YC h9))<|
 .ask (YD r9) fun r10 h10=>
 .say [.sg_ 3 6 [4,5,60] 3 (yN r10)] (ok1 (YE h10))<|
 .ask (YF r10) fun r11 h11=>
 .say [.sg_ 3 6 [4,5,66] 3 (yO r11)] (ok1 (YG h11))<|
 .ask (YH r11) fun r12 h12=>
 .say [.sg_ 3 3 [4,72] 3 (yP r12)] (ok1 (YI h12))<|
 .ask (YJ r12) fun r13 h13=>
 .say [.sg_ 3 1 [4,75] 3 (yQ r12 r13)] (ok1 (YK h13))<|
 .ret (cZ 1) (r12)
noncomputable def Q0(p_e:aZ)(p_q:bf):Option (Bool):=Mo.den (ae9 p_e p_q)
theorem afa(p_e:aZ)(p_q:bf)(r:Bool)(h:Q0 p_e p_q=some r):Fn Tryz.prog GI 7 [.dat (aZ.lf1 p_e),.dat (bf.lf1 p_q)] (.b_ r):=
 dK aG Tryz.func7 (by kernel_rfl) (by kernel_rfl) (by kernel_rfl) (ae9 p_e p_q) (fun r=>[.b_ r]) (by kernel_rfl) h
end
end Go.Proofs.YtpdlghcgekojlaaGreatDoor
set_option linter.unusedSimpArgs false
set_option linter.unusedVariables false
namespace Go.Proofs.YtpdlghcgekojlaaGreatDoor
open Go.RowKit
set_option maxRecDepth 100000 in
theorem yR(e:aZ)(q:bf):Q0 e q=some true:=by kernel_rfl
end Go.Proofs.YtpdlghcgekojlaaGreatDoor
