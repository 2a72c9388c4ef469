/- Plain: what oplog.Valid says of a transaction's writes. -/
import Derived.Test.YtpdlghcgekojlaaGreatDoorQI9
set_option linter.unusedSimpArgs false
set_option linter.unusedVariables false
namespace Go.Proofs.YtpdlghcgekojlaaGreatDoor
open Go.RowKit
theorem aoJ{v:ay}(h:Q24 v=some true):v.bG=[]:=by
 obtain⟨b1,e1,-⟩:=iF v.dL
 obtain⟨b2,e2,-⟩:=iF v.bC
 obtain⟨b3,e3,-⟩:=iF v.ig
 obtain⟨b4,e4,-⟩:=xq v.gy
 obtain⟨b5,e5,-⟩:=xu v.eP
 have h:Mo.den (ais v)=some true:=h
 simp only[ais,gu,ZE,ZC,ZB,ZA,Zz,Zy,Zx,Zw,Zv,ad4,ad3,Mo.den,aN,aG,aH,aK,aJ,e1,e2,e3,e4,e5,Gx,Option.bind_some] at h
 injection h with h
 simp only[Bool.cond_false_right,Bool.and_eq_true] at h
 have h1:=h.1.1.2
 exact List.eq_nil_of_length_eq_zero (by simpa using h1)
theorem aog{k:Int}(hk:k=2∨k=3):∃r,aki k=some r∧r.lK=true∧r.zx=true∧r.Du=false∧r.og=false∧r.gJ=false∧r.zy=false∧r.dw=false∧r.bJ=false∧r.kP=false:=by
 rcases hk with rfl|rfl
 ·exact⟨_,rfl,rfl,rfl,rfl,rfl,rfl,rfl,rfl,rfl,rfl⟩
 exact⟨_,rfl,rfl,rfl,rfl,rfl,rfl,rfl,rfl,rfl,rfl⟩
theorem aoK{u:ay}(hk:u.aB=2∨u.aB=3)(h:Q17 u=some true):u.bG=[]:=by
 obtain⟨r,hu,q1,q2,q3,q4,q5,q6,q7,q8,q9⟩:=aog hk
 have h:Mo.den (ait u)=some true:=h
 simp only[ait,J4,J3,JZ,JY,JX,JW,JV,JU,Rj,Ri,Mo.den,aN,aG,aH,aK,aJ,hu,q1,q2,q3,q4,q5,q6,q7,q8,q9,cond_true,cond_false,bsm,Gx,Option.bind_some] at h
 have h1:=aoJ h
 cases hd:r.fC with
 |true=>rw[hd] at h1;exact h1
 |false=>rw[hd] at h1;exact h1
theorem aoB{v:aj}(hb:aU v.lf1≤100000000)(h:Q75 v=some true):(jP v).2=true:=by
 have h:Mo.den (aiv v)=some true:=h
 simp only[aiv,gu,ZG,ad7,ad6,Mo.den,aN,aG,aH,aK,aJ,KC v hb,Gx,Option.bind_some] at h
 injection h with h
 simp only[Bool.cond_false_right,Bool.and_eq_true] at h
 have h1:=h.2
 have h2:=h1
 unfold BU at h2
 simp only[Bool.and_eq_true] at h2
 have h3:=SV h2.2.2
 unfold jP
 rw[show(v.aB==0)=false by simp;omega,h1]
 rfl
theorem aoL{u:ay}(hb:aU u.lf1≤100000000)(h:amm u=some 0):(jP u.dL).2=true:=by
 have bw:=dM u
 obtain⟨b,hi,-⟩:=tH u.dL (by omega)
 cases b with
 |true=>exact aoB (by omega) hi
 |false=>
  have h:Mo.den (aec u)=some 0:=h
  simp only[aec,Mo.den,aN,aG,aH,aK,aJ,hi,Option.bind_some,Bool.not_false,cond_true] at h
  cases h
theorem aoR{σ β:Type}{T0:σ→Option (σ⊕β)}{s:σ}{r:β}(h:T0 s=some (.inr r)):dA T0 FU s=some r:=by
 obtain⟨G,hG⟩:∃G,FU=G+1:=⟨FU-1,by have:=gq;omega⟩
 rw[hG,dA,h];rfl
theorem aoC{F:Nat}{u:ay}(hb:aU u.lf1≤100000000)(h:(jM F).m1 u 2 3=some 0):(u.aB=2∨u.aB=3)∧(jP u.dL).2=true∧(jM F).m1 u 2 7=some 0:=by
 cases F with
 |zero=>cases h
 |succ F=>
  have h:Mo.den (aed (jM F) u 2 3)=some 0:=h
  by_cases hk:u.aB=2∨u.aB=3
  ·obtain⟨r,hu,q1,q2,q3,q4,q5,q6,q7,q8,q9⟩:=aog hk
   obtain⟨b,hu2,-⟩:=pW u
   obtain⟨e,he,-⟩:=xA u hb
   suffices g:(jP u.dL).2=true∧Mo.den (aed (jM F) u 2 7)=some 0 from⟨hk,g⟩
   have k1:decide (u.aB<2)=false:=decide_eq_false (by omega)
   have k2:decide ((3:Int)<u.aB)=false:=decide_eq_false (by omega)
   have k3:decide ((7:Int)<u.aB)=false:=decide_eq_false (by omega)
   have n4:(u.aB==4)=false:=by simp;omega
   have n6:(u.aB==6)=false:=by simp;omega
   have n8:(u.aB==8)=false:=by simp;omega
   have n9:(u.aB==9)=false:=by simp;omega
   simp only[aed,Nz,NC,F6,F7,F8,F9,Rx,Ry,Rz,RD,Mo.den,aN,aG,aH,aK,aJ,hu,hu2,he,q1,q2,q5,q6,q7,q8,q9,k1,k2,k3,n4,n6,n8,n9,oM,Gx,Option.bind_some,cond_true,cond_false] at h ⊢
   cases b with
   |false=>cases h
   |true=>
    have hn:=aoK hk hu2
    have hL:∀g,aok (jM F) g u 0=some (.inr ()):=fun g=>by
     have h2:(RF (jM F) g u 0).den=some (.inr (.inr ())):=by
      simp only[RF,Mo.den,aN,aG,aH,aK,aJ,hn,List.length_nil]
      rfl
     exact aoR h2
    simp only[hL,hn,Bool.not_true,cond_false] at h ⊢
    cases hnm:nameB u.aT with
    |false=>rw[hnm] at h;cases h
    |true=>
     rw[hnm] at h
     cases h0:e != 0 with
     |true=>
      rw[h0] at h
      have h:some e=some 0:=h
      injection h with h
      rw[h] at h0;cases h0
     |false=>
      have h0:e=0:=by simpa using h0
      subst h0
      exact⟨aoL hb he,rfl⟩
  exfalso
  have k1:(bif decide (u.aB<2) then true else decide ((3:Int)<u.aB))=true:=by
   by_cases k:u.aB<2
   ·rw[decide_eq_true k];rfl
   rw[decide_eq_false k,decide_eq_true (show(3:Int)<u.aB by omega)];rfl
  obtain⟨r,hu,-⟩:=rF u.aB
  obtain⟨b,hu2,-⟩:=pW u
  simp only[aed,Nz,NC,F6,Mo.den,aN,aG,aH,aK,aJ,hu,hu2,k1,Gx,Option.bind_some,cond_true] at h
  cases h
abbrev anO:ByteArray:=⟨#[108,97,119]⟩
noncomputable abbrev aow (P:Int) (ws:List ay):bD:=bD.mk 0 P ⟨#[]⟩ 0 (ay.afH (ay.amV (ay.qP ay.z 9) ⟨#[108,97,119]⟩) ws)
noncomputable abbrev aop (S:Int) (ws:List ay):bD:=bD.mk 0 S ⟨#[]⟩ 0 (ay.afH (ay.qP ay.z 8) ws)
noncomputable abbrev aox (C S:Int):bD:=bD.mk 0 C ⟨#[]⟩ 0 (ay.ai4 (ay.amV (ay.qP ay.z 10) ⟨#[108,97,119]⟩) S)
theorem anP{P:Int}{w:ay}(hb:aU w.lf1≤100000000):Q66 (bD.mk 0 P ⟨#[]⟩ 0 w)=some 0↔(1≤P∧P≤1099511627776)∧Q8 w 1 12=some 0:=by
 obtain⟨o,ho,-⟩:=nV w 1 12 hb
 show Mo.den (Xz (bD.mk 0 P ⟨#[]⟩ 0 w))=some 0↔_
 simp only[Xz,RH,RI,Ko,Mo.den,aN,aG,aH,aK,aJ,oM,ho,Gx,Option.bind_some,bD.aa1,bD.bW,bD.qj,bD.eU,bD.dZ,decide_eq_false (show ¬(0:Int)<0 by omega),decide_true,Bool.not_true,cond_false]
 by_cases h1:P<1
 ·rw[decide_eq_true h1]
  exact⟨fun h=>(by cases h),fun h=>by omega⟩
 rw[decide_eq_false h1]
 by_cases h2:1099511627776<P
 ·rw[decide_eq_true h2]
  exact⟨fun h=>(by cases h),fun h=>by omega⟩
 rw[decide_eq_false h2]
 exact⟨fun h=>⟨by omega,h⟩,fun h=>h.2⟩
theorem aoy{F:Nat}{g:Int}{w:ay}(hF:bQ (w.bG.map ay.lf)<F)(hb:bQ (w.bG.map ay.lf)≤1048576):Tot (aok (jM F) g w 0) (fun r=>match r with
 |.inl e=>e≠0∧∃u∈w.bG,(jM F).m1 u 2 g=some e
 |.inr _=>∀u∈w.bG,(jM F).m1 u 2 g=some 0):=by
 have hl:=jI w.bG
 refine T.lY w.bG.length (by omega) (fun k s=>s=(k:Int)∧∀u∈w.bG.take k,(jM F).m1 u 2 g=some 0) _ ⟨rfl,fun u hu=>by cases hu⟩ ?_ ?_
 ·rintro k s hk ⟨rfl,h3⟩
  obtain⟨u,hx⟩:∃u,w.bG[k]?=some u:=⟨_,List.getElem?_eq_getElem hk⟩
  have hm:=kV (gK hx)
  obtain⟨e,he,-⟩:=uw F u 2 g (by omega) (by omega)
  simp only[RF,Mo.den,aN,aG,aH,aK,aJ,ltt hx,gid hx,cond_true,he,Option.bind_some]
  cases h0:e != 0 with
  |true=>exact T.ret ⟨by simpa using h0,u,gK hx,he⟩
  |false=>
   have h0:e=0:=by simpa using h0
   subst h0
   refine T.ret ⟨inc k (by omega),fun v hv=>?_⟩
   rw[take_snoc hx] at hv
   rcases List.mem_append.1 hv with hv|hv
   ·exact h3 v hv
   rw[List.mem_singleton.1 hv];exact he
 rintro s ⟨rfl,h3⟩
 simp only[RF,Mo.den,aN,aG,aH,aK,aJ,ltn,cond_false]
 rw[List.take_length] at h3
 exact T.ret h3
theorem aoq{ws:List ay}{P:Int}(hb:bQ (ws.map ay.lf)≤1048576)(hbe:aU (ay.afH (ay.amV (ay.qP ay.z 9) ⟨#[108,97,119]⟩) ws).lf1≤100000000)(hbb:aU (ay.afH (ay.qP ay.z 8) ws).lf1≤100000000)(h:Q66 (aow P ws)=some 0):
 (1≤P∧P≤1099511627776)∧(∀u∈ws,(u.aB=2∨u.aB=3)∧(jP u.dL).2=true)∧∀S,1≤S→S≤1099511627776→Q66 (aop S ws)=some 0:=by
 obtain⟨hP,h⟩:=(anP hbe).1 h
 obtain⟨G,hG⟩:∃G,FU=G+1:=⟨FU-1,by have:=gq;omega⟩
 have hFU:=gq
 have o9:Q17 (ay.afH (ay.amV (ay.qP ay.z 9) ⟨#[108,97,119]⟩) ws)=some true:=by kernel_rfl
 have o8:Q17 (ay.afH (ay.qP ay.z 8) ws)=some true:=by kernel_rfl
 obtain⟨r9,u9,p1,p2,p3,p4,p5,p6,p7⟩:∃r,aki 9=some r∧r.lK=false∧r.zx=false∧r.gJ=false∧r.zy=true∧r.dw=false∧r.bJ=true∧r.kP=false:=⟨_,rfl,rfl,rfl,rfl,rfl,rfl,rfl,rfl⟩
 obtain⟨r8,u8,q1,q2,q3,q4,q5,q6,q7⟩:∃r,aki 8=some r∧r.lK=false∧r.zx=false∧r.gJ=false∧r.zy=false∧r.dw=false∧r.bJ=true∧r.kP=false:=⟨_,rfl,rfl,rfl,rfl,rfl,rfl,rfl,rfl⟩
 obtain⟨w,hw⟩:∃w,w=ay.afH (ay.amV (ay.qP ay.z 9) ⟨#[108,97,119]⟩) ws:=⟨_,rfl⟩
 obtain⟨v,hv⟩:∃v,v=ay.afH (ay.qP ay.z 8) ws:=⟨_,rfl⟩
 have w1:w.aB=9:=by rw[hw];rfl
 have w2:w.bG=ws:=by rw[hw];rfl
 have w3:nameB w.dP=true:=by rw[hw];rfl
 have v1:v.aB=8:=by rw[hv];rfl
 have v2:v.bG=ws:=by rw[hv];rfl
 have h:Q8 w 1 12=some 0:=by rw[hw];exact h
 have hbb':aU v.lf1≤100000000:=by rw[hv];exact hbb
 rw[←hw] at o9
 rw[←hv] at o8
 suffices g:(∀u∈ws,(u.aB=2∨u.aB=3)∧(jP u.dL).2=true)∧Q8 v 1 12=some 0 by
  refine⟨hP,g.1,fun S h1 h2=>(anP hbb).2 ⟨⟨h1,h2⟩,?_⟩⟩
  rw[←hv];exact g.2
 unfold Q8 at h ⊢
 rw[hG] at h ⊢
 have h:Mo.den (aed (jM G) w 1 12)=some 0:=h
 obtain⟨rl,el,ql⟩:=aoy (F:=G) (g:=3) (w:=w) (by rw[w2];omega) (by rw[w2];exact hb)
 simp only[aed,Nz,NC,F6,F7,F8,F9,Rx,Ry,Rz,RD,Mo.den,aN,aG,aH,aK,aJ,w1,o9,u9,p1,p2,p3,p4,p5,p6,p7,el,oM,w3,Gx,Option.bind_some,cond_true,cond_false,decide_eq_false (show ¬(9:Int)<1 by omega),decide_eq_false (show ¬(12:Int)<9 by omega),show((9:Int)==4)=false from rfl,show((9:Int)==6)=false from rfl,show((9:Int)==8)=false from rfl,show((9:Int)==9)=true from rfl,Bool.not_true] at h
 show _∧Mo.den (aed (jM G) v 1 12)=some 0
 rw[w2] at h
 cases h1:((ws.length:Int)==0) with
 |true=>rw[h1] at h;cases h
 |false=>
  rw[h1] at h
  cases h2:decide ((256:Int)<(ws.length:Int)) with
  |true=>rw[h2] at h;cases h
  |false=>
   rw[h2] at h
   rcases rl with e|u
   ·have h:some e=some 0:=h
    injection h with h
    exact absurd h ql.1
   rw[w2] at ql
   have hall:∀u∈ws,(u.aB=2∨u.aB=3)∧(jP u.dL).2=true∧(jM G).m1 u 2 7=some 0:=fun u hu=>aoC (by have:=kV hu;omega) (ql u hu)
   refine⟨fun u hu=>⟨(hall u hu).1,(hall u hu).2.1⟩,?_⟩
   obtain⟨rm,em,qm⟩:=aoy (F:=G) (g:=7) (w:=v) (by rw[v2];omega) (by rw[v2];exact hb)
   simp only[aed,Nz,NC,F6,F7,F8,F9,Rx,Ry,Rz,RD,Mo.den,aN,aG,aH,aK,aJ,v1,o8,u8,q1,q2,q3,q4,q5,q6,q7,em,v2,h1,h2,Gx,Option.bind_some,cond_true,cond_false,decide_eq_false (show ¬(8:Int)<1 by omega),decide_eq_false (show ¬(12:Int)<8 by omega),show((8:Int)==4)=false from rfl,show((8:Int)==6)=false from rfl,show((8:Int)==8)=true from rfl,Bool.not_true]
   rcases rm with e|_
   ·obtain⟨k1,u,k2,k3⟩:=qm
    rw[v2] at k2
    rw[(hall u k2).2.2] at k3
    injection k3 with k3
    exact absurd k3.symm k1
   rfl
theorem aor{C S:Int}(h:Q66 (aox C S)=some 0):1≤S∧S≤1099511627776:=by
 obtain⟨w,hw⟩:∃w,w=ay.ai4 (ay.amV (ay.qP ay.z 10) ⟨#[108,97,119]⟩) S:=⟨_,rfl⟩
 have hb:aU (ay.ai4 (ay.amV (ay.qP ay.z 10) ⟨#[108,97,119]⟩) S).lf1≤100000000:=by
  rw[dM]
  show 7+0+aU aj.z.lf1+aU aj.z.lf1+aU aj.z.lf1+aU ak.z.lf1+aU aW.z.lf1+3+0+0≤_
  rw[NU,aeS,aeU];decide
 obtain⟨-,h⟩:=(anP hb).1 h
 rw[←hw] at h hb
 obtain⟨G,hG⟩:∃G,FU=G+1:=⟨FU-1,by have:=gq;omega⟩
 obtain⟨r9,u9,p1,p2,p3,p4,p5,p6,p7⟩:∃r,aki 10=some r∧r.lK=false∧r.zx=false∧r.gJ=false∧r.zy=true∧r.dw=true∧r.bJ=false∧r.kP=false:=⟨_,rfl,rfl,rfl,rfl,rfl,rfl,rfl,rfl⟩
 have o9:Q17 (ay.ai4 (ay.amV (ay.qP ay.z 10) ⟨#[108,97,119]⟩) S)=some true:=by kernel_rfl
 rw[←hw] at o9
 have w1:w.aB=10:=by rw[hw];rfl
 have w2:w.bG=[]:=by rw[hw];rfl
 have w3:nameB w.dP=true:=by rw[hw];rfl
 have w4:w.bW=S:=by rw[hw];rfl
 have hs:amk w=some (bif decide (1≤S) then decide (S≤1099511627776) else false):=by
  show Mo.den (ad5 w)=_
  simp only[ad5,ZF,Mo.den,aN,aG,aH,aK,aJ,w1,w4,show((10:Int)==12)=false from rfl,cond_false,Gx,Option.bind_some]
 unfold Q8 at h
 rw[hG] at h
 have h:Mo.den (aed (jM G) w 1 12)=some 0:=h
 simp only[aed,Nz,NC,F6,F7,F8,F9,Rx,Ry,Mo.den,aN,aG,aH,aK,aJ,w1,w2,o9,u9,p1,p3,p4,p5,p6,p7,hs,oM,w3,Gx,Option.bind_some,cond_true,cond_false,decide_eq_false (show ¬(10:Int)<1 by omega),decide_eq_false (show ¬(12:Int)<10 by omega),Bool.not_true,List.length_nil] at h
 by_cases h1:1≤S
 ·rw[decide_eq_true h1] at h
  by_cases h2:S≤1099511627776
  ·exact⟨h1,h2⟩
  rw[decide_eq_false h2] at h;cases h
 rw[decide_eq_false h1] at h;cases h
theorem aas(l:List bD)(q:List aO)(hl:bQ (l.map bD.lf)≤1048576)(hq:∀p∈q,aU p.dL.lf1≤1048576)(hql:q.length≤1048576):Tot (Q11 l q) (fun b=>b=false→l.length≤40∧q.length≤20):=by
 have hll:=Sj l
 have h5:Tot (adQ l q 0) Any:=by
  refine T.lY q.length (by omega) (fun k s=>s=(k:Int)) _ rfl ?_ ?_
  ·rintro k s hk rfl
   obtain⟨u,hx⟩:∃u,q[k]?=some u:=⟨_,List.getElem?_eq_getElem hk⟩
   have hu:=hq u (gK hx)
   obtain⟨b,hb,-⟩:=ZN u.dL (by omega)
   simp only[Ad,Mo.den,aN,aG,aH,aK,aJ,ltt hx,gid hx,cond_true,Option.bind_some,hb]
   cases b with
   |true=>exact T.ret (inc k (by omega))
   |false=>exact T.ret trivial
  rintro s rfl
  simp only[Ad,Mo.den,aN,aG,aH,aK,aJ,ltn,cond_false]
  exact T.ret trivial
 have h22:Tot (Xw l 0) Any:=by
  refine T.lY l.length (by omega) (fun k s=>s=(k:Int)) _ rfl ?_ ?_
  ·rintro k s hk rfl
   obtain⟨u,hx⟩:∃u,l[k]?=some u:=⟨_,List.getElem?_eq_getElem hk⟩
   have hu:=Kq (gK hx)
   have h1:=lN u
   have h2:=dM u.dZ
   have h3:=jI u.dZ.bG
   have h16:Tot (Xv l (k:Int) u 0) Any:=by
    refine T.lY u.dZ.bG.length (by omega) (fun k s=>s=(k:Int)) _ rfl ?_ ?_
    ·rintro k s hk rfl
     obtain⟨y,hy⟩:∃y,u.dZ.bG[k]?=some y:=⟨_,List.getElem?_eq_getElem hk⟩
     simp only[wM,Mo.den,aN,aG,aH,aK,aJ,ltt hy,gid hy,cond_true,Option.bind_some]
     cases decide ((5:Int)<(y.gy.bn.length:Int)) with
     |true=>exact T.ret trivial
     |false=>exact T.ret (inc k (by omega))
    rintro s rfl
    simp only[wM,Mo.den,aN,aG,aH,aK,aJ,ltn,cond_false]
    exact T.ret trivial
   obtain⟨r,hr,-⟩:=h16
   simp only[wO,JO,Mo.den,aN,aG,aH,aK,aJ,ltt hx,gid hx,cond_true,Option.bind_some,hr]
   cases decide ((20:Int)<(u.dZ.bG.length:Int)) with
   |true=>exact T.ret trivial
   |false=>
    simp only[cond_false,Option.bind_some]
    cases decide ((5:Int)<(u.dZ.gy.bn.length:Int)) with
    |true=>exact T.ret trivial
    |false=>
     rcases r with r|r
     ·exact T.ret trivial
     exact T.ret (inc k (by omega))
  rintro s rfl
  simp only[wO,Mo.den,aN,aG,aH,aK,aJ,ltn,cond_false]
  exact T.ret trivial
 obtain⟨r5,e5,-⟩:=h5
 obtain⟨r22,e22,-⟩:=h22
 show Tot (Mo.den (adR l q)) _
 simp only[adR,Rh,Mo.den,aN,aG,aH,aK,aJ,e5,e22,Option.bind_some]
 cases h1:decide ((40:Int)<(l.length:Int)) with
 |true=>exact T.ret fun h=>by cases h
 |false=>
  simp only[cond_false,Option.bind_some]
  cases h2:decide ((20:Int)<(q.length:Int)) with
  |true=>exact T.ret fun h=>by cases h
  |false=>
   have h1:=of_decide_eq_false h1
   have h2:=of_decide_eq_false h2
   rcases r5 with r5|r5
   ·exact T.ret fun h=>by cases h
   rcases r22 with r22|r22
   ·exact T.ret fun h=>by cases h
   exact T.ret fun _=>⟨by omega,by omega⟩
theorem aat:amC=some true:=by kernel_rfl
end Go.Proofs.YtpdlghcgekojlaaGreatDoor
namespace Go.Proofs.YtpdlghcgekojlaaGreatDoor
open Go.RowKit
theorem anQ(P:Int)(w:ay)(a:Int)(q:List ak)(d:aZ)(x:TxL)(z:SeL):Q54 (bD.mk 0 P ⟨#[]⟩ 0 w) a q d x z=(Q66 (bD.mk 0 P ⟨#[]⟩ 0 w)).bind fun v=>bif v != 0 then some (v,a,q,d,x,z) else bif decide (P≤a) then some (23,a,q,d,x,z) else(Q43 w P a q d x z).bind fun r=>bif r.1 != 0 then some (r.1,a,r.2.1,r.2.2.1,r.2.2.2,z) else some (0,P,r.2.1,r.2.2.1,r.2.2.2,z):=by
 show Mo.den (aej (bD.mk 0 P ⟨#[]⟩ 0 w) a q d x z)=_
 simp only[aej,RS,Mo.den,aN,aG,aH,aK,aJ,bD.bW,bD.eU,bD.dZ,decide_true,Bool.not_true,cond_false,Option.bind_some]
section
variable {K:Nat} {a P:Int} {q:List ak} {d:aZ} {x:TxL} {z:SeL} {ws:List ay}
theorem an5:aU (ay.afH (ay.amV (ay.qP ay.z 9) ⟨#[108,97,119]⟩) ws).lf1=81+bQ (ws.map ay.lf):=by
 rw[dM]
 show 7+0+aU aj.z.lf1+aU aj.z.lf1+aU aj.z.lf1+aU ak.z.lf1+aU aW.z.lf1+3+bQ (ws.map ay.lf)+0=_
 rw[NU,aeS,aeU];omega
theorem aoh:aU (ay.afH (ay.qP ay.z 8) ws).lf1=78+bQ (ws.map ay.lf):=by
 rw[dM]
 show 7+0+aU aj.z.lf1+aU aj.z.lf1+aU aj.z.lf1+aU ak.z.lf1+aU aW.z.lf1+0+bQ (ws.map ay.lf)+0=_
 rw[NU,aeS,aeU];omega
theorem aoD(hK:K≤50000000)(h:Sv K q d x z)(hw:bQ (ws.map ay.lf)≤1048576):Tot (Q54 (aow P ws) a q d x z) (fun r=>r.1≠0∨(r=(0,P,q,d,eF anO ⟨P,ws.map yP⟩ x,z)∧a<P∧Q66 (aow P ws)=some 0∧aI anO x=none∧(∀y∈ws,tV d y.aT=true∧holdV y.aT y.dL x=(⟨#[]⟩:ByteArray)∧SK y.aT y.dL d<P)∧ws.Pairwise fun u y=>clash y u=false)):=by
 obtain⟨v,hv,-⟩:=DF (aow P ws) (by rw[lN];show 4+0+aU (ay.afH (ay.amV (ay.qP ay.z 9) ⟨#[108,97,119]⟩) ws).lf1≤_;rw[an5];omega)
 have hv':Q66 (bD.mk 0 P ⟨#[]⟩ 0 (ay.afH (ay.amV (ay.qP ay.z 9) ⟨#[108,97,119]⟩) ws))=some v:=hv
 rw[anQ,hv',Option.bind_some]
 refine T.ite (fun h1=>T.ret (.inl (by simpa using h1))) (fun h1=>?_)
 have h1:v=0:=by simpa using h1
 subst h1
 refine T.ite (fun h2=>T.ret (.inl (show(23:Int)≠0 by decide))) (fun h2=>?_)
 have h2:=of_decide_eq_false h2
 have hJ0:∀w:ay,w.aB=9→Q43 w P a q d x z=(Q20 w P a q d x z).bind fun r=>some (r.1,q,d,r.2):=fun w hk=>by
  show Mo.den (aei w P a q d x z)=_
  simp only[aei,U5,RP,Mo.den,aN,aG,aH,aK,aJ,hk,show((9:Int)==1)=false from rfl,show((9:Int)==12)=false from rfl,show((9:Int)==8)=false from rfl,show((9:Int)==9)=true from rfl,cond_true,cond_false,Option.bind_some]
 rw[hJ0 _ rfl]
 obtain⟨r,hr,hq⟩:=SQ (a:=a) hK h (ay.afH (ay.amV (ay.qP ay.z 9) ⟨#[108,97,119]⟩) ws) hw P
 rw[hr,Option.bind_some,Option.bind_some]
 rcases hq with⟨r1,-⟩|⟨r1,r2,r3,r4,r5⟩
 ·rw[show(r.1 != 0)=true by simpa using r1]
  exact T.ret (.inl r1)
 rw[show(r.1 != 0)=false by simpa using r1, r4]
 refine T.ret (.inr ⟨rfl,by omega,rfl,r2,fun y hy=>?_,r5⟩)
 exact Vw hK h.bd (by have:=kV hy;omega) (r3 y hy)
theorem aoE{C S:Int}{p:ah}(hK:K+1048576≤50000000)(h:Sv K q d x z)(hp:aI anO x=some p):Tot (Q54 (aox C S) a q d x z) (fun r=>r.1≠0∨(r=(0,C,q,p.bJ.foldl (yQ S) d,dH anO x,z)∧p.dw≤S∧Q66 (aox C S)=some 0∧Sv (K+1048576) q (p.bJ.foldl (yQ S) d) (dH anO x) z)):=by
 obtain⟨v,hv,-⟩:=DF (aox C S) (by
  rw[lN]
  show 4+0+aU (ay.ai4 (ay.amV (ay.qP ay.z 10) ⟨#[108,97,119]⟩) S).lf1≤_
  rw[dM]
  show 4+0+(7+0+aU aj.z.lf1+aU aj.z.lf1+aU aj.z.lf1+aU ak.z.lf1+aU aW.z.lf1+3+0+0)≤_
  rw[NU,aeS,aeU];decide)
 have hv':Q66 (bD.mk 0 C ⟨#[]⟩ 0 (ay.ai4 (ay.amV (ay.qP ay.z 10) ⟨#[108,97,119]⟩) S))=some v:=hv
 rw[anQ,hv',Option.bind_some]
 refine T.ite (fun h1=>T.ret (.inl (by simpa using h1))) (fun h1=>?_)
 have h1:v=0:=by simpa using h1
 subst h1
 refine T.ite (fun h2=>T.ret (.inl (show(23:Int)≠0 by decide))) (fun h2=>?_)
 have hJ0:∀w:ay,w.aB=10→Q43 w C a q d x z=(Q35 w a q d x z).bind fun r=>some (r.1,q,r.2.1,r.2.2):=fun w hk=>by
  show Mo.den (aei w C a q d x z)=_
  simp only[aei,U5,RP,Mo.den,aN,aG,aH,aK,aJ,hk,show((10:Int)==1)=false from rfl,show((10:Int)==12)=false from rfl,show((10:Int)==8)=false from rfl,show((10:Int)==9)=false from rfl,show((10:Int)==10)=true from rfl,cond_true,cond_false,Option.bind_some]
 rw[hJ0 _ rfl]
 obtain⟨r,hr,hq⟩:=Vx (a:=a) hK h (ay.ai4 (ay.amV (ay.qP ay.z 10) ⟨#[108,97,119]⟩) S)
 rw[hr,Option.bind_some,Option.bind_some]
 rcases hq with⟨r1,-⟩|⟨r1,⟨p',k1,k2,k3⟩,r3,r4⟩
 ·rw[show(r.1 != 0)=true by simpa using r1]
  exact T.ret (.inl r1)
 have k1:aI anO x=some p':=k1
 rw[hp] at k1
 injection k1 with k1
 subst k1
 have k3:r.2.1=p.bJ.foldl (yQ S) d:=k3
 have r3:r.2.2=dH anO x:=r3
 rw[show(r.1 != 0)=false by simpa using r1]
 rw[k3,r3] at r4
 refine T.ret (.inr ⟨?_,k2,rfl,r4⟩)
 rw[k3,r3]
theorem aos{S:Int}(hK:K+ws.length≤50000000)(h:Sv K q d x z)(hw:bQ (ws.map ay.lf)≤1048576)(hv:Q66 (aop S ws)=some 0)(ha:a<S)(hp:∀w∈ws,aoH S d x w)(hc:ws.Pairwise Apart):Q54 (aop S ws) a q d x z=some (0,S,q,ws.foldl (yQ S) d,x,z):=by
 have hl:=jI ws
 have hv':Q66 (bD.mk 0 S ⟨#[]⟩ 0 (ay.afH (ay.qP ay.z 8) ws))=some 0:=hv
 have hJ0:∀w:ay,w.aB=8→Q43 w S a q d x z=(ag6 w.bG S a q d x z).bind fun r=>some (r.1,r.2.1,r.2.2,x):=fun w hk=>by
  show Mo.den (aei w S a q d x z)=_
  simp only[aei,U5,RP,Mo.den,aN,aG,aH,aK,aJ,hk,show((8:Int)==1)=false from rfl,show((8:Int)==12)=false from rfl,show((8:Int)==8)=true from rfl,cond_true,cond_false,Option.bind_some]
 rw[anQ,hv',Option.bind_some,hJ0 _ rfl,decide_eq_false (by omega)]
 have hb:ag6 ws S a q d x z=some (0,q,ws.foldl (yQ S) d):=by
  unfold ag6
  rw[Nat.ble_eq_true_of_le (show(ws.length+1)*8≤140737488355328 by omega)]
  exact an4 ws K [] d hK h (fun w hm=>by have:=kV hm;omega) hp hc
 have hb':ag6 (ay.afH (ay.qP ay.z 8) ws).bG S a q d x z=some (0,q,ws.foldl (yQ S) d):=hb
 rw[hb']
 rfl
end
theorem aot(l:List bD):aoQ l=Q11 l []:=by
 have e5:adQ l [] 0=some (.inr ()):=NP ([]:List aO) (by simp) _ (fun k x hx=>by cases hx) (by simp only[Ad,Mo.den,aN,aG,aH,aK,aJ,ltn,cond_false])
 have e5':aou l=some ():=by kernel_rfl
 have e22:aoa l 0=Xw l 0:=by kernel_rfl
 show Mo.den (aol l)=Mo.den (adR l [])
 simp only[adR,Rh,aol,an6,Mo.den,aN,aG,aH,aK,aJ,e5,e5',e22,Option.bind_some,List.length_nil,decide_eq_false (show ¬(20:Int)<((0:Nat):Int) by omega)]
theorem aoF{K:Nat}(hK:K+1048577≤50000000){a:Int}{q:List ak}{d:aZ}{x:TxL}{z:SeL}(I:Ti K q d x z)(e:bD)(he:aU e.lf1≤1048576)(fe:∀u∈e.dZ.bG,qL u.dL):Tot (Q54 e a q d x z) (fun r=>Ti (K+1048577) r.2.2.1 r.2.2.2.1 r.2.2.2.2.1 r.2.2.2.2.2):=by
 obtain⟨r,hr,hq⟩:=aah hK (a:=a) I.sv e he
 refine⟨r,hr,?_⟩
 rcases hq with⟨q1,q2,q3,q4,q5,q6⟩|⟨q1,q2,q3,q4,q5,q6⟩
 ·have hs:=I.sv.ext q4
  rw[q3,q5,q6]
  exact⟨hs.le (by omega),I.uq,I.fit⟩
 exact I.step he q5 q4 q6 fe
theorem anT(X:lS)(hl:bQ (X.aa3.map bD.lf)≤1048576)(hw:bQ (X.bG.map ay.lf)≤1048576)(fe:∀e∈X.aa3,∀u∈e.dZ.bG,qL u.dL)(fw:∀u∈X.bG,qL u.dL):aoP X=some true:=by
 obtain⟨b,hb,hbl⟩:=aas X.aa3 [] hl (fun p hp=>by cases hp) (Nat.zero_le _)
 rw[←aot] at hb
 have hn:ahf=some ():=rfl
 have hJ0:an9 X=some (bif b then true else decide ((20:Int)<(X.bG.length:Int))):=by
  unfold an9 an8
  simp only[Mo.den,aN,aG,aH,aK,aJ,hb,Gx,Option.bind_some]
 show Mo.den (aon X)=_
 simp only[aon,Mo.den,aN,aG,aH,aK,aJ,hJ0,hn,aat,Option.bind_some]
 cases b with
 |true=>rfl
 |false=>
 obtain⟨hll,-⟩:=hbl rfl
 simp only[cond_false]
 by_cases hwl:(20:Int)<(X.bG.length:Int)
 ·rw[decide_eq_true hwl];rfl
 rw[decide_eq_false hwl]
 simp only[cond_false]
 have hL5:Tot (aov X 0 (⟨[],[]⟩:aZ) [] [] 0 [] (⟨[],[]⟩:aZ) [] [] 0 []) (fun r=>∃d x z a q,r=.inr (d,x,z,a,q,d,x,z,a,q)∧Ti (X.aa3.length*1048577) q d x z):=by
  refine T.lY X.aa3.length (by omega) (fun k s=>∃d x z a q,s=((k:Int),d,x,z,a,q,d,x,z,a,q)∧Ti (k*1048577) q d x z) _ ⟨_,_,_,_,_,rfl,by rw[Nat.zero_mul];exact sv0,⟨fun _ _ h=>(by cases h),fun _ _ _ _ _ _ h=>by cases h⟩,fun _ _ h=>by cases h⟩ ?_ ?_
  ·rintro k s hk ⟨d,x,z,a,q,rfl,I⟩
   obtain⟨e,hx⟩:∃u,X.aa3[k]?=some u:=⟨_,List.getElem?_eq_getElem hk⟩
   have he:=Kq (gK hx)
   obtain⟨r,hr,hq⟩:=aoF (K:=k*1048577) (by omega) (a:=a) I e (by omega) (fe e (gK hx))
   simp only[anR,Mo.den,aN,aG,aH,aK,aJ,ltt hx,gid hx,cond_true,hr,Option.bind_some,bne_self_eq_false,cond_false]
   exact T.ret ⟨_,_,_,_,_,by rw[inc k (by omega)],by rw[Nat.succ_mul];exact hq⟩
  rintro s ⟨d,x,z,a,q,rfl,I⟩
  simp only[anR,Mo.den,aN,aG,aH,aK,aJ,ltn,cond_false]
  exact T.ret ⟨_,_,_,_,_,rfl,I⟩
 obtain⟨r5,e5,d,x,z,a,q,rfl,I⟩:=hL5
 have hKb:X.aa3.length*1048577≤41943080:=by omega
 generalize X.aa3.length*1048577=K at I hKb
 rw[e5]
 simp only[Option.bind_some]
 obtain⟨r1,hr1,hq1⟩:=aoD (a:=a) (P:=X.aa4) (K:=K) (by omega) I.sv hw
 have hr1':Q54 (bD.mk 0 X.aa4 ⟨#[]⟩ 0 (ay.afH (ay.amV (ay.qP ay.z 9) ⟨#[108,97,119]⟩) X.bG)) a q d x z=some r1:=hr1
 rw[hr1',Option.bind_some]
 rcases hq1 with h1|⟨rfl,haP,hv,hnone,hfree,hcl⟩
 ·rw[show(r1.1 != 0)=true by simpa using h1];rfl
 simp only[bne_self_eq_false,cond_false]
 have hbu:∀w∈X.bG,aU w.lf1≤1048576∧aU w.dL.lf1≤1048576:=fun w hm=>by
  have h1:=kV hm
  have h2:=dM w
  omega
 obtain⟨hP,hput,hbatch⟩:=aoq hw (by rw[an5];omega) (by rw[aoh];omega) hv
 have own1:bQ ((X.bG.map yP).map ay.lf)≤1048576:=Nat.le_trans (GV _) hw
 have sv1:Sv (K+1) q d (eF anO ⟨X.aa4,X.bG.map yP⟩ x) z:=I.sv.amL (Nat.le_refl _) anO ⟨X.aa4,X.bG.map yP⟩ own1
 have holds1:∀w∈X.bG,Holds w.aT (core w.dL) ⟨X.aa4,X.bG.map yP⟩:=fun w hm=>⟨yP w,List.mem_map_of_mem hm,rfl,rfl⟩
 have uq1:Uq (eF anO ⟨X.aa4, X.bG.map yP⟩ x):=I.uq.put (by decide) fun t r sp c hr k1 k2=>by
  obtain⟨w,hm,e1,e2⟩:=k2
  obtain⟨y,hy,rfl⟩:=List.mem_map.1 hm
  have e1:y.aT=sp:=e1
  have e2:core y.dL=c:=e2
  subst e1 e2
  have:=hbu y hy
  exact aaq I (by omega) (hfree y hy).2.1 t r hr k1
 have get1:aI anO (eF anO ⟨X.aa4,X.bG.map yP⟩ x)=some ⟨X.aa4,X.bG.map yP⟩:=fH _ _ _
 have hold1:∀w∈X.bG,holdV w.aT w.dL (eF anO ⟨X.aa4,X.bG.map yP⟩ x)=anO:=fun w hm=>by
  have:=hbu w hm
  rcases GY sv1 uq1 (sp:=w.aT) (key:=w.dL) (by omega) with⟨_,e⟩|⟨p,_,e2,e3⟩
  ·exact absurd (holds1 w hm) (e _ _ get1)
  exact uq1.one _ _ _ _ _ _ e2 get1 e3 (holds1 w hm)
 have hdel:dH anO (eF anO ⟨X.aa4,X.bG.map yP⟩ x)=x:=Gz hnone
 generalize hx1:eF anO ⟨X.aa4,X.bG.map yP⟩ x=x1 at sv1 uq1 get1 hold1 hdel ⊢
 have hL16:aob (d, x, z, a, q, d, x, z, a, q) X (0, X.aa4, q, d, x1, z) 0=some (.inr ()):=NP X.bG (by omega) _ (fun k w hx=>by
  have hm:=gK hx
  have hb:=hbu w hm
  have hg:uD w.aT w.dL X.aa4 d x1=(AP,30):=by
   unfold uD
   rw[(hfree w hm).1,hold1 w hm]
   have e2:oI x1 anO=⟨X.aa4,X.bG.map yP⟩:=by unfold oI;rw[get1];rfl
   rw[e2]
   show(bif (bif !decide (anO=(⟨#[]⟩:ByteArray)) then decide (X.aa4≤X.aa4) else false) then _ else _)=_
   rw[decide_eq_true (Int.le_refl _)]
   rfl
  have hg':=ahx (K:=K+1) (by omega) (a:=X.aa4) sv1.bd w.aT (key:=w.dL) (by omega) X.aa4
  have hh':=yO (K:=K+1) (by omega) (a:=X.aa4) sv1.bd w.aT (key:=w.dL) (by omega)
  rw[hg] at hg'
  rw[hold1 w hm] at hh'
  have hJ11:anV (d,x,z,a,q,d,x,z,a,q) X (0,X.aa4,q,d,x1,z) (AP,30) (k:Int)=some false:=by
   unfold anV anS
   simp only[Mo.den,aN,aG,aH,aK,aJ,gid hx,hh',Option.bind_some,decide_true,Bool.not_true,cond_false,bne_self_eq_false]
  simp only[anM,Mo.den,aN,aG,aH,aK,aJ,ltt hx,gid hx,cond_true,hg',hJ11,Option.bind_some,cond_false]) (by simp only[anM,Mo.den,aN,aG,aH,aK,aJ,ltn,cond_false])
 rw[hL16]
 simp only[Option.bind_some]
 obtain⟨r2,hr2,hq2⟩:=aoE (a:=X.aa4) (C:=X.afB) (S:=X.bW) (K:=K+1) (by omega) sv1 get1
 have hr2':Q54 (bD.mk 0 X.afB ⟨#[]⟩ 0 (ay.ai4 (ay.amV (ay.qP ay.z 10) ⟨#[108,97,119]⟩) X.bW)) X.aa4 q d x1 z=some r2:=hr2
 rw[hr2',Option.bind_some]
 rcases hq2 with h2|⟨rfl,hPS,hv2,sv2⟩
 ·rw[show(r2.1 != 0)=true by simpa using h2];rfl
 simp only[bne_self_eq_false,cond_false]
 have hPS:X.aa4≤X.bW:=hPS
 have hS:=aor hv2
 have hput1:∀w∈X.bG,aoH X.bW d x w:=fun w hm=>⟨(hput w hm).1,(hfree w hm).1,(hfree w hm).2.1,by have:=(hfree w hm).2.2;omega,(hput w hm).2⟩
 have hap:X.bG.Pairwise Apart:=by
  refine(List.Pairwise.and_mem.1 hcl).imp fun {u y} h=>?_
  obtain⟨hu,hy,hc⟩:=h
  rintro⟨k1,k2⟩
  have e1:jP u.dL=((jP y.dL).1,true):=by rw[←k2,←(hput u hu).2]
  have e2:jP y.dL=((jP y.dL).1,true):=by rw[←(hput y hy).2]
  have e3:=code_inj (fw u hu) (fw y hy) e1 e2
  have b1:=hbu u hu
  unfold clash at hc
  rw[←k1,decide_eq_true rfl,e3] at hc
  have:=(ahF (a:=y.dL) (b:=y.dL) (by have:=hbu y hy;omega) (by have:=hbu y hy;omega)).2 rfl
  rw[this] at hc;cases hc
 have hb2:=aos (a:=a) (K:=K) (by omega) I.sv hw (hbatch X.bW hS.1 hS.2) (by omega) hput1 hap
 have hb2':Q54 (bD.mk 0 X.bW ⟨#[]⟩ 0 (ay.afH (ay.qP ay.z 8) X.bG)) a q d x z=some (0,X.bW,q,X.bG.foldl (yQ X.bW) d,x,z):=hb2
 have hfold:(ah.mk X.aa4 (X.bG.map yP)).bJ.foldl (yQ X.bW) d=X.bG.foldl (yQ X.bW) d:=aof _ _ _
 rw[hfold,hdel] at sv2 ⊢
 have hJ22:an0 (d,x,z,a,q,d,x,z,a,q) X (0,X.afB,q,X.bG.foldl (yQ X.bW) d,x,z)=some (false,X.bG.foldl (yQ X.bW) d,x,z,X.bW,q):=by
  unfold an0 anZ
  simp only[Mo.den,aN,aG,aH,aK,aJ,decide_eq_false (show ¬X.bW<X.aa4 by omega),cond_false,hb2',Option.bind_some,bne_self_eq_false]
 rw[hJ22]
 simp only[Option.bind_some,cond_false]
 have hrows:∀w∈X.bG,tV d w.aT=true∧(jP w.dL).2=true:=fun w hm=>⟨(hfree w hm).1,(hput w hm).2⟩
 have hL33:aoc X (0, X.afB, q, X.bG.foldl (yQ X.bW) d, x, z) (false, X.bG.foldl (yQ X.bW) d, x, z, X.bW, q) 0=some (.inr ()):=NP X.bG (by omega) _ (fun k w hx=>by
  have hm:=gK hx
  have hb:=hbu w hm
  have hlast:=aoA (t:=X.bW) I.sv.wf hrows hm
  have hhas:=(anX (t:=X.bW) X.bG d I.sv.wf hrows w.aT ⟨#[]⟩).1
  rw[(hfree w hm).1] at hhas
  generalize hd2:X.bG.foldl (yQ X.bW) d=d2 at sv2 hlast hhas ⊢
  have hg:(uD w.aT w.dL X.bW d2 x).2=0:=by
   unfold uD
   rw[hhas,(hfree w hm).2.1]
   cases (jP w.dL).2<;>rfl
  have hbg:=aak sv2.bd w.aT w.dL X.bW
  have hg1:=ahx (K:=K+1+1048576) (by omega) (a:=X.afB) sv2.bd w.aT (key:=w.dL) (by omega) X.bW
  have hg2:=ahx (K:=K+1+1048576) (by omega) (a:=X.bW) sv2.bd w.aT (key:=w.dL) (by omega) X.bW
  have hl1:=SL (K:=K+1+1048576) (by omega) (a:=X.afB) sv2.bd w.aT (key:=w.dL) (by omega)
  have hh1:=yO (K:=K+1+1048576) (by omega) (a:=X.afB) sv2.bd w.aT (key:=w.dL) (by omega)
  rw[hlast] at hl1
  rw[(hfree w hm).2.1] at hh1
  generalize uD w.aT w.dL X.bW d2 x=g at hg hbg hg1 hg2
  have hsm:Q2 g.1 g.1=some true:=DI _ (by omega)
  have hJ28:an2 X (0,X.afB,q,d2,x,z) (false,d2,x,z,X.bW,q) g g (k:Int) w=some false:=by
   unfold an2 an1
   simp only[Mo.den,aN,aG,aH,aK,aJ,hg,hsm,hl1,hh1,bne_self_eq_false,cond_false,Option.bind_some,Bool.not_true,decide_true]
  simp only[anN,Mo.den,aN,aG,aH,aK,aJ,ltt hx,gid hx,cond_true,hg1,hg2,hJ28,Option.bind_some,cond_false]) (by simp only[anN,Mo.den,aN,aG,aH,aK,aJ,ltn,cond_false])
 rw[hL33]
 rfl
theorem aoi{u:ay}(h:nY u.lf1):qL u.dL:=by
 unfold ay.lf1 at h
 simp only[vP] at h
 exact XU _ _ (Nat.lt_succ_self _) h.2.1
theorem aoG{e:bD}(h:nY e.lf1):∀u∈e.dZ.bG,qL u.dL:=fun u hu=>aoi ((aao (aap h)).2 u hu)
theorem anU(X:lS)(h1:aU X.lf1≤1048576)(f1:nY X.lf1):aoP X=some true:=by
 have hb:bQ (X.aa3.map bD.lf)≤1048576∧bQ (X.bG.map ay.lf)≤1048576:=by
  simp only[lS.lf1,aU,Lf.bulk] at h1
  omega
 unfold lS.lf1 at f1
 simp only[wZ] at f1
 exact anT X hb.1 hb.2 (fun e he=>by have h:=vS f1.1 he;rw[bD.aY] at h;exact aoG h) (fun u hu=>by have h:=vS f1.2.1 hu;rw[ay.aY] at h;exact aoi h)
end Go.Proofs.YtpdlghcgekojlaaGreatDoor
