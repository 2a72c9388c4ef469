/- Plain: DatasetRefuses. -/
import Derived.Test.YtpdlghcgekojlaaGreatDoorQH9
set_option linter.unusedSimpArgs false
set_option linter.unusedVariables false
namespace Go.Proofs.YtpdlghcgekojlaaGreatDoor
open Go.RowKit
theorem aas(l:List bD)(q:List aO)(hl:bQ (l.map bD.lf)≤1048576)(hq:∀p∈q,aU p.dL.lf1≤1048576)(hql:q.length≤1048576):Tot (Q11 l q) (fun b=>b=false→l.length≤40∧q.length≤20):=by
 have hll:=Sj l
 have h5:Tot (adQ l q 0) Any:=by
  refine T.lY q.length (by omega) (fun k s=>s=(k:Int)) _ rfl ?_ ?_
  ·rintro k s hk rfl
   obtain⟨u,hx⟩:∃u,q[k]?=some u:=⟨_,List.getElem?_eq_getElem hk⟩
   have hu:=hq u (gK hx)
   obtain⟨b,hb,-⟩:=ZN u.dL (by omega)
   simp only[Ad,Mo.den,aN,aG,aH,aK,aJ,ltt hx,gid hx,cond_true,Option.bind_some,hb]
   cases b with
   |true=>exact T.ret (inc k (by omega))
   |false=>exact T.ret trivial
  rintro s rfl
  simp only[Ad,Mo.den,aN,aG,aH,aK,aJ,ltn,cond_false]
  exact T.ret trivial
 have h22:Tot (Xw l 0) Any:=by
  refine T.lY l.length (by omega) (fun k s=>s=(k:Int)) _ rfl ?_ ?_
  ·rintro k s hk rfl
   obtain⟨u,hx⟩:∃u,l[k]?=some u:=⟨_,List.getElem?_eq_getElem hk⟩
   have hu:=Kq (gK hx)
   have h1:=lN u
   have h2:=dM u.dZ
   have h3:=jI u.dZ.bG
   have h16:Tot (Xv l (k:Int) u 0) Any:=by
    refine T.lY u.dZ.bG.length (by omega) (fun k s=>s=(k:Int)) _ rfl ?_ ?_
    ·rintro k s hk rfl
     obtain⟨y,hy⟩:∃y,u.dZ.bG[k]?=some y:=⟨_,List.getElem?_eq_getElem hk⟩
     simp only[wM,Mo.den,aN,aG,aH,aK,aJ,ltt hy,gid hy,cond_true,Option.bind_some]
     cases decide ((5:Int)<(y.gy.bn.length:Int)) with
     |true=>exact T.ret trivial
     |false=>exact T.ret (inc k (by omega))
    rintro s rfl
    simp only[wM,Mo.den,aN,aG,aH,aK,aJ,ltn,cond_false]
    exact T.ret trivial
   obtain⟨r,hr,-⟩:=h16
   simp only[wO,JO,Mo.den,aN,aG,aH,aK,aJ,ltt hx,gid hx,cond_true,Option.bind_some,hr]
   cases decide ((20:Int)<(u.dZ.bG.length:Int)) with
   |true=>exact T.ret trivial
   |false=>
    simp only[cond_false,Option.bind_some]
    cases decide ((5:Int)<(u.dZ.gy.bn.length:Int)) with
    |true=>exact T.ret trivial
    |false=>
     rcases r with r|r
     ·exact T.ret trivial
     exact T.ret (inc k (by omega))
  rintro s rfl
  simp only[wO,Mo.den,aN,aG,aH,aK,aJ,ltn,cond_false]
  exact T.ret trivial
 obtain⟨r5,e5,-⟩:=h5
 obtain⟨r22,e22,-⟩:=h22
 show Tot (Mo.den (adR l q)) _
 simp only[adR,Rh,Mo.den,aN,aG,aH,aK,aJ,e5,e22,Option.bind_some]
 cases h1:decide ((40:Int)<(l.length:Int)) with
 |true=>exact T.ret fun h=>by cases h
 |false=>
  simp only[cond_false,Option.bind_some]
  cases h2:decide ((20:Int)<(q.length:Int)) with
  |true=>exact T.ret fun h=>by cases h
  |false=>
   have h1:=of_decide_eq_false h1
   have h2:=of_decide_eq_false h2
   rcases r5 with r5|r5
   ·exact T.ret fun h=>by cases h
   rcases r22 with r22|r22
   ·exact T.ret fun h=>by cases h
   exact T.ret fun _=>⟨by omega,by omega⟩
theorem aat:amC=some true:=by kernel_rfl
theorem G7(v:aO):aU v.dL.lf1+1≤aU v.lf1:=by simp only[aO.lf1,fF,aU,Lf.bulk];omega
theorem aau{x:aO}{l:List aO}(h:x∈l):aU x.dL.lf1+1≤bQ (l.map aO.lf):=Nat.le_trans (G7 x) (iw _ h)
theorem VD(l:List aO):l.length≤bQ (l.map aO.lf):=fD _ (fun x=>by have:=G7 x;rw[aO.aY];omega) l
def drB(w:ay)(sp:ByteArray):Bool:=w.bG.any (fun u=>bif u.aB==5 then decide (u.aT=sp) else false)||(bif w.aB==5 then decide (w.aT=sp) else false)
theorem aav(w:ay)(sp:ByteArray)(h:w.bG.length≤100000000):Q27 w sp=some (drB w sp):=by
 have h5:aes sp w 0=some (bif w.bG.any (fun u=>bif u.aB==5 then decide (u.aT=sp) else false) then .inl () else .inr ()):=by
  refine XM w.bG h _ _ (fun k u hx=>?_) ?_
  ·simp only[Ai,RX,Mo.den,aN,aG,aH,aK,aJ,ltt hx,gid hx,cond_true,Option.bind_some]
   cases u.aB==5 with
   |false=>rfl
   |true=>cases decide (u.aT=sp)<;>rfl
  simp only[Ai,Mo.den,aN,aG,aH,aK,aJ,ltn,cond_false]
 show Mo.den (aeu w sp)=_
 simp only[aeu,Mo.den,aN,aG,aH,aK,aJ,h5]
 unfold drB
 grind
theorem KU{w:ay}{sp:ByteArray}(h:drB w sp=false):(w.aB=5→w.aT≠sp)∧∀u∈w.bG,u.aB=5→u.aT≠sp:=by
 unfold drB at h
 simp_all
structure SnI (p:aO) (K:Nat) (known all:Bool) (a:Int) (q:List ak) (d:aZ) (x:TxL) (z:SeL) (old:bM):Prop where
 inv:Ti K q d x z
 get:known=true→p.bW≤a∧(uD p.aT p.dL p.bW d x).2=0∧old.fC=(uD p.aT p.dL p.bW d x).1
 docs:all=true→p.bW≤a∧(mG p.aT p.bW d x).2=0∧old.oQ=(mG p.aT p.bW d x).1
theorem VE{l:List bD}{ps:List aO}{k j:Nat}{K:Nat}(hK:K+1048577≤50000000){e:bD}{p:aO}(hx:l[k]?=some e)(hy:ps[j]?=some p)(he:aU e.lf1≤1048576)(hp:aU p.dL.lf1≤1048576)(fe:∀u∈e.dZ.bG,qL u.dL)(fp:qL p.dL)
 {known all:Bool} {a:Int} {q:List ak} {d:aZ} {x:TxL} {z:SeL} {old:bM} (I:SnI p K known all a q d x z old):
 Tot (Vd q d x z l ps old (j:Int) known all (k:Int) a) (fun r=>match r with
  |.inl _=>False
  |.inr o=>SnI p (K+1048577) o.1 o.2.1 o.2.2.2.2.2.1 o.2.2.2.2.2.2.1 o.2.2.1 o.2.2.2.1 o.2.2.2.2.1 (bM.mk (aj.mk o.2.2.2.2.2.2.2.1 o.2.2.2.2.2.2.2.2.1 o.2.2.2.2.2.2.2.2.2.1 o.2.2.2.2.2.2.2.2.2.2.1 o.2.2.2.2.2.2.2.2.2.2.2.1) o.2.2.2.2.2.2.2.2.2.2.2.2.1 o.2.2.2.2.2.2.2.2.2.2.2.2.2.1 o.2.2.2.2.2.2.2.2.2.2.2.2.2.2.1 o.2.2.2.2.2.2.2.2.2.2.2.2.2.2.2.1 o.2.2.2.2.2.2.2.2.2.2.2.2.2.2.2.2.1 o.2.2.2.2.2.2.2.2.2.2.2.2.2.2.2.2.2.1 o.2.2.2.2.2.2.2.2.2.2.2.2.2.2.2.2.2.2)):=by
 have be:=lN e
 have bw:=dM e.dZ
 have bl:=jI e.dZ.bG
 obtain⟨r,hr,hq⟩:=aah hK (a:=a) I.inv.sv e he
 obtain⟨b,a',q',d',x',z',hJ,I',hg,hd⟩:∃b a' q' d' x' z',aev q d x z l ps old (j:Int) known all (k:Int) a=some (b,d',x',z',a',q')∧Ti (K+1048577) q' d' x' z'∧
  (b=false→known=true→(uD p.aT p.dL p.bW d' x').2=0∧old.fC=(uD p.aT p.dL p.bW d' x').1)∧
  (b=false→all=true→(mG p.aT p.bW d' x').2=0∧old.oQ=(mG p.aT p.bW d' x').1):=by
  unfold aev XF
  simp only[Mo.den,aN,aG,aH,aK,aJ,gid hx,gid hy,hr,aav e.dZ p.aT (by omega),Option.bind_some]
  rcases hq with⟨q1,q2,q3,q4,q5,q6⟩|⟨q1,q2,q3,q4,q5,q6⟩
  ·rw[show(r.1==0)=false by simpa using q1]
   have hs:=I.inv.sv.ext q4
   refine⟨false,_,_,_,_,_,rfl,?_,fun _ hk=>?_,fun _ hk=>?_⟩
   ·rw[q3,q5,q6]
    exact⟨hs.le (by omega),I.inv.uq,I.inv.fit⟩
   ·rw[q5,aeV q4 I.inv.sv.wf];exact(I.get hk).2
   rw[q5,aaj q4 I.inv.sv.wf];exact(I.docs hk).2
  rw[show(r.1==0)=true by simpa using q1]
  have I':=I.inv.step he q5 q4 q6 fe
  refine⟨_,_,_,_,_,_,rfl,I',fun hb hk=>?_,fun hb hk=>?_⟩
  ·obtain⟨k1,k2,k3⟩:=I.get hk
   obtain⟨n1,n2⟩:=KU hb
   rw[ae7 I.inv I' q6 n1 n2 (by omega) fp (by omega) k2]
   exact⟨k2,k3⟩
  obtain⟨k1,k2,k3⟩:=I.docs hk
  obtain⟨n1,n2⟩:=KU hb
  rw[aar I.inv.sv I'.sv q6 n1 n2 (by omega) k2]
  exact⟨k2,k3⟩
 clear hr hq
 have hask:=ahE (K:=K+1048577) hK (a:=a') I'.sv p (by omega)
 have bg:=aak I'.sv.bd p.aT p.dL p.bW
 have bd:=VA hK I'.sv.bd p.aT p.bW
 have hJ5:∃k1 k2,aew l ps (b,d',x',z',a',q') old (j:Int) known all (k:Int)=some (k1,k2)∧(k1=true→b=false∧known=true)∧(k2=true→b=false∧all=true):=by
  unfold aew XG
  simp only[Mo.den,aN,aG,aH,aK,aJ]
  cases b with
  |true=>simp
  |false=>grind
 obtain⟨k1,k2,hJ5,hk1,hk2⟩:=hJ5
 have hJ10:Va l ps (b,d',x',z',a',q') (k1,k2) (Vy p d' x' z') old (j:Int) (k:Int)=some false:=by
  unfold Va RY
  simp only[Mo.den,aN,aG,aH,aK,aJ]
  cases k1 with
  |false=>rfl
  |true=>
   obtain⟨h1,h2⟩:=hk1 rfl
   obtain⟨h3,h4⟩:=hg h1 h2
   have e1:(Vy p d' x' z').Eo=0:=h3
   have e2:(Vy p d' x' z').fC=old.fC:=h4.symm
   have e3:Q2 old.fC old.fC=some true:=DI _ (by rw[h4];omega)
   grind
 have hJ15:Vb l ps (b,d',x',z',a',q') (k1,k2) (Vy p d' x' z') false old (j:Int) (k:Int)=some false:=by
  unfold Vb RZ
  simp only[Mo.den,aN,aG,aH,aK,aJ,cond_false]
  cases k2 with
  |false=>rfl
  |true=>
   obtain⟨h1,h2⟩:=hk2 rfl
   obtain⟨h3,h4⟩:=hd h1 h2
   have e1:(Vy p d' x' z').fall=0:=h3
   have e2:(Vy p d' x' z').oQ=old.oQ:=h4.symm
   have e3:akJ old.oQ old.oQ=some true:=NV _ (by rw[h4];exact bd.1) (by rw[h4];exact bd.2)
   grind
 have hst:∀(a:Int) (q:List ak) (d:aZ) (x:TxL) (z:SeL),Q99 a q d x z=some ():=fun _ _ _ _ _=>rfl
 have eta:∀v:aj,aj.mk v.aB v.dG v.fText v.aX v.bC=v:=fun v=>by cases v;rfl
 show Tot (Mo.den (Aj q d x z l ps old (j:Int) known all (k:Int) a)) _
 simp only[Aj,Mo.den,aN,aG,aH,aK,aJ,hJ,hJ5,hJ10,hJ15,gid hy,hask,hst,Option.bind_some,cond_false]
 by_cases hc:p.bW≤a'
 ·rw[decide_eq_true hc]
  refine T.ret ⟨I',fun h=>⟨hc,?_,?_⟩,fun h=>⟨hc,?_,rfl⟩⟩
  ·have h:((uD p.aT p.dL p.bW d' x').2==0)=true:=h
   grind
  ·exact eta _
  have h:((mG p.aT p.bW d' x').2==0)=true:=h
  grind
 rw[decide_eq_false hc]
 exact T.ret ⟨I',fun h=>(by cases h),fun h=>by cases h⟩
theorem vT(l:List bD)(ps:List aO)(hl:bQ (l.map bD.lf)≤1048576)(hp:∀p∈ps,aU p.dL.lf1≤1048576)(hpl:ps.length≤1048576)(fe:∀e∈l,∀u∈e.dZ.bG,qL u.dL)(fp:∀p∈ps,qL p.dL):Q0 l ps=some true:=by
 obtain⟨b,hb,hbl⟩:=aas l ps hl hp hpl
 have hn:ahf=some ():=rfl
 show Mo.den (akK l ps)=_
 simp only[akK,Mo.den,aN,aG,aH,aK,aJ,hb,aat,Option.bind_some]
 cases b with
 |true=>rfl
 |false=>
  obtain⟨h1,h2⟩:=hbl rfl
  have inner:∀j p,ps[j]?=some p→Ve l ps ((j:Nat):Int) false false 0 (⟨[],[]⟩:aZ) [] [] 0 [] bM.z=some (.inr ()):=by
   intro j p hy
   have:Tot (Ve l ps ((j:Nat):Int) false false 0 (⟨[],[]⟩:aZ) [] [] 0 [] bM.z) (fun r=>r=.inr ()):=by
    refine T.lY l.length (by omega) (fun k s=>s.2.2.1=(k:Int)∧SnI p (k*1048577) s.1 s.2.1 s.2.2.2.2.2.2.1 s.2.2.2.2.2.2.2.1 s.2.2.2.1 s.2.2.2.2.1 s.2.2.2.2.2.1 s.2.2.2.2.2.2.2.2) _ ⟨rfl,⟨⟨by rw[Nat.zero_mul];exact sv0,⟨fun _ _ h=>(by cases h),fun _ _ _ _ _ _ h=>by cases h⟩,fun _ _ h=>by cases h⟩,fun h=>(by cases h),fun h=>by cases h⟩⟩ ?_ ?_
    ·rintro k ⟨kn,al,i,d,x,z,a,q,old⟩ hk ⟨k1,k2⟩
     obtain rfl:i=(k:Int):=k1
     have hx:=List.getElem?_eq_getElem hk
     have he:=Kq (gK hx)
     obtain⟨r,hr,hq⟩:=VE (K:=k*1048577) (by omega) hx hy (by omega) (hp p (gK hy)) (fe _ (gK hx)) (fp p (gK hy)) k2
     have hlt:decide ((k:Int)<(l.length:Int))=true:=decide_eq_true (by omega)
     simp only[Ap,Mo.den,aN,aG,aH,aK,aJ,hlt,cond_true,hr]
     rcases r with r|r
     ·exact hq.elim
     exact T.ret ⟨inc k (by omega),by rw[Nat.succ_mul];exact hq⟩
    rintro⟨kn,al,i,s⟩ ⟨k1,-⟩
    obtain rfl:i=(l.length:Int):=k1
    simp only[Ap,Mo.den,aN,aG,aH,aK,aJ,ltn,cond_false]
    exact T.ret rfl
   obtain⟨r,hr,rfl⟩:=this
   exact hr
  have:Tot (aex l ps 0) (fun r=>r=.inr ()):=by
   refine T.lY ps.length (by omega) (fun k s=>s=(k:Int)) _ rfl ?_ ?_
   ·rintro k s hk rfl
    obtain⟨p,hy⟩:∃u,ps[k]?=some u:=⟨_,List.getElem?_eq_getElem hk⟩
    have hi:=inner k p hy
    have hlt:decide ((k:Int)<(ps.length:Int))=true:=decide_eq_true (by omega)
    simp only[Aq,Mo.den,aN,aG,aH,aK,aJ,hlt,cond_true,hn,hi,Option.bind_some]
    exact T.ret (inc k (by omega))
   rintro s rfl
   simp only[Aq,Mo.den,aN,aG,aH,aK,aJ,ltn,cond_false]
   exact T.ret rfl
  obtain⟨r,hr,rfl⟩:=this
  grind
theorem fit_keys{e:bD}(h:nY e.lf1):∀u∈e.dZ.bG,qL u.dL:=fun u hu=>by
 have h1:=(aao (aap h)).2 u hu
 unfold ay.lf1 at h1
 simp only[vP] at h1
 exact XU _ _ (Nat.lt_succ_self _) h1.2.1
theorem aaw{p:aO}(h:nY p.lf1):qL p.dL:=by
 unfold aO.lf1 at h
 simp only[vP] at h
 exact XU _ _ (Nat.lt_succ_self _) h.2.1
theorem vU(l:List bD)(ps:List aO)(h1:bQ (l.map bD.lf)≤1048576)(h2:bQ (ps.map aO.lf)≤1048576)(f1:CO (.rows 82 (l.map bD.lf)))(f2:CO (.rows 8 (ps.map aO.lf))):Q0 l ps=some true:=
 vT l ps h1 (fun p hp=>by have:=aau hp;omega) (by have:=VD ps;omega)
  (fun e he=>by have h:=vS f1 he;rw[bD.aY] at h;exact fit_keys h)
  (fun p hp=>by have h:=vS f2 hp;rw[aO.aY] at h;exact aaw h)
end Go.Proofs.YtpdlghcgekojlaaGreatDoor
