/- Plain: trees that are checked node by node, with a count. -/
import Derived.Test.YtflpefkohpjjpaaGreatDoorQP7
import Derived.Test.YtflpefkohpjjpaaGreatDoorQPNumP
import Derived.Test.YtflpefkohpjjpaaGreatDoorQP6
set_option linter.unusedSimpArgs false
set_option linter.unusedVariables false
namespace Go.Proofs.YtflpefkohpjjpaaGreatDoor
open Go.RowKit
def fJ{α:Type}(g:α→Nat→Int×Nat):List α→Nat→Int×Nat
 |[],n=>(0,n)
 |x::r,n=>bif (g x n).1 != 0 then g x n else fJ g r (g x n).2
theorem xW{α:Type}(g:α→Nat→Int×Nat)(lim:Nat):∀(l:List α) (n:Nat),(∀x∈l,∀n,n≤lim→(g x n).2≤lim)→n≤lim→(fJ g l n).2≤lim
 |[],n,_,h=>h
 |x::r,n,hg,h=>by
  have hx:=hg x (List.mem_cons_self ..) n h
  unfold fJ
  cases (g x n).1 != 0 with
  |true=>exact hx
  |false=>exact xW g lim r _ (fun y hy=>hg y (List.mem_cons_of_mem _ hy)) hx
theorem LQ{α:Type}(g:α→Nat→Int×Nat)(x:α)(r:List α)(n:Nat):fJ g (x::r) n=bif (g x n).1 != 0 then g x n else fJ g r (g x n).2:=rfl
theorem RN{α:Type}(g:α→Nat→Int×Nat):∀(l m:List α) (n:Nat),fJ g (l++m) n=bif (fJ g l n).1 != 0 then fJ g l n else fJ g m (fJ g l n).2
 |[],m,n=>rfl
 |x::r,m,n=>by
  rw[List.cons_append,LQ,LQ]
  cases h:(g x n).1 != 0 with
  |true=>simp only[cond_true,h]
  |false=>simp only[cond_false];exact RN g r m _
theorem zy{α ε:Type}(ex:Int×Nat→ε)(l:List α)(hl:l.length≤100000000)(g:α→Nat→Int×Nat)(lim:Nat){Lo:Int×Int→Option ((Int×Int)⊕(ε⊕Int))}(hg:∀x∈l,∀n,n≤lim→(g x n).2≤lim)
 (h:∀(k:Nat) (x:α) (n:Nat),l[k]?=some x→n≤lim→Lo ((k:Int),(n:Int))=some (bif (g x n).1 != 0 then .inr (.inl (ex (g x n))) else .inl (IntKind.wrap .i64 ((k:Int)+1),((g x n).2:Int))))
 (he:∀n:Int,Lo ((l.length:Int),n)=some (.inr (.inr n))) (n:Nat) (hn:n≤lim):bW Lo FU (0,(n:Int))=some (bif (fJ g l n).1 != 0 then .inl (ex (fJ g l n)) else .inr ((fJ g l n).2:Int)):=by
 have key:Tot (bW Lo FU (0,(n:Int))) (fun r=>r=bif (fJ g l n).1 != 0 then .inl (ex (fJ g l n)) else .inr ((fJ g l n).2:Int)):=by
  refine T.qA l.length (by omega) (fun k s=>∃m:Nat,m≤lim∧s=((k:Int),(m:Int))∧fJ g l n=fJ g (l.drop k) m) _ ⟨n,hn,rfl,rfl⟩ ?_ ?_
  ·rintro k s hk ⟨m,hm,rfl,hd⟩
   have hx:=List.getElem?_eq_getElem hk
   have hdr:l.drop k=l[k]::l.drop (k+1):=List.drop_eq_getElem_cons hk
   rw[hdr] at hd
   have hd:fJ g l n=bif (g l[k] m).1 != 0 then g l[k] m else fJ g (l.drop (k+1)) (g l[k] m).2:=hd
   rw[h k l[k] m hx hm]
   cases hb:(g l[k] m).1 != 0 with
   |true=>rw[hb] at hd;exact T.ret (show _=_ by rw[hd];simp only[cond_true,hb])
   |false=>rw[hb] at hd;exact T.ret ⟨(g l[k] m).2,hg _ (List.getElem_mem hk) _ hm,by rw[inc k (by omega)],by rw[hd];rfl⟩
  ·rintro s ⟨m,hm,rfl,hd⟩
   rw[List.drop_length] at hd
   rw[he]
   exact T.ret (show _=_ by rw[hd];rfl)
 obtain⟨r,hr,rfl⟩:=key
 exact hr
theorem LU{α:Type}(l:List α)(hl:l.length≤100000000)(g:α→Nat→Int×Nat)(lim:Nat){Lo:Int×Int→Option ((Int×Int)⊕((Int×Int)⊕Int))}(hg:∀x∈l,∀n,n≤lim→(g x n).2≤lim)
 (h:∀(k:Nat) (x:α) (n:Nat),l[k]?=some x→n≤lim→∃r:Int,((g x n).1=0→r=((g x n).2:Int))∧Lo ((n:Int),(k:Int))=some (bif (g x n).1 != 0 then .inr (.inl (r,(g x n).1)) else .inl (r,IntKind.wrap .i64 ((k:Int)+1))))
 (he:∀n:Int,Lo (n,(l.length:Int))=some (.inr (.inr n))) (n:Nat) (hn:n≤lim):Tot (bW Lo FU ((n:Int),0)) (fun o=>match o with|.inl p=>p.2=(fJ g l n).1∧¬(fJ g l n).1=0|.inr a=>(fJ g l n).1=0∧a=((fJ g l n).2:Int)):=by
 refine T.qA l.length (by omega) (fun k s=>∃m:Nat,m≤lim∧s=((m:Int),(k:Int))∧fJ g l n=fJ g (l.drop k) m) _ ⟨n,hn,rfl,rfl⟩ ?_ ?_
 ·rintro k s hk ⟨m,hm,rfl,hd⟩
  have hx:=List.getElem?_eq_getElem hk
  have hdr:l.drop k=l[k]::l.drop (k+1):=List.drop_eq_getElem_cons hk
  rw[hdr] at hd
  have hd:fJ g l n=bif (g l[k] m).1 != 0 then g l[k] m else fJ g (l.drop (k+1)) (g l[k] m).2:=hd
  obtain⟨r,hr,ht⟩:=h k l[k] m hx hm
  rw[ht]
  cases hb:(g l[k] m).1 != 0 with
  |true=>rw[hb] at hd;exact T.ret ⟨by rw[hd];rfl,by rw[hd];simpa using hb⟩
  |false=>
   rw[hb] at hd
   have h0:(g l[k] m).1=0:=by simpa using hb
   exact T.ret ⟨(g l[k] m).2,hg _ (List.getElem_mem hk) _ hm,by rw[inc k (by omega),hr h0],by rw[hd];rfl⟩
 ·rintro s ⟨m,hm,rfl,hd⟩
  rw[List.drop_length] at hd
  rw[he]
  exact T.ret ⟨by rw[hd];rfl,by rw[hd];rfl⟩
noncomputable def lU:Nat→aP→Nat→Int×Nat
 |0,_,n=>(2,n)
 |d+1,e,n=>bif n==256 then(2,n) else bif Ae e != 0 then(Ae e,n+1) else fJ (lU d) e.bC (n+1)
theorem LV:∀(d:Nat) (e:aP) (n:Nat),n≤256→(lU d e n).2≤256
 |0,e,n,h=>h
 |d+1,e,n,h=>by
  unfold lU
  cases hn:n==256 with
  |true=>exact h
  |false=>
   have:¬n=256:=by simpa using hn
   cases Ae e != 0 with
   |true=>show n+1≤256;omega
   |false=>exact xW _ 256 _ _ (fun x _ m hm=>LV d x m hm) (by omega)
theorem ZL(d:Nat):∀(F:Nat) (e:aP) (n:Nat),d≤16→d+1≤F→n≤256→aT e.lf1≤100000000→(xq F).m1 e (17-(d:Int)) (n:Int)=some ((lU d e n).1,((lU d e n).2:Int)):=by
 induction d with
 |zero=>
  intro F e n _ hF _ _
  obtain⟨F,rfl⟩:∃G,F=G+1:=⟨F-1,by omega⟩
  show Mo.den (JV (xq F) e (17-((0:Nat):Int)) (n:Int))=_
  unfold JV
  simp only[Mo.den,ay,ak,au,aA,aB,CX]
  rw[decide_eq_true (show(16:Int)<17-((0:Nat):Int) by omega)];rfl
 |succ d ih=>
  intro F e n hd hF hn hb
  obtain⟨F,rfl⟩:∃G,F=G+1:=⟨F-1,by omega⟩
  have hp:=jP e
  have hk:=uq e.bC
  show Mo.den (JV (xq F) e (17-((d+1:Nat):Int)) (n:Int))=_
  unfold JV lU
  simp only[Mo.den,ay,ak,au,aA,aB,CX,VY e hb]
  rw[decide_eq_false (show ¬(16:Int)<17-((d+1:Nat):Int) by omega),show((n:Int)==256)=(n==256) by rw[Bool.eq_iff_iff];simp;omega]
  simp only[cond_false,Option.bind_some]
  cases h1:n==256 with
  |true=>rfl
  |false=>
   have h1:¬n=256:=by simpa using h1
   rw[inc n (by omega)]
   simp only[cond_false]
   cases Ae e != 0 with
   |true=>rfl
   |false=>
    simp only[cond_false]
    try unfold arG
    rw[zy (fun p=>(p.1, (p.2:Int))) e.bC (by omega) (lU d) 256 (fun x _ m hm=>LV d x m hm) (fun k x m hx hm=>by
     have hxb:=DX (iR hx)
     have hlt:=oM hx
     have ihx:=ih F x m (by omega) (by omega) hm (by omega)
     simp only[xk,Mo.den,ay,ak,au,aA,aB,ltt hx,gid hx,cond_true,Option.bind_some]
     rw[w64 (x:=17-((d+1:Nat):Int)+1) (by omega) (by omega),show 17-((d+1:Nat):Int)+1=17-(d:Int) by omega,ihx]
     simp only[Option.bind_some]
     cases (lU d x m).1 != 0<;>rfl) (fun m=>by simp only[xk,Mo.den,ay,ak,au,aA,aB,ltn,cond_false]) (n+1) (by omega)]
    simp only[Option.bind_some]
    cases h3:(fJ (lU d) e.bC (n+1)).1 != 0 with
    |true=>rfl
    |false=>
     have h3:(fJ (lU d) e.bC (n+1)).1=0:=by simpa using h3
     simp only[cond_false]
     rw[h3]
theorem ag4(e:aP)(hb:aT e.lf1≤100000000):anx e=some (lU 16 e 0).1:=by
 have h:=ZL 16 FU e 0 (by omega) (by have:=gW;omega) (by omega) hb
 have h:Q91 e 1 0=_:=h
 simp only[anx,abf,Mo.den,ay,ak,au,aA,aB,h,Option.bind_some]
theorem VZ(d:Nat):∀(F:Nat) (e:aP) (n:Nat),d≤16→d+1≤F→n≤256→aT e.lf1≤100000000→∃r:Int,((lU d e n).1=0→r=((lU d e n).2:Int))∧(vM F).m1 e (((n+1:Nat):Int)) (17-(d:Int))=some (r,(lU d e n).1):=by
 induction d with
 |zero=>
  intro F e n _ hF _ _
  obtain⟨F,rfl⟩:∃G,F=G+1:=⟨F-1,by omega⟩
  refine⟨((n+1:Nat):Int),fun h=>(by cases h),?_⟩
  show Mo.den (QI (vM F) e ((n+1:Nat):Int) (17-((0:Nat):Int)))=_
  unfold QI
  simp only[Mo.den,ay,ak,au,aA,aB,Ld]
  rw[decide_eq_true (show(16:Int)<17-((0:Nat):Int) by omega)];rfl
 |succ d ih=>
  intro F e n hd hF hn hb
  obtain⟨F,rfl⟩:∃G,F=G+1:=⟨F-1,by omega⟩
  have hp:=jP e
  have hk:=uq e.bC
  show ∃r:Int,_∧Mo.den (QI (vM F) e ((n+1:Nat):Int) (17-((d+1:Nat):Int)))=_
  unfold QI lU
  simp only[Mo.den,ay,ak,au,aA,aB,Ld,Nl e hb]
  rw[decide_eq_false (show ¬(16:Int)<17-((d+1:Nat):Int) by omega),show decide ((256:Int)<((n+1:Nat):Int))=(n==256) by rw[Bool.eq_iff_iff];simp;omega]
  simp only[cond_false,Option.bind_some]
  cases h1:n==256 with
  |true=>exact⟨_,fun h=>(by cases h),rfl⟩
  |false=>
   have h1:¬n=256:=by simpa using h1
   simp only[cond_false]
   cases h2:Ae e != 0 with
   |true=>exact⟨_,fun h=>(by have h:Ae e=0:=h;rw[h] at h2;cases h2),rfl⟩
   |false=>
    simp only[cond_false]
    obtain⟨o, ho, hpost⟩:=LU (Lo:=fun v_=>(xJ (vM F) e (17-((d+1:Nat):Int)) v_).den) e.bC (by omega) (lU d) 256 (fun x _ m hm=>LV d x m hm) (fun k x m hx hm=>by
     have hxb:=DX (iR hx)
     have hlt:=oM hx
     obtain⟨r,hr,hrun⟩:=ih F x m (by omega) (by omega) hm (by omega)
     refine⟨r,hr,?_⟩
     simp only[xJ,Mo.den,ay,ak,au,aA,aB,ltt hx,gid hx,cond_true,Option.bind_some]
     rw[w64 (x:=17-((d+1:Nat):Int)+1) (by omega) (by omega),show 17-((d+1:Nat):Int)+1=17-(d:Int) by omega,inc m (by omega),hrun]
     simp only[Option.bind_some]
     cases (lU d x m).1 != 0<;>rfl) (fun m=>by simp only[xJ,Mo.den,ay,ak,au,aA,aB,ltn,cond_false]) (n+1) (by omega)
    have ho:alb (vM F) e (17-((d+1:Nat):Int)) ((n+1:Nat):Int) 0=some o:=ho
    rw[ho]
    simp only[Option.bind_some]
    rcases o with p|a
    ·obtain⟨p1,p2⟩:=p
     obtain⟨hp1,hp2⟩:=hpost
     have hp1:p2=_:=hp1
     subst hp1
     exact⟨p1,fun h=>absurd h hp2,rfl⟩
    ·obtain⟨h5,h6⟩:=hpost
     subst h6
     exact⟨_,fun _=>rfl,by rw[h5]⟩
theorem acN(e:aP)(hb:aT e.lf1≤100000000):atr e=some (lU 16 e 0).1:=by
 obtain⟨r,_,h⟩:=VZ 16 FU e 0 (by omega) (by have:=gW;omega) (by omega) hb
 have h:Q46 e 1 1=_:=h
 simp only[atr,alc,Mo.den,ay,ak,au,aA,aB,h,Option.bind_some]
end Go.Proofs.YtflpefkohpjjpaaGreatDoor
set_option linter.unusedSimpArgs false
set_option linter.unusedVariables false
namespace Go.Proofs.YtflpefkohpjjpaaGreatDoor
open Go.RowKit
theorem acO(p:aO):atg p=aiR p.fOp (p.bC.length:Int):=by
 simp only[atg,ak4,Qr,Qq,Mo.den,ay,ak,au,aA,aB,aiR,aa3,O8,O7,Mo.den,ay,ak,au,aA,aB,gt0,ge1]
theorem alz(p:aO):ath p=Q41 p:=by simp only[ath,ak5,dR,yN,yM,CU,CS,Mo.den,ay,ak,au,aA,aB,Q41,aiS,dR,yN,yM,CU,CS,Mo.den,ay,ak,au,aA,aB]
theorem RP(op:Int):Nc op=Nc op:=by simp only[Nc,Uj,Mo.den,ay,ak,au,aA,aB,Nc,Uj,Mo.den,ay,ak,au,aA,aB]
theorem rM(op:Int):Q90 op=Q90 op:=by simp only[Q90,adS,Mo.den,ay,ak,au,aA,aB,Q90,adS,Mo.den,ay,ak,au,aA,aB]
theorem LW(op:Int):XM op=XM op:=by simp only[XM,Uk,Mo.den,ay,ak,au,aA,aB,XM,Uk,Mo.den,ay,ak,au,aA,aB]
theorem LX(op:Int):ati op=XO op:=by
 simp only[ati,ak6,XO,Um,Mo.den,ay,ak,au,aA,aB,LW]
theorem ZM(n:Int):Un n=Un n:=by
 simp only[Un,JO,Mo.den,ay,ak,au,aA,aB,Un,JO,Mo.den,ay,ak,au,aA,aB]
theorem acP(p:cu):atj p=afS p:=by
 simp only[atj,ak7,Mo.den,ay,ak,au,aA,aB,afS,Ur,Mo.den,ay,ak,au,aA,aB,ZM]
def Bo(n:Int):Bool:=decide (0≤n)&&decide (n<65536)
theorem Gx(n:Int):Un n=some (Bo n):=by
 simp only[Un,JO,Mo.den,ay,ak,au,aA,aB,Bo]
 cases decide ((0:Int)≤n)<;>rfl
def LY(p:cu):Bool:=Bo p.fX&&Bo p.fY
theorem RQ(p:cu):afS p=some (LY p):=by
 simp only[afS,Ur,Mo.den,ay,ak,au,aA,aB,Gx,Option.bind_some,LY]
 cases Bo p.fX<;>rfl
def vZ(l:List cu)(k:Nat):Option Unit:=match l[k]? with|some x=>hit (!LY x)|none=>none
noncomputable def Eh(s:dQ):Bool:=
 bif s.aF==1 then((s.bF.length:Int)==2&&s.fR==0) else bif s.aF==2 then((s.bF.length:Int)==1&&Bo s.fR) else bif s.aF==3 then(decide ((3:Int)≤(s.bF.length:Int))&&decide ((s.bF.length:Int)≤64)&&s.fR==0) else false
noncomputable def sK(s:dQ):Int:=bif Eh s&&(dF (vZ s.bF) 0 s.bF.length).isNone then 0 else 18
theorem apk(s:dQ)(hb:aT s.lf1≤100000000):Q95 s=some (sK s):=by
 have hp:=qM s
 have hl:=vO s.bF
 have hL:aa6 s 0=some (jB (dF (vZ s.bF) 0 s.bF.length)):=by
  try unfold aa6
  refine dU _ s.bF.length (by omega) (fun k hk=>?_) (by simp only[wZ,Mo.den,ay,ak,au,aA,aB,ltn,cond_false])
  have hx:=List.getElem?_eq_getElem hk
  simp only[wZ,Mo.den,ay,ak,au,aA,aB,ltt hx,gid hx,cond_true,Option.bind_some,RQ,vZ,hx]
  cases LY s.bF[k]<;>rfl
 have hJ:aa5 s=some (Eh s):=by
  simp only[aa5,JQ,Mo.den,ay,ak,au,aA,aB,Gx,Option.bind_some,dJ,Eh]
  cases s.aF==1<;>cases s.aF==2<;>cases s.aF==3<;>cases (s.bF.length:Int)==2<;>cases (s.bF.length:Int)==1<;>cases decide ((3:Int)≤(s.bF.length:Int))<;>cases decide ((s.bF.length:Int)≤64)<;>rfl
 unfold Q95 aiT sK
 simp only[Mo.den,ay,ak,au,aA,aB,hL,hJ,Option.bind_some]
 cases Eh s<;>cases dF (vZ s.bF) 0 s.bF.length<;>rfl
theorem alA(s:dQ)(hb:aT s.lf1≤100000000):Q39 s=some (sK s):=by
 have hp:=qM s
 have hl:=vO s.bF
 have hL:acv s 0=some (jB (dF (vZ s.bF) 0 s.bF.length)):=by
  try unfold acv
  refine dU _ s.bF.length (by omega) (fun k hk=>?_) (by simp only[DL,Mo.den,ay,ak,au,aA,aB,ltn,cond_false])
  have hx:=List.getElem?_eq_getElem hk
  simp only[DL,Mo.den,ay,ak,au,aA,aB,ltt hx,gid hx,cond_true,Option.bind_some,acP,RQ,vZ,hx]
  cases LY s.bF[k]<;>rfl
 unfold Q39 apW YK Qs Qu Qv sK Eh
 simp only[Mo.den,ay,ak,au,aA,aB,hL,ZM,Gx,Option.bind_some,dJ]
 have e64:decide ((64:Int)<(s.bF.length:Int))=!decide ((s.bF.length:Int)≤64):=by
  by_cases h:(s.bF.length:Int)≤64
  ·rw[decide_eq_true h,decide_eq_false (by omega)];rfl
  ·rw[decide_eq_false h,decide_eq_true (by omega)];rfl
 rw[e64]
 have i2:((s.bF.length:Int)==2)=true→decide ((s.bF.length:Int)≤64)=true:=fun h=>decide_eq_true (by have h:(s.bF.length:Int)=2:=eq_of_beq h;omega)
 have i1:((s.bF.length:Int)==1)=true→decide ((s.bF.length:Int)≤64)=true:=fun h=>decide_eq_true (by have h:(s.bF.length:Int)=1:=eq_of_beq h;omega)
 have k1:(s.aF==1)=true→(s.aF==2)=false∧(s.aF==3)=false:=fun h=>by
  have h:s.aF=1:=eq_of_beq h
  rw[h];exact⟨rfl,rfl⟩
 have k2:(s.aF==2)=true→(s.aF==3)=false:=fun h=>by
  have h:s.aF=2:=eq_of_beq h
  rw[h];rfl
 clear hL e64 hp hl hb
 generalize (s.aF==1)=a at *
 generalize (s.aF==2)=b at *
 generalize (s.aF==3)=c at *
 generalize ((s.bF.length:Int)==2)=d at *
 generalize ((s.bF.length:Int)==1)=e at *
 generalize decide ((s.bF.length:Int)≤64)=f at *
 generalize decide ((3:Int)≤(s.bF.length:Int))=g at *
 generalize (s.fR==0)=h at *
 generalize Bo s.fR=i at *
 generalize dF (vZ s.bF) 0 s.bF.length=o at *
 cases f with
 |false=>
  cases d with
  |true=>cases i2 rfl
  |false=>
   cases e with
   |true=>cases i1 rfl
   |false=>cases o<;>cases a<;>cases b<;>cases c<;>cases g<;>cases h<;>cases i<;>first|rfl|(exact absurd (k1 rfl).1 (by decide))|(exact absurd (k1 rfl).2 (by decide))|(exact absurd (k2 rfl) (by decide))
 |true=>cases o<;>cases a<;>cases b<;>cases c<;>cases d<;>cases e<;>cases g<;>cases h<;>cases i<;>first|rfl|(exact absurd (k1 rfl).1 (by decide))|(exact absurd (k1 rfl).2 (by decide))|(exact absurd (k2 rfl) (by decide))
noncomputable def qP:Nat→aO→Nat→Int×Nat
 |0,_,n=>(1,n)
 |d+1,p,n=>bif n==256 then(1,n) else fJ (qP d) p.bC (n+1)
theorem Ei:∀(d:Nat) (p:aO) (n:Nat),n≤256→(qP d p n).2≤256
 |0,p,n,h=>h
 |d+1,p,n,h=>by
  unfold qP
  cases hn:n==256 with
  |true=>exact h
  |false=>
   have:¬n=256:=by simpa using hn
   exact xW _ 256 _ _ (fun x _ m hm=>Ei d x m hm) (by omega)
theorem alB(d:Nat):∀(F:Nat) (p:aO) (n:Nat),d≤16→d+1≤F→n≤256→aT p.lf1≤100000000→(wY F).m1 p (17-(d:Int)) (n:Int)=some (!((qP d p n).1 != 0),((qP d p n).2:Int)):=by
 induction d with
 |zero=>
  intro F p n _ hF _ _
  obtain⟨F,rfl⟩:∃G,F=G+1:=⟨F-1,by omega⟩
  show Mo.den (JM (wY F) p (17-((0:Nat):Int)) (n:Int))=_
  unfold JM
  simp only[Mo.den,ay,ak,au,aA,aB,CQ]
  rw[decide_eq_true (show(16:Int)<17-((0:Nat):Int) by omega)];rfl
 |succ d ih=>
  intro F p n hd hF hn hb
  obtain⟨F,rfl⟩:∃G,F=G+1:=⟨F-1,by omega⟩
  have hp:=iw p
  have hk:=oL p.bC
  show Mo.den (JM (wY F) p (17-((d+1:Nat):Int)) (n:Int))=_
  unfold JM qP
  simp only[Mo.den,ay,ak,au,aA,aB,CQ]
  rw[decide_eq_false (show ¬(16:Int)<17-((d+1:Nat):Int) by omega),show((n:Int)==256)=(n==256) by rw[Bool.eq_iff_iff];simp;omega]
  simp only[cond_false,Option.bind_some]
  cases h1:n==256 with
  |true=>rfl
  |false=>
   have h1:¬n=256:=by simpa using h1
   rw[inc n (by omega)]
   simp only[cond_false]
   try unfold arv
   rw[zy (fun p=>(p.2:Int)) p.bC (by omega) (qP d) 256 (fun x _ m hm=>Ei d x m hm) (fun k x m hx hm=>by
    have hxb:=uw (iR hx)
    have hlt:=oM hx
    have ihx:=ih F x m (by omega) (by omega) hm (by omega)
    unfold wX
    simp only[Mo.den,ay,ak,au,aA,aB,ltt hx,gid hx,cond_true,Option.bind_some]
    rw[w64 (x:=17-((d+1:Nat):Int)+1) (by omega) (by omega),show 17-((d+1:Nat):Int)+1=17-(d:Int) by omega,ihx]
    simp only[Option.bind_some]
    cases (qP d x m).1 != 0<;>rfl) (fun m=>by unfold wX;simp only[Mo.den,ay,ak,au,aA,aB,ltn,cond_false]) (n+1) (by omega)]
   simp only[Option.bind_some]
   cases h3:(fJ (qP d) p.bC (n+1)).1 != 0<;>rfl
structure avY {α:Type} (g:α→Nat→Int×Nat) (l:List α) (n k:Nat) (s:Int×Int):Prop where
 i:s.2=(k:Int)
 h:(∃m:Nat,m≤256∧s.1=256-(m:Int)∧fJ g l n=fJ g (l.drop k) m)∨(s.1 = -1∧((fJ g l n).1 != 0)=true)
theorem acQ{α:Type}(l:List α)(hl:l.length≤100000000)(g:α→Nat→Int×Nat){Lo:Int×Int→Option ((Int×Int)⊕Int)}(hg:∀x∈l,∀n,n≤256→(g x n).2≤256)
 (h:∀(k:Nat) (x:α) (m:Nat),l[k]?=some x→m≤256→Lo (256-(m:Int),(k:Int))=some (.inl (bif (g x m).1 != 0 then -1 else 256-((g x m).2:Int),IntKind.wrap .i64 ((k:Int)+1))))
 (h2:∀(k:Nat) (x:α),l[k]?=some x→Lo (-1,(k:Int))=some (.inr (-1))) (he:∀a:Int,Lo (a,(l.length:Int))=some (.inr a)) (n:Nat) (hn:n≤256):
 bW Lo FU (256-(n:Int),0)=some (bif (fJ g l n).1 != 0 then -1 else 256-((fJ g l n).2:Int)):=by
 have key:Tot (bW Lo FU (256-(n:Int),0)) (fun r=>r=bif (fJ g l n).1 != 0 then -1 else 256-((fJ g l n).2:Int)):=by
  refine T.qA l.length (by omega) (avY g l n) _ ⟨rfl,.inl ⟨n,hn,rfl,by rw[List.drop_zero]⟩⟩ ?_ ?_
  ·rintro k ⟨a,i⟩ hk ⟨h3,h4⟩
   obtain rfl:i=(k:Int):=h3
   have hx:=List.getElem?_eq_getElem hk
   have hdr:l.drop k=l[k]::l.drop (k+1):=List.drop_eq_getElem_cons hk
   have hgx:=hg _ (List.getElem_mem hk)
   rcases h4 with⟨m,hm,h5,hd5⟩|⟨h5,h6⟩
   ·have h5:a=256-(m:Int):=h5
    rw[hdr] at hd5
    have hd5:fJ g l n=bif (g l[k] m).1 != 0 then g l[k] m else fJ g (l.drop (k+1)) (g l[k] m).2:=hd5
    rw[h5,h k l[k] m hx hm]
    refine T.ret ⟨inc k (by omega),?_⟩
    cases hc:(g l[k] m).1 != 0 with
    |true=>rw[hc] at hd5;exact .inr ⟨rfl,by rw[hd5];exact hc⟩
    |false=>rw[hc] at hd5;exact .inl ⟨(g l[k] m).2,hgx m hm,rfl,hd5⟩
   ·have h5:a = -1:=h5
    rw[h5,h2 k l[k] hx]
    exact T.ret (show _=_ by rw[h6];rfl)
  ·rintro⟨a,i⟩ ⟨h3,h4⟩
   obtain rfl:i=(l.length:Int):=h3
   rw[he]
   refine T.ret (show _=_ from ?_)
   rcases h4 with⟨m,hm,h5,hd5⟩|⟨h5,h6⟩
   ·rw[List.drop_length] at hd5
    rw[hd5];exact h5
   ·rw[h6];exact h5
 obtain⟨r,hr,rfl⟩:=key
 exact hr
theorem acR(d:Nat):∀(F:Nat) (p:aO) (n:Nat),d≤16→d+1≤F→n≤256→aT p.lf1≤100000000→(F6 F).m1 p (d:Int) (256-(n:Int))=some (bif (qP d p n).1 != 0 then -1 else 256-((qP d p n).2:Int)):=by
 induction d with
 |zero=>
  intro F p n _ hF _ _
  obtain⟨F,rfl⟩:∃G,F=G+1:=⟨F-1,by omega⟩
  rfl
 |succ d ih=>
  intro F p n hd hF hn hb
  obtain⟨F,rfl⟩:∃G,F=G+1:=⟨F-1,by omega⟩
  have hp:=iw p
  have hk:=oL p.bC
  show Mo.den (aeP (F6 F) p ((d+1:Nat):Int) (256-(n:Int)))=_
  unfold aeP qP
  simp only[Mo.den,ay,ak,au,aA,aB,YJ]
  rw[show(((d+1:Nat):Int)==0)=false by rw[beq_eq_false_iff_ne];omega,show decide (256-(n:Int)≤0)=(n==256) by rw[Bool.eq_iff_iff];simp;omega]
  simp only[cond_false,Option.bind_some]
  cases h1:n==256 with
  |true=>rfl
  |false=>
   have h1:¬n=256:=by simpa using h1
   simp only[cond_false]
   rw[w64 (x:=256-(n:Int)-1) (by omega) (by omega),show 256-(n:Int)-1=256-((n+1:Nat):Int) by omega]
   try unfold aoV
   rw[acQ p.bC (by omega) (qP d) (fun x _ m hm=>Ei d x m hm) (fun k x m hx hm=>by
    have hxb:=uw (iR hx)
    unfold uh
    simp only[DK,Mo.den,ay,ak,au,aA,aB,ltt hx,gid hx,cond_true,Option.bind_some]
    rw[decide_eq_true (show(0:Int)≤256-(m:Int) by omega),w64 (x:=((d+1:Nat):Int)-1) (by omega) (by omega),show((d+1:Nat):Int)-1=(d:Int) by omega,ih F _ m (by omega) (by omega) hm (by omega)]
    simp only[cond_true,Option.bind_some]) (fun k x hx=>by
    unfold uh
    simp only[DK,Mo.den,ay,ak,au,aA,aB,ltt hx,cond_true,Option.bind_some]
    rfl) (fun a=>by unfold uh;simp only[DK,Mo.den,ay,ak,au,aA,aB,ltn,cond_false,Option.bind_some]) (n+1) (by omega),Option.bind_some]
noncomputable def kX(p:aO)(ins:Bool):Int:=(Q6 p ins).getD 0
theorem RS(p:aO)(ins:Bool)(hb:aT p.lf1≤100000000):Q6 p ins=some (kX p ins):=by
 obtain⟨r,hr,_⟩:=nK p ins hb
 unfold kX
 rw[hr];rfl
end Go.Proofs.YtflpefkohpjjpaaGreatDoor
set_option linter.unusedSimpArgs false
set_option linter.unusedVariables false
namespace Go.Proofs.YtflpefkohpjjpaaGreatDoor
open Go.RowKit
def Af(l:List ah)(k:Nat):Option Unit:=match l[k]? with|some x=>hit (!oq x)|none=>none
theorem ag5(p:aO)(hb:aT p.lf1≤100000000):abg p 0=some (jB (dF (Af p.fArgs) 0 p.fArgs.length)):=by
 have hp:=iw p
 have hl:=jf p.fArgs
 try unfold abg
 refine dU _ p.fArgs.length (by omega) (fun k hk=>?_) (by simp only[xu,Mo.den,ay,ak,au,aA,aB,ltn,cond_false])
 have hx:=List.getElem?_eq_getElem hk
 have hm:=jK (iR hx)
 simp only[xu,Mo.den,ay,ak,au,aA,aB,ltt hx,gid hx,cond_true,Option.bind_some,l9 _ (show aT p.fArgs[k].lf1≤100000000 by omega),Af,hx]
 cases oq p.fArgs[k]<;>rfl
theorem acS(R:uj)(p:aO)(ins u:Bool)(hu:Q90 p.fOp=some u)(hb:aT p.lf1≤100000000):acw R ins p 0=some (jB (bif u then dF (Af p.fArgs) 0 p.fArgs.length else none)):=by
 have hp:=iw p
 have hl:=jf p.fArgs
 try unfold acw
 cases u with
 |true=>
  refine dU _ p.fArgs.length (by omega) (fun k hk=>?_) (by simp only[xK,DR,Mo.den,ay,ak,au,aA,aB,ltn,cond_false,Option.bind_some])
  have hx:=List.getElem?_eq_getElem hk
  have hm:=jK (iR hx)
  simp only[xK,DR,Mo.den,ay,ak,au,aA,aB,ltt hx,gid hx,cond_true,Option.bind_some,rM,hu,lT _ (show aT p.fArgs[k].lf1≤100000000 by omega),Af,hx]
  cases oq p.fArgs[k]<;>rfl
 |false=>
  refine nN ?_
  simp only[xK,DR,Mo.den,ay,ak,au,aA,aB,rM,hu,Option.bind_some,dJ]
  cases decide ((0:Int)<(p.fArgs.length:Int))<;>rfl
theorem ag6(e:aP):atm e=Q93 e:=by
 simp only[atm,ak9,dR,nX,nV,KZ,nU,qx,qw,Mo.den,ay,ak,au,aA,aB,Q93,adW,dR,nX,nV,Fb,nU,qx,qw,Mo.den,ay,ak,au,aA,aB,rG,Gv]
def Bq(e:aP):Bool:=e.fOp==0&&(e.cO.length:Int)==0&&decide (e.fName=⟨#[]⟩)&&(e.eP.length:Int)==0&&jG e.fArg&&e.fN==0&&(e.bC.length:Int)==0
theorem LZ(e:aP):Q93 e=some (Bq e):=by
 simp only[Q93,adW,dR,nX,nV,Fb,nU,qx,qw,Mo.den,ay,ak,au,aA,aB,Gv,Option.bind_some,dJ,Bq]
 cases e.fOp==0<;>cases (e.cO.length:Int)==0<;>cases decide (e.fName=⟨#[]⟩)<;>cases (e.eP.length:Int)==0<;>cases jG e.fArg<;>cases e.fN==0<;>rfl
theorem li1(c:Bool):(bif c then(Sum.inl ():Unit⊕Unit) else Sum.inr ())=bif !c then Sum.inr () else Sum.inl ():=by cases c<;>rfl
theorem li2(c g:Bool):(bif c then(Sum.inl ():Unit⊕Unit) else bif g then Sum.inr () else Sum.inl ())=bif !c&&g then Sum.inr () else Sum.inl ():=by cases c<;>cases g<;>rfl
theorem V3(x y:Bool):(bif x then true else y)=(x||y):=by cases x<;>rfl
theorem nO(x y:Bool):(bif x then y else false)=(x&&y):=by cases x<;>rfl
theorem V4(x y:Bool):(bif x then false else y)=(!x&&y):=by cases x<;>rfl
def sO(a b c:Bool)(p:aO):Bool:=(a||(p.cO.length:Int)==0)&&((b||jG p.fArg)&&((c||(p.fArgs.length:Int)==0)&&((p.fOp==10||(p.fOp==11||(p.fOp==12||(p.fOp==13||p.fN==0))))&&((p.fOp==12||p.fM==0)&&((p.fOp==18||(p.dY.aF==0&&((p.dY.bF.length:Int)==0&&p.dY.fR==0)))&&(p.fOp==24||Bq p.fExpr))))))
theorem RU(p:aO){a b c:Bool}(ha:Nc p.fOp=some a)(hb:XO p.fOp=some b)(hc:Q90 p.fOp=some c):Q15 p=some (sO a b c p):=by
 have hJ:Ip p=some (bif sO a b c p then .inr () else .inl ()):=by
  simp only[XP,XQ,Pg,Ph,Pj,Pm,Po,Pq,Ip,Fe,arA,aa8,uZ,JR,Pe,O9,Mo.den,ay,ak,au,aA,aB,ha,hb,hc,Gv,LZ,Option.bind_some,dJ,gt0,bne,li1,li2,V3,nO,V4,Bool.not_or,Bool.not_and,Bool.not_not,Bool.and_assoc,Bool.or_assoc,sO]
 unfold Q15 aiU
 simp only[Mo.den,ay,ak,au,aA,aB,hJ,Option.bind_some]
 cases sO a b c p<;>rfl
theorem alC(p:aO):Q24 p=Q15 p:=by
 obtain⟨a,ha⟩:∃a,Nc p.fOp=some a:=(jU p.fOp).imp fun _ h=>h.1
 obtain⟨b,hb⟩:∃a,XO p.fOp=some a:=(jL p.fOp).imp fun _ h=>h.1
 obtain⟨c,hc⟩:∃a,Q90 p.fOp=some a:=(iU p.fOp).imp fun _ h=>h.1
 rw[RU p ha hb hc]
 simp only[Q24,apX,dR,QF,QE,QD,QC,QB,QA,Qz,Qy,YM,YL,Mo.den,ay,ak,au,aA,aB,auJ,ak8,dR,Qx,Qw,Mo.den,ay,ak,au,aA,aB,RP,LX,rM,ha,hb,hc,rG,ag6,LZ,Option.bind_some,dJ,gt0,bne,V3,nO,V4,Bool.not_or,Bool.not_and,Bool.not_not,Bool.and_assoc,Bool.or_assoc,sO]
theorem xX{α β ρ:Type}(m:Option (α⊕β))(k1:α→Option ρ)(k2:β→Option ρ):Tv m (fun a _=>k1 a) (fun b _=>k2 b)=m.bind (Sum.elim k1 k2):=by rcases m with _|_|_<;>rfl
theorem ag7(R:uj)(p:aO)(ins:Bool)(hb:aT p.lf1≤100000000):Mo.den (ao5 R p ins)=bif kX p ins != 0 then some (kX p ins) else(vN R ins p 0).bind (Sum.elim some fun _=>some 0):=by
 have hN:=RS p ins hb
 have hp:=iw p
 obtain⟨a,ha⟩:∃a,Nc p.fOp=some a:=(jU p.fOp).imp fun _ h=>h.1
 obtain⟨b,hb'⟩:∃a,XO p.fOp=some a:=(jL p.fOp).imp fun _ h=>h.1
 obtain⟨c,hc⟩:∃a,Q90 p.fOp=some a:=(iU p.fOp).imp fun _ h=>h.1
 obtain⟨tx,htx⟩:∃a,XM p.fOp=some a:=(lq p.fOp).imp fun _ h=>h.1
 obtain⟨hk,hhk⟩:∃a,aiR p.fOp (p.bC.length:Int)=some a:=(oz p.fOp _).imp fun _ h=>h.1
 obtain⟨rg,hrg⟩:∃a,Q41 p=some a:=(oC p hb).imp fun _ h=>h.1
 have hcl:=RU p ha hb' hc
 have hL:=ag5 p hb
 have hLR:=acS R p ins c hc hb
 unfold Q6 arI at hN
 unfold ao5
 simp only[Mo.den,ay,xX,aA,aB,Us,Ut,JW,JX,JY,JZ,J3,J4,J5,J6,hhk,hrg,ha,hb',hc,htx,hcl,hL,kY,l9 p.fArg (by omega),apk p.dY (by omega),ag4 p.fExpr (by omega),Option.bind_some,dJ,gt0,bne,V3,nO,V4] at hN
 simp only[Mo.den,ay,xX,aA,aB,aeY,aeZ,Y3,Y4,Y5,Y6,Y7,Y8,acO,alz,RP,rM,LW,LX,alC,hhk,hrg,ha,hb',hc,htx,hcl,hLR,D7,lT p.fArg (by omega),alA p.dY (by omega),acN p.fExpr (by omega),Option.bind_some,dJ,gt0,bne,V3,nO,V4]
 have htb:tx=true→b=true:=fun h=>by
  rw[h] at htx
  unfold XO Um at hb'
  simp only[Mo.den,ay,ak,au,aA,aB,htx,Option.bind_some,dJ] at hb'
  have e:=Option.some.inj hb'
  rw[←e]
  cases decide (2≤p.fOp)<;>cases decide (p.fOp≤7)<;>rfl
 have h24:hk=true→p.fOp=24→p.bC=[]:=fun h h2=>by
  rw[h2,h] at hhk
  have e:=Option.some.inj (show some ((p.bC.length:Int)==0)=some true from hhk)
  exact len0 e
 have hKN:p.bC=[]→vN R ins p 0=some (.inr ()):=fun h=>nN (by simp only[xM,Mo.den,ay,ak,au,aA,aB,h];rfl)
 clear ha hb' hc htx hhk hrg hcl hL hLR hp hb
 have e4:(bif ins then !(p.cO.length:Int)==0 else true)=(!ins||!(p.cO.length:Int)==0):=by cases ins<;>rfl
 have e8:(b&&(!oq p.fArg||tx&&!p.fArg.aF==4))=(b&&!oq p.fArg||tx&&!p.fArg.aF==4):=by
  cases tx with
  |true=>rw[htb rfl];simp
  |false=>simp
 rw[e4,e8]
 clear e4 e8 htb
 cases c1:(decide (p.fOp<1)||decide (24<p.fOp)||!hk) with
 |true=>
  rw[c1] at hN
  rw[←Option.some.inj (show some (11:Int)=some (kX p ins) from hN)];rfl
 |false=>
  have hk1:hk=true:=by
   cases hk with
   |true=>rfl
   |false=>rw[Bool.or_eq_false_iff] at c1;cases c1.2
  rw[c1] at hN
  simp only[cond_false,Bool.false_or] at hN ⊢
  generalize (c&&(p.fArgs.length:Int)==0||!rg)=c2 at *
  generalize (a&&!rF p.cO&&(!ins||!(p.cO.length:Int)==0))=c3 at *
  generalize (b&&!oq p.fArg||tx&&!p.fArg.aF==4)=c5 at *
  cases c2 with
  |true=>rw[←Option.some.inj (show some (11:Int)=some (kX p ins) from hN)];rfl
  |false=>
   cases c3 with
   |true=>rw[←Option.some.inj (show some (10:Int)=some (kX p ins) from hN)];rfl
   |false=>
    cases c5 with
    |true=>rw[←Option.some.inj (show some (8:Int)=some (kX p ins) from hN)];rfl
    |false=>
     simp only[cond_false] at hN ⊢
     have rest:Sum.elim some (fun _=>some (bif !sO a b c p then 4 else bif p.fOp==24 then(lU 16 p.fExpr 0).1 else 0)) (bif p.fOp==18 then bif !sK p.dY==0 then(Sum.inl (sK p.dY):Int⊕Unit) else Sum.inr () else Sum.inr ())=some (kX p ins)→
      Sum.elim some (fun _=>bif !sO a b c p then some 4 else bif p.fOp==24 then some (lU 16 p.fExpr 0).1 else(vN R ins p 0).bind (Sum.elim some fun _=>some 0)) (bif p.fOp==18 then bif !sK p.dY==0 then(Sum.inl (sK p.dY):Int⊕Unit) else Sum.inr () else Sum.inr ())=bif !kX p ins==0 then some (kX p ins) else(vN R ins p 0).bind (Sum.elim some fun _=>some 0):=by
      intro hN
      have tail:some (bif !sO a b c p then 4 else bif p.fOp==24 then(lU 16 p.fExpr 0).1 else 0)=some (kX p ins)→(bif !sO a b c p then some 4 else bif p.fOp==24 then some (lU 16 p.fExpr 0).1 else(vN R ins p 0).bind (Sum.elim some fun _=>some 0))=bif !kX p ins==0 then some (kX p ins) else(vN R ins p 0).bind (Sum.elim some fun _=>some 0):=by
       intro hN
       cases hc:sO a b c p with
       |false=>rw[hc] at hN;rw[←Option.some.inj (show some (4:Int)=some (kX p ins) from hN)];rfl
       |true=>
        rw[hc] at hN
        cases ho:p.fOp==24 with
        |false=>rw[ho] at hN;rw[←Option.some.inj (show some (0:Int)=some (kX p ins) from hN)];rfl
        |true=>
         rw[ho] at hN
         have e:=Option.some.inj (show some (lU 16 p.fExpr 0).1=some (kX p ins) from hN)
         rw[hKN (h24 hk1 (eq_of_beq ho)),e]
         simp only[Bool.not_true,cond_false,cond_true,Option.bind_some]
         cases h0:kX p ins==0 with
         |false=>rfl
         |true=>rw[eq_of_beq h0];rfl
      cases h18:p.fOp==18 with
      |false=>rw[h18] at hN;exact tail hN
      |true=>
       rw[h18] at hN
       cases hs:sK p.dY==0 with
       |true=>rw[hs] at hN;exact tail hN
       |false=>
        rw[hs] at hN
        have e:=Option.some.inj (show some (sK p.dY)=some (kX p ins) from hN)
        rw[←e,hs];rfl
     cases c with
     |false=>
      simp only[cond_false,Option.bind_some,Sum.elim_inr] at hN
      exact rest hN
     |true=>
      cases hf:dF (Af p.fArgs) 0 p.fArgs.length with
      |some u=>rw[hf] at hN;rw[←Option.some.inj (show some (8:Int)=some (kX p ins) from hN)];rfl
      |none=>
       rw[hf] at hN
       simp only[cond_true,Option.bind_some,jB,Sum.elim_inr] at hN
       exact rest hN
theorem alD(n:Nat):∀(F G:Nat) (p:aO) (ins:Bool),aT p.lf1<n→n≤F→n≤G→aT p.lf1≤100000000→(pY G).m1 p ins=(nI F).m1 p ins∧∃c,(nI F).m1 p ins=some c:=by
 induction n with
 |zero=>intro F G p ins h;omega
 |succ n ih=>
  intro F G p ins hlt hF hG hb
  obtain⟨F,rfl⟩:∃K,F=K+1:=⟨F-1,by omega⟩
  obtain⟨G,rfl⟩:∃K,G=K+1:=⟨G-1,by omega⟩
  have hp:=iw p
  have hl:=oL p.bC
  have hkid:∀k (hk:k<p.bC.length) b,(pY G).m1 p.bC[k] b=(nI F).m1 p.bC[k] b∧∃c,(nI F).m1 p.bC[k] b=some c:=fun k hk b=>by
   have hm:=uw (List.getElem_mem hk)
   exact ih F G _ b (by omega) (by omega) (by omega) (by omega)
  let ins2:Bool:=bif ins then true else p.fOp==15
  let f:Nat→Option Int:=fun k=>match p.bC[k]? with
   |some x=>bif ((nI F).m1 x ins2).getD 0 != 0 then some (((nI F).m1 x ins2).getD 0) else none
   |none=>none
  have h1:abk (nI F) ins p 0=some (jB (dF f 0 p.bC.length)):=by
   try unfold abk
   refine dU f p.bC.length (by omega) (fun k hk=>?_) (by simp only[xw,Mo.den,ay,ak,au,aA,aB,ltn,cond_false])
   have hx:=List.getElem?_eq_getElem hk
   obtain⟨_,c,hc⟩:=hkid k hk ins2
   have hJ:abj (nI F) ins p (k:Int) p.bC[k]=some c:=by
    unfold abj J7
    simp only[Mo.den,ay,ak,au,aA,aB]
    cases ins with
    |true=>simp only[cond_true];rw[show(nI F).m1 p.bC[k] true=some c from hc];rfl
    |false=>simp only[cond_false];rw[show(nI F).m1 p.bC[k] (p.fOp==15)=some c from hc];rfl
   simp only[xw,Mo.den,ay,ak,au,aA,aB,ltt hx,gid hx,cond_true,Option.bind_some,hJ,f,hx,hc,Option.getD_some]
   cases c != 0<;>rfl
  have h2:vN (pY G) ins p 0=some (jB (dF f 0 p.bC.length)):=by
   try unfold vN
   refine dU f p.bC.length (by omega) (fun k hk=>?_) (by simp only[xM,Mo.den,ay,ak,au,aA,aB,ltn,cond_false])
   have hx:=List.getElem?_eq_getElem hk
   obtain⟨he,c,hc⟩:=hkid k hk ins2
   have hc2:=he.trans hc
   have hJ:acy (pY G) ins p (k:Int)=some c:=by
    unfold acy Y9
    simp only[Mo.den,ay,ak,au,aA,aB,gid hx,Option.bind_some]
    cases ins with
    |true=>simp only[cond_true];rw[show(pY G).m1 p.bC[k] true=some c from hc2];rfl
    |false=>simp only[cond_false];rw[show(pY G).m1 p.bC[k] (p.fOp==15)=some c from hc2];rfl
   simp only[xM,Mo.den,ay,ak,au,aA,aB,ltt hx,cond_true,Option.bind_some,hJ,f,hx,hc,Option.getD_some]
   cases c != 0<;>rfl
  have e1:(nI (F+1)).m1 p ins=bif kX p ins != 0 then some (kX p ins) else Sum.elim some (fun _=>some 0) (jB (dF f 0 p.bC.length)):=by
   show Mo.den (XU (nI F) p ins)=_
   unfold XU
   simp only[Mo.den,ay,xX,aA,aB,RS p ins hb,h1,Option.bind_some]
  have e2:(pY (G+1)).m1 p ins=bif kX p ins != 0 then some (kX p ins) else Sum.elim some (fun _=>some 0) (jB (dF f 0 p.bC.length)):=by
   have h:=ag7 (pY G) p ins hb
   rw[h2] at h
   exact h
  refine⟨by rw[e1,e2],?_⟩
  rw[e1]
  cases kX p ins != 0 with
  |true=>exact⟨_,rfl⟩
  |false=>cases dF f 0 p.bC.length<;>exact⟨_,rfl⟩
theorem alE(p:aO)(hb:aT p.lf1≤100000000):atu p=anB p:=by
 have h1:=alB 16 FU p 0 (by omega) (by have:=gW;omega) (by omega) hb
 have h1:Q62 p 1 0=_:=h1
 have h2:=acR 16 FU p 0 (by omega) (by have:=gW;omega) (by omega) hb
 have h2:Q44 p 16 256=_:=h2
 have h3:=(alD (aT p.lf1+1) FU FU p false (by omega) (by have:=gW;omega) (by have:=gW;omega) hb).1
 have h3:Q2 p false=Q47 p false:=h3
 have hle:=Ei 16 p 0 (by omega)
 unfold atu ald anB abl
 simp only[Mo.den,ay,ak,au,aA,aB,h1,h2,h3,Option.bind_some]
 cases (qP 16 p 0).1 != 0 with
 |true=>rfl
 |false=>simp only[cond_false,Bool.not_false,Bool.not_true];rw[decide_eq_false (show ¬256-((qP 16 p 0).2:Int)<0 by omega)];rfl
end Go.Proofs.YtflpefkohpjjpaaGreatDoor
set_option linter.unusedSimpArgs false
set_option linter.unusedVariables false
namespace Go.Proofs.YtflpefkohpjjpaaGreatDoor
open Go.RowKit
def Ej(a b:Int):Int:=bif decide (a<b) then -1 else bif decide (b<a) then 1 else 0
theorem L6(a b:Int):aoT a b=some (Ej a b):=by
 simp only[aoT,ak1,Mo.den,ay,ak,au,aA,aB,dJ,Ej]
theorem ZN(a b:Int):am9 a b=some (Ej a b):=by
 simp only[am9,aaU,Mo.den,ay,ak,au,aA,aB,arf,aaT,Mo.den,ay,ak,au,aA,aB,bne_self_eq_false,Option.bind_some,cond_false,dJ,Ej]
def RV(a b:ByteArray)(k:Nat):Option Int:=match a[k]?,b[k]? with
 |some x,some y=>bif (x.toNat:Int) != (y.toNat:Int) then some (Ej x.toNat y.toNat) else none
 |_,_=>none
theorem RX(a b:ByteArray):∀(n k:Nat),k+n=min a.size b.size→aaO (a.data.toList.drop k) (b.data.toList.drop k)=match dF (RV a b) k n with|some e=>e|none=>Ej (a.size:Int) (b.size:Int)
 |0,k,h=>by
  show aaO _ _=Ej (a.size:Int) (b.size:Int)
  have ha:a.data.toList.length=a.size:=Array.length_toList
  have hb:b.data.toList.length=b.size:=Array.length_toList
  unfold Ej
  rcases Nat.lt_trichotomy a.size b.size with h1|h1|h1
  ·rw[decide_eq_true (by omega),List.drop_eq_nil_of_le (by omega),List.drop_eq_getElem_cons (by omega)];rfl
  ·rw[decide_eq_false (by omega),decide_eq_false (by omega),List.drop_eq_nil_of_le (by omega),List.drop_eq_nil_of_le (by omega)];rfl
  ·rw[decide_eq_false (by omega),decide_eq_true (by omega),(List.drop_eq_nil_of_le (by omega):b.data.toList.drop k=[]),List.drop_eq_getElem_cons (by omega)];rfl
 |n+1,k,h=>by
  have ha:a.data.toList.length=a.size:=Array.length_toList
  have hb:b.data.toList.length=b.size:=Array.length_toList
  have ih:=RX a b n (k+1) (by omega)
  have e1:a.data.toList.drop k=a[k]::a.data.toList.drop (k+1):=List.drop_eq_getElem_cons (by omega)
  have e2:b.data.toList.drop k=b[k]::b.data.toList.drop (k+1):=List.drop_eq_getElem_cons (by omega)
  rw[e1,e2]
  have hf:RV a b k=bif (a[k].toNat:Int) != (b[k].toNat:Int) then some (Ej a[k].toNat b[k].toNat) else none:=by
   unfold RV
   rw[show a[k]?=some a[k] from getElem?_pos a k (by omega),show b[k]?=some b[k] from getElem?_pos b k (by omega)]
  unfold dF
  rw[hf]
  show(if a[k]<b[k] then -1 else if b[k]<a[k] then 1 else aaO (a.data.toList.drop (k+1)) (b.data.toList.drop (k+1)))=_
  have hlt:∀x y:UInt8,x<y↔x.toNat<y.toNat:=fun x y=>UInt8.lt_iff_toNat_lt
  by_cases h1:a[k].toNat<b[k].toNat
  ·rw[if_pos ((hlt _ _).2 h1), show((a[k].toNat:Int) != (b[k].toNat:Int))=true by rw[bne_iff_ne];omega]
   show _=Ej _ _
   unfold Ej;rw[decide_eq_true (by omega)];rfl
  ·rw[if_neg (fun e=>h1 ((hlt _ _).1 e))]
   by_cases h2:b[k].toNat<a[k].toNat
   ·rw[if_pos ((hlt _ _).2 h2), show((a[k].toNat:Int) != (b[k].toNat:Int))=true by rw[bne_iff_ne];omega]
    show _=Ej _ _
    unfold Ej;rw[decide_eq_false (by omega),decide_eq_true (by omega)];rfl
   ·rw[if_neg (fun e=>h2 ((hlt _ _).1 e)), show((a[k].toNat:Int) != (b[k].toNat:Int))=false by rw[bne_eq_false_iff_eq];omega]
    exact ih
theorem alF(x:UInt8):IntKind.wrap .i64 (x.toNat:Int)=(x.toNat:Int):=by
 have:=x.toNat_lt
 rw[w64 (by omega) (by omega)]
theorem RY(a b:ByteArray)(ha:a.size≤100000000)(hb:b.size≤100000000):Q57 a b=some (AO a b):=by
 have hL:acp a b 0=some (jB (dF (RV a b) 0 (min a.size b.size))):=by
  try unfold acp
  refine dU _ (min a.size b.size) (by omega) (fun k hk=>?_) ?_
  ·have h1:k<a.size:=by omega
   have h2:k<b.size:=by omega
   simp only[DF,KY,Mo.den,ay,ak,au,aA,aB,iLt h1,iLt h2,cond_true,Option.bind_some,og a k h1,og b k h2,alF,L6]
   unfold RV
   rw[show a[k]?=some a[k] from getElem?_pos a k h1,show b[k]?=some b[k] from getElem?_pos b k h2]
   simp only
   cases (a[k].toNat:Int) != (b[k].toNat:Int)<;>rfl
  ·simp only[DF,KY,Mo.den,ay,ak,au,aA,aB]
   have:(decide (((min a.size b.size:Nat):Int)<(a.size:Int))&&decide (((min a.size b.size:Nat):Int)<(b.size:Int)))=false:=by
    rw[Bool.eq_false_iff];simp;omega
   rw[dJ,nO,this];rfl
 have hc:=RX a b (min a.size b.size) 0 (by omega)
 rw[List.drop_zero,List.drop_zero] at hc
 unfold Q57 apS AO
 simp only[Mo.den,ay,ak,au,aA,aB,hL,L6,Option.bind_some]
 rw[hc]
 cases dF (RV a b) 0 (min a.size b.size)<;>rfl
theorem apl(a b:Nat):(if(b:Int)<(a:Int) then(b:Int) else(a:Int))=((min a b:Nat):Int):=by
 by_cases h:b<a
 ·rw[if_pos (by omega),Nat.min_eq_right (by omega)]
 ·rw[if_neg (by omega),Nat.min_eq_left (by omega)]
theorem acT(n:Nat):∀(F G:Nat) (a b:ah),aT a.lf1<n→n≤F→n≤G→aT a.lf1≤100000000→aT b.lf1≤100000000→(qK G).m1 a b=(kV F).m1 a b∧∃c,(kV F).m1 a b=some c:=by
 induction n with
 |zero=>intro F G a b h;omega
 |succ n ih=>
  intro F G a b hlt hF hG ha hb
  obtain⟨F,rfl⟩:∃K,F=K+1:=⟨F-1,by omega⟩
  obtain⟨G,rfl⟩:∃K,G=K+1:=⟨G-1,by omega⟩
  have pa:=dW a
  have pb:=dW b
  have la:=jf a.aW
  have lda:=iQ a.aU
  let fl:Nat→Option Int:=fun k=>match a.aW[k]?,b.aW[k]? with
   |some x,some y=>bif ((kV F).m1 x y).getD 0 != 0 then some (((kV F).m1 x y).getD 0) else none
   |_,_=>none
  let fd:Nat→Option Int:=fun k=>match a.aU[k]?,b.aU[k]? with
   |some x,some y=>bif AO x.fName y.fName != 0 then some (AO x.fName y.fName) else bif ((kV F).m1 x.fValue y.fValue).getD 0 != 0 then some (((kV F).m1 x.fValue y.fValue).getD 0) else none
   |_,_=>none
  have kidL:∀{k:Nat} {x y:ah},a.aW[k]?=some x→b.aW[k]?=some y→(qK G).m1 x y=(kV F).m1 x y∧∃c,(kV F).m1 x y=some c:=fun {k x y} hx hy=>by
   have h1:=jK (iR hx)
   have h2:=jK (iR hy)
   exact ih F G x y (by omega) (by omega) (by omega) (by omega) (by omega)
  have kidD:∀{k:Nat} {x y:aJ},a.aU[k]?=some x→b.aU[k]?=some y→((qK G).m1 x.fValue y.fValue=(kV F).m1 x.fValue y.fValue∧∃c,(kV F).m1 x.fValue y.fValue=some c)∧x.fName.size≤100000000∧y.fName.size≤100000000:=fun {k x y} hx hy=>by
   have h1:=iC (iR hx)
   have h2:=iC (iR hy)
   rw[fV] at h1 h2
   exact⟨ih F G x.fValue y.fValue (by omega) (by omega) (by omega) (by omega) (by omega),by omega,by omega⟩
  have L1:Uf (kV F) a b 0=some (jB (dF fl 0 (min a.aW.length b.aW.length))):=by
   try unfold Uf
   refine dU fl (min a.aW.length b.aW.length) (by omega) (fun k hk=>?_) (by simp only[tJ,Mo.den,ay,ak,au,aA,aB,apl,ltn,cond_false])
   obtain⟨x,hx⟩:∃x,a.aW[k]?=some x:=⟨_,List.getElem?_eq_getElem (by omega)⟩
   obtain⟨y,hy⟩:∃y,b.aW[k]?=some y:=⟨_,List.getElem?_eq_getElem (by omega)⟩
   obtain⟨_,c,hc⟩:=kidL hx hy
   simp only[tJ,Mo.den,ay,ak,au,aA,aB,apl,iLt hk,gid hx,gid hy,cond_true,Option.bind_some,hc,fl,hx,hy,Option.getD_some]
   cases c != 0<;>rfl
  have L2:Vt (qK G) a b 0=some (jB (dF fl 0 (min a.aW.length b.aW.length))):=by
   try unfold Vt
   refine dU fl (min a.aW.length b.aW.length) (by omega) (fun k hk=>?_) ?_
   ·obtain⟨x, hx⟩:∃x, a.aW[k]?=some x:=⟨_, List.getElem?_eq_getElem (by omega)⟩
    obtain⟨y,hy⟩:∃y,b.aW[k]?=some y:=⟨_,List.getElem?_eq_getElem (by omega)⟩
    obtain⟨he,c,hc⟩:=kidL hx hy
    have hc2:=he.trans hc
    simp only[zh,FZ,Mo.den,ay,ak,au,aA,aB,ltt hx,ltt hy,gid hx,gid hy,cond_true,Option.bind_some,hc2,hc,fl,hx,hy,Option.getD_some]
    cases c != 0<;>rfl
   ·have:(decide (((min a.aW.length b.aW.length:Nat):Int)<(a.aW.length:Int))&&decide (((min a.aW.length b.aW.length:Nat):Int)<(b.aW.length:Int)))=false:=by
     rw[Bool.eq_false_iff];simp;omega
    simp only[zh,FZ,Mo.den,ay,ak,au,aA,aB,dJ,nO,this,Option.bind_some,cond_false]
  have L3:Ug (kV F) a b 0=some (jB (dF fd 0 (min a.aU.length b.aU.length))):=by
   try unfold Ug
   refine dU fd (min a.aU.length b.aU.length) (by omega) (fun k hk=>?_) (by simp only[tK,Mo.den,ay,ak,au,aA,aB,apl,ltn,cond_false])
   obtain⟨x,hx⟩:∃x,a.aU[k]?=some x:=⟨_,List.getElem?_eq_getElem (by omega)⟩
   obtain⟨y,hy⟩:∃y,b.aU[k]?=some y:=⟨_,List.getElem?_eq_getElem (by omega)⟩
   obtain⟨⟨_,c,hc⟩,_,_⟩:=kidD hx hy
   simp only[tK,Mo.den,ay,ak,au,aA,aB,apl,iLt hk,gid hx,gid hy,cond_true,Option.bind_some,D9,hc,fd,hx,hy,Option.getD_some]
   cases AO x.fName y.fName != 0<;>cases c != 0<;>rfl
  have L4:Vu (qK G) a b 0=some (jB (dF fd 0 (min a.aU.length b.aU.length))):=by
   try unfold Vu
   refine dU fd (min a.aU.length b.aU.length) (by omega) (fun k hk=>?_) ?_
   ·obtain⟨x, hx⟩:∃x, a.aU[k]?=some x:=⟨_, List.getElem?_eq_getElem (by omega)⟩
    obtain⟨y,hy⟩:∃y,b.aU[k]?=some y:=⟨_,List.getElem?_eq_getElem (by omega)⟩
    obtain⟨⟨he,c,hc⟩,s1,s2⟩:=kidD hx hy
    have hc2:=he.trans hc
    simp only[zi,F5,Qp,Mo.den,ay,ak,au,aA,aB,ltt hx,ltt hy,gid hx,gid hy,cond_true,Option.bind_some,RY _ _ s1 s2,hc2,hc,fd,hx,hy,Option.getD_some,dJ]
    cases h0:AO x.fName y.fName==0 with
    |true=>
     have:(AO x.fName y.fName != 0)=false:=by rw[bne,h0];rfl
     rw[this]
     simp only[cond_true,cond_false]
     cases c != 0<;>rfl
    |false=>
     have:(AO x.fName y.fName != 0)=true:=by rw[bne,h0];rfl
     simp only[cond_false,this,cond_true]
   ·have:(decide (((min a.aU.length b.aU.length:Nat):Int)<(a.aU.length:Int))&&decide (((min a.aU.length b.aU.length:Nat):Int)<(b.aU.length:Int)))=false:=by
     rw[Bool.eq_false_iff];simp;omega
    simp only[zi,F5,Mo.den,ay,ak,au,aA,aB,dJ,nO,this,Option.bind_some,cond_false]
  have e1:(qK (G+1)).m1 a b=(kV (F+1)).m1 a b:=by
   show Mo.den (aeO (qK G) a b)=Mo.den (JG (kV F) a b)
   unfold aeO JG
   simp only[Mo.den,ay,ak,au,aA,aB,YG,YH,JE,JF,L6,ZN,D9,RY a.fText b.fText (by omega) (by omega),L1,L2,L3,L4,Option.bind_some]
  refine⟨e1,?_⟩
  obtain⟨c,hc,_⟩:=qO (F+1) a b (by omega) ha hb
  exact⟨c,hc⟩
theorem acU(a b:ah)(ha:aT a.lf1≤100000000)(hb:aT b.lf1≤100000000):Q10 a b=Q33 a b:=(acT (aT a.lf1+1) FU FU a b (by omega) (by have:=gW;omega) (by have:=gW;omega) ha hb).1
end Go.Proofs.YtflpefkohpjjpaaGreatDoor
set_option linter.unusedSimpArgs false
set_option linter.unusedVariables false
namespace Go.Proofs.YtflpefkohpjjpaaGreatDoor
open Go.RowKit
theorem alG(e:aP):anE e=some (Bq e):=by
 simp only[anE,abn,dR,nX,nV,J8,nU,qx,qw,Mo.den,ay,ak,au,aA,aB,afb,Option.bind_some,dJ,Bq]
 cases e.fOp==0<;>cases (e.cO.length:Int)==0<;>cases decide (e.fName=⟨#[]⟩)<;>cases (e.eP.length:Int)==0<;>cases jG e.fArg<;>cases e.fN==0<;>rfl
theorem afc(p:List ByteArray)(hl:p.length≤100000000):atv p []=some ((p.length:Int)==0):=by
 simp only[atv,alf,auO,ale,Mo.den,ay,ak,au,aA,aB]
 cases p with
 |nil=>
  have h:acr [] [] 0=some (.inr ()):=nN (by simp only[ug,Mo.den,ay,ak,au,aA,aB];rfl)
  rw[h];rfl
 |cons x r=>
  rw[show(((x::r).length:Int)==(([]:List ByteArray).length:Int))=false by rw[beq_eq_false_iff_ne];simp only[List.length_cons,List.length_nil];omega]
  simp only[cond_false]
  rw[show(((x::r).length:Int)==0)=false by rw[beq_eq_false_iff_ne,List.length_cons];omega]
theorem ZO(e:aP)(hb:aT e.lf1≤100000000):Q27 e aP.z=some (Bq e):=by
 have hp:=jP e
 have l1:=iy e.cO
 have l2:=iy e.eP
 unfold Q27
 obtain⟨G,hG⟩:=VU
 rw[hG]
 show Mo.den (ae2 (Gg G) e aP.z)=_
 unfold ae2 Za Zb QJ QK QL QM Bq
 have z1:aP.z.cO=[]:=rfl
 have z2:aP.z.eP=[]:=rfl
 have z3:aP.z.fArg=ah.mk 0 0 ⟨#[]⟩ [] []:=rfl
 simp only[Mo.den,ay,ak,au,aA,aB,z1,z2,z3,afc _ (show e.cO.length≤100000000 by omega),afc _ (show e.eP.length≤100000000 by omega),vY,Option.bind_some,dJ]
 have e1:(e.fOp != aP.z.fOp)=!(e.fOp==0):=rfl
 have e2:(e.fN != aP.z.fN)=!(e.fN==0):=rfl
 have e3:((e.bC.length:Int) != (aP.z.bC.length:Int))=!((e.bC.length:Int)==0):=rfl
 have e5:decide (e.fName=aP.z.fName)=decide (e.fName=⟨#[]⟩):=rfl
 rw[e1,e2,e3,e5]
 cases h1:e.fOp==0<;>cases h2:(e.cO.length:Int)==0<;>cases h3:decide (e.fName=⟨#[]⟩)<;>cases h4:(e.eP.length:Int)==0<;>cases h5:jG e.fArg<;>cases h6:e.fN==0<;>cases h7:(e.bC.length:Int)==0<;>first|rfl|skip
 have a1:=len0 h7
 have l3:ae1 (Gg G) e aP.z 0=some (.inr ()):=nN (by simp only[Gf,Mo.den,ay,ak,au,aA,aB,a1];rfl)
 rw[l3];rfl
theorem ZP(p:aO)(hb:aT p.lf1≤100000000):Q29 p=anG p:=by
 have hp:=iw p
 simp only[Q29,apZ,dR,QX,QW,QV,QU,QT,QS,QO,QN,Zc,tC,Mo.den,ay,ak,au,aA,aB,anG,abo,dR,yH,J9,yG,yF,yE,yD,yC,yB,PY,tC,Mo.den,ay,ak,au,aA,aB,afb,vY,alG,ZO p.fExpr (by omega)]
theorem ZQ(x:aQ)(hb:aT x.lf1≤100000000):aty x=XV x:=by
 have hp:=jX x
 have hn:anj [x.fName]=some (nameB x.fName):=by
  rw[kY];simp only[rF,List.length_cons,List.length_nil,List.all_cons,List.all_nil,Bool.and_true];rfl
 simp only[aty,alg,QZ,QY,Mo.den,ay,ak,au,aA,aB,XV,abp,Fh,Fg,Mo.den,ay,ak,au,aA,aB,hn,qN,H8 x.gq (by omega),VT x.gq (by omega),alE x.bG (by omega),ZP x.bG (by omega)]
theorem ZR(s:aI)(hb:aT s.lf1≤100000000):acz s 0 []=some (s.dD.map bH.fName):=by
 have hp:=gK s
 have hl:=l7 s.dD
 have key:Tot (acz s 0 []) (fun r=>r=s.dD.map bH.fName):=by
  refine T.qA s.dD.length (by omega) (fun k v=>v=((k:Int),(s.dD.take k).map bH.fName)) _ rfl ?_ ?_
  ·rintro k v hk rfl
   have hx:=List.getElem?_eq_getElem hk
   simp only[DU,Mo.den,ay,ak,au,aA,aB,ltt hx,gid hx,cond_true,Option.bind_some]
   refine T.grd (by rw[List.length_map,List.length_take,List.length_cons,List.length_nil];omega) (T.ret (show _=_ from ?_))
   rw[inc k (by omega),pq _ hx]
  ·rintro v rfl
   simp only[DU,Mo.den,ay,ak,au,aA,aB,ltn,cond_false]
   exact T.ret (show _=_ by rw[List.take_length])
 obtain⟨r,hr,rfl⟩:=key
 exact hr
theorem alH(n:Int)(h : -9223372036854775808≤n∧n≤9223372036854775807):(gX .andNot .i64 n 4094 != 0)=(decide (n<0)||Int.tmod n 2==1||decide (4096≤n)):=by
 obtain⟨h1,h2⟩:=h
 show(IntKind.wrap .i64 (BitVec.ofInt 64 n &&& ~~~BitVec.ofInt 64 4094).toNat != 0)=_
 have hm: ~~~BitVec.ofInt 64 4094=BitVec.ofNat 64 18446744073709547521:=by decide
 rw[hm]
 have hw:∀x:BitVec 64,(IntKind.wrap .i64 (x.toNat:Int) != 0)=(x != 0#64):=by
  intro x
  have hx:=x.isLt
  rw[IntKind.wrap_i64]
  rw[Bool.eq_iff_iff]
  simp only[bne_iff_ne,ne_eq]
  constructor
  ·intro h e;apply h;rw[e];decide
  ·intro h e;apply h;apply BitVec.eq_of_toNat_eq;simp only[BitVec.toNat_ofNat];omega
 rw[hw]
 by_cases hn:n<0
 ·rw[decide_eq_true hn]
  simp only[Bool.true_or]
  have:(BitVec.ofInt 64 n &&& BitVec.ofNat 64 18446744073709547521)≠0#64:=by
   intro e
   have e2:=congrArg (fun x:BitVec 64=>x.getLsbD 63) e
   simp only[BitVec.getLsbD_and,BitVec.getLsbD_zero] at e2
   have e3:(BitVec.ofNat 64 18446744073709547521).getLsbD 63=true:=by decide
   have e4:(BitVec.ofInt 64 n).getLsbD 63=true:=by
    have:(BitVec.ofInt 64 n).msb=true:=by
     rw[BitVec.msb_eq_toInt,BitVec.toInt_ofInt,decide_eq_true_eq]
     rw[Int.bmod_def];split<;>omega
    rw[BitVec.msb_eq_getLsbD_last] at this;exact this
   rw[e3,e4] at e2;cases e2
  simpa using this
 ·rw[decide_eq_false hn]
  obtain⟨k,rfl⟩:=Int.eq_ofNat_of_zero_le (show 0≤n by omega)
  have e1:(Int.tmod (k:Int) 2==1)=(k%2==1):=by
   rw[Bool.eq_iff_iff];simp only[beq_iff_eq];rw[Int.tmod_eq_emod_of_nonneg (by omega)];omega
  rw[e1]
  have e2:BitVec.ofInt 64 (k:Int)=BitVec.ofNat 64 k:=by apply BitVec.eq_of_toNat_eq;rw[BitVec.toNat_ofInt,BitVec.toNat_ofNat];omega
  rw[e2]
  have hv:(BitVec.ofNat 64 k &&& BitVec.ofNat 64 18446744073709547521).toNat=k &&& 18446744073709547521:=by
   rw[BitVec.toNat_and,BitVec.toNat_ofNat,BitVec.toNat_ofNat,Nat.mod_eq_of_lt (by omega),Nat.mod_eq_of_lt (by omega)]
  have hz:(BitVec.ofNat 64 k &&& BitVec.ofNat 64 18446744073709547521 != 0#64)=!(k &&& 18446744073709547521==0):=by
   rw[Bool.eq_iff_iff]
   simp only[bne_iff_ne,ne_eq,Bool.not_eq_true',beq_eq_false_iff_ne]
   constructor
   ·intro h e;apply h;apply BitVec.eq_of_toNat_eq;rw[hv,e];rfl
   ·intro h e;apply h;rw[←hv,e];rfl
  rw[hz]
  have hs:(k &&& 18446744073709547521=0)↔(k%2=0∧k<4096):=by
   constructor
   ·intro h0
    have hb:∀i,(k &&& 18446744073709547521).testBit i=false:=fun i=>by rw[h0];exact Nat.zero_testBit i
    constructor
    ·have:=hb 0
     rw[Nat.testBit_and] at this
     have h3:Nat.testBit 18446744073709547521 0=true:=by decide
     rw[h3,Bool.and_true,Nat.testBit_zero] at this
     simpa using this
    ·apply Nat.lt_of_not_le
     intro hk
     obtain⟨i,hi,ht⟩:=Nat.exists_ge_and_testBit_of_ge_two_pow (n:=12) hk
     have:=hb i
     rw[Nat.testBit_and,ht,Bool.true_and] at this
     have hi2:i<64:=by
      apply Nat.lt_of_not_le
      intro h64
      rw[Nat.testBit_lt_two_pow (show k<2^i from Nat.lt_of_lt_of_le (show k<2^64 by omega) (Nat.pow_le_pow_right (by omega) h64))] at ht
      cases ht
     have hall:∀j:Fin 64,12≤j.val→Nat.testBit 18446744073709547521 j.val=true:=by decide
     rw[hall ⟨i,hi2⟩ hi] at this;cases this
   ·rintro⟨hk0,hk⟩
    apply Nat.eq_of_testBit_eq
    intro i
    rw[Nat.zero_testBit,Nat.testBit_and]
    by_cases hi:i<12
    ·by_cases hi0:i=0
     ·subst hi0
      rw[Nat.testBit_zero,hk0];rfl
     ·have hall:∀j:Fin 12, j.val≠0→Nat.testBit 18446744073709547521 j.val=false:=by decide
      rw[hall ⟨i,hi⟩ hi0,Bool.and_false]
    ·rw[Nat.testBit_lt_two_pow (show k<2^i from Nat.lt_of_lt_of_le hk (Nat.pow_le_pow_right (n:=2) (by omega) (show 12≤i by omega)))];rfl
  rw[Bool.eq_iff_iff]
  simp only[Bool.not_eq_true',beq_eq_false_iff_ne,ne_eq,hs,Bool.or_eq_true,beq_iff_eq,decide_eq_true_eq,Bool.false_eq_true,false_or]
  omega
theorem RZ(has:Bool)(v:ah)(hb:aT v.lf1≤100000000):Q72 has v=some (bif has then oq v else jG v):=by
 simp only[Q72,ai2,yQ,P5,PZ,XY,XW,Mo.den,ay,ak,au,aA,aB,l9 v hb,Option.bind_some,dJ,jG]
 cases has<;>cases v.aF==0<;>cases v.fA==0<;>cases decide (v.fText=⟨#[]⟩)<;>cases (v.aW.length:Int)==0<;>rfl
theorem Em(has:Bool)(v:ah)(hb:aT v.lf1≤100000000):Q98 has v=some (!(bif has then oq v else jG v)):=by
 simp only[Q98,ap1,yQ,Ze,Zd,Mo.den,ay,ak,au,aA,aB,lT v hb,vY,Option.bind_some,dJ]
 cases has<;>cases oq v<;>rfl
noncomputable def V5(s:aI):Int:=(Q7 s).getD 0
theorem ZT(s:aI)(hb:aT s.lf1≤100000000):Q7 s=some (V5 s):=by
 obtain⟨r,hr,_⟩:=ql s hb
 unfold V5
 rw[hr];rfl
theorem Si{s:aI}(hb:aT s.lf1≤100000000):(s.dD.map bH.fName).length≤100000000:=by
 have hp:=gK s
 have hl:=l7 s.dD
 rw[List.length_map];omega
theorem acV(s:aI)(hb:aT s.lf1≤100000000)(hk : -9223372036854775808≤s.iZ∧s.iZ≤9223372036854775807):Q14 s=some (V5 s):=by
 rw[←ZT s hb]
 have hp:=gK s
 have hreq:=iy s.dZ
 have henum:=jf s.iV
 have hpl:=l7 s.dD
 have h1:ai4 s 0 []=some (bif mG [] s.dZ then .inr () else .inl ()):=by
  try unfold ai4
  exact Gw s.dZ (by omega) (fun k x m hx hm=>by
   have hlt:=oM hx
   have hg:(oN m).length<maxLen:=by rw[oN,List.length_map];unfold maxLen;omega
   unfold CY
   simp only[Uu,Mo.den,ay,ak,au,aA,aB,ltt hx,gid hx,cond_true,Option.bind_some,zx,uy,if_pos hg]
   cases nameB x<;>cases hasB x m<;>rfl) (fun m=>by unfold CY;simp only[Mo.den,ay,ak,au,aA,aB,ltn,cond_false])
 have h2:abu s 0 []=some (bif mG [] (s.dD.map bH.fName) then .inr () else .inl ()):=by
  try unfold abu
  refine Gw (s.dD.map bH.fName) (Si hb) (fun k x m hx hm=>?_) (fun m=>?_)
  ·rw[List.getElem?_map] at hx
   obtain⟨y,hy,rfl⟩:=Option.map_eq_some_iff.1 hx
   have hlt:=oM hy
   have hg:(oN m).length<maxLen:=by rw[oN,List.length_map];unfold maxLen;omega
   unfold xB
   simp only[Kq,Mo.den,ay,ak,au,aA,aB,ltt hy,gid hy,cond_true,Option.bind_some,zx,uy,if_pos hg]
   cases nameB y.fName<;>cases hasB y.fName m<;>rfl
  ·rw[List.length_map]
   unfold xB
   simp only[Mo.den,ay,ak,au,aA,aB,ltn,cond_false]
 have h3:abv s 0=some (jB (dF (Af s.iV) 0 s.iV.length)):=by
  try unfold abv
  refine dU _ s.iV.length (by omega) (fun k hk=>?_) (by simp only[xC,Mo.den,ay,ak,au,aA,aB,ltn,cond_false])
  have hx:=List.getElem?_eq_getElem hk
  have hm:=jK (iR hx)
  simp only[xC,Mo.den,ay,ak,au,aA,aB,ltt hx,gid hx,cond_true,Option.bind_some,l9 _ (show aT s.iV[k].lf1≤100000000 by omega),Af,hx]
  cases oq s.iV[k]<;>rfl
 have h4:VH s 0=some (jB (dF (Af s.iV) 0 s.iV.length)):=by
  try unfold VH
  refine dU _ s.iV.length (by omega) (fun k hk=>?_) (by simp only[zn,Mo.den,ay,ak,au,aA,aB,ltn,cond_false])
  have hx:=List.getElem?_eq_getElem hk
  have hm:=jK (iR hx)
  simp only[zn,Mo.den,ay,ak,au,aA,aB,ltt hx,gid hx,cond_true,Option.bind_some,lT _ (show aT s.iV[k].lf1≤100000000 by omega),Af,hx]
  cases oq s.iV[k]<;>rfl
 have hkind:=alH s.iZ hk
 unfold Q14 ap2 Q7 arM
 simp only[Mo.den,ay,ak,au,aA,aB,ZR s hb,h1,h2,h3,h4,Zf,Rf,Rh,Ri,Rj,Rk,Rl,Kr,Kt,Ku,Kv,Option.bind_some,Ad s.dZ (by omega),Ad (s.dD.map bH.fName) (Si hb),RZ s.jE s.kT (by omega),RZ s.jF s.kU (by omega),Em s.jE s.kT (by omega),Em s.jF s.kU (by omega),hkind,dJ]
 clear h1 h2 h3 h4 hkind hk hp hreq henum hpl
 generalize mG [] s.dZ=a1
 generalize mG [] (s.dD.map bH.fName)=a2
 generalize (bif s.jE then oq s.kT else jG s.kT)=a3
 generalize (bif s.jF then oq s.kU else jG s.kU)=a4
 generalize dF (Af s.iV) 0 s.iV.length=a5
 generalize decide (s.iZ<0)=b1
 generalize (Int.tmod s.iZ 2==1)=b2
 generalize decide ((4096:Int)≤s.iZ)=b3
 generalize decide (s.jQ<0)=b4
 generalize decide (s.jR < -1)=b5
 generalize decide ((1:Int)<(s.eU.length:Int))=b6
 cases a1<;>cases a2<;>rfl
end Go.Proofs.YtflpefkohpjjpaaGreatDoor
set_option linter.unusedSimpArgs false
set_option linter.unusedVariables false
namespace Go.Proofs.YtflpefkohpjjpaaGreatDoor
mutual
def zY:Lf→Prop
 |.int k n=>(Lit.int k n).wf=true
 |.str s=>s.size≤maxLen
 |.bool _=>True
 |.rows _ l=>l.length≤maxLen∧GZ l
def jm:List Lf→Prop
 |[]=>True
 |x::r=>zY x∧jm r
def GZ:List (List Lf)→Prop
 |[]=>True
 |r::q=>jm r∧GZ q
end
mutual
theorem LRp.fit {I:Gh}:∀(x:Lf) (v:Value),LRp I x v→zY x
 |.int k n,v,h=>by unfold zY;exact h.int.2
 |.str s,v,h=>by unfold zY;exact h.str.2
 |.bool b,v,h=>by unfold zY;trivial
 |.rows n l,v,h=>by
  unfold LRp at h
  unfold zY
  obtain⟨a,c,h1,h2,h3,h4⟩:=h
  refine⟨Nat.le_trans h2 h3,?_⟩
  cases l with
  |nil=>unfold GZ;trivial
  |cons r q=>
   obtain⟨b,off,e,hr⟩:=h4 (by simp)
   exact RRp.fit b n off (r::q) hr
theorem RRp.fit {I:Gh} (b n:Nat):∀(o:Nat) (l:List (List Lf)),RRp I b n o l→GZ l
 |_,[],_=>by unfold GZ;trivial
 |o,r::q,hl=>by
  unfold RRp at hl
  unfold GZ
  exact⟨CRp.fit b o r hl.2.1,RRp.fit b n (o+n) q hl.2.2⟩
theorem CRp.fit {I:Gh} (b:Nat):∀(o:Nat) (r:List Lf),CRp I b o r→jm r
 |_,[],_=>by unfold jm;trivial
 |o,x::r,hl=>by
  unfold CRp at hl
  unfold jm
  obtain⟨⟨v,h1,h2⟩,h3⟩:=hl
  exact⟨LRp.fit x v h2,CRp.fit b (o+1) r h3⟩
end
theorem dX.fit{I:Gh}:∀(r:List Lf) (cs:List Value),dX I r cs→jm r
 |[],_,_=>by unfold jm;trivial
 |x::r,_,h=>by
  obtain⟨c,q,e,h1,h2⟩:=h
  unfold jm
  exact⟨h1.fit,dX.fit r q h2⟩
theorem alI:jm []:=by unfold jm;trivial
theorem oQ{x:Lf}{r:List Lf}:jm (x::r)↔zY x∧jm r:=by rw[jm]
theorem ou{l m:List Lf}:jm (l++m)↔jm l∧jm m:=by
 induction l with
 |nil=>exact⟨fun h=>⟨alI,h⟩,fun h=>h.2⟩
 |cons x r ih=>rw[List.cons_append,oQ,oQ,ih];exact⟨fun⟨a,b,c⟩=>⟨⟨a,b⟩,c⟩,fun⟨⟨a,b⟩,c⟩=>⟨a,b,c⟩⟩
theorem ag8{l:List (List Lf)}(h:GZ l):∀r∈l,jm r:=by
 induction l with
 |nil=>intro r hr;cases hr
 |cons x q ih=>
  rw[GZ] at h
  intro r hr
  rcases List.mem_cons.1 hr with rfl|hr
  ·exact h.1
  ·exact ih h.2 r hr
theorem xY{α:Type}{n:Nat}{lf:α→List Lf}{l:List α}(h:zY (.rows n (l.map lf))){x:α}(hx:x∈l):jm (lf x):=by
 rw[zY] at h
 exact ag8 h.2 _ (List.mem_map_of_mem hx)
theorem afd{n:Int}(h:zY (.int .i64 n)) : -9223372036854775808≤n∧n≤9223372036854775807:=by
 rw[zY] at h
 exact bounds_i64 h
theorem L8{s:aI}(h:jm s.lf1):(-9223372036854775808≤s.iZ∧s.iZ≤9223372036854775807)∧(∀p∈s.dD,jm p.aZ.lf1)∧∀x∈s.eU,jm x.lf1:=by
 unfold aI.lf1 at h
 simp only[ou,oQ] at h
 obtain⟨⟨a1,_⟩,_,_,_,_,_,_,_,a2,_,a3,_⟩:=h
 refine⟨afd a1,fun p hp=>?_,fun x hx=>?_⟩
 ·have h2:=xY a2 hp
  rw[bH.bf] at h2
  unfold bH.lf1 at h2
  exact(ou.1 h2).2
 ·have h2:=xY a3 hx
  rw[aI.bf] at h2;exact h2
theorem ag9{w:aG}(h:jm w.lf1):jm w.dS.aZ.lf1∧∀x∈w.bQ,jm x.lf1:=by
 unfold aG.lf1 bU.lf1 at h
 simp only[ou,oQ] at h
 obtain⟨_,_,_,_,⟨_,a1,_⟩,_,_,_,a2,_⟩:=h
 refine⟨a1,fun x hx=>?_⟩
 have h2:=xY a2 hx
 rw[aG.bf] at h2;exact h2
theorem aha{e:bY}(h:jm e.lf1):jm e.dI.lf1:=by
 unfold bY.lf1 at h
 exact(ou.1 h).2
end Go.Proofs.YtflpefkohpjjpaaGreatDoor
set_option linter.unusedSimpArgs false
set_option linter.unusedVariables false
namespace Go.Proofs.YtflpefkohpjjpaaGreatDoor
open Go.RowKit
def En(s:aI):List aI:=s.dD.map bH.aZ++s.eU
noncomputable def nD:Nat→aI→Nat→Int×Nat
 |0,_,n=>(2,n)
 |d+1,s,n=>bif n==64 then(2,n) else bif V5 s != 0 then(V5 s,n+1) else fJ (nD d) (En s) (n+1)
theorem Eo:∀(d:Nat) (s:aI) (n:Nat),n≤64→(nD d s n).2≤64
 |0,s,n,h=>h
 |d+1,s,n,h=>by
  unfold nD
  cases hn:n==64 with
  |true=>exact h
  |false=>
   have:¬n=64:=by simpa using hn
   cases V5 s != 0 with
   |true=>show n+1≤64;omega
   |false=>exact xW _ 64 _ _ (fun x _ m hm=>Eo d x m hm) (by omega)
theorem Sj{p:bH}{l:List bH}(h:p∈l):aT p.aZ.lf1≤dH (l.map bH.lf):=by
 have h1:=DY h
 have h2:=uo p
 omega
theorem alJ{s x:aI}(h:x∈En s):aT x.lf1<aT s.lf1:=by
 have hp:=gK s
 unfold En at h
 rcases List.mem_append.1 h with h|h
 ·obtain⟨p,hm,rfl⟩:=List.mem_map.1 h
  have:=Sj hm
  omega
 ·have:=vP h
  omega
theorem alK{s x:aI}(hf:jm s.lf1)(h:x∈En s):jm x.lf1:=by
 obtain⟨_,h1,h2⟩:=L8 hf
 unfold En at h
 rcases List.mem_append.1 h with h|h
 ·obtain⟨p,hm,rfl⟩:=List.mem_map.1 h
  exact h1 p hm
 ·exact h2 x h
theorem alL{s:aI}:(En s).length≤aT s.lf1:=by
 have hp:=gK s
 have h1:=l7 s.dD
 have h2:=nJ s.eU
 unfold En
 rw[List.length_append,List.length_map];omega
theorem acW(d:Nat):∀(F:Nat) (s:aI) (n:Nat),d≤16→d+1≤F→n≤64→aT s.lf1≤100000000→(nZ F).m1 s (17-(d:Int)) (n:Int)=some ((nD d s n).1,((nD d s n).2:Int)):=by
 induction d with
 |zero=>
  intro F s n _ hF _ _
  obtain⟨F,rfl⟩:∃G,F=G+1:=⟨F-1,by omega⟩
  show Mo.den (Kw (nZ F) s (17-((0:Nat):Int)) (n:Int))=_
  unfold Kw
  simp only[Mo.den,ay,ak,au,aA,aB,CZ]
  rw[decide_eq_true (show(16:Int)<17-((0:Nat):Int) by omega)];rfl
 |succ d ih=>
  intro F s n hd hF hn hb
  obtain⟨F,rfl⟩:∃G,F=G+1:=⟨F-1,by omega⟩
  have hp:=gK s
  have hk1:=l7 s.dD
  have hk2:=nJ s.eU
  show Mo.den (Kw (nZ F) s (17-((d+1:Nat):Int)) (n:Int))=_
  unfold Kw nD
  simp only[Mo.den,ay,ak,au,aA,aB,CZ,ZT s hb]
  rw[decide_eq_false (show ¬(16:Int)<17-((d+1:Nat):Int) by omega),show((n:Int)==64)=(n==64) by rw[Bool.eq_iff_iff];simp;omega]
  simp only[cond_false,Option.bind_some]
  cases h1:n==64 with
  |true=>rfl
  |false=>
   have h1:¬n=64:=by simpa using h1
   rw[inc n (by omega)]
   simp only[cond_false]
   cases V5 s != 0 with
   |true=>rfl
   |false=>
    simp only[cond_false]
    have hl:17-((d+1:Nat):Int)+1=17-(d:Int):=by omega
    have hA:abw (nZ F) (17-((d+1:Nat):Int)) s 0 ((n+1:Nat):Int)=some (bif (fJ (nD d) (s.dD.map bH.aZ) (n+1)).1 != 0 then .inl ((fJ (nD d) (s.dD.map bH.aZ) (n+1)).1,((fJ (nD d) (s.dD.map bH.aZ) (n+1)).2:Int)) else .inr ((fJ (nD d) (s.dD.map bH.aZ) (n+1)).2:Int)):=by
     try unfold abw
     refine zy (fun p=>(p.1,(p.2:Int))) (s.dD.map bH.aZ) (by rw[List.length_map];omega) (nD d) 64 (fun x _ m hm=>Eo d x m hm) (fun k x m hx hm=>?_) (fun m=>by rw[List.length_map];simp only[xE,Mo.den,ay,ak,au,aA,aB,ltn,cond_false]) (n+1) (by omega)
     rw[List.getElem?_map] at hx
     obtain⟨y,hy,rfl⟩:=Option.map_eq_some_iff.1 hx
     have hxb:=Sj (iR hy)
     have ihx:=ih F y.aZ m (by omega) (by omega) hm (by omega)
     simp only[xE,Mo.den,ay,ak,au,aA,aB,ltt hy,gid hy,cond_true,Option.bind_some]
     rw[w64 (x:=17-((d+1:Nat):Int)+1) (by omega) (by omega),hl,ihx]
     simp only[Option.bind_some]
     cases (nD d y.aZ m).1 != 0<;>rfl
    have hB:∀q:Nat,q≤64→Ux (nZ F) (17-((d+1:Nat):Int)) s 0 (q:Int)=some (bif (fJ (nD d) s.eU q).1 != 0 then .inl ((fJ (nD d) s.eU q).1,((fJ (nD d) s.eU q).2:Int)) else .inr ((fJ (nD d) s.eU q).2:Int)):=fun q hq=>by
     try unfold Ux
     refine zy (fun p=>(p.1,(p.2:Int))) s.eU (by omega) (nD d) 64 (fun x _ m hm=>Eo d x m hm) (fun k x m hx hm=>?_) (fun m=>by simp only[tX,Mo.den,ay,ak,au,aA,aB,ltn,cond_false]) q hq
     have hxb:=vP (iR hx)
     have ihx:=ih F x m (by omega) (by omega) hm (by omega)
     simp only[tX,Mo.den,ay,ak,au,aA,aB,ltt hx,gid hx,cond_true,Option.bind_some]
     rw[w64 (x:=17-((d+1:Nat):Int)+1) (by omega) (by omega),hl,ihx]
     simp only[Option.bind_some]
     cases (nD d x m).1 != 0<;>rfl
    unfold En
    rw[hA,RN]
    simp only[Option.bind_some]
    cases h3:(fJ (nD d) (s.dD.map bH.aZ) (n+1)).1 != 0 with
    |true=>rfl
    |false=>
     simp only[cond_false]
     rw[hB _ (xW _ 64 _ _ (fun x _ m hm=>Eo d x m hm) (by omega))]
     simp only[Option.bind_some]
     cases h4:(fJ (nD d) s.eU (fJ (nD d) (s.dD.map bH.aZ) (n+1)).2).1 != 0 with
     |true=>rfl
     |false=>
      have h4:(fJ (nD d) s.eU (fJ (nD d) (s.dD.map bH.aZ) (n+1)).2).1=0:=by simpa using h4
      simp only[cond_false]
      rw[h4]
theorem alM(s:aI)(hb:aT s.lf1≤100000000):anM s=some (nD 16 s 0).1:=by
 have h:=acW 16 FU s 0 (by omega) (by have:=gW;omega) (by omega) hb
 have h:Q43 s 1 0=_:=h
 simp only[anM,abx,Mo.den,ay,ak,au,aA,aB,h,Option.bind_some]
theorem ZU(d:Nat):∀(F:Nat) (s:aI) (n:Nat),d≤16→d+1≤F→n≤64→aT s.lf1≤100000000→jm s.lf1→∃r:Int,((nD d s n).1=0→r=((nD d s n).2:Int))∧(sH F).m1 s (((n+1:Nat):Int)) (17-(d:Int))=some (r,(nD d s n).1):=by
 induction d with
 |zero=>
  intro F s n _ hF _ _ _
  obtain⟨F,rfl⟩:∃G,F=G+1:=⟨F-1,by omega⟩
  refine⟨((n+1:Nat):Int),fun h=>(by cases h),?_⟩
  show Mo.den (Rn (sH F) s ((n+1:Nat):Int) (17-((0:Nat):Int)))=_
  unfold Rn
  simp only[Mo.den,ay,ak,au,aA,aB,Lj]
  rw[decide_eq_true (show(16:Int)<17-((0:Nat):Int) by omega)];rfl
 |succ d ih=>
  intro F s n hd hF hn hb hf
  obtain⟨F,rfl⟩:∃G,F=G+1:=⟨F-1,by omega⟩
  have hp:=gK s
  have hk1:=l7 s.dD
  have hk2:=nJ s.eU
  show ∃r:Int,_∧Mo.den (Rn (sH F) s ((n+1:Nat):Int) (17-((d+1:Nat):Int)))=_
  unfold Rn nD
  simp only[Mo.den,ay,ak,au,aA,aB,Lj,acV s hb (L8 hf).1]
  rw[decide_eq_false (show ¬(16:Int)<17-((d+1:Nat):Int) by omega),show decide ((64:Int)<((n+1:Nat):Int))=(n==64) by rw[Bool.eq_iff_iff];simp;omega]
  simp only[cond_false,Option.bind_some]
  cases h1:n==64 with
  |true=>exact⟨_,fun h=>(by cases h),rfl⟩
  |false=>
   have h1:¬n=64:=by simpa using h1
   simp only[cond_false]
   cases h2:V5 s != 0 with
   |true=>exact⟨_,fun h=>(by have h:V5 s=0:=h;rw[h] at h2;cases h2),rfl⟩
   |false=>
    simp only[cond_false]
    have hlen:((s.dD.length:Int)+(s.eU.length:Int))=((En s).length:Int):=by unfold En;rw[List.length_append,List.length_map];omega
    have hkl:=alL (s:=s)
    obtain⟨o, ho, hpost⟩:=LU (Lo:=fun v_=>(um (sH F) (17-((d+1:Nat):Int)) s v_).den) (En s) (by omega) (nD d) 64 (fun x _ m hm=>Eo d x m hm) (fun k x m hx hm=>by
     have hlt:=oM hx
     have hxm:=iR hx
     have hxb:=alJ hxm
     obtain⟨r,hr,hrun⟩:=ih F x m (by omega) (by omega) hm (by omega) (alK hf hxm)
     refine⟨r,hr,?_⟩
     have hJ:acA (sH F) (17-((d+1:Nat):Int)) s (m:Int) (k:Int)=some x:=by
      unfold acA Zh
      simp only[Mo.den,ay,ak,au,aA,aB]
      unfold En at hx
      by_cases hk:k<s.dD.length
      ·rw[List.getElem?_append_left (by rw[List.length_map];exact hk), List.getElem?_map] at hx
       obtain⟨y,hy,rfl⟩:=Option.map_eq_some_iff.1 hx
       rw[iLt hk]
       simp only[cond_true,gid hy,Option.bind_some]
      ·rw[List.getElem?_append_right (by rw[List.length_map];omega), List.length_map] at hx
       rw[afF hk,w64 (by omega) (by omega),show(k:Int)-(s.dD.length:Int)=((k-s.dD.length:Nat):Int) by omega]
       simp only[cond_false,gid hx,Option.bind_some]
     simp only[um,Mo.den,ay,ak,au,aA,aB,hJ]
     rw[hlen,w64 (x:=((En s).length:Int)) (by omega) (by omega),ltt hx,w64 (x:=17-((d+1:Nat):Int)+1) (by omega) (by omega),show 17-((d+1:Nat):Int)+1=17-(d:Int) by omega,inc m (by omega)]
     simp only[cond_true,Option.bind_some,hrun]
     cases (nD d x m).1 != 0<;>rfl) (fun m=>by
      simp only[um,Mo.den,ay,ak,au,aA,aB]
      rw[hlen,w64 (x:=((En s).length:Int)) (by omega) (by omega),ltn];rfl) (n+1) (by omega)
    have ho:ae4 (sH F) (17-((d+1:Nat):Int)) s ((n+1:Nat):Int) 0=some o:=ho
    rw[ho]
    simp only[Option.bind_some]
    rcases o with p|a
    ·obtain⟨p1,p2⟩:=p
     obtain⟨hp1,hp2⟩:=hpost
     have hp1:p2=_:=hp1
     subst hp1
     exact⟨p1,fun h=>absurd h hp2,rfl⟩
    ·obtain⟨h5,h6⟩:=hpost
     subst h6
     exact⟨_,fun _=>rfl,by rw[h5]⟩
theorem ahb(s:aI)(hb:aT s.lf1≤100000000)(hf:jm s.lf1):atD s=some (nD 16 s 0).1:=by
 obtain⟨r,_,h⟩:=ZU 16 FU s 0 (by omega) (by have:=gW;omega) (by omega) hb hf
 have h:Q35 s 1 1=_:=h
 simp only[atD,alk,Mo.den,ay,ak,au,aA,aB,h,Option.bind_some]
def gU(l:List aQ)(n:ByteArray)(k:Nat):Option Int:=match l[k]? with|some x=>bif decide (x.fName=n) then some (k:Int) else none|none=>none
theorem alN(l:List aQ)(n:ByteArray)(hl:l.length≤100000000):ai0 l n=some (match dF (gU l n) 0 l.length with|some e=>e|none=>-1):=by
 have hL:abr n l 0=some (jB (dF (gU l n) 0 l.length)):=by
  try unfold abr
  refine dU _ l.length (by omega) (fun k hk=>?_) (by simp only[xA,Mo.den,ay,ak,au,aA,aB,ltn,cond_false])
  have hx:=List.getElem?_eq_getElem hk
  simp only[xA,arK,abq,Mo.den,ay,ak,au,aA,aB,ltt hx,gid hx,cond_true,Option.bind_some,gU,hx]
  cases decide (l[k].fName=n)<;>rfl
 simp only[ai0,abt,Mo.den,ay,ak,au,aA,aB,Q50,aiZ,hL,Option.bind_some]
 cases dF (gU l n) 0 l.length<;>rfl
theorem auR(l:List aQ)(n:ByteArray)(hl:l.length≤100000000):atz l n=some (match dF (gU l n) 0 l.length with|some e=>e|none=>-1):=by
 have hL:VG l n 0=some (jB (dF (gU l n) 0 l.length)):=by
  try unfold VG
  refine dU _ l.length (by omega) (fun k hk=>?_) (by simp only[zk,Mo.den,ay,ak,au,aA,aB,ltn,cond_false])
  have hx:=List.getElem?_eq_getElem hk
  simp only[zk,Mo.den,ay,ak,au,aA,aB,ltt hx,gid hx,cond_true,Option.bind_some,gU,hx]
  cases decide (l[k].fName=n)<;>rfl
 simp only[atz,alh,Mo.den,ay,ak,au,aA,aB,hL,Option.bind_some]
 cases dF (gU l n) 0 l.length<;>rfl
theorem L9{ε:Type}(f:Nat→Option ε):∀(a b k:Nat),dF f k (a+b)=match dF f k a with|some e=>some e|none=>dF f (k+a) b
 |0,b,k=>by rw[Nat.zero_add];rfl
 |a+1,b,k=>by
  rw[show a+1+b=(a+b)+1 by omega]
  show(match f k with|some e=>some e|none=>dF f (k+1) (a+b))=match (match f k with|some e=>some e|none=>dF f (k+1) a) with|some e=>some e|none=>dF f (k+(a+1)) b
  cases f k with
  |some e=>rfl
  |none=>
   simp only
   rw[L9 f a b (k+1),show k+1+a=k+(a+1) by omega]
theorem ZV(l:List aQ)(n:ByteArray)(k:Nat)(hk:k≤l.length):dF (gU (l.take k) n) 0 (l.take k).length=dF (gU l n) 0 k:=by
 rw[List.length_take,Nat.min_eq_left hk]
 refine Ee k 0 fun i _ hi=>?_
 unfold gU
 rw[List.getElem?_take_of_lt (by omega)]
theorem Mc{l:List aQ}{n:ByteArray}:∀(m k:Nat) (e:Int),dF (gU l n) k m=some e→(k:Int)≤e∧e<(k:Int)+(m:Int)
 |0,k,e,h=>by cases h
 |m+1,k,e,h=>by
  unfold dF at h
  cases hf:gU l n k with
  |some e'=>
   rw[hf] at h
   injection h with h
   subst h
   unfold gU at hf
   split at hf
   ·rename_i x hx
    cases hd:decide (x.fName=n) with
    |true=>rw[hd] at hf;injection hf with hf;omega
    |false=>rw[hd] at hf;cases hf
   ·cases hf
  |none=>
   rw[hf] at h
   have:=Mc m (k+1) e h
   omega
theorem atL{l:List aQ}{k:Nat}{x:aQ}(hx:l[k]?=some x):((match dF (gU l x.fName) 0 l.length with|some e=>e|none=>(-1:Int)) != (k:Int))=decide ((0:Int)≤match dF (gU l x.fName) 0 k with|some e=>e|none=>-1):=by
 have hk:=oM hx
 have hs:dF (gU l x.fName) 0 l.length=match dF (gU l x.fName) 0 k with|some e=>some e|none=>some (k:Int):=by
  have h1:=L9 (gU l x.fName) k (l.length-k) 0
  rw[show k+(l.length-k)=l.length by omega] at h1
  rw[h1]
  cases dF (gU l x.fName) 0 k with
  |some e=>rfl
  |none=>
   simp only
   obtain⟨m,hm⟩:∃m,l.length-k=m+1:=⟨l.length-k-1,by omega⟩
   rw[hm,Nat.zero_add]
   unfold dF
   have:gU l x.fName k=some (k:Int):=by unfold gU;rw[hx];simp
   rw[this]
 rw[hs]
 cases hf:dF (gU l x.fName) 0 k with
 |some e=>
  have:=Mc _ _ _ hf
  simp only
  rw[decide_eq_true (by omega),bne_iff_ne];omega
 |none=>simp
noncomputable def ixE(l:List aQ)(k:Nat):Option Int:=match l[k]? with
 |some x=>bif (XV x).getD 0 != 0 then some ((XV x).getD 0) else bif decide ((0:Int)≤match dF (gU l x.fName) 0 k with|some e=>e|none=>-1) then some 16 else none
 |none=>none
theorem alO{l:List aQ}{k:Nat}{x:aQ}{c:Int}(hx:l[k]?=some x)(hc:XV x=some c):ixE l k=bif c != 0 then some c else bif decide ((0:Int)≤match dF (gU l x.fName) 0 k with|some e=>e|none=>-1) then some 16 else none:=by
 unfold ixE;rw[hx];simp only[hc,Option.getD_some]
theorem alP(d:bU)(hb:aT d.lf1≤100000000):Ky d 0=some (jB (dF (ixE d.bM) 0 d.bM.length)):=by
 have hp:=oK d
 have hl:=kJ d.bM
 try unfold Ky
 refine dU _ d.bM.length (by omega) (fun k hk=>?_) (by simp only[xG,Mo.den,ay,ak,au,aA,aB,ltn,cond_false])
 obtain⟨x,hx⟩:∃x,d.bM[k]?=some x:=⟨_,List.getElem?_eq_getElem hk⟩
 have hm:=jq aQ.lf (iR hx)
 rw[aQ.bf] at hm
 obtain⟨c,hc,_⟩:=kG x (by omega)
 have hg:(0:Int)≤0∧(0:Int)≤(k:Int)∧(k:Int)≤(d.bM.length:Int):=by omega
 have hn:=alN (d.bM.take k) x.fName (by rw[List.length_take];omega)
 rw[ZV _ _ _ (by omega)] at hn
 rw[alO hx hc]
 simp only[xG,Mo.den,ay,ak,au,aA,aB,ltt hx,gid hx,cond_true,Option.bind_some,hc,if_pos hg,Int.toNat_natCast,hn]
 generalize decide ((0:Int)≤match dF (gU d.bM x.fName) 0 k with|some e=>e|none=>-1)=q
 cases c != 0<;>cases q<;>rfl
theorem ahc(d:bU)(hb:aT d.lf1≤100000000):VJ d 0=some (jB (dF (ixE d.bM) 0 d.bM.length)):=by
 have hp:=oK d
 have hl:=kJ d.bM
 try unfold VJ
 refine dU _ d.bM.length (by omega) (fun k hk=>?_) (by simp only[DV,Mo.den,ay,ak,au,aA,aB,ltn,cond_false])
 obtain⟨x,hx⟩:∃x,d.bM[k]?=some x:=⟨_,List.getElem?_eq_getElem hk⟩
 have hm:=jq aQ.lf (iR hx)
 rw[aQ.bf] at hm
 obtain⟨c,hc,_⟩:=kG x (by omega)
 have hd:=atL hx
 rw[alO hx hc]
 simp only[DV,Mo.den,ay,ak,au,aA,aB,ltt hx,gid hx,cond_true,Option.bind_some,ZQ x (by omega),hc,auR d.bM _ (by omega),hd]
 generalize decide ((0:Int)≤match dF (gU d.bM x.fName) 0 k with|some e=>e|none=>-1)=q
 cases c != 0<;>cases q<;>rfl
theorem alQ(d:bU)(hb:aT d.lf1≤100000000)(hf:jm d.aZ.lf1):Q51 d=Q55 d:=by
 have hp:=oK d
 have hl:=kJ d.bM
 have hL:VJ d 0=Ky d 0:=(ahc d hb).trans (alP d hb).symm
 unfold Q51 ap3 Q55 ai5
 simp only[Mo.den,ay,ak,au,aA,aB,qN,RH,hL,Zi,Ro,Kz,Fj,alM d.aZ (by omega),ahb d.aZ (by omega) hf,Option.bind_some,dJ]
 cases nameB d.fName with
 |false=>rfl
 |true=>
  cases decide ((16:Int)<(d.bM.length:Int)) with
  |true=>rfl
  |false=>
   simp only[Bool.not_true,cond_false]
   cases Ky d 0 with
   |none=>rfl
   |some o=>
    rcases o with e|u
    ·rfl
    ·cases decide (d.lg<0)<;>cases decide ((2:Int)<d.lg)<;>cases (d.jo != 0)<;>cases (d.jo != 1)<;>rfl
end Go.Proofs.YtflpefkohpjjpaaGreatDoor
set_option linter.unusedSimpArgs false
set_option linter.unusedVariables false
namespace Go.Proofs.YtflpefkohpjjpaaGreatDoor
open Go.RowKit
structure Wrt (F:aH→Option aH) (e:List Int) (b:Bool):Prop where
 h:∀w,w.bJ.length+e.length≤100000000000→F w=some ⟨w.bJ++e,w.eH||b⟩
theorem Wrt.of{F F':aH→Option aH}{e:List Int}{b:Bool}(h:∀w,F w=F' w)(k:Wrt F' e b):Wrt F e b:=⟨fun w hw=>(h w).trans (k.h w hw)⟩
theorem Wrt.bind{F G:aH→Option aH}{e e':List Int}{b b':Bool}(h:Wrt F e b)(k:Wrt G e' b'):Wrt (fun w=>(F w).bind G) (e++e') (b||b'):=⟨fun w hw=>by
 rw[List.length_append] at hw
 show(F w).bind G=_
 rw[h.h w (by omega),Option.bind_some,k.h _ (by rw[List.length_append];omega),List.append_assoc,Bool.or_assoc]⟩
theorem Wrt.last{F:aH→Option aH}{e:List Int}{b:Bool}(h:Wrt F e b):Wrt (fun w=>(F w).bind some) e b:=⟨fun w hw=>by
 show(F w).bind some=_
 rw[h.h w hw];rfl⟩
end Go.Proofs.YtflpefkohpjjpaaGreatDoor
set_option linter.unusedSimpArgs false
set_option linter.unusedVariables false
namespace Go.Proofs.YtflpefkohpjjpaaGreatDoor
open Go.RowKit
theorem Md{x:Int}(h1:0≤x)(h2:x<18446744073709551616):IntKind.wrap .u64 x=x:=by rw[jT];omega
theorem V6(a b:Nat)(ha:a<18446744073709551616)(hb:b<18446744073709551616):gX .xor .u64 (a:Int) (b:Int)=((a^^^ b:Nat):Int):=by
 show IntKind.wrap .u64 (BitVec.ofInt 64 (a:Int)^^^ BitVec.ofInt 64 (b:Int)).toNat=_
 have e1:BitVec.ofInt 64 (a:Int)=BitVec.ofNat 64 a:=by apply BitVec.eq_of_toNat_eq;rw[BitVec.toNat_ofInt,BitVec.toNat_ofNat];omega
 have e2:BitVec.ofInt 64 (b:Int)=BitVec.ofNat 64 b:=by apply BitVec.eq_of_toNat_eq;rw[BitVec.toNat_ofInt,BitVec.toNat_ofNat];omega
 rw[e1,e2,BitVec.toNat_xor,BitVec.toNat_ofNat,BitVec.toNat_ofNat,Nat.mod_eq_of_lt ha,Nat.mod_eq_of_lt hb]
 have hx:a^^^ b<2^64:=Nat.xor_lt_two_pow ha hb
 exact Md (by omega) (by omega)
theorem auS(n:Int):ML .u64 n 1=IntKind.wrap .u64 (n*2):=rfl
theorem acX(n:Int)(h:I64 n):afR n=some ((zz n:Nat):Int):=by
 unfold I64 at h
 unfold afR aaX
 simp only[Mo.den,ay,ak,au,aA,aB]
 congr 1
 rw[auS]
 have hs:Ah .i64 n 63=Int.fdiv n 9223372036854775808:=rfl
 rw[hs]
 by_cases h0:0≤n
 ·obtain⟨m,rfl⟩:=Int.eq_ofNat_of_zero_le h0
  rw[Md (x:=(m:Int)) (by omega) (by omega),Md (x:=(m:Int)*2) (by omega) (by omega),Int.fdiv_eq_ediv_of_nonneg _ (by omega),show(m:Int)/9223372036854775808=((0:Nat):Int) by omega,Md (x:=((0:Nat):Int)) (by omega) (by omega),show(m:Int)*2=((m*2:Nat):Int) by omega,V6 _ _ (by omega) (by omega)]
  simp only[Nat.xor_zero,zz]
  rw[if_pos (by omega)];omega
 ·have e1:IntKind.wrap .u64 n=n+18446744073709551616:=by rw[jT];omega
  have e2:IntKind.wrap .u64 ((n+18446744073709551616)*2)=((2*n+18446744073709551616).toNat:Int):=by rw[jT];omega
  have e3:IntKind.wrap .u64 (Int.fdiv n 9223372036854775808)=((18446744073709551615:Nat):Int):=by
   rw[Int.fdiv_eq_ediv_of_nonneg _ (by omega),jT];omega
  rw[e1,e2,e3,V6 _ _ (by omega) (by omega),Nat.xor_comm,ady _ (by omega)]
  unfold zz
  rw[if_neg h0];omega
theorem alR(n:Int)(h:I64 n):UR n=some ((zz n:Nat):Int):=by
 unfold I64 at h
 unfold UR KN
 simp only[Mo.den,ay,ak,au,aA,aB]
 rw[auS]
 have hm:(IntKind.max .u64)=((18446744073709551615:Nat):Int):=rfl
 by_cases h0:n<0
 ·rw[decide_eq_true h0]
  simp only[cond_true]
  congr 1
  have e1:IntKind.wrap .u64 n=n+18446744073709551616:=by rw[jT];omega
  have e2:IntKind.wrap .u64 ((n+18446744073709551616)*2)=((2*n+18446744073709551616).toNat:Int):=by rw[jT];omega
  rw[e1,e2,hm,V6 _ _ (by omega) (by omega),ady _ (by omega)]
  unfold zz
  rw[if_neg (by omega)];omega
 ·rw[decide_eq_false h0]
  simp only[cond_false]
  congr 1
  rw[Md (x:=n) (by omega) (by omega),Md (x:=n*2) (by omega) (by omega)]
  unfold zz
  rw[if_pos (by omega)];omega
def dN(u:Nat):List Int:=(Nb u).map fun b=>(b.toNat:Int)
theorem zA{u:Nat}(h:u<128):dN u=[(u:Int)]:=by
 unfold dN;rw[Ii h];simp only[List.map_cons,List.map_nil,ahY u h]
theorem zB{u:Nat}(h:¬u<128):dN u=((u%128+128:Nat):Int)::dN (u/128):=by
 unfold dN;rw[TP h];simp only[List.map_cons]
 congr 1
 rw[UInt8.toNat_ofNat'];omega
theorem auT(u:Nat):gX .or .u8 (IntKind.wrap .u8 (u:Int)) 128=((u%128+128:Nat):Int):=by
 have h:∀x:Fin 256,gX .or .u8 (x.1:Int) 128=((x.1%128+128:Nat):Int):=by decide +kernel
 have h:=h ⟨u%256,by omega⟩
 simp only at h
 have e:IntKind.wrap .u8 (u:Int)=((u%256:Nat):Int):=by rw[IntKind.wrap_u8];omega
 rw[e,h];omega
theorem avZ{u:Nat}(h:u<256):IntKind.wrap .u8 (u:Int)=(u:Int):=by rw[IntKind.wrap_u8];omega
theorem atM(a b:List Int):strOfNums (a++b)=strOfNums a++strOfNums b:=by
 apply ByteArray.ext
 apply Array.ext'
 rw[ByteArray.data_append,Array.toList_append,strOfNums_data,strOfNums_data,strOfNums_data,List.map_append]
theorem apm(u:Nat):IntKind.wrap .u64 (Int.tdiv (u:Int) 128)=IntKind.wrap .u64 ((u/128:Nat):Int):=by
 rw[Int.tdiv_eq_ediv_of_nonneg (by omega)];rfl
theorem apn(u:Nat):Int.tmod (u:Int) 128=((u%128:Nat):Int):=by
 rw[Int.tmod_eq_emod_of_nonneg (by omega)];rfl
theorem ahd(u0:Nat)(hu:u0<18446744073709551616):Tot (UU (u0:Int) ⟨#[]⟩ 0) (fun r=>∃u:Nat,r.1=(u:Int)∧u<128∧r.2++strOfNums [(u:Int)]=strOfNums (dN u0)):=by
 have h10:(dN u0).length≤10:=by unfold dN;rw[List.length_map];exact Ij u0 hu
 refine T.qA 10 (by omega) (fun k v=>∃u:Nat,v.1=(u:Int)∧u<18446744073709551616∧v.2.2=(k:Int)∧v.2.1.size=k∧v.2.1++strOfNums (dN u)=strOfNums (dN u0)) _ ⟨u0,rfl,hu,rfl,rfl,(ByteArray.empty_append:ByteArray.empty++strOfNums (dN u0)=_)⟩ ?_ ?_
 ·rintro k ⟨v,s,i⟩ hk ⟨u,hv,hlt,hi,hs,he⟩
  obtain rfl:v=(u:Int):=hv
  obtain rfl:i=(k:Int):=hi
  have hs:s.size=k:=hs
  have he:s++strOfNums (dN u)=strOfNums (dN u0):=he
  unfold yR
  simp only[KO,Mo.den,ay,ak,au,aA,aB]
  rw[decide_eq_true (show(k:Int)<10 by omega)]
  simp only[cond_true,Option.bind_some]
  by_cases h:u<128
  ·rw[decide_eq_false (show ¬(128:Int)≤(u:Int) by omega)]
   exact T.ret ⟨u,rfl,h,by rw[←he,zA h]⟩
  ·have hz:(strOfNums [((u%128%128+128:Nat):Int)]).size=1:=strOfNums_size _
   rw[decide_eq_true (show(128:Int)≤(u:Int) by omega),apn,auT,apm,Md (by omega) (by omega)]
   simp only[cond_true]
   refine T.grd (by rw[hz];omega) (T.ret ⟨u/128,rfl,by omega,inc k (by omega),?_,?_⟩)
   ·show(s++strOfNums [((u%128%128+128:Nat):Int)]).size=k+1
    rw[ByteArray.size_append,hz,hs]
   ·show(s++strOfNums [((u%128%128+128:Nat):Int)])++strOfNums (dN (u/128))=_
    rw[ByteArray.append_assoc,←atM,←he,zB h,show u%128%128=u%128 by omega];rfl
 ·rintro⟨v,s,i⟩ ⟨u,hv,hlt,hi,hs,he⟩
  obtain rfl:v=(u:Int):=hv
  obtain rfl:i=((10:Nat):Int):=hi
  have hs:s.size=10:=hs
  have he:s++strOfNums (dN u)=strOfNums (dN u0):=he
  have hc:=congrArg ByteArray.size he
  rw[ByteArray.size_append,strOfNums_size,strOfNums_size,hs] at hc
  have hp:1≤(dN u).length:=by unfold dN;rw[List.length_map];exact ahX u
  omega
theorem uG(n:Int)(h:I64 n):Q28 n=some (strOfNums (dN (zz n))):=by
 have hz:zz n<18446744073709551616:=ahW n h
 obtain⟨r,hr,u,h1,h2,h3⟩:=ahd (zz n) hz
 have hs:=congrArg ByteArray.size h3
 have h10:(dN (zz n)).length≤10:=by unfold dN;rw[List.length_map];exact Ij (zz n) hz
 rw[ByteArray.size_append,strOfNums_size,strOfNums_size] at hs
 unfold Q28 ajN
 simp only[Mo.den,ay,ak,au,aA,aB,alR n h,Option.bind_some,hr,h1,avZ (show u<256 by omega)]
 rw[strOfNums_size,if_pos (by omega),h3]
theorem qQ(n:Int)(h:I64 n):Q58 n=some ((dN (zz n)).length:Int):=by
 have hz:zz n<18446744073709551616:=ahW n h
 have h10:(dN (zz n)).length≤10:=by unfold dN;rw[List.length_map];exact Ij (zz n) hz
 have key:Tot (aiG 1 ((zz n:Nat):Int)) (fun r=>r=((dN (zz n)).length:Int)):=by
  refine uU (T:=fun v_=>(qH v_).den) (fun v=>∃u k:Nat,v=((k:Int),(u:Int))∧k+(dN u).length=(dN (zz n)).length+1) (fun v=>(dN v.2.toNat).length) _ ?_ FU (1,((zz n:Nat):Int)) ⟨zz n,1,rfl,by omega⟩ (by have:=gW;show(dN ((zz n:Nat):Int).toNat).length<FU;rw[Int.toNat_natCast];omega)
  rintro _ ⟨u,k,rfl,he⟩
  by_cases h:u<128
  ·refine .inr ⟨(k:Int),?_,?_⟩
   ·simp only[qH,Mo.den,ay,ak,au,aA,aB]
    rw[decide_eq_false (show ¬(128:Int)≤(u:Int) by omega)];rfl
   ·rw[zA h,List.length_cons,List.length_nil] at he
    show(k:Int)=_
    omega
  ·rw[zB h,List.length_cons] at he
   refine .inl ⟨(((k+1:Nat):Int),((u/128:Nat):Int)),?_,⟨u/128,k+1,rfl,by omega⟩,?_⟩
   ·simp only[qH,Mo.den,ay,ak,au,aA,aB]
    rw[decide_eq_true (show(128:Int)≤(u:Int) by omega),auQ (by omega),Int.toNat_natCast,inc k (by omega)];rfl
   ·show(dN ((u/128:Nat):Int).toNat).length<(dN ((u:Nat):Int).toNat).length
    rw[Int.toNat_natCast,Int.toNat_natCast,zB h,List.length_cons];omega
 obtain⟨r,hr,rfl⟩:=key
 unfold Q58 aiH
 simp only[Mo.den,ay,ak,au,aA,aB,acX n h,Option.bind_some,hr]
end Go.Proofs.YtflpefkohpjjpaaGreatDoor
set_option linter.unusedSimpArgs false
set_option linter.unusedVariables false
namespace Go.Proofs.YtflpefkohpjjpaaGreatDoor
open Go.RowKit
def zlf:Lf→Bool
 |.int _ n=>n==0
 |.str s=>decide (s=⟨#[]⟩)
 |.bool b=>!b
 |.rows _ l=>(l.length:Int)==0
theorem afe(n:Int)(h:I64 n):DZ n=strOfNums (dN (zz n)):=by
 have h1:=ae6 n
 rw[uG n h] at h1
 exact(Option.some.inj h1).symm
def zs(k:Nat):List UInt8:=List.replicate k 0
theorem ZW(l:List Int):(strOfNums l).data.toList=l.map fun n=>UInt8.ofNat n.toNat:=strOfNums_data l
theorem uH(a b:ByteArray):(a++b).data.toList=a.data.toList++b.data.toList:=by rw[ByteArray.data_append,Array.toList_append]
theorem Me{n:Int}(h:I64 n){r t:List UInt8}(e:(DZ n).data.toList++r=0::t):n=0∧r=t:=by
 rw[afe n h,ZW] at e
 by_cases hz:zz n<128
 ·rw[zA hz] at e
  simp only[List.map_cons,List.map_nil,List.cons_append,List.nil_append] at e
  injection e with e1 e2
  have e1:=congrArg UInt8.toNat e1
  rw[UInt8.toNat_ofNat',Int.toNat_natCast] at e1
  have e1:zz n%256=0:=e1
  refine⟨?_,e2⟩
  have hz0:zz n=0:=by omega
  have:=amy n
  rw[hz0] at this
  exact this.symm
 ·rw[zB hz] at e
  simp only[List.map_cons,List.cons_append] at e
  injection e with e1 e2
  have e1:=congrArg UInt8.toNat e1
  rw[UInt8.toNat_ofNat',Int.toNat_natCast] at e1
  have e1:(zz n%128+128)%256=0:=e1
  omega
theorem acY:(DZ 0).data.toList=[0]:=by
 rw[afe 0 (by unfold I64;omega),ZW,show zz 0=0 from rfl,zA (by omega)];rfl
theorem ZX{n:Nat}(h:n≤maxLen):I64 (n:Int):=by unfold maxLen at h;unfold I64;omega
theorem alS{x:Lf}(h:zlf x=true):(wrF x).data.toList=[0]:=by
 cases x with
 |int k n=>unfold zlf at h;rw[eq_of_beq h];unfold wrF;exact acY
 |str s=>
  unfold zlf at h
  have h:=of_decide_eq_true h
  unfold wrF
  rw[h,uH]
  show(DZ 0).data.toList++[]=[0]
  rw[acY];rfl
 |bool b=>unfold zlf at h;cases b with|true=>cases h|false=>unfold wrF;rfl
 |rows n l=>
  unfold zlf at h
  have hl:=len0 h
  unfold wrF
  rw[hl,uH]
  show(DZ 0).data.toList++(wrQ []).data.toList=[0]
  rw[acY,wrQ];rfl
theorem aff{k:IntKind}{n:Int}(hk:k=.i64)(h:zY (.int k n)):I64 n:=by
 subst hk
 have:=afd h
 unfold I64;omega
def allI:List Lf→Bool
 |[]=>true
 |.int k _::r=>decide (k=.i64)&&allI r
 |_::r=>allI r
theorem alT{x:Lf}(hf:zY x)(hk:∀k n,x=.int k n→k=.i64){r t:List UInt8}(e:(wrF x).data.toList++r=0::t):zlf x=true∧r=t:=by
 cases x with
 |int k n=>
  unfold wrF at e
  obtain⟨h1,h2⟩:=Me (aff (hk k n rfl) hf) e
  exact⟨by unfold zlf;rw[h1];rfl,h2⟩
 |str s=>
  unfold wrF at e
  rw[uH,List.append_assoc] at e
  unfold zY at hf
  obtain⟨h1,h2⟩:=Me (ZX hf) e
  have hs:s=⟨#[]⟩:=size_nil (by omega)
  refine⟨by show decide (s=⟨#[]⟩)=true;exact decide_eq_true hs,?_⟩
  rw[hs] at h2;exact h2
 |bool b=>
  cases b with
  |true=>unfold wrF at e;injection e with e1 _;cases e1
  |false=>unfold wrF at e;injection e with _ e2;exact⟨rfl,e2⟩
 |rows n l=>
  unfold wrF at e
  rw[uH,List.append_assoc] at e
  unfold zY at hf
  obtain⟨h1,h2⟩:=Me (ZX hf.1) e
  have hl:l=[]:=List.eq_nil_of_length_eq_zero (by omega)
  refine⟨by unfold zlf;rw[hl];rfl,?_⟩
  rw[hl,wrQ] at h2;exact h2
theorem MB:∀l:List Lf,l.all zlf=true→(wrL l).data.toList=zs l.length
 |[],_=>by unfold wrL;rfl
 |x::r,h=>by
  rw[List.all_cons,Bool.and_eq_true] at h
  unfold wrL
  rw[uH,alS h.1,MB r h.2];rfl
theorem ZY:∀l:List Lf,jm l→allI l=true→(wrL l).data.toList=zs l.length→l.all zlf=true
 |[],_,_,_=>rfl
 |x::r,hf,hi,h=>by
  rw[oQ] at hf
  unfold wrL at h
  rw[uH] at h
  have hi2:allI r=true∧∀k n,x=.int k n→k=.i64:=by
   cases x with
   |int k n=>
    unfold allI at hi
    rw[Bool.and_eq_true] at hi
    exact⟨hi.2,fun k' n' e=>by injection e with e1 _;subst e1;exact of_decide_eq_true hi.1⟩
   |str s=>unfold allI at hi;exact⟨hi,fun k' n' e=>by cases e⟩
   |bool b=>unfold allI at hi;exact⟨hi,fun k' n' e=>by cases e⟩
   |rows n l=>unfold allI at hi;exact⟨hi,fun k' n' e=>by cases e⟩
  obtain⟨h1,h2⟩:=alT hf.1 hi2.2 (show(wrF x).data.toList++(wrL r).data.toList=0::zs r.length from h)
  rw[List.all_cons,h1,ZY r hf.2 hi2.1 h2];rfl
theorem Sl{l z:List Lf}(hf:jm l)(hi:allI l=true)(hz:z.all zlf=true)(hl:l.length=z.length):decide (wrL l=wrL z)=l.all zlf:=by
 have h1:=MB z hz
 by_cases h:l.all zlf=true
 ·rw[h,decide_eq_true]
  apply ByteArray.ext
  apply Array.ext'
  rw[MB l h,h1,hl]
 ·rw[show l.all zlf=false by simpa using h, decide_eq_false]
  intro e
  rw[←e,←hl] at h1
  exact h (ZY l hf hi h1)
theorem uI:∀(l m:List Lf),allI (l++m)=(allI l&&allI m)
 |[],m=>rfl
 |x::r,m=>by
  rw[List.cons_append]
  cases x<;>simp only[allI,uI r m,Bool.and_assoc]
theorem MC(v:ah):allI v.lf1=true:=rfl
theorem Z4(s:aI):allI s.lf1=true:=by
 unfold aI.lf1;simp only[uI,MC];rfl
theorem ahe(s:aP):allI s.lf1=true:=by
 unfold aP.lf1;simp only[uI,MC];rfl
theorem ahf(s:aO):allI s.lf1=true:=by
 unfold aO.lf1 dQ.lf1;simp only[uI,MC,ahe];rfl
theorem acZ(s:aQ):allI s.lf1=true:=by
 unfold aQ.lf1;simp only[uI,ahf];rfl
theorem ac0(s:bU):allI s.lf1=true:=by
 unfold bU.lf1;simp only[uI,Z4];rfl
theorem Z5(d:bU)(hb:aT d.lf1≤100000000)(hf:jm d.lf1):as4 d=some (d.lf1.all zlf):=by
 have h1:=Gl d.lf1
 have h2:=ZA d hb ⟨⟨#[]⟩,false,true⟩ rfl (by show 0+_≤_;omega)
 have hz:aT (bU.mk ⟨#[]⟩ [] aI.z 0 0).lf1=25:=by kernel_rfl
 have h3:=Gl (bU.mk ⟨#[]⟩ [] aI.z 0 0).lf1
 have h4:=ZA (bU.mk ⟨#[]⟩ [] aI.z 0 0) (by omega) ⟨⟨#[]⟩,false,true⟩ rfl (by show 0+_≤_;omega)
 have hc:=Sl (z:=(bU.mk ⟨#[]⟩ [] aI.z 0 0).lf1) hf (ac0 d) (by kernel_rfl) (by unfold bU.lf1 aI.lf1 ah.lf1;rfl)
 have e:∀x:ByteArray,(⟨#[]⟩:ByteArray)++x=x:=fun x=>ByteArray.empty_append
 simp only[as4,akV,Qe,Mo.den,ay,ak,au,aA,aB,h2,h4,Option.bind_some,e,hc,dJ,gt0]
 unfold bU.lf1
 simp only[List.cons_append,List.nil_append,List.all_cons,zlf,List.length_map]
 cases decide (d.fName=⟨#[]⟩)<;>cases (d.bM.length:Int)==0<;>rfl
theorem G5(d:aQ)(hb:aT d.lf1≤100000000)(hf:jm d.lf1):as5 d=some (d.lf1.all zlf):=by
 have h1:=Gl d.lf1
 have h2:=Lp d hb ⟨⟨#[]⟩,false,true⟩ rfl (by show 0+_≤_;omega)
 have hz:aT aQ.z.lf1=31:=by kernel_rfl
 have h3:=Gl aQ.z.lf1
 have h4:=Lp aQ.z (by omega) ⟨⟨#[]⟩,false,true⟩ rfl (by show 0+_≤_;omega)
 have hc:=Sl (z:=aQ.z.lf1) hf (acZ d) (by kernel_rfl) (by unfold aQ.lf1 aO.lf1 aP.lf1 dQ.lf1 ah.lf1;rfl)
 have e:∀x:ByteArray,(⟨#[]⟩:ByteArray)++x=x:=fun x=>ByteArray.empty_append
 simp only[as5,akW,Mo.den,ay,ak,au,aA,aB,h2,h4,Option.bind_some,e,hc]
theorem alU(v:ah):v.lf1.all zlf=jG v:=by
 unfold ah.lf1 jG
 simp only[List.all_cons,List.all_nil,zlf,List.length_map,Bool.and_true,Bool.and_assoc]
theorem MF(s:aI):Q19 s=some (s.lf1.all zlf):=by
 unfold aI.lf1
 simp only[Q19,aii,dR,Oi,Oh,Og,Oe,Oc,Oa,N9,N8,N7,NZ,Xq,Xp,Mo.den,ay,ak,au,aA,aB,Ef,Option.bind_some,dJ,nO,List.all_append,List.all_cons,List.all_nil,alU,zlf,List.length_map,Bool.and_true,Bool.and_assoc]
theorem Np(d:bU):Q79 d=some (d.lf1.all zlf):=by
 unfold bU.lf1
 simp only[Q79,aij,dR,Ol,Oj,Xt,Xr,Mo.den,ay,ak,au,aA,aB,MF,Option.bind_some,dJ,nO,List.all_append,List.all_cons,List.all_nil,zlf,List.length_map,Bool.and_true,Bool.and_assoc]
theorem V7(s:aP):Q9 s=some (s.lf1.all zlf):=by
 unfold aP.lf1
 simp only[Q9,aq1,dR,nX,nV,Xu,nU,qx,qw,Mo.den,ay,ak,au,aA,aB,Ef,Option.bind_some,dJ,nO,List.all_append,List.all_cons,List.all_nil,alU,zlf,List.length_map,Bool.and_true,Bool.and_assoc]
theorem V8(s:aO):Q17 s=some (s.lf1.all zlf):=by
 unfold aO.lf1 dQ.lf1
 simp only[Q17,aik,dR,yH,Om,yG,yF,yE,yD,yC,yB,Xv,tC,Mo.den,ay,ak,au,aA,aB,Ef,V7,Option.bind_some,dJ,nO,List.all_append,List.all_cons,List.all_nil,alU,zlf,List.length_map,Bool.and_true,Bool.and_assoc]
theorem Nq(x:aQ):Q52 x=some (x.lf1.all zlf):=by
 unfold aQ.lf1
 simp only[Q52,ail,dR,Ou,Ot,Oq,Oo,Xx,Xw,Mo.den,ay,ak,au,aA,aB,V8,Option.bind_some,dJ,nO,List.all_append,List.all_cons,List.all_nil,zlf,List.length_map,Bool.and_true,Bool.and_assoc]
end Go.Proofs.YtflpefkohpjjpaaGreatDoor
set_option linter.unusedSimpArgs false
set_option linter.unusedVariables false
namespace Go.Proofs.YtflpefkohpjjpaaGreatDoor
open Go.RowKit
theorem ahg{v:ah}(h:jm v.lf1):I64 v.fA∧(∀x∈v.aW,jm x.lf1)∧∀f∈v.aU,jm f.fValue.lf1:=by
 unfold ah.lf1 at h
 simp only[oQ] at h
 obtain⟨_,a2,_,a4,a5,_⟩:=h
 refine⟨aff rfl a2,fun x hx=>?_,fun f hf=>?_⟩
 ·have h2:=xY a4 hx
  rw[ah.bf] at h2;exact h2
 ·have h2:=xY a5 hf
  rw[aJ.bf] at h2
  unfold aJ.lf1 at h2
  exact(ou.1 h2).2
theorem Sm{T1:ByteArray×Int→Option ((ByteArray×Int)⊕ByteArray)}{T2:Int×Int→Option ((Int×Int)⊕Int)}(n:Nat)(hn:n≤100000000)(B:Nat→Nat)
 (h:∀(k:Nat) (acc:ByteArray),k<n→acc.size+B k≤2000000000→∃s:ByteArray,s.size+B (k+1)≤B k∧T1 (acc,(k:Int))=some (.inl (acc++s,IntKind.wrap .i64 ((k:Int)+1)))∧T2 ((acc.size:Int),(k:Int))=some (.inl (((acc++s).size:Int),IntKind.wrap .i64 ((k:Int)+1))))
 (e1:∀acc,T1 (acc,(n:Int))=some (.inr acc)) (e2:∀z,T2 (z,(n:Int))=some (.inr z)):
 ∀m k F acc,k+m=n→m<F→acc.size+B k≤2000000000→∃r:ByteArray,r.size≤acc.size+B k∧bW T1 F (acc,(k:Int))=some r∧bW T2 F ((acc.size:Int),(k:Int))=some (r.size:Int):=by
 intro m
 induction m with
 |zero=>
  intro k F acc hk hF hb
  obtain⟨F,rfl⟩:∃G,F=G+1:=⟨F-1,by omega⟩
  obtain rfl:k=n:=by omega
  refine⟨acc,by omega,?_,?_⟩
  ·unfold bW;rw[e1];rfl
  ·unfold bW;rw[e2];rfl
 |succ m ih=>
  intro k F acc hk hF hb
  obtain⟨F,rfl⟩:∃G,F=G+1:=⟨F-1,by omega⟩
  obtain⟨s,hs,h1,h2⟩:=h k acc (by omega) hb
  have hsz:(acc++s).size=acc.size+s.size:=ByteArray.size_append
  obtain⟨r,hr,g1,g2⟩:=ih (k+1) F (acc++s) (by omega) (by omega) (by omega)
  refine⟨r,by omega,?_,?_⟩
  ·unfold bW
   rw[h1]
   simp only[Option.bind_some]
   rw[inc k (by omega)];exact g1
  ·unfold bW
   rw[h2]
   simp only[Option.bind_some]
   rw[inc k (by omega)];exact g2
theorem drop_cons'{α:Type}(f:α→List Lf){l:List α}{k:Nat}{x:α}(h:l[k]?=some x):dH ((l.drop k).map f)=aT (f x)+dH ((l.drop (k+1)).map f):=by
 have hk:=oM h
 have hx:l[k]=x:=by rw[List.getElem?_eq_getElem hk] at h;exact Option.some.inj h
 rw[List.drop_eq_getElem_cons hk,hx,List.map_cons];rfl
theorem IG{n:Nat}(h:n≤4000000000000):I64 (n:Int):=by unfold I64;omega
theorem sn1(x:Int):(strOfNums [x]).size=1:=strOfNums_size _
theorem uJ{n:Int}(h:I64 n):(dN (zz n)).length≤10:=by unfold dN;rw[List.length_map];exact Ij (zz n) (ahW n h)
theorem ahh(n:Nat):∀(F G:Nat) (v:ah),aT v.lf1<n→n≤F→n≤G→aT v.lf1≤100000000→jm v.lf1→∃s:ByteArray,s.size≤12*aT v.lf1∧(vI F).m1 v=some s∧(qj G).m1 v=some (s.size:Int):=by
 induction n with
 |zero=>intro F G v h;omega
 |succ n ih=>
  intro F G v hlt hF hG hb hf
  obtain⟨F,rfl⟩:∃K,F=K+1:=⟨F-1,by omega⟩
  obtain⟨G,rfl⟩:∃K,G=K+1:=⟨G-1,by omega⟩
  have hp:=dW v
  have hl:=jf v.aW
  have hd:=iQ v.aU
  obtain⟨f1,f2,f3⟩:=ahg hf
  have iT:=IG (n:=v.fText.size) (by omega)
  have iL:=IG (n:=v.aW.length) (by omega)
  have iD:=IG (n:=v.aU.length) (by omega)
  have bI:=uJ f1
  have bT:=uJ iT
  have bL:=uJ iL
  have bD:=uJ iD
  have hL:∀acc:ByteArray,acc.size≤1000→∃r:ByteArray,r.size≤acc.size+12*dH (v.aW.map ah.lf)∧aes (vI F) v acc 0=some r∧adQ (qj G) v (acc.size:Int) 0=some (r.size:Int):=fun acc ha=>by
   refine Sm v.aW.length (by omega) (fun k=>12*dH ((v.aW.drop k).map ah.lf)) (fun k acc hk hacc=>?_) (fun acc=>by simp only[yV,Mo.den,ay,ak,au,aA,aB,ltn,cond_false]) (fun z=>by simp only[tN,Mo.den,ay,ak,au,aA,aB,ltn,cond_false]) v.aW.length 0 FU acc (by omega) (by have:=gW;omega) (by rw[List.drop_zero];omega)
   obtain⟨x,hx⟩:∃x,v.aW[k]?=some x:=⟨_,List.getElem?_eq_getElem hk⟩
   have hm:=jK (iR hx)
   have hdr:=drop_cons' ah.lf hx
   rw[ah.bf] at hdr
   obtain⟨s,hs,h1,h2⟩:=ih F G x (by omega) (by omega) (by omega) (by omega) (f2 x (iR hx))
   have hacc:acc.size+12*dH ((v.aW.drop k).map ah.lf)≤2000000000:=hacc
   have hsz:(acc++s).size=acc.size+s.size:=ByteArray.size_append
   refine⟨s,by show s.size+12*dH ((v.aW.drop (k+1)).map ah.lf)≤12*dH ((v.aW.drop k).map ah.lf);omega,?_,?_⟩
   ·simp only[yV,Mo.den,ay,ak,au,aA,aB,ltt hx,gid hx,cond_true,Option.bind_some,h1]
    rw[if_pos (by omega)]
   ·simp only[tN,Mo.den,ay,ak,au,aA,aB,ltt hx,gid hx,cond_true,Option.bind_some,h2]
    rw[hsz,w64 (by omega) (by omega)];rfl
  have hD:∀acc:ByteArray,acc.size≤1000→∃r:ByteArray,r.size≤acc.size+12*dH (v.aU.map aJ.lf)∧aeu (vI F) v acc 0=some r∧adR (qj G) v (acc.size:Int) 0=some (r.size:Int):=fun acc ha=>by
   refine Sm v.aU.length (by omega) (fun k=>12*dH ((v.aU.drop k).map aJ.lf)) (fun k acc hk hacc=>?_) (fun acc=>by simp only[yX,Mo.den,ay,ak,au,aA,aB,ltn,cond_false]) (fun z=>by simp only[tV,Mo.den,ay,ak,au,aA,aB,ltn,cond_false]) v.aU.length 0 FU acc (by omega) (by have:=gW;omega) (by rw[List.drop_zero];omega)
   obtain⟨x,hx⟩:∃x,v.aU[k]?=some x:=⟨_,List.getElem?_eq_getElem hk⟩
   have hm:=iC (iR hx)
   have hdr:=drop_cons' aJ.lf hx
   rw[aJ.bf,fV] at hdr
   rw[fV] at hm
   have iN:=IG (n:=x.fName.size) (by omega)
   have bN:=uJ iN
   obtain⟨s,hs,h1,h2⟩:=ih F G x.fValue (by omega) (by omega) (by omega) (by omega) (f3 x (iR hx))
   have hacc:acc.size+12*dH ((v.aU.drop k).map aJ.lf)≤2000000000:=hacc
   have hnz:(strOfNums (dN (zz (x.fName.size:Int)))).size=(dN (zz (x.fName.size:Int))).length:=strOfNums_size _
   have z1:(acc++strOfNums (dN (zz (x.fName.size:Int)))).size=acc.size+(dN (zz (x.fName.size:Int))).length:=by rw[ByteArray.size_append,hnz]
   have z2:(acc++strOfNums (dN (zz (x.fName.size:Int)))++x.fName).size=acc.size+(dN (zz (x.fName.size:Int))).length+x.fName.size:=by rw[ByteArray.size_append,z1]
   have hsz:(acc++(strOfNums (dN (zz (x.fName.size:Int)))++x.fName++s)).size=acc.size+((dN (zz (x.fName.size:Int))).length+x.fName.size+s.size):=by rw[ByteArray.size_append,ByteArray.size_append,ByteArray.size_append,hnz]
   refine⟨strOfNums (dN (zz (x.fName.size:Int)))++x.fName++s,?_,?_,?_⟩
   ·show _+12*dH ((v.aU.drop (k+1)).map aJ.lf)≤12*dH ((v.aU.drop k).map aJ.lf)
    rw[ByteArray.size_append,ByteArray.size_append,hnz];omega
   ·simp only[yX,Mo.den,ay,ak,au,aA,aB,ltt hx,gid hx,cond_true,Option.bind_some,h1,uG _ iN]
    rw[hnz,if_pos (by omega),z1,if_pos (by omega),z2,if_pos (by omega)]
    simp only[ByteArray.append_assoc]
   ·simp only[tV,Mo.den,ay,ak,au,aA,aB,ltt hx,gid hx,cond_true,Option.bind_some,h2,qQ _ iN]
    rw[hsz,w64 (x:=((dN (zz (x.fName.size:Int))).length:Int)+(x.fName.size:Int)) (by omega) (by omega),w64 (x:=((dN (zz (x.fName.size:Int))).length:Int)+(x.fName.size:Int)+(s.size:Int)) (by omega) (by omega),w64 (by omega) (by omega)];rfl
  have key:∃s:ByteArray,s.size≤12*aT v.lf1∧Iu (vI F) v=some s∧Ui (qj G) v=some (s.size:Int):=by
   have zI:(strOfNums (dN (zz v.fA))).size=(dN (zz v.fA)).length:=strOfNums_size _
   have zT:(strOfNums (dN (zz (v.fText.size:Int)))).size=(dN (zz (v.fText.size:Int))).length:=strOfNums_size _
   have zL:(strOfNums (dN (zz (v.aW.length:Int)))).size=(dN (zz (v.aW.length:Int))).length:=strOfNums_size _
   have zD:(strOfNums (dN (zz (v.aU.length:Int)))).size=(dN (zz (v.aU.length:Int))).length:=strOfNums_size _
   unfold Iu FK Ui E8
   simp only[Mo.den,ay,ak,au,aA,aB,Yu,Yv,JI,JJ,dJ,Option.bind_some,uG _ f1,uG _ iT,uG _ iL,uG _ iD,qQ _ f1,qQ _ iT,qQ _ iL,qQ _ iD]
   generalize (bif v.aF==3 then v.aF==3 else v.aF==10)=q1
   generalize (bif v.aF==4 then v.aF==4 else v.aF==7)=q2
   cases q1 with
   |true=>
    simp only[cond_true]
    have z:(strOfNums [IntKind.wrap .u8 v.aF]++strOfNums (dN (zz v.fA))).size=1+(dN (zz v.fA)).length:=by rw[ByteArray.size_append,sn1,zI]
    refine⟨_,?_,by rw[sn1,zI,if_pos (by omega)],by rw[z,w64 (by omega) (by omega)];rfl⟩
    rw[z];omega
   |false=>
   simp only[cond_false]
   cases v.aF==9 with
   |true=>
    simp only[cond_true]
    refine⟨strOfNums [IntKind.wrap .u8 v.aF]++strOfNums [IntKind.wrap .u8 v.fA],?_,by rw[sn1,sn1,if_pos (by omega)],by rw[ByteArray.size_append,sn1,sn1];rfl⟩
    rw[ByteArray.size_append,sn1,sn1];omega
   |false=>
   simp only[cond_false]
   cases q2 with
   |true=>
    simp only[cond_true]
    have z0:(strOfNums [IntKind.wrap .u8 v.aF]++strOfNums (dN (zz (v.fText.size:Int)))).size=1+(dN (zz (v.fText.size:Int))).length:=by rw[ByteArray.size_append,sn1,zT]
    have z:(strOfNums [IntKind.wrap .u8 v.aF]++strOfNums (dN (zz (v.fText.size:Int)))++v.fText).size=1+(dN (zz (v.fText.size:Int))).length+v.fText.size:=by rw[ByteArray.size_append,z0]
    refine⟨_,?_,by rw[sn1,zT,if_pos (by omega),z0,if_pos (by omega)],by rw[z,w64 (x:=((dN (zz (v.fText.size:Int))).length:Int)+(v.fText.size:Int)) (by omega) (by omega),w64 (by omega) (by omega)];congr 1;omega⟩
    rw[z];omega
   |false=>
   simp only[cond_false]
   cases v.aF==8 with
   |true=>
    simp only[cond_true]
    have z:(strOfNums [IntKind.wrap .u8 v.aF]++v.fText).size=1+v.fText.size:=by rw[ByteArray.size_append,sn1]
    refine⟨_,?_,by rw[sn1,if_pos (by omega)],by rw[z,w64 (by omega) (by omega)];rfl⟩
    rw[z];omega
   |false=>
   simp only[cond_false]
   cases v.aF==6 with
   |true=>
    simp only[cond_true]
    have z:(strOfNums [IntKind.wrap .u8 v.aF]++strOfNums (dN (zz (v.aW.length:Int)))).size=1+(dN (zz (v.aW.length:Int))).length:=by rw[ByteArray.size_append,sn1,zL]
    obtain⟨r,hr,g1,g2⟩:=hL _ (show(strOfNums [IntKind.wrap .u8 v.aF]++strOfNums (dN (zz (v.aW.length:Int)))).size≤1000 by omega)
    rw[z] at g2
    refine⟨r,by omega,by rw[sn1,zL,if_pos (by omega),g1];rfl,?_⟩
    rw[w64 (by omega) (by omega),show(1:Int)+((dN (zz (v.aW.length:Int))).length:Int)=((1+(dN (zz (v.aW.length:Int))).length:Nat):Int) by omega,g2];rfl
   |false=>
   simp only[cond_false]
   cases v.aF==5 with
   |true=>
    simp only[cond_true]
    have z:(strOfNums [IntKind.wrap .u8 v.aF]++strOfNums (dN (zz (v.aU.length:Int)))).size=1+(dN (zz (v.aU.length:Int))).length:=by rw[ByteArray.size_append,sn1,zD]
    obtain⟨r,hr,g1,g2⟩:=hD _ (show(strOfNums [IntKind.wrap .u8 v.aF]++strOfNums (dN (zz (v.aU.length:Int)))).size≤1000 by omega)
    rw[z] at g2
    refine⟨r,by omega,by rw[sn1,zD,if_pos (by omega),g1];rfl,?_⟩
    rw[w64 (by omega) (by omega),show(1:Int)+((dN (zz (v.aU.length:Int))).length:Int)=((1+(dN (zz (v.aU.length:Int))).length:Nat):Int) by omega,g2];rfl
   |false=>
    simp only[cond_false]
    exact⟨_,by rw[sn1];omega,rfl,by rw[sn1];rfl⟩
  obtain⟨s,hs,g1,g2⟩:=key
  refine⟨s,hs,?_,?_⟩
  ·show Mo.den (aev (vI F) v)=_
   unfold aev
   simp only[Mo.den,ay,ak,au,aA,aB,g1,Option.bind_some]
  ·show Mo.den (XI (qj G) v)=_
   unfold XI
   simp only[Mo.den,ay,ak,au,aA,aB,g2,Option.bind_some]
theorem ahi(v:ah)(hb:aT v.lf1≤100000000)(hf:jm v.lf1):ata v=aiI v∧∃c,aiI v=some c∧(oq v=true→c.2=0):=by
 obtain⟨s,_,h1,h2⟩:=ahh (aT v.lf1+1) FU FU v (by omega) (by have:=gW;omega) (by have:=gW;omega) hb hf
 have h1:Q13 v=some s:=h1
 have h2:Q30 v=some (s.size:Int):=h2
 simp only[ata,akZ,Mo.den,ay,ak,au,aA,aB,auy,aj0,Mo.den,ay,ak,au,aA,aB,aiI,aaZ,Mo.den,ay,ak,au,aA,aB,lT v hb,l9 v hb,h1,h2,Option.bind_some]
 cases oq v with
 |false=>exact⟨rfl,_,rfl,fun h=>by cases h⟩
 |true=>exact⟨rfl,_,rfl,fun _=>rfl⟩
end Go.Proofs.YtflpefkohpjjpaaGreatDoor
set_option linter.unusedSimpArgs false
set_option linter.unusedVariables false
namespace Go.Proofs.YtflpefkohpjjpaaGreatDoor
open Go.RowKit
def zS(s:ByteArray):Bool:=decide (s=⟨#[]⟩)
theorem Sr{w:aG}(h:jm w.lf1):jm w.dS.lf1∧jm w.aY.lf1:=by
 unfold aG.lf1 at h
 simp only[ou] at h
 exact⟨h.2.2.2.2.1,h.2.2.2.2.2.1⟩
theorem alV{x:aQ}(h:jm x.lf1):jm (aQ.NJ x ⟨#[]⟩).lf1:=by
 unfold aQ.lf1 at h ⊢
 simp only[ou,oQ] at h ⊢
 obtain⟨⟨_,h2⟩,h3⟩:=h
 refine⟨⟨?_,h2⟩,h3⟩
 unfold zY
 exact Nat.zero_le _
theorem Nr(w:aG):Q25 w=some (w.aF==0&&(zS w.gu&&(jG w.fU&&(jG w.aU&&(jG w.dK&&(w.dS.lf1.all zlf&&(w.aY.lf1.all zlf&&(zS w.mM&&(w.eu==0&&((w.bQ.length:Int)==0&&((w.eG.length:Int)==0&&!w.gQ))))))))))):=by
 simp only[Q25,ain,dR,OE,OD,OC,OB,OA,Oz,Oy,Ox,Ov,Xz,Xy,Mo.den,ay,ak,au,aA,aB,Ef,Np,Nq,Option.bind_some,dJ,nO,Bool.and_assoc,zS]
theorem Z7(x:aQ):aT (aQ.NJ x ⟨#[]⟩).lf1≤aT x.lf1:=by
 rw[jX,jX]
 show 6+0+dH (x.gq.map bn.lf)+aT x.bG.lf1≤_
 omega
theorem ap8:jG (ah.mk 0 0 ⟨#[]⟩ [] [])=true:=rfl
theorem nil0{α:Type}:((([]:List α).length:Int)==0)=true:=rfl
theorem auU:decide ((⟨#[]⟩:ByteArray)=⟨#[]⟩)=true:=decide_eq_true rfl
theorem afg(k:Int):k=2∨k=3∨k=4∨k=5∨k=6∨k=7∨k=8∨k=9∨k=10∨k=11∨k=12∨(k<2∨12<k):=by omega
theorem MG:(bU.mk ⟨#[]⟩ [] aI.z 0 0).lf1.all zlf=true:=by unfold bU.lf1 aI.lf1 ah.lf1;rfl
theorem MH:aQ.z.lf1.all zlf=true:=by unfold aQ.lf1 aO.lf1 aP.lf1 dQ.lf1 ah.lf1;rfl
theorem V9(w:aG)(hb:aT w.lf1≤100000000)(hf:jm w.lf1):Q11 w=Q21 w:=by
 have hp:=kQ w
 have hfi:=Sr hf
 have hns:=Z5 w.dS (by omega) hfi.1
 have hni:=G5 w.aY (by omega) hfi.2
 have hnn:=G5 (aQ.NJ w.aY ⟨#[]⟩) (by have:=Z7 w.aY;omega) (alV hfi.2)
 clear hp hfi hf hb
 cases w with
 |mk k sp key doc bef df ix tx st ws sh sil=>
 simp only[aG.dS,aG.aY] at hns hni hnn
 simp only[Q11,akY,Ql,FY,FX,FW,Qk,Qj,Qi,Qh,Qg,YA,Yz,Mo.den,ay,ak,au,aA,aB,aoN,Vo,Mo.den,ay,ak,au,aA,aB,aoL,Vm,Mo.den,ay,ak,au,aA,aB,aoO,Vp,Mo.den,ay,ak,au,aA,aB,akX,KX,Mo.den,ay,ak,au,aA,aB,aoR,Vr,Mo.den,ay,ak,au,aA,aB,Q21,aio,E5,EZ,EY,EX,EW,EU,ET,ES,JA,Jz,Mo.den,ay,ak,au,aA,aB,aif,Jy,Mo.den,ay,ak,au,aA,aB,Nr,hns,hni,hnn,rG,Option.bind_some,aG.aF,aG.gu,aG.fU,aG.aU,aG.dK,aG.dS,aG.aY,aG.mM,aG.eu,aG.bQ,aG.eG,aG.gQ]
 rcases afg k with rfl|rfl|rfl|rfl|rfl|rfl|rfl|rfl|rfl|rfl|rfl|hk
 case inr.inr.inr.inr.inr.inr.inr.inr.inr.inr.inr=>
  have hne:∀c:Int,2≤c→c≤12→(k==c)=false:=fun c h1 h2=>by rw[beq_eq_false_iff_ne];omega
  have d1:(decide (2≤k)&&decide (k≤7))=false:=by
   rcases hk with h|h
   ·rw[decide_eq_false (by omega)];rfl
   ·rw[decide_eq_false (show ¬k≤7 by omega),Bool.and_false]
  have d2:(decide (9≤k)&&decide (k≤12))=false:=by
   rcases hk with h|h
   ·rw[decide_eq_false (by omega)];rfl
   ·rw[decide_eq_false (show ¬k≤12 by omega),Bool.and_false]
  simp only[Mo.den,ay,ak,au,aA,aB,hns,hni,hnn,Option.bind_some,cond_true,cond_false,aG.aF,aG.gu,aG.fU,aG.aU,aG.dK,aG.dS,aG.aY,aG.mM,aG.eu,aG.bQ,aG.eG,aG.gQ,aG.GL,aG.Tf,aG.amk,aG.aml,aG.Ti,aG.aqw,aG.Tj,aG.aqx,aG.aat,aG.Tn,aG.Tq,aG.Tt,aK.z,aK.uS,aK.afB,aK.ahK,aK.ahL,aK.I9,aK.qC,aK.WZ,aK.EH,aK.yx,aK.BZ,dJ,nO,MG,MH,Int.reduceBEq,Int.reduceLE,Int.reduceBNe,decide_true,decide_false,bne,Bool.not_true,Bool.not_false,hne 2 (by omega) (by omega),hne 3 (by omega) (by omega),hne 4 (by omega) (by omega),hne 5 (by omega) (by omega),hne 6 (by omega) (by omega),hne 7 (by omega) (by omega),hne 8 (by omega) (by omega),hne 9 (by omega) (by omega),hne 10 (by omega) (by omega),hne 11 (by omega) (by omega),hne 12 (by omega) (by omega),d1,d2,Bool.false_and,Bool.and_false,Bool.true_and,Bool.and_true,cond_true,cond_false,zS,ap8,auU,beq_self_eq_true]
  congr 1
  ac_rfl
 all_goals (simp(decide:=true) only[Mo.den,ay,ak,au,aA,aB,hns,hni,hnn,Option.bind_some,cond_true,cond_false,aG.aF,aG.gu,aG.fU,aG.aU,aG.dK,aG.dS,aG.aY,aG.mM,aG.eu,aG.bQ,aG.eG,aG.gQ,aG.GL,aG.Tf,aG.amk,aG.aml,aG.Ti,aG.aqw,aG.Tj,aG.aqx,aG.aat,aG.Tn,aG.Tq,aG.Tt,aK.z,aK.uS,aK.afB,aK.ahK,aK.ahL,aK.I9,aK.qC,aK.WZ,aK.EH,aK.yx,aK.BZ,dJ,nO,MG,MH,Int.reduceBEq,Int.reduceLE,Int.reduceBNe,decide_true,decide_false,bne,Bool.not_true,Bool.not_false])
 all_goals (simp only[Bool.false_and,Bool.and_false,Bool.true_and,Bool.and_true,cond_true,cond_false,zS,ap8,auU,nil0,beq_self_eq_true,Bool.and_true])
 all_goals (congr 1;ac_rfl)
end Go.Proofs.YtflpefkohpjjpaaGreatDoor
set_option linter.unusedSimpArgs false
set_option linter.unusedVariables false
namespace Go.Proofs.YtflpefkohpjjpaaGreatDoor
open Go.RowKit
theorem ac1{v:ah}(h:oq v=true)(hk:¬v.aF=5):v.aU=[]:=by
 unfold oq at h
 rw[Bool.and_eq_true,Bool.and_eq_true] at h
 have hs:=h.2.2
 rw[acE] at hs
 simp only[Bool.and_eq_true] at hs
 have hh:=hs.1.1
 unfold EM at hh
 simp only[Bool.and_eq_true,Bool.or_eq_true,beq_iff_eq] at hh
 rcases hh.2 with h5|h0
 ·exact absurd h5 hk
 ·exact List.eq_nil_of_length_eq_zero h0
theorem Sv(d k:ah)(hd:aT d.lf1≤100000000)(hk:aT k.lf1≤100000000)(hf:jm d.lf1)(hi:¬k.aF=6∧¬k.aF=1∧¬k.aF=11):Q97 d k=Q74 d k:=by
 obtain⟨hL,⟨n,e⟩,hc,hce⟩:=ahi d hd hf
 have hp:=dW d
 unfold Q97 apT Q74 aiJ
 simp only[Mo.den,ay,ak,au,aA,aB,YI,JK,JL,Fa,auI,ak0,Mo.den,ay,ak,au,aA,aB,Q92,apR,Qo,Qn,YF,YE,Mo.den,ay,ak,au,aA,aB,hL,hc,l9 d hd,lT d hd,Option.bind_some,dJ]
 cases hv:oq d with
 |false=>cases d.aF != 5<;>rfl
 |true=>
  by_cases h5:¬d.aF=5
  ·have hn:=ac1 hv h5
   rw[show(d.aF != 5)=true from bne_iff_ne.2 h5,hn];rfl
  rw[show(d.aF != 5)=false by rw[Classical.not_not.1 h5];rfl]
  cases hD:d.aU with
  |nil=>rfl
  |cons f r=>
   have hm:f∈d.aU:=by rw[hD];exact List.mem_cons_self ..
   have hbf:=iC hm
   rw[fV] at hbf
   have hcmp:=acU f.fValue k (by omega) hk
   obtain⟨c,hcc,_⟩:=rH f.fValue k (by omega) hk
   have hg:lG (f::r) 0=some f:=rfl
   have hl:(((f::r).length:Int)==0)=false:=by rw[beq_eq_false_iff_ne,List.length_cons];omega
   have he:e=0:=hce hv
   subst he
   simp only[hg,hl,hcmp,hcc,anb,aaW,Mo.den,ay,ak,au,aA,aB,Option.bind_some,dJ,Bool.not_true,cond_true,cond_false,bne_self_eq_false]
   cases hname:decide (f.fName=(⟨#[95,105,100]⟩:ByteArray)) with
   |false=>rfl
   |true=>
    simp only[Bool.not_true,cond_false]
    by_cases hid:f.fValue.aF=6∨f.fValue.aF=1∨f.fValue.aF=11
    ·have hne:(f.fValue.aF != k.aF)=true:=by rw[bne_iff_ne];omega
     have hc0:(c==0)=false:=by
      rw[beq_eq_false_iff_ne]
      intro h0
      subst h0
      unfold Q33 at hcc
      obtain⟨G,hG⟩:=VU
      rw[hG] at hcc
      have hcc:Mo.den (JG (kV G) f.fValue k)=some 0:=hcc
      unfold JG at hcc
      simp only[Mo.den,ay,ak,au,aA,aB,hne,cond_true,ZN,Option.bind_some] at hcc
      have hcc:=Option.some.inj hcc
      unfold Ej at hcc
      have hk2:¬f.fValue.aF=k.aF:=bne_iff_ne.1 hne
      rcases Int.lt_or_gt_of_ne hk2 with h1|h1
      ·rw[decide_eq_true h1] at hcc;cases hcc
      ·rw[decide_eq_false (by omega),decide_eq_true h1] at hcc;cases hcc
     rw[hc0]
     have hq:(bif bif f.fValue.aF==6 then true else f.fValue.aF==1 then true else f.fValue.aF==11)=true:=by
      rcases hid with h|h|h
      ·rw[h];rfl
      ·rw[h];rfl
      ·rw[h];rfl
     rw[hq];rfl
    ·have hq:(bif bif f.fValue.aF==6 then true else f.fValue.aF==1 then true else f.fValue.aF==11)=false:=by
      rw[show(f.fValue.aF==6)=false by rw[beq_eq_false_iff_ne];omega,show(f.fValue.aF==1)=false by rw[beq_eq_false_iff_ne];omega,show(f.fValue.aF==11)=false by rw[beq_eq_false_iff_ne];omega];rfl
     rw[hq]
     simp only[cond_false,Bool.not_true,bne]
     cases c==0 with
     |true=>cases decide ((16384:Int)<n)<;>rfl
     |false=>cases decide ((16384:Int)<n)<;>rfl
end Go.Proofs.YtflpefkohpjjpaaGreatDoor
set_option linter.unusedSimpArgs false
set_option linter.unusedVariables false
namespace Go.Proofs.YtflpefkohpjjpaaGreatDoor
open Go.RowKit
theorem ahj(v:ah)(hb:aT v.lf1≤100000000):Q83 v=some (!(v.aF==6)&&(!(v.aF==1)&&(!(v.aF==11)&&oq v))):=by
 simp only[Q83,aiF,dR,OX,XH,XG,Mo.den,ay,ak,au,aA,aB,l9 v hb,Option.bind_some,dJ,nO,bne,Bool.and_assoc]
theorem ac2(v:ah)(hb:aT v.lf1≤100000000):Q69 v=some (!(v.aF==6)&&(!(v.aF==1)&&(!(v.aF==11)&&oq v))):=by
 simp only[Q69,apQ,dR,Qm,YD,YC,Mo.den,ay,ak,au,aA,aB,lT v hb,Option.bind_some,dJ,nO,bne,Bool.and_assoc]
 congr 1
 ac_rfl
def Bv(l:List Int)(k:Nat):Option Unit:=match l[k]? with
 |some x=>hit (bif decide (x<0) then true else bif decide (8≤x) then true else bif decide (0<k) then decide (x≤l.getD (k-1) 0) else false)
 |none=>none
noncomputable def Ep(l:List Int):Bool:=(dF (Bv l) 0 l.length).isNone&&decide ((0:Int)<(l.length:Int))
theorem afh{l:List Int}{k:Nat}(hk:k<l.length)(h0:0<k)(hl:l.length≤100000000):lG l (IntKind.wrap .i64 ((k:Int)-1))=some (l.getD (k-1) 0):=by
 rw[w64 (by omega) (by omega),show(k:Int)-1=((k-1:Nat):Int) by omega,Je,List.getD_eq_getElem?_getD,List.getElem?_eq_getElem (show k-1<l.length by omega)];rfl
theorem ac3(l:List Int)(hl:l.length≤100000000):Q45 l=some (Ep l):=by
 have hL:Ua l 0=some (jB (dF (Bv l) 0 l.length)):=by
  try unfold Ua
  refine dU _ l.length (by omega) (fun k hk=>?_) (by simp only[tH,Mo.den,ay,ak,au,aA,aB,ltn,cond_false])
  have hx:=List.getElem?_eq_getElem hk
  have hd:decide ((0:Int)<(k:Int))=decide (0<k):=by rw[decide_eq_decide];omega
  simp only[tH,JB,JC,Mo.den,ay,ak,au,aA,aB,ltt hx,gid hx,cond_true,Option.bind_some,dJ,hd,Bv,hx]
  by_cases h0:0<k
  ·rw[afh hk h0 hl,decide_eq_true h0]
   simp only[Option.bind_some,cond_true,dJ]
   cases decide (l[k]<0)<;>cases decide (8≤l[k])<;>cases decide (l[k]≤l.getD (k-1) 0)<;>rfl
  ·rw[decide_eq_false h0]
   simp only[cond_false,dJ,Option.bind_some]
   cases decide (l[k]<0)<;>cases decide (8≤l[k])<;>rfl
 unfold Q45 aip Ep
 simp only[Mo.den,ay,ak,au,aA,aB,hL,Option.bind_some]
 cases dF (Bv l) 0 l.length<;>rfl
theorem Z8(l:List Int)(hl:l.length≤100000000):Q70 l=some (Ep l):=by
 have hL:aco l 0=some (jB (dF (Bv l) 0 l.length)):=by
  try unfold aco
  refine dU _ l.length (by omega) (fun k hk=>?_) (by simp only[DC,Mo.den,ay,ak,au,aA,aB,ltn,cond_false])
  have hx:=List.getElem?_eq_getElem hk
  have hd:decide ((0:Int)<(k:Int))=decide (0<k):=by rw[decide_eq_decide];omega
  simp only[DC,YB,Mo.den,ay,ak,au,aA,aB,ltt hx,gid hx,cond_true,Option.bind_some,dJ,hd,Bv,hx]
  by_cases h0:0<k
  ·rw[afh hk h0 hl,decide_eq_true h0]
   simp only[Option.bind_some,cond_true,dJ]
   cases decide (l[k]<0)<;>cases decide (8≤l[k])<;>cases decide (l[k]≤l.getD (k-1) 0)<;>rfl
  ·rw[decide_eq_false h0]
   simp only[cond_false,dJ,Option.bind_some]
   cases decide (l[k]<0)<;>cases decide (8≤l[k])<;>rfl
 unfold Q70 apP Ep
 simp only[Mo.den,ay,ak,au,aA,aB,hL,Option.bind_some]
 cases dF (Bv l) 0 l.length<;>rfl
theorem Bz(w:aG)(h:Q11 w=some true):(¬w.aF=10→¬w.aF=12→w.eu=0)∧(¬w.aF=8→¬w.aF=9→w.bQ=[]):=by
 unfold Q11 akY at h
 simp only[Mo.den,ay,ak,au,aA,aB] at h
 obtain⟨ix,_,h⟩:=ig h
 obtain⟨a1,_,h⟩:=ig h
 obtain⟨a2,_,h⟩:=ig h
 obtain⟨a3,_,h⟩:=ig h
 obtain⟨a4,_,h⟩:=ig h
 obtain⟨a5,_,h⟩:=ig h
 obtain⟨a6,_,h⟩:=ig h
 obtain⟨a7,h7,h⟩:=ig h
 obtain⟨a8,h8,h⟩:=ig h
 obtain⟨a9,h9,h⟩:=ig h
 obtain⟨_,_,h⟩:=ig h
 have e9:a9=true:=Option.some.inj h
 unfold FY at h9
 unfold FX at h8
 unfold FW at h7
 simp only[Mo.den,ay,ak,au,aA,aB,akX,KX,Mo.den,ay,ak,au,aA,aB,dJ,Option.bind_some] at h9 h8 h7
 have h9:=Option.some.inj h9
 have h8:=Option.some.inj h8
 have h7:=Option.some.inj h7
 rw[e9] at h9
 cases e8:a8 with
 |false=>rw[e8] at h9;cases h9
 |true=>
  rw[e8] at h8
  cases e7:a7 with
  |false=>rw[e7] at h8;cases h8
  |true=>
   rw[e7] at h8 h7
   simp only[cond_true] at h8
   refine⟨fun k1 k2=>?_,fun k1 k2=>?_⟩
   ·cases e6:a6 with
    |false=>rw[e6] at h7;cases h7
    |true=>
     rw[e6,show(w.aF==10)=false from beq_eq_false_iff_ne.2 k1,show(w.aF==12)=false from beq_eq_false_iff_ne.2 k2] at h7
     exact eq_of_beq h7
   ·rw[show(w.aF==8)=false from beq_eq_false_iff_ne.2 k1,show(w.aF==9)=false from beq_eq_false_iff_ne.2 k2] at h8
    exact len0 h8
theorem afi(R:RB1)(w:aG)(lo hi:Int)(hb:aT w.lf1≤100000000)(hf:jm w.lf1)(h1:1≤lo)(h12:hi≤12):
 ∃o,Q3 w lo hi=some o∧Mo.den (abz R w lo hi)=bif o != 0 then some o else bif w.aF==4||w.aF==6 then some 0 else(vg R (bif w.aF==8 then 7 else bif w.aF==9 then 3 else hi) w 0).bind (Sum.elim some fun _=>some 0):=by
 have hp:=kQ w
 have hfi:=Sr hf
 have hfd:jm w.aU.lf1∧jm w.dK.lf1:=by
  unfold aG.lf1 at hf
  simp only[ou] at hf
  exact⟨hf.2.2.1,hf.2.2.2.1⟩
 have hsh:=Lm w.eG
 have hue:=V9 w hb hf
 have hem:=Bz w
 obtain⟨u,hu,_⟩:=kR w
 rw[hu] at hue
 rw[hue] at hem
 have hcat:∃c,Q55 w.dS=some c:=(rJ w.dS (by omega)).imp fun _ h=>h.1
 obtain⟨cat,hcat⟩:=hcat
 have hRcat:=(alQ w.dS (by omega) (by have:=hfi.1;unfold bU.lf1 at this;simp only[ou] at this;exact this.2.1)).trans hcat
 obtain⟨ixv,hix⟩:∃c,XV w.aY=some c:=(kG w.aY (by omega)).imp fun _ h=>h.1
 have hRix:=(ZQ w.aY (by omega)).trans hix
 obtain⟨d1,hd1⟩:∃c,Q74 w.aU w.fU=some c:=(nC w.aU w.fU (by omega) (by omega)).imp fun _ h=>h.1
 obtain⟨d2,hd2⟩:∃c,Q74 w.dK w.fU=some c:=(nC w.dK w.fU (by omega) (by omega)).imp fun _ h=>h.1
 have hq1:(!(w.fU.aF==6)&&(!(w.fU.aF==1)&&(!(w.fU.aF==11)&&oq w.fU)))=true→Q97 w.aU w.fU=some d1∧Q97 w.dK w.fU=some d2:=fun h=>by
  simp only[Bool.and_eq_true,Bool.not_eq_true',beq_eq_false_iff_ne] at h
  exact⟨(Sv w.aU w.fU (by omega) (by omega) hfd.1 ⟨h.1,h.2.1,h.2.2.1⟩).trans hd1,(Sv w.dK w.fU (by omega) (by omega) hfd.2 ⟨h.1,h.2.1,h.2.2.1⟩).trans hd2⟩
 have hv1:=ahj w.fU (by omega)
 have hv2:=ac2 w.fU (by omega)
 have hs1:=ac3 w.eG (by omega)
 have hs2:=Z8 w.eG (by omega)
 clear hp hfi hfd hsh hb hf
 unfold Q3 apc abz
 simp only[Mo.den,ay,xX,aA,aB,Uy,Uz,KA,KC,KD,KE,KF,KG,KH,KI,Iz,IB,DW,Zj,Zk,Zl,Zm,Zn,Zo,Zp,Zq,Zr,Zt,Zu,Zv,Zw,Zx,hu,hue,hcat,hRcat,hix,hRix,arj,aa0,OY,Mo.den,ay,ak,au,aA,aB,hd1,hd2,hv1,hv2,hs1,hs2,qB,Ry,Ef,rG,aq6,aaP,OG,Mo.den,ay,ak,au,aA,aB,Option.bind_some,dJ,nO,V3]
 generalize (!(w.fU.aF==6)&&(!(w.fU.aF==1)&&(!(w.fU.aF==11)&&oq w.fU)))=idk at *
 generalize hk:w.aF=k at *
 generalize Q97 w.aU w.fU=S1 at *
 generalize Q97 w.dK w.fU=S2 at *
 generalize vg R=L at *
 have hst:¬k=10→¬k=12→u=true→decide (w.eu<0)=false∧decide (1099511627776<w.eu)=false:=fun a b c=>by
  subst c
  rw[(hem rfl).1 a b];exact⟨rfl,rfl⟩
 have n1:decide (1≤w.eu)=!decide (w.eu<1):=by rw[Bool.eq_iff_iff];simp
 have n0:decide (0≤w.eu)=!decide (w.eu<0):=by rw[Bool.eq_iff_iff];simp
 have nM:decide (w.eu≤1099511627776)=!decide (1099511627776<w.eu):=by rw[Bool.eq_iff_iff];simp
 have n10:decide (w.eu<1)=false→decide (w.eu<0)=false:=fun h=>by
  have:=of_decide_eq_false h
  exact decide_eq_false (by omega)
 clear hem hs1 hs2 hv1 hv2 hd1 hd2 hix hRix hcat hRcat hue hu
 rcases afg k with rfl|rfl|rfl|rfl|rfl|rfl|rfl|rfl|rfl|rfl|rfl|hk2
 case inr.inr.inr.inr.inr.inr.inr.inr.inr.inr.inr=>
  have hne:∀c:Int,2≤c→c≤12→(k==c)=false:=fun c h1 h2=>by rw[beq_eq_false_iff_ne];omega
  have d1':(decide (2≤k)&&decide (k≤7))=false:=by
   rcases hk2 with h|h
   ·rw[decide_eq_false (by omega)];rfl
   ·rw[decide_eq_false (show ¬k≤7 by omega),Bool.and_false]
  have d2':(decide (9≤k)&&decide (k≤12))=false:=by
   rcases hk2 with h|h
   ·rw[decide_eq_false (by omega)];rfl
   ·rw[decide_eq_false (show ¬k≤12 by omega),Bool.and_false]
  have hst:=hst (by omega) (by omega)
  simp only[aif,Jy,Mo.den,ay,ak,au,aA,aB,aoN,Vo,Mo.den,ay,ak,au,aA,aB,aoL,Vm,Mo.den,ay,ak,au,aA,aB,aoO,Vp,Mo.den,ay,ak,au,aA,aB,akX,KX,Mo.den,ay,ak,au,aA,aB,aoR,Vr,Mo.den,ay,ak,au,aA,aB,aK.z,aK.uS,aK.afB,aK.ahK,aK.ahL,aK.I9,aK.qC,aK.WZ,aK.EH,aK.yx,aK.BZ,Option.bind_some,dJ,nO,V3,Int.reduceBEq,Int.reduceLE,Int.reduceLT,Int.reduceBNe,decide_true,decide_false,bne,Bool.not_true,Bool.not_false,cond_true,cond_false,Bool.or_false,Bool.false_or,Bool.true_or,Bool.or_true,Bool.true_and,Bool.false_and,Bool.and_true,Bool.and_false,Sum.elim_inl,Sum.elim_inr,hne 2 (by omega) (by omega),hne 3 (by omega) (by omega),hne 4 (by omega) (by omega),hne 5 (by omega) (by omega),hne 6 (by omega) (by omega),hne 7 (by omega) (by omega),hne 8 (by omega) (by omega),hne 9 (by omega) (by omega),hne 10 (by omega) (by omega),hne 11 (by omega) (by omega),hne 12 (by omega) (by omega),d1',d2']
  generalize decide (w.eu<0)=s0 at *
  generalize decide (1099511627776<w.eu)=sM at *
  generalize decide (256<(w.bQ.length:Int))=B at *
  generalize decide (k<lo)=A1 at *
  generalize decide (hi<k)=A2 at *
  cases u<;>cases A1<;>cases A2<;>cases B<;>cases s0<;>cases sM<;>first|exact⟨_,rfl,rfl⟩|(exact absurd (hst rfl).1 (by decide))|(exact absurd (hst rfl).2 (by decide))
 all_goals simp(decide:=true) only[aif,Jy,Mo.den,ay,ak,au,aA,aB,aoN,Vo,Mo.den,ay,ak,au,aA,aB,aoL,Vm,Mo.den,ay,ak,au,aA,aB,aoO,Vp,Mo.den,ay,ak,au,aA,aB,akX,KX,Mo.den,ay,ak,au,aA,aB,aoR,Vr,Mo.den,ay,ak,au,aA,aB,aK.z,aK.uS,aK.afB,aK.ahK,aK.ahL,aK.I9,aK.qC,aK.WZ,aK.EH,aK.yx,aK.BZ,Option.bind_some,dJ,nO,V3,Int.reduceBEq,Int.reduceLE,Int.reduceLT,Int.reduceBNe,decide_true,decide_false,bne,Bool.not_true,Bool.not_false,cond_true,cond_false,Bool.or_false,Bool.false_or,Bool.true_or,Bool.or_true,Bool.true_and,Bool.false_and,Bool.and_true,Bool.and_false,Sum.elim_inl,Sum.elim_inr,n1,n0,nM]
 all_goals generalize decide (w.eu<0)=s0 at *
 all_goals generalize decide (w.eu<1)=s1 at *
 all_goals generalize decide (1099511627776<w.eu)=sM at *
 all_goals generalize decide (256<(w.bQ.length:Int))=B at *
 all_goals generalize ((w.bQ.length:Int)==0)=z at *
 all_goals generalize nameB w.gu=ns at *
 all_goals generalize nameB w.mM=nt at *
 all_goals generalize nameB w.aY.fName=ni at *
 all_goals generalize Ep w.eG=sb at *
 all_goals generalize jG w.dK=mb at *
 ·have hst:=hst (by decide) (by decide)
  generalize (decide (2<lo)||decide (hi<2))=A at *
  cases u with
  |false=>cases A<;>exact⟨_,rfl,rfl⟩
  |true=>
   obtain⟨rfl,rfl⟩:=hst rfl
   cases A with
   |true=>exact⟨_,rfl,rfl⟩
   |false=>
   cases B with
   |true=>exact⟨_,rfl,rfl⟩
   |false=>
   cases ns with
   |false=>exact⟨_,rfl,rfl⟩
   |true=>
   cases idk with
   |false=>exact⟨_,rfl,rfl⟩
   |true=>
    obtain⟨rfl,rfl⟩:=hq1 rfl
    simp only[Option.bind_some,cond_true,cond_false,Bool.not_true,Bool.not_false,Bool.or_false,Sum.elim_inr]
    cases e1:d1==0 with
    |false=>exact⟨d1,rfl,by rw[e1];simp only[Bool.not_false,cond_true,Sum.elim_inl,Option.bind_some,e1]⟩
    |true=>
     simp only[Bool.not_true,cond_false,Sum.elim_inr,Option.bind_some]
     cases mb with
     |true=>exact⟨0,rfl,rfl⟩
     |false=>
      simp only[Bool.not_false,cond_true,cond_false,Option.bind_some]
      cases e2:d2==0 with
      |false=>exact⟨d2,rfl,by rw[e2];rfl⟩
      |true=>exact⟨0,rfl,rfl⟩
 ·have hst:=hst (by decide) (by decide)
  generalize (decide (3<lo)||decide (hi<3))=A at *
  cases u with
  |false=>cases A<;>exact⟨_,rfl,rfl⟩
  |true=>
   obtain⟨rfl,rfl⟩:=hst rfl
   cases A with
   |true=>exact⟨_,rfl,rfl⟩
   |false=>
   cases B with
   |true=>exact⟨_,rfl,rfl⟩
   |false=>
   cases ns with
   |false=>exact⟨_,rfl,rfl⟩
   |true=>
   cases idk with
   |false=>exact⟨_,rfl,rfl⟩
   |true=>
    obtain⟨_,rfl⟩:=hq1 rfl
    cases mb with
    |true=>exact⟨0,rfl,rfl⟩
    |false=>
     simp only[Option.bind_some,cond_true,cond_false,Bool.not_true,Bool.not_false,Bool.or_false]
     cases e2:d2==0 with
     |false=>exact⟨d2,rfl,by rw[e2];rfl⟩
     |true=>exact⟨0,rfl,rfl⟩
 ·have hst:=hst (by decide) (by decide)
  generalize (decide (4<lo)||decide (hi<4))=A at *
  cases u<;>cases A<;>cases B<;>cases s0<;>cases sM<;>first|exact⟨_,rfl,rfl⟩|(exact absurd (hst rfl).1 (by decide))|(exact absurd (hst rfl).2 (by decide))|(refine⟨_,rfl,?_⟩;show some cat=some (bif !(cat==0) then cat else 0);cases e:cat==0 with|true=>rw[eq_of_beq e];rfl|false=>rfl)
 ·have hst:=hst (by decide) (by decide)
  generalize (decide (5<lo)||decide (hi<5))=A at *
  cases u<;>cases A<;>cases B<;>cases ns<;>cases s0<;>cases sM<;>first|exact⟨_,rfl,rfl⟩|(exact absurd (hst rfl).1 (by decide))|(exact absurd (hst rfl).2 (by decide))
 ·have hst:=hst (by decide) (by decide)
  generalize (decide (6<lo)||decide (hi<6))=A at *
  cases u<;>cases A<;>cases B<;>cases ns<;>cases s0<;>cases sM<;>first|exact⟨_,rfl,rfl⟩|(exact absurd (hst rfl).1 (by decide))|(exact absurd (hst rfl).2 (by decide))|(refine⟨_,rfl,?_⟩;show some ixv=some (bif !(ixv==0) then ixv else 0);cases e:ixv==0 with|true=>rw[eq_of_beq e];rfl|false=>rfl)
 ·have hst:=hst (by decide) (by decide)
  generalize (decide (7<lo)||decide (hi<7))=A at *
  cases u<;>cases A<;>cases B<;>cases ns<;>cases ni<;>cases s0<;>cases sM<;>first|exact⟨_,rfl,rfl⟩|(exact absurd (hst rfl).1 (by decide))|(exact absurd (hst rfl).2 (by decide))
 ·have hst:=hst (by decide) (by decide)
  generalize (decide (8<lo)||decide (hi<8))=A at *
  cases u<;>cases A<;>cases B<;>cases z<;>cases s0<;>cases sM<;>first|exact⟨_,rfl,rfl⟩|(exact absurd (hst rfl).1 (by decide))|(exact absurd (hst rfl).2 (by decide))
 ·have hst:=hst (by decide) (by decide)
  generalize (decide (9<lo)||decide (hi<9))=A at *
  cases u<;>cases A<;>cases B<;>cases z<;>cases nt<;>cases s0<;>cases sM<;>first|exact⟨_,rfl,rfl⟩|(exact absurd (hst rfl).1 (by decide))|(exact absurd (hst rfl).2 (by decide))
 ·generalize (decide (10<lo)||decide (hi<10))=A at *
  cases u<;>cases A<;>cases B<;>cases nt<;>cases s1<;>cases s0<;>cases sM<;>first|exact⟨_,rfl,rfl⟩|(exact absurd (n10 rfl) (by decide))
 ·have hst:=hst (by decide) (by decide)
  generalize (decide (11<lo)||decide (hi<11))=A at *
  cases u<;>cases A<;>cases B<;>cases nt<;>cases s0<;>cases sM<;>first|exact⟨_,rfl,rfl⟩|(exact absurd (hst rfl).1 (by decide))|(exact absurd (hst rfl).2 (by decide))
 ·generalize (decide (12<lo)||decide (hi<12))=A at *
  cases u<;>cases A<;>cases B<;>cases nt<;>cases s0<;>cases sM<;>cases sb<;>exact⟨_,rfl,rfl⟩
theorem apo(R:RB1)(w:aG)(hi:Int)(hb:aT w.lf1≤100000000)(hf:jm w.lf1)(h7:hi≤7):∃o,Q3 w 2 hi=some o∧Mo.den (abz R w 2 hi)=some o:=by
 obtain⟨o,h1,h2⟩:=afi R w 2 hi hb hf (by omega) (by omega)
 refine⟨o,h1,?_⟩
 rw[h2]
 cases ho:o != 0 with
 |true=>rfl
 |false=>
  have h0:o=0:=by simpa using ho
  subst h0
  have hu:=V9 w hb hf
  obtain⟨u,hu2,_⟩:=kR w
  rw[hu2] at hu
  have hem:=Bz w
  rw[hu] at hem
  have hacc:u=true∧2≤w.aF∧w.aF≤hi:=by
   unfold Q3 apc at h1
   simp only[Mo.den,ay,ak,au,aA,aB,Iz,IB,hu,dJ,V3,Option.bind_some] at h1
   obtain⟨z,hz,h1⟩:=ig h1
   obtain⟨_,_,h1⟩:=ig h1
   cases hz2:z with
   |true=>rw[hz2] at h1;cases h1
   |false=>
    rw[hz2] at hz
    unfold DW at hz
    simp only[Mo.den,ay,ak,au,aA,aB] at hz
    cases hq:decide (w.aF<2)||decide (hi<w.aF)||!u with
    |true=>rw[hq] at hz;cases hz
    |false=>
     simp only[Bool.or_eq_false_iff,decide_eq_false_iff_not,Bool.not_eq_false'] at hq
     exact⟨hq.2,by omega,by omega⟩
  obtain⟨rfl,k2,k7⟩:=hacc
  have hw:=(hem rfl).2 (by omega) (by omega)
  have hL:∀g,vg R g w 0=some (.inr ()):=fun g=>nN (by simp only[qI,Mo.den,ay,ak,au,aA,aB,hw];rfl)
  rw[hL]
  cases w.aF==4||w.aF==6<;>rfl
theorem alW(e:bY)(hb:aT e.lf1≤100000000)(hf:jm e.lf1):Q23 e=Q82 e:=by
 have hbe:=Ba e
 have hbw:=kQ e.dI
 have hlw:=Bc e.dI.bQ
 have hfw:=aha hf
 obtain⟨G,hG⟩:∃G,FU=G+2:=⟨FU-2,by have:=gW;omega⟩
 obtain⟨o,h1,h2⟩:=afi (kW (G+1)) e.dI 1 12 (by omega) hfw (by omega) (by omega)
 have hV:Q4 e.dI 1 12=Mo.den (abz (kW (G+1)) e.dI 1 12):=by
  unfold Q4
  rw[hG];rfl
 have hV:=hV.trans h2
 let hi2:Int:=bif e.dI.aF==9 then 3 else 7
 let f:Nat→Option Int:=fun k=>match e.dI.bQ[k]? with
  |some x=>bif (Q3 x 2 hi2).getD 0 != 0 then some ((Q3 x 2 hi2).getD 0) else none
  |none=>none
 have hi7:hi2≤7:=by
  show(bif e.dI.aF==9 then(3:Int) else 7)≤7
  cases e.dI.aF==9
  ·exact Int.le_refl _
  ·show(3:Int)≤7;decide
 have kid:∀{k:Nat} {x:aG},e.dI.bQ[k]?=some x→∃c,Q3 x 2 hi2=some c∧(kW (G+1)).m1 x 2 hi2=some c:=fun {k x} hx=>by
  have hm:=Rw (iR hx)
  exact apo (kW G) x hi2 (by omega) ((ag9 hfw).2 x (iR hx)) hi7
 have LP:vg (kW (G+1)) hi2 e.dI 0=some (jB (dF f 0 e.dI.bQ.length)):=by
  try unfold vg
  refine dU f e.dI.bQ.length (by omega) (fun k hk=>?_) (by simp only[qI,Mo.den,ay,ak,au,aA,aB,ltn,cond_false])
  obtain⟨x,hx⟩:∃x,e.dI.bQ[k]?=some x:=⟨_,List.getElem?_eq_getElem hk⟩
  obtain⟨c,c1,c2⟩:=kid hx
  simp only[qI,Mo.den,ay,ak,au,aA,aB,ltt hx,gid hx,cond_true,Option.bind_some,c2,c1,f,hx,Option.getD_some]
  cases c != 0<;>rfl
 have LR:VL e hi2 0=some (jB (dF f 0 e.dI.bQ.length)):=by
  try unfold VL
  refine dU f e.dI.bQ.length (by omega) (fun k hk=>?_) (by simp only[zo,Mo.den,ay,ak,au,aA,aB,ltn,cond_false])
  obtain⟨x,hx⟩:∃x,e.dI.bQ[k]?=some x:=⟨_,List.getElem?_eq_getElem hk⟩
  obtain⟨c,c1,c2⟩:=kid hx
  simp only[zo,Mo.den,ay,ak,au,aA,aB,ltt hx,gid hx,cond_true,Option.bind_some,c1,f,hx,Option.getD_some]
  cases c != 0<;>rfl
 have hnil:(o != 0)=false→¬e.dI.aF=8→¬e.dI.aF=9→e.dI.bQ=[]:=fun ho k8 k9=>by
  have h0:o=0:=by simpa using ho
  subst h0
  have hu:=V9 e.dI (by omega) hfw
  obtain⟨u,hu2,_⟩:=kR e.dI
  rw[hu2] at hu
  have hem:=Bz e.dI
  rw[hu] at hem
  have hacc:u=true:=by
   unfold Q3 apc at h1
   simp only[Mo.den,ay,ak,au,aA,aB,Iz,IB,hu,dJ,V3,Option.bind_some] at h1
   obtain⟨z,hz,h1⟩:=ig h1
   obtain⟨_,_,h1⟩:=ig h1
   cases hz2:z with
   |true=>rw[hz2] at h1;cases h1
   |false=>
    rw[hz2] at hz
    unfold DW at hz
    simp only[Mo.den,ay,ak,au,aA,aB] at hz
    cases u with
    |true=>rfl
    |false=>rw[Bool.not_false,Bool.or_true] at hz;cases hz
  exact(hem (by rw[hacc])).2 k8 k9
 unfold Q23 ap5 Q82 ai6
 have hJ:VK e=some hi2:=by
  unfold VK Ru
  simp only[Mo.den,ay,ak,au,aA,aB]
  show _=some (bif e.dI.aF==9 then(3:Int) else 7)
  cases e.dI.aF==9<;>rfl
 simp only[Mo.den,ay,xX,aA,aB,Zy,Zz,Rq,Rt,X0,X3,P6,qB,Ry,Option.bind_some,dJ,h1,hV,hJ,LR]
 have tail:(bif o != 0 then some o else Sum.elim some (fun _=>some 0) (jB (dF f 0 e.dI.bQ.length)))=(bif o != 0 then some o else bif e.dI.aF==4||e.dI.aF==6 then some 0 else(vg (kW (G+1)) (bif e.dI.aF==8 then 7 else bif e.dI.aF==9 then 3 else 12) e.dI 0).bind (Sum.elim some fun _=>some 0)):=by
  cases ho:o != 0 with
  |true=>rfl
  |false=>
   simp only[cond_false]
   by_cases k8:e.dI.aF=8
   ·rw[show(e.dI.aF==4||e.dI.aF==6)=false by rw[k8];rfl,show(bif e.dI.aF==8 then(7:Int) else bif e.dI.aF==9 then 3 else 12)=hi2 by show _=(bif e.dI.aF==9 then(3:Int) else 7);rw[k8];rfl,LP];rfl
   ·by_cases k9:e.dI.aF=9
    ·rw[show(e.dI.aF==4||e.dI.aF==6)=false by rw[k9];rfl,show(bif e.dI.aF==8 then(7:Int) else bif e.dI.aF==9 then 3 else 12)=hi2 by show _=(bif e.dI.aF==9 then(3:Int) else 7);rw[k9];rfl,LP];rfl
    ·have hw:=hnil ho k8 k9
     have hL:∀g,vg (kW (G+1)) g e.dI 0=some (.inr ()):=fun g=>nN (by simp only[qI,Mo.den,ay,ak,au,aA,aB,hw];rfl)
     rw[hL,hw]
     cases e.dI.aF==4||e.dI.aF==6<;>rfl
 rw[tail]
 cases (bif o != 0 then some o else bif e.dI.aF==4||e.dI.aF==6 then some 0 else(vg (kW (G+1)) (bif e.dI.aF==8 then 7 else bif e.dI.aF==9 then 3 else 12) e.dI 0).bind (Sum.elim some fun _=>some 0))<;>rfl
end Go.Proofs.YtflpefkohpjjpaaGreatDoor
set_option linter.unusedSimpArgs false
set_option linter.unusedVariables false
namespace Go.Proofs.YtflpefkohpjjpaaGreatDoor
theorem ahk:as1=some true:=by kernel_rfl
end Go.Proofs.YtflpefkohpjjpaaGreatDoor
set_option linter.unusedSimpArgs false
set_option linter.unusedVariables false
namespace Go.Proofs.YtflpefkohpjjpaaGreatDoor
open Go.RowKit
theorem apq(e:bY)(hb:aT e.lf1≤100000000):∃b,aoJ e=some b:=by
 have hbe:=Ba e
 have hbw:=kQ e.dI
 have hlw:=Bc e.dI.bQ
 have hI:∃c,Q64 e.dI.bQ=some c:=by
  have hL:acn e.dI.bQ 0=some (jB (dF (fun k=>match e.dI.bQ[k]? with|some x=>bif decide ((300:Int)<(x.bQ.length:Int)) then some (k:Int) else none|none=>none) 0 e.dI.bQ.length)):=by
   try unfold acn
   refine dU _ e.dI.bQ.length (by omega) (fun k hk=>?_) (by simp only[Dz,Mo.den,ay,ak,au,aA,aB,ltn,cond_false])
   obtain⟨x,hx⟩:∃x,e.dI.bQ[k]?=some x:=⟨_,List.getElem?_eq_getElem hk⟩
   simp only[Dz,auG,akR,Mo.den,ay,ak,au,aA,aB,ltt hx,gid hx,cond_true,Option.bind_some,hx]
   cases decide ((300:Int)<(x.bQ.length:Int))<;>rfl
  unfold Q64 apN
  simp only[Mo.den,ay,ak,au,aA,aB,hL,Option.bind_some]
  generalize dF _ 0 e.dI.bQ.length=o
  cases o<;>exact⟨_,rfl⟩
 obtain⟨c,hc⟩:=hI
 unfold aoJ akT auH akS
 simp only[Mo.den,ay,ak,au,aA,aB,hc,Option.bind_some,dJ]
 exact⟨_,rfl⟩
theorem MI(e:bY)(hb:aT e.lf1≤100000000)(hf:jm e.lf1):atF e=some true:=by
 obtain⟨b,hb2⟩:=apq e hb
 obtain⟨v,hv,_⟩:=H7 e hb
 have hR:=(alW e hb hf).trans hv
 simp only[atF,alm,Mo.den,ay,ak,au,aA,aB,ahk,hb2,hv,hR,Option.bind_some,beq_self_eq_true]
 cases b<;>rfl
end Go.Proofs.YtflpefkohpjjpaaGreatDoor
