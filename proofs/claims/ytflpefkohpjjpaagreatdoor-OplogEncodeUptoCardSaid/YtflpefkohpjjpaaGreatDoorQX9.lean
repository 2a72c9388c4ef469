/- Plain: trees that are checked node by node, with a count. -/
import Derived.Test.YtflpefkohpjjpaaGreatDoorQX8
import Derived.Test.YtflpefkohpjjpaaGreatDoorQXNumP
import Derived.Test.YtflpefkohpjjpaaGreatDoorQX7
set_option linter.unusedSimpArgs false
set_option linter.unusedVariables false
namespace Go.Proofs.YtflpefkohpjjpaaGreatDoor
open Go.RowKit
def fP{α:Type}(g:α→Nat→Int×Nat):List α→Nat→Int×Nat
 |[],n=>(0,n)
 |x::r,n=>bif (g x n).1 != 0 then g x n else fP g r (g x n).2
theorem zA{α:Type}(g:α→Nat→Int×Nat)(lim:Nat):∀(l:List α) (n:Nat),(∀x∈l,∀n,n≤lim→(g x n).2≤lim)→n≤lim→(fP g l n).2≤lim
 |[],n,_,h=>h
 |x::r,n,hg,h=>by
  have hx:=hg x (List.mem_cons_self ..) n h
  unfold fP
  cases (g x n).1 != 0 with
  |true=>exact hx
  |false=>exact zA g lim r _ (fun y hy=>hg y (List.mem_cons_of_mem _ hy)) hx
theorem Ot{α:Type}(g:α→Nat→Int×Nat)(x:α)(r:List α)(n:Nat):fP g (x::r) n=bif (g x n).1 != 0 then g x n else fP g r (g x n).2:=rfl
theorem U4{α:Type}(g:α→Nat→Int×Nat):∀(l m:List α) (n:Nat),fP g (l++m) n=bif (fP g l n).1 != 0 then fP g l n else fP g m (fP g l n).2
 |[],m,n=>rfl
 |x::r,m,n=>by
  rw[List.cons_append,Ot,Ot]
  cases h:(g x n).1 != 0 with
  |true=>simp only[cond_true,h]
  |false=>simp only[cond_false];exact U4 g r m _
theorem Bv{α ε:Type}(ex:Int×Nat→ε)(l:List α)(hl:l.length≤100000000)(g:α→Nat→Int×Nat)(lim:Nat){Lo:Int×Int→Option ((Int×Int)⊕(ε⊕Int))}(hg:∀x∈l,∀n,n≤lim→(g x n).2≤lim)
 (h:∀(k:Nat) (x:α) (n:Nat),l[k]?=some x→n≤lim→Lo ((k:Int),(n:Int))=some (bif (g x n).1 != 0 then .inr (.inl (ex (g x n))) else .inl (IntKind.wrap .i64 ((k:Int)+1),((g x n).2:Int))))
 (he:∀n:Int,Lo ((l.length:Int),n)=some (.inr (.inr n))) (n:Nat) (hn:n≤lim):bV Lo FU (0,(n:Int))=some (bif (fP g l n).1 != 0 then .inl (ex (fP g l n)) else .inr ((fP g l n).2:Int)):=by
 have key:Tot (bV Lo FU (0,(n:Int))) (fun r=>r=bif (fP g l n).1 != 0 then .inl (ex (fP g l n)) else .inr ((fP g l n).2:Int)):=by
  refine T.nV l.length (by omega) (fun k s=>∃m:Nat,m≤lim∧s=((k:Int),(m:Int))∧fP g l n=fP g (l.drop k) m) _ ⟨n,hn,rfl,rfl⟩ ?_ ?_
  ·rintro k s hk ⟨m,hm,rfl,hd⟩
   have hx:=List.getElem?_eq_getElem hk
   have hdr:l.drop k=l[k]::l.drop (k+1):=List.drop_eq_getElem_cons hk
   rw[hdr] at hd
   have hd:fP g l n=bif (g l[k] m).1 != 0 then g l[k] m else fP g (l.drop (k+1)) (g l[k] m).2:=hd
   rw[h k l[k] m hx hm]
   cases hb:(g l[k] m).1 != 0 with
   |true=>rw[hb] at hd;exact T.ret (show _=_ by rw[hd];simp only[cond_true,hb])
   |false=>rw[hb] at hd;exact T.ret ⟨(g l[k] m).2,hg _ (List.getElem_mem hk) _ hm,by rw[inc k (by omega)],by rw[hd];rfl⟩
  ·rintro s ⟨m,hm,rfl,hd⟩
   rw[List.drop_length] at hd
   rw[he]
   exact T.ret (show _=_ by rw[hd];rfl)
 obtain⟨r,hr,rfl⟩:=key
 exact hr
theorem Ou{α:Type}(l:List α)(hl:l.length≤100000000)(g:α→Nat→Int×Nat)(lim:Nat){Lo:Int×Int→Option ((Int×Int)⊕((Int×Int)⊕Int))}(hg:∀x∈l,∀n,n≤lim→(g x n).2≤lim)
 (h:∀(k:Nat) (x:α) (n:Nat),l[k]?=some x→n≤lim→∃r:Int,((g x n).1=0→r=((g x n).2:Int))∧Lo ((n:Int),(k:Int))=some (bif (g x n).1 != 0 then .inr (.inl (r,(g x n).1)) else .inl (r,IntKind.wrap .i64 ((k:Int)+1))))
 (he:∀n:Int,Lo (n,(l.length:Int))=some (.inr (.inr n))) (n:Nat) (hn:n≤lim):Tot (bV Lo FU ((n:Int),0)) (fun o=>match o with|.inl p=>p.2=(fP g l n).1∧¬(fP g l n).1=0|.inr a=>(fP g l n).1=0∧a=((fP g l n).2:Int)):=by
 refine T.nV l.length (by omega) (fun k s=>∃m:Nat,m≤lim∧s=((m:Int),(k:Int))∧fP g l n=fP g (l.drop k) m) _ ⟨n,hn,rfl,rfl⟩ ?_ ?_
 ·rintro k s hk ⟨m,hm,rfl,hd⟩
  have hx:=List.getElem?_eq_getElem hk
  have hdr:l.drop k=l[k]::l.drop (k+1):=List.drop_eq_getElem_cons hk
  rw[hdr] at hd
  have hd:fP g l n=bif (g l[k] m).1 != 0 then g l[k] m else fP g (l.drop (k+1)) (g l[k] m).2:=hd
  obtain⟨r,hr,ht⟩:=h k l[k] m hx hm
  rw[ht]
  cases hb:(g l[k] m).1 != 0 with
  |true=>rw[hb] at hd;exact T.ret ⟨by rw[hd];rfl,by rw[hd];simpa using hb⟩
  |false=>
   rw[hb] at hd
   have h0:(g l[k] m).1=0:=by simpa using hb
   exact T.ret ⟨(g l[k] m).2,hg _ (List.getElem_mem hk) _ hm,by rw[inc k (by omega),hr h0],by rw[hd];rfl⟩
 ·rintro s ⟨m,hm,rfl,hd⟩
  rw[List.drop_length] at hd
  rw[he]
  exact T.ret ⟨by rw[hd];rfl,by rw[hd];rfl⟩
noncomputable def ny:Nat→aQ→Nat→Int×Nat
 |0,_,n=>(2,n)
 |d+1,e,n=>bif n==256 then(2,n) else bif Cc e != 0 then(Cc e,n+1) else fP (ny d) e.bC (n+1)
theorem Ov:∀(d:Nat) (e:aQ) (n:Nat),n≤256→(ny d e n).2≤256
 |0,e,n,h=>h
 |d+1,e,n,h=>by
  unfold ny
  cases hn:n==256 with
  |true=>exact h
  |false=>
   have:¬n=256:=by simpa using hn
   cases Cc e != 0 with
   |true=>show n+1≤256;omega
   |false=>exact zA _ 256 _ _ (fun x _ m hm=>Ov d x m hm) (by omega)
theorem abH(d:Nat):∀(F:Nat) (e:aQ) (n:Nat),d≤16→d+1≤F→n≤256→aP e.lf1≤100000000→(yQ F).m1 e (17-(d:Int)) (n:Int)=some ((ny d e n).1,((ny d e n).2:Int)):=by
 induction d with
 |zero=>
  intro F e n _ hF _ _
  obtain⟨F,rfl⟩:∃G,F=G+1:=⟨F-1,by omega⟩
  show Mo.den (LW (yQ F) e (17-((0:Nat):Int)) (n:Int))=_
  unfold LW
  simp only[Mo.den,au,aj,ak,ay,aA,En]
  rw[decide_eq_true (show(16:Int)<17-((0:Nat):Int) by omega)];rfl
 |succ d ih=>
  intro F e n hd hF hn hb
  obtain⟨F,rfl⟩:∃G,F=G+1:=⟨F-1,by omega⟩
  have hp:=jA e
  have hk:=pY e.bC
  show Mo.den (LW (yQ F) e (17-((d+1:Nat):Int)) (n:Int))=_
  unfold LW ny
  simp only[Mo.den,au,aj,ak,ay,aA,En,Yq e hb]
  rw[decide_eq_false (show ¬(16:Int)<17-((d+1:Nat):Int) by omega),show((n:Int)==256)=(n==256) by rw[Bool.eq_iff_iff];simp;omega]
  simp only[cond_false,Option.bind_some]
  cases h1:n==256 with
  |true=>rfl
  |false=>
   have h1:¬n=256:=by simpa using h1
   rw[inc n (by omega)]
   simp only[cond_false]
   cases Cc e != 0 with
   |true=>rfl
   |false=>
    simp only[cond_false]
    try unfold atZ
    rw[Bv (fun p=>(p.1, (p.2:Int))) e.bC (by omega) (ny d) 256 (fun x _ m hm=>Ov d x m hm) (fun k x m hx hm=>by
     have hxb:=EY (gG hx)
     have hlt:=nX hx
     have ihx:=ih F x m (by omega) (by omega) hm (by omega)
     simp only[yP,Mo.den,au,aj,ak,ay,aA,ltt hx,gid hx,cond_true,Option.bind_some]
     rw[w64 (x:=17-((d+1:Nat):Int)+1) (by omega) (by omega),show 17-((d+1:Nat):Int)+1=17-(d:Int) by omega,ihx]
     simp only[Option.bind_some]
     cases (ny d x m).1 != 0<;>rfl) (fun m=>by simp only[yP,Mo.den,au,aj,ak,ay,aA,ltn,cond_false]) (n+1) (by omega)]
    simp only[Option.bind_some]
    cases h3:(fP (ny d) e.bC (n+1)).1 != 0 with
    |true=>rfl
    |false=>
     have h3:(fP (ny d) e.bC (n+1)).1=0:=by simpa using h3
     simp only[cond_false]
     rw[h3]
theorem aiY(e:aQ)(hb:aP e.lf1≤100000000):apK e=some (ny 16 e 0).1:=by
 have h:=abH 16 FU e 0 (by omega) (by have:=fJ;omega) (by omega) hb
 have h:Q99 e 1 0=_:=h
 simp only[apK,adf,Mo.den,au,aj,ak,ay,aA,h,Option.bind_some]
theorem Yr(d:Nat):∀(F:Nat) (e:aQ) (n:Nat),d≤16→d+1≤F→n≤256→aP e.lf1≤100000000→∃r:Int,((ny d e n).1=0→r=((ny d e n).2:Int))∧(xw F).m1 e (((n+1:Nat):Int)) (17-(d:Int))=some (r,(ny d e n).1):=by
 induction d with
 |zero=>
  intro F e n _ hF _ _
  obtain⟨F,rfl⟩:∃G,F=G+1:=⟨F-1,by omega⟩
  refine⟨((n+1:Nat):Int),fun h=>(by cases h),?_⟩
  show Mo.den (Ug (xw F) e ((n+1:Nat):Int) (17-((0:Nat):Int)))=_
  unfold Ug
  simp only[Mo.den,au,aj,ak,ay,aA,NZ]
  rw[decide_eq_true (show(16:Int)<17-((0:Nat):Int) by omega)];rfl
 |succ d ih=>
  intro F e n hd hF hn hb
  obtain⟨F,rfl⟩:∃G,F=G+1:=⟨F-1,by omega⟩
  have hp:=jA e
  have hk:=pY e.bC
  show ∃r:Int,_∧Mo.den (Ug (xw F) e ((n+1:Nat):Int) (17-((d+1:Nat):Int)))=_
  unfold Ug ny
  simp only[Mo.den,au,aj,ak,ay,aA,NZ,Py e hb]
  rw[decide_eq_false (show ¬(16:Int)<17-((d+1:Nat):Int) by omega),show decide ((256:Int)<((n+1:Nat):Int))=(n==256) by rw[Bool.eq_iff_iff];simp;omega]
  simp only[cond_false,Option.bind_some]
  cases h1:n==256 with
  |true=>exact⟨_,fun h=>(by cases h),rfl⟩
  |false=>
   have h1:¬n=256:=by simpa using h1
   simp only[cond_false]
   cases h2:Cc e != 0 with
   |true=>exact⟨_,fun h=>(by have h:Cc e=0:=h;rw[h] at h2;cases h2),rfl⟩
   |false=>
    simp only[cond_false]
    obtain⟨o, ho, hpost⟩:=Ou (Lo:=fun v_=>(zf (xw F) e (17-((d+1:Nat):Int)) v_).den) e.bC (by omega) (ny d) 256 (fun x _ m hm=>Ov d x m hm) (fun k x m hx hm=>by
     have hxb:=EY (gG hx)
     have hlt:=nX hx
     obtain⟨r,hr,hrun⟩:=ih F x m (by omega) (by omega) hm (by omega)
     refine⟨r,hr,?_⟩
     simp only[zf,Mo.den,au,aj,ak,ay,aA,ltt hx,gid hx,cond_true,Option.bind_some]
     rw[w64 (x:=17-((d+1:Nat):Int)+1) (by omega) (by omega),show 17-((d+1:Nat):Int)+1=17-(d:Int) by omega,inc m (by omega),hrun]
     simp only[Option.bind_some]
     cases (ny d x m).1 != 0<;>rfl) (fun m=>by simp only[zf,Mo.den,au,aj,ak,ay,aA,ltn,cond_false]) (n+1) (by omega)
    have ho:anj (xw F) e (17-((d+1:Nat):Int)) ((n+1:Nat):Int) 0=some o:=ho
    rw[ho]
    simp only[Option.bind_some]
    rcases o with p|a
    ·obtain⟨p1,p2⟩:=p
     obtain⟨hp1,hp2⟩:=hpost
     have hp1:p2=_:=hp1
     subst hp1
     exact⟨p1,fun h=>absurd h hp2,rfl⟩
    ·obtain⟨h5,h6⟩:=hpost
     subst h6
     exact⟨_,fun _=>rfl,by rw[h5]⟩
theorem aeL(e:aQ)(hb:aP e.lf1≤100000000):avy e=some (ny 16 e 0).1:=by
 obtain⟨r,_,h⟩:=Yr 16 FU e 0 (by omega) (by have:=fJ;omega) (by omega) hb
 have h:Q58 e 1 1=_:=h
 simp only[avy,ank,Mo.den,au,aj,ak,ay,aA,h,Option.bind_some]
end Go.Proofs.YtflpefkohpjjpaaGreatDoor
set_option linter.unusedSimpArgs false
set_option linter.unusedVariables false
namespace Go.Proofs.YtflpefkohpjjpaaGreatDoor
open Go.RowKit
theorem aeM(p:aO):avn p=akT p.fOp (p.bC.length:Int):=by
 simp only[avn,anb,Tj,Ti,Mo.den,au,aj,ak,ay,aA,akT,ac4,Rk,Rj,Mo.den,au,aj,ak,ay,aA,gt0,ge1]
theorem anM(p:aO):avo p=Q49 p:=by simp only[avo,anc,dQ,AO,AB,Ei,Eh,Mo.den,au,aj,ak,ay,aA,Q49,akU,dQ,AO,AB,Ei,Eh,Mo.den,au,aj,ak,ay,aA]
theorem U5(op:Int):Pn op=Pn op:=by simp only[Pn,Wu,Mo.den,au,aj,ak,ay,aA,Pn,Wu,Mo.den,au,aj,ak,ay,aA]
theorem um(op:Int):Q98 op=Q98 op:=by simp only[Q98,afS,Mo.den,au,aj,ak,ay,aA,Q98,afS,Mo.den,au,aj,ak,ay,aA]
theorem Ox(op:Int):ZM op=ZM op:=by simp only[ZM,Wv,Mo.den,au,aj,ak,ay,aA,ZM,Wv,Mo.den,au,aj,ak,ay,aA]
theorem Oy(op:Int):avp op=ZN op:=by
 simp only[avp,ane,ZN,Wy,Mo.den,au,aj,ak,ay,aA,Ox]
theorem abI(n:Int):WA n=WA n:=by
 simp only[WA,LQ,Mo.den,au,aj,ak,ay,aA,WA,LQ,Mo.den,au,aj,ak,ay,aA]
theorem aeN(p:bU):avq p=ah1 p:=by
 simp only[avq,anf,Mo.den,au,aj,ak,ay,aA,ah1,WC,Mo.den,au,aj,ak,ay,aA,abI]
def Du(n:Int):Bool:=decide (0≤n)&&decide (n<65536)
theorem IU(n:Int):WA n=some (Du n):=by
 simp only[WA,LQ,Mo.den,au,aj,ak,ay,aA,Du]
 cases decide ((0:Int)≤n)<;>rfl
def Oz(p:bU):Bool:=Du p.fX&&Du p.fY
theorem U6(p:bU):ah1 p=some (Oz p):=by
 simp only[ah1,WC,Mo.den,au,aj,ak,ay,aA,IU,Option.bind_some,Oz]
 cases Du p.fX<;>rfl
def xO(l:List bU)(k:Nat):Option Unit:=match l[k]? with|some x=>hit (!Oz x)|none=>none
noncomputable def FB(s:dL):Bool:=
 bif s.aF==1 then((s.bG.length:Int)==2&&s.fR==0) else bif s.aF==2 then((s.bG.length:Int)==1&&Du s.fR) else bif s.aF==3 then(decide ((3:Int)≤(s.bG.length:Int))&&decide ((s.bG.length:Int)≤64)&&s.fR==0) else false
noncomputable def uQ(s:dL):Int:=bif FB s&&(dB (xO s.bG) 0 s.bG.length).isNone then 0 else 18
theorem arK(s:dL)(hb:aP s.lf1≤100000000):apz s=some (uQ s):=by
 have hp:=kS s
 have hl:=pX s.bG
 have hL:WG s 0=some (jM (dB (xO s.bG) 0 s.bG.length)):=by
  try unfold WG
  refine dX _ s.bG.length (by omega) (fun k hk=>?_) (by simp only[vF,Mo.den,au,aj,ak,ay,aA,ltn,cond_false])
  have hx:=List.getElem?_eq_getElem hk
  simp only[vF,Mo.den,au,aj,ak,ay,aA,ltt hx,gid hx,cond_true,Option.bind_some,U6,xO,hx]
  cases Oz s.bG[k]<;>rfl
 have hJ:WE s=some (FB s):=by
  simp only[WE,GZ,Mo.den,au,aj,ak,ay,aA,IU,Option.bind_some,dD,FB]
  cases s.aF==1<;>cases s.aF==2<;>cases s.aF==3<;>cases (s.bG.length:Int)==2<;>cases (s.bG.length:Int)==1<;>cases decide ((3:Int)≤(s.bG.length:Int))<;>cases decide ((s.bG.length:Int)≤64)<;>rfl
 unfold apz ac6 uQ
 simp only[Mo.den,au,aj,ak,ay,aA,hL,hJ,Option.bind_some]
 cases FB s<;>cases dB (xO s.bG) 0 s.bG.length<;>rfl
theorem anN(s:dL)(hb:aP s.lf1≤100000000):Q47 s=some (uQ s):=by
 have hp:=kS s
 have hl:=pX s.bG
 have hL:aer s 0=some (jM (dB (xO s.bG) 0 s.bG.length)):=by
  try unfold aer
  refine dX _ s.bG.length (by omega) (fun k hk=>?_) (by simp only[EP,Mo.den,au,aj,ak,ay,aA,ltn,cond_false])
  have hx:=List.getElem?_eq_getElem hk
  simp only[EP,Mo.den,au,aj,ak,ay,aA,ltt hx,gid hx,cond_true,Option.bind_some,aeN,U6,xO,hx]
  cases Oz s.bG[k]<;>rfl
 unfold Q47 asn aaO Tn Tq Tt uQ FB
 simp only[Mo.den,au,aj,ak,ay,aA,hL,abI,IU,Option.bind_some,dD]
 have e64:decide ((64:Int)<(s.bG.length:Int))=!decide ((s.bG.length:Int)≤64):=by
  by_cases h:(s.bG.length:Int)≤64
  ·rw[decide_eq_true h,decide_eq_false (by omega)];rfl
  ·rw[decide_eq_false h,decide_eq_true (by omega)];rfl
 rw[e64]
 have i2:((s.bG.length:Int)==2)=true→decide ((s.bG.length:Int)≤64)=true:=fun h=>decide_eq_true (by have h:(s.bG.length:Int)=2:=eq_of_beq h;omega)
 have i1:((s.bG.length:Int)==1)=true→decide ((s.bG.length:Int)≤64)=true:=fun h=>decide_eq_true (by have h:(s.bG.length:Int)=1:=eq_of_beq h;omega)
 have k1:(s.aF==1)=true→(s.aF==2)=false∧(s.aF==3)=false:=fun h=>by
  have h:s.aF=1:=eq_of_beq h
  rw[h];exact⟨rfl,rfl⟩
 have k2:(s.aF==2)=true→(s.aF==3)=false:=fun h=>by
  have h:s.aF=2:=eq_of_beq h
  rw[h];rfl
 clear hL e64 hp hl hb
 generalize (s.aF==1)=a at *
 generalize (s.aF==2)=b at *
 generalize (s.aF==3)=c at *
 generalize ((s.bG.length:Int)==2)=d at *
 generalize ((s.bG.length:Int)==1)=e at *
 generalize decide ((s.bG.length:Int)≤64)=f at *
 generalize decide ((3:Int)≤(s.bG.length:Int))=g at *
 generalize (s.fR==0)=h at *
 generalize Du s.fR=i at *
 generalize dB (xO s.bG) 0 s.bG.length=o at *
 cases f with
 |false=>
  cases d with
  |true=>cases i2 rfl
  |false=>
   cases e with
   |true=>cases i1 rfl
   |false=>cases o<;>cases a<;>cases b<;>cases c<;>cases g<;>cases h<;>cases i<;>first|rfl|(exact absurd (k1 rfl).1 (by decide))|(exact absurd (k1 rfl).2 (by decide))|(exact absurd (k2 rfl) (by decide))
 |true=>cases o<;>cases a<;>cases b<;>cases c<;>cases d<;>cases e<;>cases g<;>cases h<;>cases i<;>first|rfl|(exact absurd (k1 rfl).1 (by decide))|(exact absurd (k1 rfl).2 (by decide))|(exact absurd (k2 rfl) (by decide))
noncomputable def sG:Nat→aO→Nat→Int×Nat
 |0,_,n=>(1,n)
 |d+1,p,n=>bif n==256 then(1,n) else fP (sG d) p.bC (n+1)
theorem FC:∀(d:Nat) (p:aO) (n:Nat),n≤256→(sG d p n).2≤256
 |0,p,n,h=>h
 |d+1,p,n,h=>by
  unfold sG
  cases hn:n==256 with
  |true=>exact h
  |false=>
   have:¬n=256:=by simpa using hn
   exact zA _ 256 _ _ (fun x _ m hm=>FC d x m hm) (by omega)
theorem anO(d:Nat):∀(F:Nat) (p:aO) (n:Nat),d≤16→d+1≤F→n≤256→aP p.lf1≤100000000→(yN F).m1 p (17-(d:Int)) (n:Int)=some (!((sG d p n).1 != 0),((sG d p n).2:Int)):=by
 induction d with
 |zero=>
  intro F p n _ hF _ _
  obtain⟨F,rfl⟩:∃G,F=G+1:=⟨F-1,by omega⟩
  show Mo.den (LM (yN F) p (17-((0:Nat):Int)) (n:Int))=_
  unfold LM
  simp only[Mo.den,au,aj,ak,ay,aA,Ef]
  rw[decide_eq_true (show(16:Int)<17-((0:Nat):Int) by omega)];rfl
 |succ d ih=>
  intro F p n hd hF hn hb
  obtain⟨F,rfl⟩:∃G,F=G+1:=⟨F-1,by omega⟩
  have hp:=gK p
  have hk:=nR p.bC
  show Mo.den (LM (yN F) p (17-((d+1:Nat):Int)) (n:Int))=_
  unfold LM sG
  simp only[Mo.den,au,aj,ak,ay,aA,Ef]
  rw[decide_eq_false (show ¬(16:Int)<17-((d+1:Nat):Int) by omega),show((n:Int)==256)=(n==256) by rw[Bool.eq_iff_iff];simp;omega]
  simp only[cond_false,Option.bind_some]
  cases h1:n==256 with
  |true=>rfl
  |false=>
   have h1:¬n=256:=by simpa using h1
   rw[inc n (by omega)]
   simp only[cond_false]
   try unfold atQ
   rw[Bv (fun p=>(p.2:Int)) p.bC (by omega) (sG d) 256 (fun x _ m hm=>FC d x m hm) (fun k x m hx hm=>by
    have hxb:=wz (gG hx)
    have hlt:=nX hx
    have ihx:=ih F x m (by omega) (by omega) hm (by omega)
    unfold yM
    simp only[Mo.den,au,aj,ak,ay,aA,ltt hx,gid hx,cond_true,Option.bind_some]
    rw[w64 (x:=17-((d+1:Nat):Int)+1) (by omega) (by omega),show 17-((d+1:Nat):Int)+1=17-(d:Int) by omega,ihx]
    simp only[Option.bind_some]
    cases (sG d x m).1 != 0<;>rfl) (fun m=>by unfold yM;simp only[Mo.den,au,aj,ak,ay,aA,ltn,cond_false]) (n+1) (by omega)]
   simp only[Option.bind_some]
   cases h3:(fP (sG d) p.bC (n+1)).1 != 0<;>rfl
structure axR {α:Type} (g:α→Nat→Int×Nat) (l:List α) (n k:Nat) (s:Int×Int):Prop where
 i:s.2=(k:Int)
 h:(∃m:Nat,m≤256∧s.1=256-(m:Int)∧fP g l n=fP g (l.drop k) m)∨(s.1 = -1∧((fP g l n).1 != 0)=true)
theorem aeO{α:Type}(l:List α)(hl:l.length≤100000000)(g:α→Nat→Int×Nat){Lo:Int×Int→Option ((Int×Int)⊕Int)}(hg:∀x∈l,∀n,n≤256→(g x n).2≤256)
 (h:∀(k:Nat) (x:α) (m:Nat),l[k]?=some x→m≤256→Lo (256-(m:Int),(k:Int))=some (.inl (bif (g x m).1 != 0 then -1 else 256-((g x m).2:Int),IntKind.wrap .i64 ((k:Int)+1))))
 (h2:∀(k:Nat) (x:α),l[k]?=some x→Lo (-1,(k:Int))=some (.inr (-1))) (he:∀a:Int,Lo (a,(l.length:Int))=some (.inr a)) (n:Nat) (hn:n≤256):
 bV Lo FU (256-(n:Int),0)=some (bif (fP g l n).1 != 0 then -1 else 256-((fP g l n).2:Int)):=by
 have key:Tot (bV Lo FU (256-(n:Int),0)) (fun r=>r=bif (fP g l n).1 != 0 then -1 else 256-((fP g l n).2:Int)):=by
  refine T.nV l.length (by omega) (axR g l n) _ ⟨rfl,.inl ⟨n,hn,rfl,by rw[List.drop_zero]⟩⟩ ?_ ?_
  ·rintro k ⟨a,i⟩ hk ⟨h3,h4⟩
   obtain rfl:i=(k:Int):=h3
   have hx:=List.getElem?_eq_getElem hk
   have hdr:l.drop k=l[k]::l.drop (k+1):=List.drop_eq_getElem_cons hk
   have hgx:=hg _ (List.getElem_mem hk)
   rcases h4 with⟨m,hm,h5,hd5⟩|⟨h5,h6⟩
   ·have h5:a=256-(m:Int):=h5
    rw[hdr] at hd5
    have hd5:fP g l n=bif (g l[k] m).1 != 0 then g l[k] m else fP g (l.drop (k+1)) (g l[k] m).2:=hd5
    rw[h5,h k l[k] m hx hm]
    refine T.ret ⟨inc k (by omega),?_⟩
    cases hc:(g l[k] m).1 != 0 with
    |true=>rw[hc] at hd5;exact .inr ⟨rfl,by rw[hd5];exact hc⟩
    |false=>rw[hc] at hd5;exact .inl ⟨(g l[k] m).2,hgx m hm,rfl,hd5⟩
   ·have h5:a = -1:=h5
    rw[h5,h2 k l[k] hx]
    exact T.ret (show _=_ by rw[h6];rfl)
  ·rintro⟨a,i⟩ ⟨h3,h4⟩
   obtain rfl:i=(l.length:Int):=h3
   rw[he]
   refine T.ret (show _=_ from ?_)
   rcases h4 with⟨m,hm,h5,hd5⟩|⟨h5,h6⟩
   ·rw[List.drop_length] at hd5
    rw[hd5];exact h5
   ·rw[h6];exact h5
 obtain⟨r,hr,rfl⟩:=key
 exact hr
theorem aeP(d:Nat):∀(F:Nat) (p:aO) (n:Nat),d≤16→d+1≤F→n≤256→aP p.lf1≤100000000→(Il F).m1 p (d:Int) (256-(n:Int))=some (bif (sG d p n).1 != 0 then -1 else 256-((sG d p n).2:Int)):=by
 induction d with
 |zero=>
  intro F p n _ hF _ _
  obtain⟨F,rfl⟩:∃G,F=G+1:=⟨F-1,by omega⟩
  rfl
 |succ d ih=>
  intro F p n hd hF hn hb
  obtain⟨F,rfl⟩:∃G,F=G+1:=⟨F-1,by omega⟩
  have hp:=gK p
  have hk:=nR p.bC
  show Mo.den (agW (Il F) p ((d+1:Nat):Int) (256-(n:Int)))=_
  unfold agW sG
  simp only[Mo.den,au,aj,ak,ay,aA,aaN]
  rw[show(((d+1:Nat):Int)==0)=false by rw[beq_eq_false_iff_ne];omega,show decide (256-(n:Int)≤0)=(n==256) by rw[Bool.eq_iff_iff];simp;omega]
  simp only[cond_false,Option.bind_some]
  cases h1:n==256 with
  |true=>rfl
  |false=>
   have h1:¬n=256:=by simpa using h1
   simp only[cond_false]
   rw[w64 (x:=256-(n:Int)-1) (by omega) (by omega),show 256-(n:Int)-1=256-((n+1:Nat):Int) by omega]
   try unfold arf
   rw[aeO p.bC (by omega) (sG d) (fun x _ m hm=>FC d x m hm) (fun k x m hx hm=>by
    have hxb:=wz (gG hx)
    unfold vZ
    simp only[EO,Mo.den,au,aj,ak,ay,aA,ltt hx,gid hx,cond_true,Option.bind_some]
    rw[decide_eq_true (show(0:Int)≤256-(m:Int) by omega),w64 (x:=((d+1:Nat):Int)-1) (by omega) (by omega),show((d+1:Nat):Int)-1=(d:Int) by omega,ih F _ m (by omega) (by omega) hm (by omega)]
    simp only[cond_true,Option.bind_some]) (fun k x hx=>by
    unfold vZ
    simp only[EO,Mo.den,au,aj,ak,ay,aA,ltt hx,cond_true,Option.bind_some]
    rfl) (fun a=>by unfold vZ;simp only[EO,Mo.den,au,aj,ak,ay,aA,ltn,cond_false,Option.bind_some]) (n+1) (by omega),Option.bind_some]
noncomputable def lY(p:aO)(ins:Bool):Int:=(Q7 p ins).getD 0
theorem U7(p:aO)(ins:Bool)(hb:aP p.lf1≤100000000):Q7 p ins=some (lY p ins):=by
 obtain⟨r,hr,_⟩:=oI p ins hb
 unfold lY
 rw[hr];rfl
end Go.Proofs.YtflpefkohpjjpaaGreatDoor
set_option linter.unusedSimpArgs false
set_option linter.unusedVariables false
namespace Go.Proofs.YtflpefkohpjjpaaGreatDoor
open Go.RowKit
def Ce(l:List ah)(k:Nat):Option Unit:=match l[k]? with|some x=>hit (!lX x)|none=>none
theorem aiZ(p:aO)(hb:aP p.lf1≤100000000):adg p 0=some (jM (dB (Ce p.fArgs) 0 p.fArgs.length)):=by
 have hp:=gK p
 have hl:=fH p.fArgs
 try unfold adg
 refine dX _ p.fArgs.length (by omega) (fun k hk=>?_) (by simp only[yR,Mo.den,au,aj,ak,ay,aA,ltn,cond_false])
 have hx:=List.getElem?_eq_getElem hk
 have hm:=gJ (gG hx)
 simp only[yR,Mo.den,au,aj,ak,ay,aA,ltt hx,gid hx,cond_true,Option.bind_some,kF _ (show aP p.fArgs[k].lf1≤100000000 by omega),Ce,hx]
 cases lX p.fArgs[k]<;>rfl
theorem aeQ(R:wo)(p:aO)(ins u:Bool)(hu:Q98 p.fOp=some u)(hb:aP p.lf1≤100000000):aes R ins p 0=some (jM (bif u then dB (Ce p.fArgs) 0 p.fArgs.length else none)):=by
 have hp:=gK p
 have hl:=fH p.fArgs
 try unfold aes
 cases u with
 |true=>
  refine dX _ p.fArgs.length (by omega) (fun k hk=>?_) (by simp only[zh,ES,Mo.den,au,aj,ak,ay,aA,ltn,cond_false,Option.bind_some])
  have hx:=List.getElem?_eq_getElem hk
  have hm:=gJ (gG hx)
  simp only[zh,ES,Mo.den,au,aj,ak,ay,aA,ltt hx,gid hx,cond_true,Option.bind_some,um,hu,lN _ (show aP p.fArgs[k].lf1≤100000000 by omega),Ce,hx]
  cases lX p.fArgs[k]<;>rfl
 |false=>
  refine oJ ?_
  simp only[zh,ES,Mo.den,au,aj,ak,ay,aA,um,hu,Option.bind_some,dD]
  cases decide ((0:Int)<(p.fArgs.length:Int))<;>rfl
theorem ai0(e:aQ):avs e=ah2 e:=by
 simp only[avs,anh,dQ,nO,nN,NV,nK,o8,o7,Mo.den,au,aj,ak,ay,aA,ah2,WH,dQ,nO,nN,CY,nK,o8,o7,Mo.den,au,aj,ak,ay,aA,qB,IL]
def Dv(e:aQ):Bool:=e.fOp==0&&(e.cO.length:Int)==0&&decide (e.fName=⟨#[]⟩)&&(e.eu.length:Int)==0&&iW e.fArg&&e.fN==0&&(e.bC.length:Int)==0
theorem OA(e:aQ):ah2 e=some (Dv e):=by
 simp only[ah2,WH,dQ,nO,nN,CY,nK,o8,o7,Mo.den,au,aj,ak,ay,aA,IL,Option.bind_some,dD,Dv]
 cases e.fOp==0<;>cases (e.cO.length:Int)==0<;>cases decide (e.fName=⟨#[]⟩)<;>cases (e.eu.length:Int)==0<;>cases iW e.fArg<;>cases e.fN==0<;>rfl
theorem li1(c:Bool):(bif c then(Sum.inl ():Unit⊕Unit) else Sum.inr ())=bif !c then Sum.inr () else Sum.inl ():=by cases c<;>rfl
theorem li2(c g:Bool):(bif c then(Sum.inl ():Unit⊕Unit) else bif g then Sum.inr () else Sum.inl ())=bif !c&&g then Sum.inr () else Sum.inl ():=by cases c<;>cases g<;>rfl
theorem Yt(x y:Bool):(bif x then true else y)=(x||y):=by cases x<;>rfl
theorem oK(x y:Bool):(bif x then y else false)=(x&&y):=by cases x<;>rfl
theorem Yu(x y:Bool):(bif x then false else y)=(!x&&y):=by cases x<;>rfl
def uS(a b c:Bool)(p:aO):Bool:=(a||(p.cO.length:Int)==0)&&((b||iW p.fArg)&&((c||(p.fArgs.length:Int)==0)&&((p.fOp==10||(p.fOp==11||(p.fOp==12||(p.fOp==13||p.fN==0))))&&((p.fOp==12||p.fM==0)&&((p.fOp==18||(p.dI.aF==0&&((p.dI.bG.length:Int)==0&&p.dI.fR==0)))&&(p.fOp==24||Dv p.fExpr))))))
theorem U8(p:aO){a b c:Bool}(ha:Pn p.fOp=some a)(hb:ZN p.fOp=some b)(hc:Q98 p.fOp=some c):Q16 p=some (uS a b c p):=by
 have hJ:JR p=some (bif uS a b c p then .inr () else .inl ()):=by
  simp only[ZO,ZP,Ro,Rq,Rt,Ru,Rw,Rx,JR,G5,atU,ac8,wW,LU,Rn,Rl,Mo.den,au,aj,ak,ay,aA,ha,hb,hc,IL,OA,Option.bind_some,dD,gt0,bne,li1,li2,Yt,oK,Yu,Bool.not_or,Bool.not_and,Bool.not_not,Bool.and_assoc,Bool.or_assoc,uS]
 unfold Q16 akV
 simp only[Mo.den,au,aj,ak,ay,aA,hJ,Option.bind_some]
 cases uS a b c p<;>rfl
theorem anP(p:aO):Q27 p=Q16 p:=by
 obtain⟨a,ha⟩:∃a,Pn p.fOp=some a:=(kK p.fOp).imp fun _ h=>h.1
 obtain⟨b,hb⟩:∃a,ZN p.fOp=some a:=(jT p.fOp).imp fun _ h=>h.1
 obtain⟨c,hc⟩:∃a,Q98 p.fOp=some a:=(iY p.fOp).imp fun _ h=>h.1
 rw[U8 p ha hb hc]
 simp only[Q27,aso,dQ,TM,TL,TK,TJ,TG,TF,TB,TA,aaQ,aaP,Mo.den,au,aj,ak,ay,aA,awQ,ang,dQ,Tz,Tv,Mo.den,au,aj,ak,ay,aA,U5,Oy,um,ha,hb,hc,qB,ai0,OA,Option.bind_some,dD,gt0,bne,Yt,oK,Yu,Bool.not_or,Bool.not_and,Bool.not_not,Bool.and_assoc,Bool.or_assoc,uS]
theorem zB{α β ρ:Type}(m:Option (α⊕β))(k1:α→Option ρ)(k2:β→Option ρ):VQ m (fun a _=>k1 a) (fun b _=>k2 b)=m.bind (Sum.elim k1 k2):=by rcases m with _|_|_<;>rfl
theorem ai1(R:wo)(p:aO)(ins:Bool)(hb:aP p.lf1≤100000000):Mo.den (ars R p ins)=bif lY p ins != 0 then some (lY p ins) else(xA R ins p 0).bind (Sum.elim some fun _=>some 0):=by
 have hN:=U7 p ins hb
 have hp:=gK p
 obtain⟨a,ha⟩:∃a,Pn p.fOp=some a:=(kK p.fOp).imp fun _ h=>h.1
 obtain⟨b,hb'⟩:∃a,ZN p.fOp=some a:=(jT p.fOp).imp fun _ h=>h.1
 obtain⟨c,hc⟩:∃a,Q98 p.fOp=some a:=(iY p.fOp).imp fun _ h=>h.1
 obtain⟨tx,htx⟩:∃a,ZM p.fOp=some a:=(mD p.fOp).imp fun _ h=>h.1
 obtain⟨hk,hhk⟩:∃a,akT p.fOp (p.bC.length:Int)=some a:=(pI p.fOp _).imp fun _ h=>h.1
 obtain⟨rg,hrg⟩:∃a,Q49 p=some a:=(pJ p hb).imp fun _ h=>h.1
 have hcl:=U8 p ha hb' hc
 have hL:=aiZ p hb
 have hLR:=aeQ R p ins c hc hb
 unfold Q7 at6 at hN
 unfold ars
 simp only[Mo.den,au,zB,ay,aA,WI,WJ,LX,LY,LZ,L6,L8,L9,Mc,Md,hhk,hrg,ha,hb',hc,htx,hcl,hL,l9,kF p.fArg (by omega),arK p.dI (by omega),aiY p.fExpr (by omega),Option.bind_some,dD,gt0,bne,Yt,oK,Yu] at hN
 simp only[Mo.den,au,zB,ay,aA,ag3,ag4,aaV,aaW,aaX,aaY,aaZ,aa0,aeM,anM,U5,um,Ox,Oy,anP,hhk,hrg,ha,hb',hc,htx,hcl,hLR,Fb,lN p.fArg (by omega),anN p.dI (by omega),aeL p.fExpr (by omega),Option.bind_some,dD,gt0,bne,Yt,oK,Yu]
 have htb:tx=true→b=true:=fun h=>by
  rw[h] at htx
  unfold ZN Wy at hb'
  simp only[Mo.den,au,aj,ak,ay,aA,htx,Option.bind_some,dD] at hb'
  have e:=Option.some.inj hb'
  rw[←e]
  cases decide (2≤p.fOp)<;>cases decide (p.fOp≤7)<;>rfl
 have h24:hk=true→p.fOp=24→p.bC=[]:=fun h h2=>by
  rw[h2,h] at hhk
  have e:=Option.some.inj (show some ((p.bC.length:Int)==0)=some true from hhk)
  exact len0 e
 have hKN:p.bC=[]→xA R ins p 0=some (.inr ()):=fun h=>oJ (by simp only[zi,Mo.den,au,aj,ak,ay,aA,h];rfl)
 clear ha hb' hc htx hhk hrg hcl hL hLR hp hb
 have e4:(bif ins then !(p.cO.length:Int)==0 else true)=(!ins||!(p.cO.length:Int)==0):=by cases ins<;>rfl
 have e8:(b&&(!lX p.fArg||tx&&!p.fArg.aF==4))=(b&&!lX p.fArg||tx&&!p.fArg.aF==4):=by
  cases tx with
  |true=>rw[htb rfl];simp
  |false=>simp
 rw[e4,e8]
 clear e4 e8 htb
 cases c1:(decide (p.fOp<1)||decide (24<p.fOp)||!hk) with
 |true=>
  rw[c1] at hN
  rw[←Option.some.inj (show some (11:Int)=some (lY p ins) from hN)];rfl
 |false=>
  have hk1:hk=true:=by
   cases hk with
   |true=>rfl
   |false=>rw[Bool.or_eq_false_iff] at c1;cases c1.2
  rw[c1] at hN
  simp only[cond_false,Bool.false_or] at hN ⊢
  generalize (c&&(p.fArgs.length:Int)==0||!rg)=c2 at *
  generalize (a&&!uf p.cO&&(!ins||!(p.cO.length:Int)==0))=c3 at *
  generalize (b&&!lX p.fArg||tx&&!p.fArg.aF==4)=c5 at *
  cases c2 with
  |true=>rw[←Option.some.inj (show some (11:Int)=some (lY p ins) from hN)];rfl
  |false=>
   cases c3 with
   |true=>rw[←Option.some.inj (show some (10:Int)=some (lY p ins) from hN)];rfl
   |false=>
    cases c5 with
    |true=>rw[←Option.some.inj (show some (8:Int)=some (lY p ins) from hN)];rfl
    |false=>
     simp only[cond_false] at hN ⊢
     have rest:Sum.elim some (fun _=>some (bif !uS a b c p then 4 else bif p.fOp==24 then(ny 16 p.fExpr 0).1 else 0)) (bif p.fOp==18 then bif !uQ p.dI==0 then(Sum.inl (uQ p.dI):Int⊕Unit) else Sum.inr () else Sum.inr ())=some (lY p ins)→
      Sum.elim some (fun _=>bif !uS a b c p then some 4 else bif p.fOp==24 then some (ny 16 p.fExpr 0).1 else(xA R ins p 0).bind (Sum.elim some fun _=>some 0)) (bif p.fOp==18 then bif !uQ p.dI==0 then(Sum.inl (uQ p.dI):Int⊕Unit) else Sum.inr () else Sum.inr ())=bif !lY p ins==0 then some (lY p ins) else(xA R ins p 0).bind (Sum.elim some fun _=>some 0):=by
      intro hN
      have tail:some (bif !uS a b c p then 4 else bif p.fOp==24 then(ny 16 p.fExpr 0).1 else 0)=some (lY p ins)→(bif !uS a b c p then some 4 else bif p.fOp==24 then some (ny 16 p.fExpr 0).1 else(xA R ins p 0).bind (Sum.elim some fun _=>some 0))=bif !lY p ins==0 then some (lY p ins) else(xA R ins p 0).bind (Sum.elim some fun _=>some 0):=by
       intro hN
       cases hc:uS a b c p with
       |false=>rw[hc] at hN;rw[←Option.some.inj (show some (4:Int)=some (lY p ins) from hN)];rfl
       |true=>
        rw[hc] at hN
        cases ho:p.fOp==24 with
        |false=>rw[ho] at hN;rw[←Option.some.inj (show some (0:Int)=some (lY p ins) from hN)];rfl
        |true=>
         rw[ho] at hN
         have e:=Option.some.inj (show some (ny 16 p.fExpr 0).1=some (lY p ins) from hN)
         rw[hKN (h24 hk1 (eq_of_beq ho)),e]
         simp only[Bool.not_true,cond_false,cond_true,Option.bind_some]
         cases h0:lY p ins==0 with
         |false=>rfl
         |true=>rw[eq_of_beq h0];rfl
      cases h18:p.fOp==18 with
      |false=>rw[h18] at hN;exact tail hN
      |true=>
       rw[h18] at hN
       cases hs:uQ p.dI==0 with
       |true=>rw[hs] at hN;exact tail hN
       |false=>
        rw[hs] at hN
        have e:=Option.some.inj (show some (uQ p.dI)=some (lY p ins) from hN)
        rw[←e,hs];rfl
     cases c with
     |false=>
      simp only[cond_false,Option.bind_some,Sum.elim_inr] at hN
      exact rest hN
     |true=>
      cases hf:dB (Ce p.fArgs) 0 p.fArgs.length with
      |some u=>rw[hf] at hN;rw[←Option.some.inj (show some (8:Int)=some (lY p ins) from hN)];rfl
      |none=>
       rw[hf] at hN
       simp only[cond_true,Option.bind_some,jM,Sum.elim_inr] at hN
       exact rest hN
theorem anQ(n:Nat):∀(F G:Nat) (p:aO) (ins:Bool),aP p.lf1<n→n≤F→n≤G→aP p.lf1≤100000000→(qQ G).m1 p ins=(oH F).m1 p ins∧∃c,(oH F).m1 p ins=some c:=by
 induction n with
 |zero=>intro F G p ins h;omega
 |succ n ih=>
  intro F G p ins hlt hF hG hb
  obtain⟨F,rfl⟩:∃K,F=K+1:=⟨F-1,by omega⟩
  obtain⟨G,rfl⟩:∃K,G=K+1:=⟨G-1,by omega⟩
  have hp:=gK p
  have hl:=nR p.bC
  have hkid:∀k (hk:k<p.bC.length) b,(qQ G).m1 p.bC[k] b=(oH F).m1 p.bC[k] b∧∃c,(oH F).m1 p.bC[k] b=some c:=fun k hk b=>by
   have hm:=wz (List.getElem_mem hk)
   exact ih F G _ b (by omega) (by omega) (by omega) (by omega)
  let ins2:Bool:=bif ins then true else p.fOp==15
  let f:Nat→Option Int:=fun k=>match p.bC[k]? with
   |some x=>bif ((oH F).m1 x ins2).getD 0 != 0 then some (((oH F).m1 x ins2).getD 0) else none
   |none=>none
  have h1:adk (oH F) ins p 0=some (jM (dB f 0 p.bC.length)):=by
   try unfold adk
   refine dX f p.bC.length (by omega) (fun k hk=>?_) (by simp only[yS,Mo.den,au,aj,ak,ay,aA,ltn,cond_false])
   have hx:=List.getElem?_eq_getElem hk
   obtain⟨_,c,hc⟩:=hkid k hk ins2
   have hJ:adi (oH F) ins p (k:Int) p.bC[k]=some c:=by
    unfold adi Me
    simp only[Mo.den,au,aj,ak,ay,aA]
    cases ins with
    |true=>simp only[cond_true];rw[show(oH F).m1 p.bC[k] true=some c from hc];rfl
    |false=>simp only[cond_false];rw[show(oH F).m1 p.bC[k] (p.fOp==15)=some c from hc];rfl
   simp only[yS,Mo.den,au,aj,ak,ay,aA,ltt hx,gid hx,cond_true,Option.bind_some,hJ,f,hx,hc,Option.getD_some]
   cases c != 0<;>rfl
  have h2:xA (qQ G) ins p 0=some (jM (dB f 0 p.bC.length)):=by
   try unfold xA
   refine dX f p.bC.length (by omega) (fun k hk=>?_) (by simp only[zi,Mo.den,au,aj,ak,ay,aA,ltn,cond_false])
   have hx:=List.getElem?_eq_getElem hk
   obtain⟨he,c,hc⟩:=hkid k hk ins2
   have hc2:=he.trans hc
   have hJ:aeu (qQ G) ins p (k:Int)=some c:=by
    unfold aeu aa1
    simp only[Mo.den,au,aj,ak,ay,aA,gid hx,Option.bind_some]
    cases ins with
    |true=>simp only[cond_true];rw[show(qQ G).m1 p.bC[k] true=some c from hc2];rfl
    |false=>simp only[cond_false];rw[show(qQ G).m1 p.bC[k] (p.fOp==15)=some c from hc2];rfl
   simp only[zi,Mo.den,au,aj,ak,ay,aA,ltt hx,cond_true,Option.bind_some,hJ,f,hx,hc,Option.getD_some]
   cases c != 0<;>rfl
  have e1:(oH (F+1)).m1 p ins=bif lY p ins != 0 then some (lY p ins) else Sum.elim some (fun _=>some 0) (jM (dB f 0 p.bC.length)):=by
   show Mo.den (ZT (oH F) p ins)=_
   unfold ZT
   simp only[Mo.den,au,zB,ay,aA,U7 p ins hb,h1,Option.bind_some]
  have e2:(qQ (G+1)).m1 p ins=bif lY p ins != 0 then some (lY p ins) else Sum.elim some (fun _=>some 0) (jM (dB f 0 p.bC.length)):=by
   have h:=ai1 (qQ G) p ins hb
   rw[h2] at h
   exact h
  refine⟨by rw[e1,e2],?_⟩
  rw[e1]
  cases lY p ins != 0 with
  |true=>exact⟨_,rfl⟩
  |false=>cases dB f 0 p.bC.length<;>exact⟨_,rfl⟩
theorem anR(p:aO)(hb:aP p.lf1≤100000000):avA p=apN p:=by
 have h1:=anO 16 FU p 0 (by omega) (by have:=fJ;omega) (by omega) hb
 have h1:Q70 p 1 0=_:=h1
 have h2:=aeP 16 FU p 0 (by omega) (by have:=fJ;omega) (by omega) hb
 have h2:Q54 p 16 256=_:=h2
 have h3:=(anQ (aP p.lf1+1) FU FU p false (by omega) (by have:=fJ;omega) (by have:=fJ;omega) hb).1
 have h3:Q2 p false=Q59 p false:=h3
 have hle:=FC 16 p 0 (by omega)
 unfold avA anl apN adl
 simp only[Mo.den,au,aj,ak,ay,aA,h1,h2,h3,Option.bind_some]
 cases (sG 16 p 0).1 != 0 with
 |true=>rfl
 |false=>simp only[cond_false,Bool.not_false,Bool.not_true];rw[decide_eq_false (show ¬256-((sG 16 p 0).2:Int)<0 by omega)];rfl
end Go.Proofs.YtflpefkohpjjpaaGreatDoor
set_option linter.unusedSimpArgs false
set_option linter.unusedVariables false
namespace Go.Proofs.YtflpefkohpjjpaaGreatDoor
open Go.RowKit
def FD(a b:Int):Int:=bif decide (a<b) then -1 else bif decide (b<a) then 1 else 0
theorem OB(a b:Int):arb a b=some (FD a b):=by
 simp only[arb,am8,Mo.den,au,aj,ak,ay,aA,dD,FD]
theorem abJ(a b:Int):apl a b=some (FD a b):=by
 simp only[apl,acV,Mo.den,au,aj,ak,ay,aA,atE,acU,Mo.den,au,aj,ak,ay,aA,bne_self_eq_false,Option.bind_some,cond_false,dD,FD]
def U9(a b:ByteArray)(k:Nat):Option Int:=match a[k]?,b[k]? with
 |some x,some y=>bif (x.toNat:Int) != (y.toNat:Int) then some (FD x.toNat y.toNat) else none
 |_,_=>none
theorem Va(a b:ByteArray):∀(n k:Nat),k+n=min a.size b.size→acJ (a.data.toList.drop k) (b.data.toList.drop k)=match dB (U9 a b) k n with|some e=>e|none=>FD (a.size:Int) (b.size:Int)
 |0,k,h=>by
  show acJ _ _=FD (a.size:Int) (b.size:Int)
  have ha:a.data.toList.length=a.size:=Array.length_toList
  have hb:b.data.toList.length=b.size:=Array.length_toList
  unfold FD
  rcases Nat.lt_trichotomy a.size b.size with h1|h1|h1
  ·rw[decide_eq_true (by omega),List.drop_eq_nil_of_le (by omega),List.drop_eq_getElem_cons (by omega)];rfl
  ·rw[decide_eq_false (by omega),decide_eq_false (by omega),List.drop_eq_nil_of_le (by omega),List.drop_eq_nil_of_le (by omega)];rfl
  ·rw[decide_eq_false (by omega),decide_eq_true (by omega),(List.drop_eq_nil_of_le (by omega):b.data.toList.drop k=[]),List.drop_eq_getElem_cons (by omega)];rfl
 |n+1,k,h=>by
  have ha:a.data.toList.length=a.size:=Array.length_toList
  have hb:b.data.toList.length=b.size:=Array.length_toList
  have ih:=Va a b n (k+1) (by omega)
  have e1:a.data.toList.drop k=a[k]::a.data.toList.drop (k+1):=List.drop_eq_getElem_cons (by omega)
  have e2:b.data.toList.drop k=b[k]::b.data.toList.drop (k+1):=List.drop_eq_getElem_cons (by omega)
  rw[e1,e2]
  have hf:U9 a b k=bif (a[k].toNat:Int) != (b[k].toNat:Int) then some (FD a[k].toNat b[k].toNat) else none:=by
   unfold U9
   rw[show a[k]?=some a[k] from getElem?_pos a k (by omega),show b[k]?=some b[k] from getElem?_pos b k (by omega)]
  unfold dB
  rw[hf]
  show(if a[k]<b[k] then -1 else if b[k]<a[k] then 1 else acJ (a.data.toList.drop (k+1)) (b.data.toList.drop (k+1)))=_
  have hlt:∀x y:UInt8,x<y↔x.toNat<y.toNat:=fun x y=>UInt8.lt_iff_toNat_lt
  by_cases h1:a[k].toNat<b[k].toNat
  ·rw[if_pos ((hlt _ _).2 h1), show((a[k].toNat:Int) != (b[k].toNat:Int))=true by rw[bne_iff_ne];omega]
   show _=FD _ _
   unfold FD;rw[decide_eq_true (by omega)];rfl
  ·rw[if_neg (fun e=>h1 ((hlt _ _).1 e))]
   by_cases h2:b[k].toNat<a[k].toNat
   ·rw[if_pos ((hlt _ _).2 h2), show((a[k].toNat:Int) != (b[k].toNat:Int))=true by rw[bne_iff_ne];omega]
    show _=FD _ _
    unfold FD;rw[decide_eq_false (by omega),decide_eq_true (by omega)];rfl
   ·rw[if_neg (fun e=>h2 ((hlt _ _).1 e)), show((a[k].toNat:Int) != (b[k].toNat:Int))=false by rw[bne_eq_false_iff_eq];omega]
    exact ih
theorem anS(x:UInt8):IntKind.wrap .i64 (x.toNat:Int)=(x.toNat:Int):=by
 have:=x.toNat_lt
 rw[w64 (by omega) (by omega)]
theorem Vb(a b:ByteArray)(ha:a.size≤100000000)(hb:b.size≤100000000):Q66 a b=some (CX a b):=by
 have hL:ael a b 0=some (jM (dB (U9 a b) 0 (min a.size b.size))):=by
  try unfold ael
  refine dX _ (min a.size b.size) (by omega) (fun k hk=>?_) ?_
  ·have h1:k<a.size:=by omega
   have h2:k<b.size:=by omega
   simp only[EL,NU,Mo.den,au,aj,ak,ay,aA,iLt h1,iLt h2,cond_true,Option.bind_some,pz a k h1,pz b k h2,anS,OB]
   unfold U9
   rw[show a[k]?=some a[k] from getElem?_pos a k h1,show b[k]?=some b[k] from getElem?_pos b k h2]
   simp only
   cases (a[k].toNat:Int) != (b[k].toNat:Int)<;>rfl
  ·simp only[EL,NU,Mo.den,au,aj,ak,ay,aA]
   have:(decide (((min a.size b.size:Nat):Int)<(a.size:Int))&&decide (((min a.size b.size:Nat):Int)<(b.size:Int)))=false:=by
    rw[Bool.eq_false_iff];simp;omega
   rw[dD,oK,this];rfl
 have hc:=Va a b (min a.size b.size) 0 (by omega)
 rw[List.drop_zero,List.drop_zero] at hc
 unfold Q66 asi CX
 simp only[Mo.den,au,aj,ak,ay,aA,hL,OB,Option.bind_some]
 rw[hc]
 cases dB (U9 a b) 0 (min a.size b.size)<;>rfl
theorem arL(a b:Nat):(if(b:Int)<(a:Int) then(b:Int) else(a:Int))=((min a b:Nat):Int):=by
 by_cases h:b<a
 ·rw[if_pos (by omega),Nat.min_eq_right (by omega)]
 ·rw[if_neg (by omega),Nat.min_eq_left (by omega)]
theorem aeR(n:Nat):∀(F G:Nat) (a b:ah),aP a.lf1<n→n≤F→n≤G→aP a.lf1≤100000000→aP b.lf1≤100000000→(rY G).m1 a b=(lU F).m1 a b∧∃c,(lU F).m1 a b=some c:=by
 induction n with
 |zero=>intro F G a b h;omega
 |succ n ih=>
  intro F G a b hlt hF hG ha hb
  obtain⟨F,rfl⟩:∃K,F=K+1:=⟨F-1,by omega⟩
  obtain⟨G,rfl⟩:∃K,G=K+1:=⟨G-1,by omega⟩
  have pa:=dF a
  have pb:=dF b
  have la:=fH a.aT
  have lda:=fK a.aW
  let fl:Nat→Option Int:=fun k=>match a.aT[k]?,b.aT[k]? with
   |some x,some y=>bif ((lU F).m1 x y).getD 0 != 0 then some (((lU F).m1 x y).getD 0) else none
   |_,_=>none
  let fd:Nat→Option Int:=fun k=>match a.aW[k]?,b.aW[k]? with
   |some x,some y=>bif CX x.fName y.fName != 0 then some (CX x.fName y.fName) else bif ((lU F).m1 x.fValue y.fValue).getD 0 != 0 then some (((lU F).m1 x.fValue y.fValue).getD 0) else none
   |_,_=>none
  have kidL:∀{k:Nat} {x y:ah},a.aT[k]?=some x→b.aT[k]?=some y→(rY G).m1 x y=(lU F).m1 x y∧∃c,(lU F).m1 x y=some c:=fun {k x y} hx hy=>by
   have h1:=gJ (gG hx)
   have h2:=gJ (gG hy)
   exact ih F G x y (by omega) (by omega) (by omega) (by omega) (by omega)
  have kidD:∀{k:Nat} {x y:aJ},a.aW[k]?=some x→b.aW[k]?=some y→((rY G).m1 x.fValue y.fValue=(lU F).m1 x.fValue y.fValue∧∃c,(lU F).m1 x.fValue y.fValue=some c)∧x.fName.size≤100000000∧y.fName.size≤100000000:=fun {k x y} hx hy=>by
   have h1:=fE (gG hx)
   have h2:=fE (gG hy)
   rw[dY] at h1 h2
   exact⟨ih F G x.fValue y.fValue (by omega) (by omega) (by omega) (by omega) (by omega),by omega,by omega⟩
  have L1:Wn (lU F) a b 0=some (jM (dB fl 0 (min a.aT.length b.aT.length))):=by
   try unfold Wn
   refine dX fl (min a.aT.length b.aT.length) (by omega) (fun k hk=>?_) (by simp only[vg,Mo.den,au,aj,ak,ay,aA,arL,ltn,cond_false])
   obtain⟨x,hx⟩:∃x,a.aT[k]?=some x:=⟨_,List.getElem?_eq_getElem (by omega)⟩
   obtain⟨y,hy⟩:∃y,b.aT[k]?=some y:=⟨_,List.getElem?_eq_getElem (by omega)⟩
   obtain⟨_,c,hc⟩:=kidL hx hy
   simp only[vg,Mo.den,au,aj,ak,ay,aA,arL,iLt hk,gid hx,gid hy,cond_true,Option.bind_some,hc,fl,hx,hy,Option.getD_some]
   cases c != 0<;>rfl
  have L2:XY (rY G) a b 0=some (jM (dB fl 0 (min a.aT.length b.aT.length))):=by
   try unfold XY
   refine dX fl (min a.aT.length b.aT.length) (by omega) (fun k hk=>?_) ?_
   ·obtain⟨x, hx⟩:∃x, a.aT[k]?=some x:=⟨_, List.getElem?_eq_getElem (by omega)⟩
    obtain⟨y,hy⟩:∃y,b.aT[k]?=some y:=⟨_,List.getElem?_eq_getElem (by omega)⟩
    obtain⟨he,c,hc⟩:=kidL hx hy
    have hc2:=he.trans hc
    simp only[Bd,Ij,Mo.den,au,aj,ak,ay,aA,ltt hx,ltt hy,gid hx,gid hy,cond_true,Option.bind_some,hc2,hc,fl,hx,hy,Option.getD_some]
    cases c != 0<;>rfl
   ·have:(decide (((min a.aT.length b.aT.length:Nat):Int)<(a.aT.length:Int))&&decide (((min a.aT.length b.aT.length:Nat):Int)<(b.aT.length:Int)))=false:=by
     rw[Bool.eq_false_iff];simp;omega
    simp only[Bd,Ij,Mo.den,au,aj,ak,ay,aA,dD,oK,this,Option.bind_some,cond_false]
  have L3:Wp (lU F) a b 0=some (jM (dB fd 0 (min a.aW.length b.aW.length))):=by
   try unfold Wp
   refine dX fd (min a.aW.length b.aW.length) (by omega) (fun k hk=>?_) (by simp only[vk,Mo.den,au,aj,ak,ay,aA,arL,ltn,cond_false])
   obtain⟨x,hx⟩:∃x,a.aW[k]?=some x:=⟨_,List.getElem?_eq_getElem (by omega)⟩
   obtain⟨y,hy⟩:∃y,b.aW[k]?=some y:=⟨_,List.getElem?_eq_getElem (by omega)⟩
   obtain⟨⟨_,c,hc⟩,_,_⟩:=kidD hx hy
   simp only[vk,Mo.den,au,aj,ak,ay,aA,arL,iLt hk,gid hx,gid hy,cond_true,Option.bind_some,Fg,hc,fd,hx,hy,Option.getD_some]
   cases CX x.fName y.fName != 0<;>cases c != 0<;>rfl
  have L4:XZ (rY G) a b 0=some (jM (dB fd 0 (min a.aW.length b.aW.length))):=by
   try unfold XZ
   refine dX fd (min a.aW.length b.aW.length) (by omega) (fun k hk=>?_) ?_
   ·obtain⟨x, hx⟩:∃x, a.aW[k]?=some x:=⟨_, List.getElem?_eq_getElem (by omega)⟩
    obtain⟨y,hy⟩:∃y,b.aW[k]?=some y:=⟨_,List.getElem?_eq_getElem (by omega)⟩
    obtain⟨⟨he,c,hc⟩,s1,s2⟩:=kidD hx hy
    have hc2:=he.trans hc
    simp only[Bf,Ik,Td,Mo.den,au,aj,ak,ay,aA,ltt hx,ltt hy,gid hx,gid hy,cond_true,Option.bind_some,Vb _ _ s1 s2,hc2,hc,fd,hx,hy,Option.getD_some,dD]
    cases h0:CX x.fName y.fName==0 with
    |true=>
     have:(CX x.fName y.fName != 0)=false:=by rw[bne,h0];rfl
     rw[this]
     simp only[cond_true,cond_false]
     cases c != 0<;>rfl
    |false=>
     have:(CX x.fName y.fName != 0)=true:=by rw[bne,h0];rfl
     simp only[cond_false,this,cond_true]
   ·have:(decide (((min a.aW.length b.aW.length:Nat):Int)<(a.aW.length:Int))&&decide (((min a.aW.length b.aW.length:Nat):Int)<(b.aW.length:Int)))=false:=by
     rw[Bool.eq_false_iff];simp;omega
    simp only[Bf,Ik,Mo.den,au,aj,ak,ay,aA,dD,oK,this,Option.bind_some,cond_false]
  have e1:(rY (G+1)).m1 a b=(lU (F+1)).m1 a b:=by
   show Mo.den (agU (rY G) a b)=Mo.den (LC (lU F) a b)
   unfold agU LC
   simp only[Mo.den,au,aj,ak,ay,aA,aaL,aaM,Ls,Lu,OB,abJ,Fg,Vb a.fText b.fText (by omega) (by omega),L1,L2,L3,L4,Option.bind_some]
  refine⟨e1,?_⟩
  obtain⟨c,hc,_⟩:=sF (F+1) a b (by omega) ha hb
  exact⟨c,hc⟩
theorem aeS(a b:ah)(ha:aP a.lf1≤100000000)(hb:aP b.lf1≤100000000):Q12 a b=Q37 a b:=(aeR (aP a.lf1+1) FU FU a b (by omega) (by have:=fJ;omega) (by have:=fJ;omega) ha hb).1
end Go.Proofs.YtflpefkohpjjpaaGreatDoor
set_option linter.unusedSimpArgs false
set_option linter.unusedVariables false
namespace Go.Proofs.YtflpefkohpjjpaaGreatDoor
open Go.RowKit
theorem anT(e:aQ):apQ e=some (Dv e):=by
 simp only[apQ,ado,dQ,nO,nN,MB,nK,o8,o7,Mo.den,au,aj,ak,ay,aA,ahj,Option.bind_some,dD,Dv]
 cases e.fOp==0<;>cases (e.cO.length:Int)==0<;>cases decide (e.fName=⟨#[]⟩)<;>cases (e.eu.length:Int)==0<;>cases iW e.fArg<;>cases e.fN==0<;>rfl
theorem ahk(p:List ByteArray)(hl:p.length≤100000000):avC p []=some ((p.length:Int)==0):=by
 simp only[avC,ano,awT,anm,Mo.den,au,aj,ak,ay,aA]
 cases p with
 |nil=>
  have h:aen [] [] 0=some (.inr ()):=oJ (by simp only[vY,Mo.den,au,aj,ak,ay,aA];rfl)
  rw[h];rfl
 |cons x r=>
  rw[show(((x::r).length:Int)==(([]:List ByteArray).length:Int))=false by rw[beq_eq_false_iff_ne];simp only[List.length_cons,List.length_nil];omega]
  simp only[cond_false]
  rw[show(((x::r).length:Int)==0)=false by rw[beq_eq_false_iff_ne,List.length_cons];omega]
theorem abK(e:aQ)(hb:aP e.lf1≤100000000):Q30 e aQ.z=some (Dv e):=by
 have hp:=jA e
 have l1:=gX e.cO
 have l2:=gX e.eu
 unfold Q30
 obtain⟨G,hG⟩:=J8
 rw[hG]
 show Mo.den (ag7 (Iu G) e aQ.z)=_
 unfold ag7 aa2 aa3 Uh Ui Uj Uk Dv
 have z1:aQ.z.cO=[]:=rfl
 have z2:aQ.z.eu=[]:=rfl
 have z3:aQ.z.fArg=ah.mk 0 0 ⟨#[]⟩ [] []:=rfl
 simp only[Mo.den,au,aj,ak,ay,aA,z1,z2,z3,ahk _ (show e.cO.length≤100000000 by omega),ahk _ (show e.eu.length≤100000000 by omega),xM,Option.bind_some,dD]
 have e1:(e.fOp != aQ.z.fOp)=!(e.fOp==0):=rfl
 have e2:(e.fN != aQ.z.fN)=!(e.fN==0):=rfl
 have e3:((e.bC.length:Int) != (aQ.z.bC.length:Int))=!((e.bC.length:Int)==0):=rfl
 have e5:decide (e.fName=aQ.z.fName)=decide (e.fName=⟨#[]⟩):=rfl
 rw[e1,e2,e3,e5]
 cases h1:e.fOp==0<;>cases h2:(e.cO.length:Int)==0<;>cases h3:decide (e.fName=⟨#[]⟩)<;>cases h4:(e.eu.length:Int)==0<;>cases h5:iW e.fArg<;>cases h6:e.fN==0<;>cases h7:(e.bC.length:Int)==0<;>first|rfl|skip
 have a1:=len0 h7
 have l3:ag6 (Iu G) e aQ.z 0=some (.inr ()):=oJ (by simp only[Ir,Mo.den,au,aj,ak,ay,aA,a1];rfl)
 rw[l3];rfl
theorem abL(p:aO)(hb:aP p.lf1≤100000000):Q33 p=apS p:=by
 have hp:=gK p
 simp only[Q33,asu,dQ,Uu,Ut,Us,Ur,Uo,Un,Um,Ul,aa4,uY,Mo.den,au,aj,ak,ay,aA,apS,adp,dQ,Am,MC,Ak,Aj,Ai,Ah,Ag,Af,Si,uY,Mo.den,au,aj,ak,ay,aA,ahj,xM,anT,abK p.fExpr (by omega)]
theorem abM(x:aS)(hb:aP x.lf1≤100000000):avF x=ZU x:=by
 have hp:=jB x
 have hn:apv [x.fName]=some (nameB x.fName):=by
  rw[l9];simp only[uf,List.length_cons,List.length_nil,List.all_cons,List.all_nil,Bool.and_true];rfl
 simp only[avF,anp,Ux,Uw,Mo.den,au,aj,ak,ay,aA,ZU,adq,G7,G6,Mo.den,au,aj,ak,ay,aA,hn,sD,JE x.fA (by omega),Yn x.fA (by omega),anR x.bM (by omega),abL x.bM (by omega)]
theorem abN(s:aI)(hb:aP s.lf1≤100000000):aev s 0 []=some (s.cZ.map bH.fName):=by
 have hp:=fO s
 have hl:=lq s.cZ
 have key:Tot (aev s 0 []) (fun r=>r=s.cZ.map bH.fName):=by
  refine T.nV s.cZ.length (by omega) (fun k v=>v=((k:Int),(s.cZ.take k).map bH.fName)) _ rfl ?_ ?_
  ·rintro k v hk rfl
   have hx:=List.getElem?_eq_getElem hk
   simp only[EU,Mo.den,au,aj,ak,ay,aA,ltt hx,gid hx,cond_true,Option.bind_some]
   refine T.grd (by rw[List.length_map,List.length_take,List.length_cons,List.length_nil];omega) (T.ret (show _=_ from ?_))
   rw[inc k (by omega),ql _ hx]
  ·rintro v rfl
   simp only[EU,Mo.den,au,aj,ak,ay,aA,ltn,cond_false]
   exact T.ret (show _=_ by rw[List.take_length])
 obtain⟨r,hr,rfl⟩:=key
 exact hr
theorem anU(n:Int)(h : -9223372036854775808≤n∧n≤9223372036854775807):(eU .andNot .i64 n 4094 != 0)=(decide (n<0)||Int.tmod n 2==1||decide (4096≤n)):=by
 obtain⟨h1,h2⟩:=h
 show(IntKind.wrap .i64 (BitVec.ofInt 64 n &&& ~~~BitVec.ofInt 64 4094).toNat != 0)=_
 have hm: ~~~BitVec.ofInt 64 4094=BitVec.ofNat 64 18446744073709547521:=by decide
 rw[hm]
 have hw:∀x:BitVec 64,(IntKind.wrap .i64 (x.toNat:Int) != 0)=(x != 0#64):=by
  intro x
  have hx:=x.isLt
  rw[IntKind.wrap_i64]
  rw[Bool.eq_iff_iff]
  simp only[bne_iff_ne,ne_eq]
  constructor
  ·intro h e;apply h;rw[e];decide
  ·intro h e;apply h;apply BitVec.eq_of_toNat_eq;simp only[BitVec.toNat_ofNat];omega
 rw[hw]
 by_cases hn:n<0
 ·rw[decide_eq_true hn]
  simp only[Bool.true_or]
  have:(BitVec.ofInt 64 n &&& BitVec.ofNat 64 18446744073709547521)≠0#64:=by
   intro e
   have e2:=congrArg (fun x:BitVec 64=>x.getLsbD 63) e
   simp only[BitVec.getLsbD_and,BitVec.getLsbD_zero] at e2
   have e3:(BitVec.ofNat 64 18446744073709547521).getLsbD 63=true:=by decide
   have e4:(BitVec.ofInt 64 n).getLsbD 63=true:=by
    have:(BitVec.ofInt 64 n).msb=true:=by
     rw[BitVec.msb_eq_toInt,BitVec.toInt_ofInt,decide_eq_true_eq]
     rw[Int.bmod_def];split<;>omega
    rw[BitVec.msb_eq_getLsbD_last] at this;exact this
   rw[e3,e4] at e2;cases e2
  simpa using this
 ·rw[decide_eq_false hn]
  obtain⟨k,rfl⟩:=Int.eq_ofNat_of_zero_le (show 0≤n by omega)
  have e1:(Int.tmod (k:Int) 2==1)=(k%2==1):=by
   rw[Bool.eq_iff_iff];simp only[beq_iff_eq];rw[Int.tmod_eq_emod_of_nonneg (by omega)];omega
  rw[e1]
  have e2:BitVec.ofInt 64 (k:Int)=BitVec.ofNat 64 k:=by apply BitVec.eq_of_toNat_eq;rw[BitVec.toNat_ofInt,BitVec.toNat_ofNat];omega
  rw[e2]
  have hv:(BitVec.ofNat 64 k &&& BitVec.ofNat 64 18446744073709547521).toNat=k &&& 18446744073709547521:=by
   rw[BitVec.toNat_and,BitVec.toNat_ofNat,BitVec.toNat_ofNat,Nat.mod_eq_of_lt (by omega),Nat.mod_eq_of_lt (by omega)]
  have hz:(BitVec.ofNat 64 k &&& BitVec.ofNat 64 18446744073709547521 != 0#64)=!(k &&& 18446744073709547521==0):=by
   rw[Bool.eq_iff_iff]
   simp only[bne_iff_ne,ne_eq,Bool.not_eq_true',beq_eq_false_iff_ne]
   constructor
   ·intro h e;apply h;apply BitVec.eq_of_toNat_eq;rw[hv,e];rfl
   ·intro h e;apply h;rw[←hv,e];rfl
  rw[hz]
  have hs:(k &&& 18446744073709547521=0)↔(k%2=0∧k<4096):=by
   constructor
   ·intro h0
    have hb:∀i,(k &&& 18446744073709547521).testBit i=false:=fun i=>by rw[h0];exact Nat.zero_testBit i
    constructor
    ·have:=hb 0
     rw[Nat.testBit_and] at this
     have h3:Nat.testBit 18446744073709547521 0=true:=by decide
     rw[h3,Bool.and_true,Nat.testBit_zero] at this
     simpa using this
    ·apply Nat.lt_of_not_le
     intro hk
     obtain⟨i,hi,ht⟩:=Nat.exists_ge_and_testBit_of_ge_two_pow (n:=12) hk
     have:=hb i
     rw[Nat.testBit_and,ht,Bool.true_and] at this
     have hi2:i<64:=by
      apply Nat.lt_of_not_le
      intro h64
      rw[Nat.testBit_lt_two_pow (show k<2^i from Nat.lt_of_lt_of_le (show k<2^64 by omega) (Nat.pow_le_pow_right (by omega) h64))] at ht
      cases ht
     have hall:∀j:Fin 64,12≤j.val→Nat.testBit 18446744073709547521 j.val=true:=by decide
     rw[hall ⟨i,hi2⟩ hi] at this;cases this
   ·rintro⟨hk0,hk⟩
    apply Nat.eq_of_testBit_eq
    intro i
    rw[Nat.zero_testBit,Nat.testBit_and]
    by_cases hi:i<12
    ·by_cases hi0:i=0
     ·subst hi0
      rw[Nat.testBit_zero,hk0];rfl
     ·have hall:∀j:Fin 12, j.val≠0→Nat.testBit 18446744073709547521 j.val=false:=by decide
      rw[hall ⟨i,hi⟩ hi0,Bool.and_false]
    ·rw[Nat.testBit_lt_two_pow (show k<2^i from Nat.lt_of_lt_of_le hk (Nat.pow_le_pow_right (n:=2) (by omega) (show 12≤i by omega)))];rfl
  rw[Bool.eq_iff_iff]
  simp only[Bool.not_eq_true',beq_eq_false_iff_ne,ne_eq,hs,Bool.or_eq_true,beq_iff_eq,decide_eq_true_eq,Bool.false_eq_true,false_or]
  omega
theorem Vd(has:Bool)(v:ah)(hb:aP v.lf1≤100000000):Q80 has v=some (bif has then lX v else iW v):=by
 simp only[Q80,ak3,AU,Sl,Sj,ZW,ZV,Mo.den,au,aj,ak,ay,aA,kF v hb,Option.bind_some,dD,iW]
 cases has<;>cases v.aF==0<;>cases v.eF==0<;>cases decide (v.fText=⟨#[]⟩)<;>cases (v.aT.length:Int)==0<;>rfl
theorem FI(has:Bool)(v:ah)(hb:aP v.lf1≤100000000):avI has v=some (!(bif has then lX v else iW v)):=by
 simp only[avI,ant,AU,Uz,Uy,Mo.den,au,aj,ak,ay,aA,lN v hb,xM,Option.bind_some,dD]
 cases has<;>cases lX v<;>rfl
noncomputable def Yv(s:aI):Int:=(Q9 s).getD 0
theorem abO(s:aI)(hb:aP s.lf1≤100000000):Q9 s=some (Yv s):=by
 obtain⟨r,hr,_⟩:=qW s hb
 unfold Yv
 rw[hr];rfl
theorem Ve{s:aI}(hb:aP s.lf1≤100000000):(s.cZ.map bH.fName).length≤100000000:=by
 have hp:=fO s
 have hl:=lq s.cZ
 rw[List.length_map];omega
theorem aeT(s:aI)(hb:aP s.lf1≤100000000)(hk : -9223372036854775808≤s.ig∧s.ig≤9223372036854775807):Q15 s=some (Yv s):=by
 rw[←abO s hb]
 have hp:=fO s
 have hreq:=gX s.dW
 have henum:=fH s.gZ
 have hpl:=lq s.cZ
 have h1:ak5 s 0 []=some (bif nT [] s.dW then .inr () else .inl ()):=by
  try unfold ak5
  exact IQ s.dW (by omega) (fun k x m hx hm=>by
   have hlt:=nX hx
   have hg:(qc m).length<maxLen:=by rw[qc,List.length_map];unfold maxLen;omega
   unfold Eo
   simp only[WL,Mo.den,au,aj,ak,ay,aA,ltt hx,gid hx,cond_true,Option.bind_some,Bq,wB,if_pos hg]
   cases nameB x<;>cases hasB x m<;>rfl) (fun m=>by unfold Eo;simp only[Mo.den,au,aj,ak,ay,aA,ltn,cond_false])
 have h2:adu s 0 []=some (bif nT [] (s.cZ.map bH.fName) then .inr () else .inl ()):=by
  try unfold adu
  refine IQ (s.cZ.map bH.fName) (Ve hb) (fun k x m hx hm=>?_) (fun m=>?_)
  ·rw[List.getElem?_map] at hx
   obtain⟨y,hy,rfl⟩:=Option.map_eq_some_iff.1 hx
   have hlt:=nX hy
   have hg:(qc m).length<maxLen:=by rw[qc,List.length_map];unfold maxLen;omega
   unfold yU
   simp only[MG,Mo.den,au,aj,ak,ay,aA,ltt hy,gid hy,cond_true,Option.bind_some,Bq,wB,if_pos hg]
   cases nameB y.fName<;>cases hasB y.fName m<;>rfl
  ·rw[List.length_map]
   unfold yU
   simp only[Mo.den,au,aj,ak,ay,aA,ltn,cond_false]
 have h3:adv s 0=some (jM (dB (Ce s.gZ) 0 s.gZ.length)):=by
  try unfold adv
  refine dX _ s.gZ.length (by omega) (fun k hk=>?_) (by simp only[yV,Mo.den,au,aj,ak,ay,aA,ltn,cond_false])
  have hx:=List.getElem?_eq_getElem hk
  have hm:=gJ (gG hx)
  simp only[yV,Mo.den,au,aj,ak,ay,aA,ltt hx,gid hx,cond_true,Option.bind_some,kF _ (show aP s.gZ[k].lf1≤100000000 by omega),Ce,hx]
  cases lX s.gZ[k]<;>rfl
 have h4:Yc s 0=some (jM (dB (Ce s.gZ) 0 s.gZ.length)):=by
  try unfold Yc
  refine dX _ s.gZ.length (by omega) (fun k hk=>?_) (by simp only[Bh,Mo.den,au,aj,ak,ay,aA,ltn,cond_false])
  have hx:=List.getElem?_eq_getElem hk
  have hm:=gJ (gG hx)
  simp only[Bh,Mo.den,au,aj,ak,ay,aA,ltt hx,gid hx,cond_true,Option.bind_some,lN _ (show aP s.gZ[k].lf1≤100000000 by omega),Ce,hx]
  cases lX s.gZ[k]<;>rfl
 have hkind:=anU s.ig hk
 unfold Q15 asw Q9 auc
 simp only[Mo.den,au,aj,ak,ay,aA,abN s hb,h1,h2,h3,h4,aa5,UA,UC,UD,UE,UF,UG,MH,MI,MJ,MK,Option.bind_some,Cb s.dW (by omega),Cb (s.cZ.map bH.fName) (Ve hb),Vd s.iO s.kP (by omega),Vd s.iP s.kQ (by omega),FI s.iO s.kP (by omega),FI s.iP s.kQ (by omega),hkind,dD]
 clear h1 h2 h3 h4 hkind hk hp hreq henum hpl
 generalize nT [] s.dW=a1
 generalize nT [] (s.cZ.map bH.fName)=a2
 generalize (bif s.iO then lX s.kP else iW s.kP)=a3
 generalize (bif s.iP then lX s.kQ else iW s.kQ)=a4
 generalize dB (Ce s.gZ) 0 s.gZ.length=a5
 generalize decide (s.ig<0)=b1
 generalize (Int.tmod s.ig 2==1)=b2
 generalize decide ((4096:Int)≤s.ig)=b3
 generalize decide (s.jD<0)=b4
 generalize decide (s.jE < -1)=b5
 generalize decide ((1:Int)<(s.dV.length:Int))=b6
 cases a1<;>cases a2<;>rfl
end Go.Proofs.YtflpefkohpjjpaaGreatDoor
set_option linter.unusedSimpArgs false
set_option linter.unusedVariables false
namespace Go.Proofs.YtflpefkohpjjpaaGreatDoor
mutual
def zC:Lf→Prop
 |.int k n=>(Lit.int k n).wf=true
 |.str s=>s.size≤maxLen
 |.bool _=>True
 |.rows _ l=>l.length≤maxLen∧Jc l
def gQ:List Lf→Prop
 |[]=>True
 |x::r=>zC x∧gQ r
def Jc:List (List Lf)→Prop
 |[]=>True
 |r::q=>gQ r∧Jc q
end
mutual
theorem LRp.fit {I:Gh}:∀(x:Lf) (v:Value),LRp I x v→zC x
 |.int k n,v,h=>by unfold zC;exact h.int.2
 |.str s,v,h=>by unfold zC;exact h.str.2
 |.bool b,v,h=>by unfold zC;trivial
 |.rows n l,v,h=>by
  unfold LRp at h
  unfold zC
  obtain⟨a,c,h1,h2,h3,h4⟩:=h
  refine⟨Nat.le_trans h2 h3,?_⟩
  cases l with
  |nil=>unfold Jc;trivial
  |cons r q=>
   obtain⟨b,off,e,hr⟩:=h4 (by simp)
   exact RRp.fit b n off (r::q) hr
theorem RRp.fit {I:Gh} (b n:Nat):∀(o:Nat) (l:List (List Lf)),RRp I b n o l→Jc l
 |_,[],_=>by unfold Jc;trivial
 |o,r::q,hl=>by
  unfold RRp at hl
  unfold Jc
  exact⟨CRp.fit b o r hl.2.1,RRp.fit b n (o+n) q hl.2.2⟩
theorem CRp.fit {I:Gh} (b:Nat):∀(o:Nat) (r:List Lf),CRp I b o r→gQ r
 |_,[],_=>by unfold gQ;trivial
 |o,x::r,hl=>by
  unfold CRp at hl
  unfold gQ
  obtain⟨⟨v,h1,h2⟩,h3⟩:=hl
  exact⟨LRp.fit x v h2,CRp.fit b (o+1) r h3⟩
end
theorem dZ.fit{I:Gh}:∀(r:List Lf) (cs:List Value),dZ I r cs→gQ r
 |[],_,_=>by unfold gQ;trivial
 |x::r,_,h=>by
  obtain⟨c,q,e,h1,h2⟩:=h
  unfold gQ
  exact⟨h1.fit,dZ.fit r q h2⟩
theorem anV:gQ []:=by unfold gQ;trivial
theorem iH{x:Lf}{r:List Lf}:gQ (x::r)↔zC x∧gQ r:=by rw[gQ]
theorem jq{l m:List Lf}:gQ (l++m)↔gQ l∧gQ m:=by
 induction l with
 |nil=>exact⟨fun h=>⟨anV,h⟩,fun h=>h.2⟩
 |cons x r ih=>rw[List.cons_append,iH,iH,ih];exact⟨fun⟨a,b,c⟩=>⟨⟨a,b⟩,c⟩,fun⟨⟨a,b⟩,c⟩=>⟨a,b,c⟩⟩
theorem ai2{l:List (List Lf)}(h:Jc l):∀r∈l,gQ r:=by
 induction l with
 |nil=>intro r hr;cases hr
 |cons x q ih=>
  rw[Jc] at h
  intro r hr
  rcases List.mem_cons.1 hr with rfl|hr
  ·exact h.1
  ·exact ih h.2 r hr
theorem kL{α:Type}{n:Nat}{lf:α→List Lf}{l:List α}(h:zC (.rows n (l.map lf))){x:α}(hx:x∈l):gQ (lf x):=by
 rw[zC] at h
 exact ai2 h.2 _ (List.mem_map_of_mem hx)
theorem ahl{n:Int}(h:zC (.int .i64 n)) : -9223372036854775808≤n∧n≤9223372036854775807:=by
 rw[zC] at h
 exact bounds_i64 h
theorem OC{s:aI}(h:gQ s.lf1):(-9223372036854775808≤s.ig∧s.ig≤9223372036854775807)∧(∀p∈s.cZ,gQ p.bn.lf1)∧∀x∈s.dV,gQ x.lf1:=by
 unfold aI.lf1 at h
 simp only[jq,iH] at h
 obtain⟨⟨a1,_⟩,_,_,_,_,_,_,_,a2,_,a3,_⟩:=h
 refine⟨ahl a1,fun p hp=>?_,fun x hx=>?_⟩
 ·have h2:=kL a2 hp
  rw[bH.aX] at h2
  unfold bH.lf1 at h2
  exact(jq.1 h2).2
 ·have h2:=kL a3 hx
  rw[aI.aX] at h2;exact h2
theorem ai3{w:aG}(h:gQ w.lf1):gQ w.dO.bn.lf1∧∀x∈w.bP,gQ x.lf1:=by
 unfold aG.lf1 bW.lf1 at h
 simp only[jq,iH] at h
 obtain⟨_,_,_,_,⟨_,a1,_⟩,_,_,_,a2,_⟩:=h
 refine⟨a1,fun x hx=>?_⟩
 have h2:=kL a2 hx
 rw[aG.aX] at h2;exact h2
theorem ai4{e:bY}(h:gQ e.lf1):gQ e.dh.lf1:=by
 unfold bY.lf1 at h
 exact(jq.1 h).2
end Go.Proofs.YtflpefkohpjjpaaGreatDoor
set_option linter.unusedSimpArgs false
set_option linter.unusedVariables false
namespace Go.Proofs.YtflpefkohpjjpaaGreatDoor
open Go.RowKit
def FK(s:aI):List aI:=s.cZ.map bH.bn++s.dV
noncomputable def oD:Nat→aI→Nat→Int×Nat
 |0,_,n=>(2,n)
 |d+1,s,n=>bif n==64 then(2,n) else bif Yv s != 0 then(Yv s,n+1) else fP (oD d) (FK s) (n+1)
theorem FM:∀(d:Nat) (s:aI) (n:Nat),n≤64→(oD d s n).2≤64
 |0,s,n,h=>h
 |d+1,s,n,h=>by
  unfold oD
  cases hn:n==64 with
  |true=>exact h
  |false=>
   have:¬n=64:=by simpa using hn
   cases Yv s != 0 with
   |true=>show n+1≤64;omega
   |false=>exact zA _ 64 _ _ (fun x _ m hm=>FM d x m hm) (by omega)
theorem Vf{p:bH}{l:List bH}(h:p∈l):aP p.bn.lf1≤bK (l.map bH.lf):=by
 have h1:=EZ h
 have h2:=nP p
 omega
theorem anW{s x:aI}(h:x∈FK s):aP x.lf1<aP s.lf1:=by
 have hp:=fO s
 unfold FK at h
 rcases List.mem_append.1 h with h|h
 ·obtain⟨p,hm,rfl⟩:=List.mem_map.1 h
  have:=Vf hm
  omega
 ·have:=xB h
  omega
theorem anX{s x:aI}(hf:gQ s.lf1)(h:x∈FK s):gQ x.lf1:=by
 obtain⟨_,h1,h2⟩:=OC hf
 unfold FK at h
 rcases List.mem_append.1 h with h|h
 ·obtain⟨p,hm,rfl⟩:=List.mem_map.1 h
  exact h1 p hm
 ·exact h2 x h
theorem anY{s:aI}:(FK s).length≤aP s.lf1:=by
 have hp:=fO s
 have h1:=lq s.cZ
 have h2:=lF s.dV
 unfold FK
 rw[List.length_append,List.length_map];omega
theorem aeU(d:Nat):∀(F:Nat) (s:aI) (n:Nat),d≤16→d+1≤F→n≤64→aP s.lf1≤100000000→(pq F).m1 s (17-(d:Int)) (n:Int)=some ((oD d s n).1,((oD d s n).2:Int)):=by
 induction d with
 |zero=>
  intro F s n _ hF _ _
  obtain⟨F,rfl⟩:∃G,F=G+1:=⟨F-1,by omega⟩
  show Mo.den (ML (pq F) s (17-((0:Nat):Int)) (n:Int))=_
  unfold ML
  simp only[Mo.den,au,aj,ak,ay,aA,Ep]
  rw[decide_eq_true (show(16:Int)<17-((0:Nat):Int) by omega)];rfl
 |succ d ih=>
  intro F s n hd hF hn hb
  obtain⟨F,rfl⟩:∃G,F=G+1:=⟨F-1,by omega⟩
  have hp:=fO s
  have hk1:=lq s.cZ
  have hk2:=lF s.dV
  show Mo.den (ML (pq F) s (17-((d+1:Nat):Int)) (n:Int))=_
  unfold ML oD
  simp only[Mo.den,au,aj,ak,ay,aA,Ep,abO s hb]
  rw[decide_eq_false (show ¬(16:Int)<17-((d+1:Nat):Int) by omega),show((n:Int)==64)=(n==64) by rw[Bool.eq_iff_iff];simp;omega]
  simp only[cond_false,Option.bind_some]
  cases h1:n==64 with
  |true=>rfl
  |false=>
   have h1:¬n=64:=by simpa using h1
   rw[inc n (by omega)]
   simp only[cond_false]
   cases Yv s != 0 with
   |true=>rfl
   |false=>
    simp only[cond_false]
    have hl:17-((d+1:Nat):Int)+1=17-(d:Int):=by omega
    have hA:adw (pq F) (17-((d+1:Nat):Int)) s 0 ((n+1:Nat):Int)=some (bif (fP (oD d) (s.cZ.map bH.bn) (n+1)).1 != 0 then .inl ((fP (oD d) (s.cZ.map bH.bn) (n+1)).1,((fP (oD d) (s.cZ.map bH.bn) (n+1)).2:Int)) else .inr ((fP (oD d) (s.cZ.map bH.bn) (n+1)).2:Int)):=by
     try unfold adw
     refine Bv (fun p=>(p.1,(p.2:Int))) (s.cZ.map bH.bn) (by rw[List.length_map];omega) (oD d) 64 (fun x _ m hm=>FM d x m hm) (fun k x m hx hm=>?_) (fun m=>by rw[List.length_map];simp only[yX,Mo.den,au,aj,ak,ay,aA,ltn,cond_false]) (n+1) (by omega)
     rw[List.getElem?_map] at hx
     obtain⟨y,hy,rfl⟩:=Option.map_eq_some_iff.1 hx
     have hxb:=Vf (gG hy)
     have ihx:=ih F y.bn m (by omega) (by omega) hm (by omega)
     simp only[yX,Mo.den,au,aj,ak,ay,aA,ltt hy,gid hy,cond_true,Option.bind_some]
     rw[w64 (x:=17-((d+1:Nat):Int)+1) (by omega) (by omega),hl,ihx]
     simp only[Option.bind_some]
     cases (oD d y.bn m).1 != 0<;>rfl
    have hB:∀q:Nat,q≤64→WO (pq F) (17-((d+1:Nat):Int)) s 0 (q:Int)=some (bif (fP (oD d) s.dV q).1 != 0 then .inl ((fP (oD d) s.dV q).1,((fP (oD d) s.dV q).2:Int)) else .inr ((fP (oD d) s.dV q).2:Int)):=fun q hq=>by
     try unfold WO
     refine Bv (fun p=>(p.1,(p.2:Int))) s.dV (by omega) (oD d) 64 (fun x _ m hm=>FM d x m hm) (fun k x m hx hm=>?_) (fun m=>by simp only[vG,Mo.den,au,aj,ak,ay,aA,ltn,cond_false]) q hq
     have hxb:=xB (gG hx)
     have ihx:=ih F x m (by omega) (by omega) hm (by omega)
     simp only[vG,Mo.den,au,aj,ak,ay,aA,ltt hx,gid hx,cond_true,Option.bind_some]
     rw[w64 (x:=17-((d+1:Nat):Int)+1) (by omega) (by omega),hl,ihx]
     simp only[Option.bind_some]
     cases (oD d x m).1 != 0<;>rfl
    unfold FK
    rw[hA,U4]
    simp only[Option.bind_some]
    cases h3:(fP (oD d) (s.cZ.map bH.bn) (n+1)).1 != 0 with
    |true=>rfl
    |false=>
     simp only[cond_false]
     rw[hB _ (zA _ 64 _ _ (fun x _ m hm=>FM d x m hm) (by omega))]
     simp only[Option.bind_some]
     cases h4:(fP (oD d) s.dV (fP (oD d) (s.cZ.map bH.bn) (n+1)).2).1 != 0 with
     |true=>rfl
     |false=>
      have h4:(fP (oD d) s.dV (fP (oD d) (s.cZ.map bH.bn) (n+1)).2).1=0:=by simpa using h4
      simp only[cond_false]
      rw[h4]
theorem anZ(s:aI)(hb:aP s.lf1≤100000000):apY s=some (oD 16 s 0).1:=by
 have h:=aeU 16 FU s 0 (by omega) (by have:=fJ;omega) (by omega) hb
 have h:Q52 s 1 0=_:=h
 simp only[apY,adx,Mo.den,au,aj,ak,ay,aA,h,Option.bind_some]
theorem abP(d:Nat):∀(F:Nat) (s:aI) (n:Nat),d≤16→d+1≤F→n≤64→aP s.lf1≤100000000→gQ s.lf1→∃r:Int,((oD d s n).1=0→r=((oD d s n).2:Int))∧(uO F).m1 s (((n+1:Nat):Int)) (17-(d:Int))=some (r,(oD d s n).1):=by
 induction d with
 |zero=>
  intro F s n _ hF _ _ _
  obtain⟨F,rfl⟩:∃G,F=G+1:=⟨F-1,by omega⟩
  refine⟨((n+1:Nat):Int),fun h=>(by cases h),?_⟩
  show Mo.den (UH (uO F) s ((n+1:Nat):Int) (17-((0:Nat):Int)))=_
  unfold UH
  simp only[Mo.den,au,aj,ak,ay,aA,N8]
  rw[decide_eq_true (show(16:Int)<17-((0:Nat):Int) by omega)];rfl
 |succ d ih=>
  intro F s n hd hF hn hb hf
  obtain⟨F,rfl⟩:∃G,F=G+1:=⟨F-1,by omega⟩
  have hp:=fO s
  have hk1:=lq s.cZ
  have hk2:=lF s.dV
  show ∃r:Int,_∧Mo.den (UH (uO F) s ((n+1:Nat):Int) (17-((d+1:Nat):Int)))=_
  unfold UH oD
  simp only[Mo.den,au,aj,ak,ay,aA,N8,aeT s hb (OC hf).1]
  rw[decide_eq_false (show ¬(16:Int)<17-((d+1:Nat):Int) by omega),show decide ((64:Int)<((n+1:Nat):Int))=(n==64) by rw[Bool.eq_iff_iff];simp;omega]
  simp only[cond_false,Option.bind_some]
  cases h1:n==64 with
  |true=>exact⟨_,fun h=>(by cases h),rfl⟩
  |false=>
   have h1:¬n=64:=by simpa using h1
   simp only[cond_false]
   cases h2:Yv s != 0 with
   |true=>exact⟨_,fun h=>(by have h:Yv s=0:=h;rw[h] at h2;cases h2),rfl⟩
   |false=>
    simp only[cond_false]
    have hlen:((s.cZ.length:Int)+(s.dV.length:Int))=((FK s).length:Int):=by unfold FK;rw[List.length_append,List.length_map];omega
    have hkl:=anY (s:=s)
    obtain⟨o, ho, hpost⟩:=Ou (Lo:=fun v_=>(wu (uO F) (17-((d+1:Nat):Int)) s v_).den) (FK s) (by omega) (oD d) 64 (fun x _ m hm=>FM d x m hm) (fun k x m hx hm=>by
     have hlt:=nX hx
     have hxm:=gG hx
     have hxb:=anW hxm
     obtain⟨r,hr,hrun⟩:=ih F x m (by omega) (by omega) hm (by omega) (anX hf hxm)
     refine⟨r,hr,?_⟩
     have hJ:aew (uO F) (17-((d+1:Nat):Int)) s (m:Int) (k:Int)=some x:=by
      unfold aew aa7
      simp only[Mo.den,au,aj,ak,ay,aA]
      unfold FK at hx
      by_cases hk:k<s.cZ.length
      ·rw[List.getElem?_append_left (by rw[List.length_map];exact hk), List.getElem?_map] at hx
       obtain⟨y,hy,rfl⟩:=Option.map_eq_some_iff.1 hx
       rw[iLt hk]
       simp only[cond_true,gid hy,Option.bind_some]
      ·rw[List.getElem?_append_right (by rw[List.length_map];omega), List.length_map] at hx
       rw[ahM hk,w64 (by omega) (by omega),show(k:Int)-(s.cZ.length:Int)=((k-s.cZ.length:Nat):Int) by omega]
       simp only[cond_false,gid hx,Option.bind_some]
     simp only[wu,Mo.den,au,aj,ak,ay,aA,hJ]
     rw[hlen,w64 (x:=((FK s).length:Int)) (by omega) (by omega),ltt hx,w64 (x:=17-((d+1:Nat):Int)+1) (by omega) (by omega),show 17-((d+1:Nat):Int)+1=17-(d:Int) by omega,inc m (by omega)]
     simp only[cond_true,Option.bind_some,hrun]
     cases (oD d x m).1 != 0<;>rfl) (fun m=>by
      simp only[wu,Mo.den,au,aj,ak,ay,aA]
      rw[hlen,w64 (x:=((FK s).length:Int)) (by omega) (by omega),ltn];rfl) (n+1) (by omega)
    have ho:aha (uO F) (17-((d+1:Nat):Int)) s ((n+1:Nat):Int) 0=some o:=ho
    rw[ho]
    simp only[Option.bind_some]
    rcases o with p|a
    ·obtain⟨p1,p2⟩:=p
     obtain⟨hp1,hp2⟩:=hpost
     have hp1:p2=_:=hp1
     subst hp1
     exact⟨p1,fun h=>absurd h hp2,rfl⟩
    ·obtain⟨h5,h6⟩:=hpost
     subst h6
     exact⟨_,fun _=>rfl,by rw[h5]⟩
theorem ai5(s:aI)(hb:aP s.lf1≤100000000)(hf:gQ s.lf1):avL s=some (oD 16 s 0).1:=by
 obtain⟨r,_,h⟩:=abP 16 FU s 0 (by omega) (by have:=fJ;omega) (by omega) hb hf
 have h:Q41 s 1 1=_:=h
 simp only[avL,anu,Mo.den,au,aj,ak,ay,aA,h,Option.bind_some]
def gV(l:List aS)(n:ByteArray)(k:Nat):Option Int:=match l[k]? with|some x=>bif decide (x.fName=n) then some (k:Int) else none|none=>none
theorem an0(l:List aS)(n:ByteArray)(hl:l.length≤100000000):ak1 l n=some (match dB (gV l n) 0 l.length with|some e=>e|none=>-1):=by
 have hL:ads n l 0=some (jM (dB (gV l n) 0 l.length)):=by
  try unfold ads
  refine dX _ l.length (by omega) (fun k hk=>?_) (by simp only[yT,Mo.den,au,aj,ak,ay,aA,ltn,cond_false])
  have hx:=List.getElem?_eq_getElem hk
  simp only[yT,aua,adr,Mo.den,au,aj,ak,ay,aA,ltt hx,gid hx,cond_true,Option.bind_some,gV,hx]
  cases decide (l[k].fName=n)<;>rfl
 simp only[ak1,adt,Mo.den,au,aj,ak,ay,aA,Q60,ak0,hL,Option.bind_some]
 cases dB (gV l n) 0 l.length<;>rfl
theorem awW(l:List aS)(n:ByteArray)(hl:l.length≤100000000):avG l n=some (match dB (gV l n) 0 l.length with|some e=>e|none=>-1):=by
 have hL:Yb l n 0=some (jM (dB (gV l n) 0 l.length)):=by
  try unfold Yb
  refine dX _ l.length (by omega) (fun k hk=>?_) (by simp only[Bg,Mo.den,au,aj,ak,ay,aA,ltn,cond_false])
  have hx:=List.getElem?_eq_getElem hk
  simp only[Bg,Mo.den,au,aj,ak,ay,aA,ltt hx,gid hx,cond_true,Option.bind_some,gV,hx]
  cases decide (l[k].fName=n)<;>rfl
 simp only[avG,anq,Mo.den,au,aj,ak,ay,aA,hL,Option.bind_some]
 cases dB (gV l n) 0 l.length<;>rfl
theorem OD{ε:Type}(f:Nat→Option ε):∀(a b k:Nat),dB f k (a+b)=match dB f k a with|some e=>some e|none=>dB f (k+a) b
 |0,b,k=>by rw[Nat.zero_add];rfl
 |a+1,b,k=>by
  rw[show a+1+b=(a+b)+1 by omega]
  show(match f k with|some e=>some e|none=>dB f (k+1) (a+b))=match (match f k with|some e=>some e|none=>dB f (k+1) a) with|some e=>some e|none=>dB f (k+(a+1)) b
  cases f k with
  |some e=>rfl
  |none=>
   simp only
   rw[OD f a b (k+1),show k+1+a=k+(a+1) by omega]
theorem abQ(l:List aS)(n:ByteArray)(k:Nat)(hk:k≤l.length):dB (gV (l.take k) n) 0 (l.take k).length=dB (gV l n) 0 k:=by
 rw[List.length_take,Nat.min_eq_left hk]
 refine Fv k 0 fun i _ hi=>?_
 unfold gV
 rw[List.getElem?_take_of_lt (by omega)]
theorem OE{l:List aS}{n:ByteArray}:∀(m k:Nat) (e:Int),dB (gV l n) k m=some e→(k:Int)≤e∧e<(k:Int)+(m:Int)
 |0,k,e,h=>by cases h
 |m+1,k,e,h=>by
  unfold dB at h
  cases hf:gV l n k with
  |some e'=>
   rw[hf] at h
   injection h with h
   subst h
   unfold gV at hf
   split at hf
   ·rename_i x hx
    cases hd:decide (x.fName=n) with
    |true=>rw[hd] at hf;injection hf with hf;omega
    |false=>rw[hd] at hf;cases hf
   ·cases hf
  |none=>
   rw[hf] at h
   have:=OE m (k+1) e h
   omega
theorem avW{l:List aS}{k:Nat}{x:aS}(hx:l[k]?=some x):((match dB (gV l x.fName) 0 l.length with|some e=>e|none=>(-1:Int)) != (k:Int))=decide ((0:Int)≤match dB (gV l x.fName) 0 k with|some e=>e|none=>-1):=by
 have hk:=nX hx
 have hs:dB (gV l x.fName) 0 l.length=match dB (gV l x.fName) 0 k with|some e=>some e|none=>some (k:Int):=by
  have h1:=OD (gV l x.fName) k (l.length-k) 0
  rw[show k+(l.length-k)=l.length by omega] at h1
  rw[h1]
  cases dB (gV l x.fName) 0 k with
  |some e=>rfl
  |none=>
   simp only
   obtain⟨m,hm⟩:∃m,l.length-k=m+1:=⟨l.length-k-1,by omega⟩
   rw[hm,Nat.zero_add]
   unfold dB
   have:gV l x.fName k=some (k:Int):=by unfold gV;rw[hx];simp
   rw[this]
 rw[hs]
 cases hf:dB (gV l x.fName) 0 k with
 |some e=>
  have:=OE _ _ _ hf
  simp only
  rw[decide_eq_true (by omega),bne_iff_ne];omega
 |none=>simp
noncomputable def ixE(l:List aS)(k:Nat):Option Int:=match l[k]? with
 |some x=>bif (ZU x).getD 0 != 0 then some ((ZU x).getD 0) else bif decide ((0:Int)≤match dB (gV l x.fName) 0 k with|some e=>e|none=>-1) then some 16 else none
 |none=>none
theorem an1{l:List aS}{k:Nat}{x:aS}{c:Int}(hx:l[k]?=some x)(hc:ZU x=some c):ixE l k=bif c != 0 then some c else bif decide ((0:Int)≤match dB (gV l x.fName) 0 k with|some e=>e|none=>-1) then some 16 else none:=by
 unfold ixE;rw[hx];simp only[hc,Option.getD_some]
theorem an2(d:bW)(hb:aP d.lf1≤100000000):MN d 0=some (jM (dB (ixE d.bJ) 0 d.bJ.length)):=by
 have hp:=lJ d
 have hl:=jQ d.bJ
 try unfold MN
 refine dX _ d.bJ.length (by omega) (fun k hk=>?_) (by simp only[yY,Mo.den,au,aj,ak,ay,aA,ltn,cond_false])
 obtain⟨x,hx⟩:∃x,d.bJ[k]?=some x:=⟨_,List.getElem?_eq_getElem hk⟩
 have hm:=dH aS.lf (gG hx)
 rw[aS.aX] at hm
 obtain⟨c,hc,_⟩:=lu x (by omega)
 have hg:(0:Int)≤0∧(0:Int)≤(k:Int)∧(k:Int)≤(d.bJ.length:Int):=by omega
 have hn:=an0 (d.bJ.take k) x.fName (by rw[List.length_take];omega)
 rw[abQ _ _ _ (by omega)] at hn
 rw[an1 hx hc]
 simp only[yY,Mo.den,au,aj,ak,ay,aA,ltt hx,gid hx,cond_true,Option.bind_some,hc,if_pos hg,Int.toNat_natCast,hn]
 generalize decide ((0:Int)≤match dB (gV d.bJ x.fName) 0 k with|some e=>e|none=>-1)=q
 cases c != 0<;>cases q<;>rfl
theorem ai6(d:bW)(hb:aP d.lf1≤100000000):Ye d 0=some (jM (dB (ixE d.bJ) 0 d.bJ.length)):=by
 have hp:=lJ d
 have hl:=jQ d.bJ
 try unfold Ye
 refine dX _ d.bJ.length (by omega) (fun k hk=>?_) (by simp only[EW,Mo.den,au,aj,ak,ay,aA,ltn,cond_false])
 obtain⟨x,hx⟩:∃x,d.bJ[k]?=some x:=⟨_,List.getElem?_eq_getElem hk⟩
 have hm:=dH aS.lf (gG hx)
 rw[aS.aX] at hm
 obtain⟨c,hc,_⟩:=lu x (by omega)
 have hd:=avW hx
 rw[an1 hx hc]
 simp only[EW,Mo.den,au,aj,ak,ay,aA,ltt hx,gid hx,cond_true,Option.bind_some,abM x (by omega),hc,awW d.bJ _ (by omega),hd]
 generalize decide ((0:Int)≤match dB (gV d.bJ x.fName) 0 k with|some e=>e|none=>-1)=q
 cases c != 0<;>cases q<;>rfl
theorem an3(d:bW)(hb:aP d.lf1≤100000000)(hf:gQ d.bn.lf1):Q61 d=Q65 d:=by
 have hp:=lJ d
 have hl:=jQ d.bJ
 have hL:Ye d 0=MN d 0:=(ai6 d hb).trans (an2 d hb).symm
 unfold Q61 asx Q65 ak6
 simp only[Mo.den,au,aj,ak,ay,aA,sD,U0,hL,aa8,UJ,MO,G8,anZ d.bn (by omega),ai5 d.bn (by omega) hf,Option.bind_some,dD]
 cases nameB d.fName with
 |false=>rfl
 |true=>
  cases decide ((16:Int)<(d.bJ.length:Int)) with
  |true=>rfl
  |false=>
   simp only[Bool.not_true,cond_false]
   cases MN d 0 with
   |none=>rfl
   |some o=>
    rcases o with e|u
    ·rfl
    ·cases decide (d.jZ<0)<;>cases decide ((2:Int)<d.jZ)<;>cases (d.iI != 0)<;>cases (d.iI != 1)<;>rfl
end Go.Proofs.YtflpefkohpjjpaaGreatDoor
set_option linter.unusedSimpArgs false
set_option linter.unusedVariables false
namespace Go.Proofs.YtflpefkohpjjpaaGreatDoor
open Go.RowKit
theorem BR(n:Int):Tot (Q74 n) (fun r=>r.length≤11):=by
 obtain⟨u,hu,hg⟩:=Ym n
 unfold Q74 ak7
 simp only[Mo.den,au,aj,ak,ay,aA,hu,Option.bind_some]
 refine T.bind (R:=fun r=>r.2.length≤10) (T.nV 10 (by omega) (fun k s=>grp k s.1∧s.2.length=k) _ ⟨hg,rfl⟩ ?_ ?_) fun r hr=>T.grd (by simp only[List.length_cons,List.length_nil];omega) (T.ret ?_)
 ·rintro k ⟨v,m⟩ hk ⟨hv,hm⟩
  have hm:m.length=k:=hm
  simp only[qA,Mo.den,au,aj,ak,ay,aA]
  refine T.ite (fun _=>T.grd (by simp only[List.length_cons,List.length_nil];omega) (T.ret ⟨hv.next,?_⟩)) fun _=>T.ret ?_
  ·rw[List.length_append,List.length_cons,List.length_nil];omega
  ·show m.length≤_;omega
 ·rintro⟨v,m⟩ ⟨hv,hm⟩
  have hv:grp 10 v:=hv
  have hm:m.length=10:=hm
  simp only[qA,Mo.den,au,aj,ak,ay,aA,hv.last,cond_false]
  exact T.ret (by show m.length≤_;omega)
 ·rw[List.length_append,List.length_cons,List.length_nil];omega
noncomputable def an4(n:Int):ByteArray:=(ZY n).getD ⟨#[]⟩
theorem OG(n:Int):ZY n=some (an4 n)∧(an4 n).size≤11:=by
 have:Tot (ZY n) (fun r=>r.size≤11):=by
  simp only[ZY,adB,Mo.den,au,aj,ak,ay,aA]
  exact T.bind (BR n) fun r hr=>T.ret (by rw[strOfNums_size];exact hr)
 obtain⟨r,h,hr⟩:=this
 unfold an4
 rw[h];exact⟨rfl,hr⟩
noncomputable def fB(n:Int):List Int:=numsOf (an4 n)
theorem gU(n:Int):(fB n).length≤11:=by unfold fB;rw[iV];exact(OG n).2
noncomputable def fU(s:ByteArray):List Int:=fB (s.size:Int)++numsOf s
def jI(b:Bool):List Int:=bif b then [1] else [0]
noncomputable def jh{α:Type}(e:α→List Int)(l:List α):List Int:=fB (l.length:Int)++(l.map e).flatten
structure Wrt (F:aH→Option aH) (e:List Int) (b:Bool):Prop where
 h:∀w,w.bF.length+e.length≤100000000000→F w=some ⟨w.bF++e,w.dS||b⟩
theorem Wrt.of{F F':aH→Option aH}{e:List Int}{b:Bool}(h:∀w,F w=F' w)(k:Wrt F' e b):Wrt F e b:=⟨fun w hw=>(h w).trans (k.h w hw)⟩
theorem Wrt.bind{F G:aH→Option aH}{e e':List Int}{b b':Bool}(h:Wrt F e b)(k:Wrt G e' b'):Wrt (fun w=>(F w).bind G) (e++e') (b||b'):=⟨fun w hw=>by
 rw[List.length_append] at hw
 show(F w).bind G=_
 rw[h.h w (by omega),Option.bind_some,k.h _ (by rw[List.length_append];omega),List.append_assoc,Bool.or_assoc]⟩
theorem Wrt.last{F:aH→Option aH}{e:List Int}{b:Bool}(h:Wrt F e b):Wrt (fun w=>(F w).bind some) e b:=⟨fun w hw=>by
 show(F w).bind some=_
 rw[h.h w hw];rfl⟩
theorem iZ(n:Int):Wrt (Q18 n) (fB n) false:=⟨fun w hw=>by
 simp only[Q18,ar6,Mo.den,au,aj,ak,ay,aA,(OG n).1,Option.bind_some]
 unfold fB at hw ⊢
 rw[iV] at hw
 rw[if_pos (by omega),Bool.or_false]⟩
theorem qG(s:ByteArray):Wrt (ak9 s) (fU s) false:=⟨fun w hw=>by
 unfold fU at hw ⊢
 rw[List.length_append,iV] at hw
 simp only[ak9,ak8,Mo.den,au,aj,ak,ay,aA,(iZ (s.size:Int)).h w (by omega),Option.bind_some,Bool.or_false]
 rw[if_pos (by rw[List.length_append];omega),List.append_assoc]⟩
theorem nC(b:Bool):Wrt (Q89 b) (jI b) false:=⟨fun w hw=>by
 cases b
 ·have hw:w.bF.length+1≤100000000000:=hw
  simp only[Q89,ala,Mo.den,au,aj,ak,ay,aA,cond_false,jI,Bool.or_false]
  rw[if_pos (by simp only[List.length_cons,List.length_nil];omega)]
 ·have hw:w.bF.length+1≤100000000000:=hw
  simp only[Q89,ala,Mo.den,au,aj,ak,ay,aA,cond_true,jI,Bool.or_false]
  rw[if_pos (by simp only[List.length_cons,List.length_nil];omega)]⟩
theorem rG{α:Type}(f:α→List Int){l:List α}{k:Nat}{x:α}(h:l[k]?=some x):((l.take (k+1)).map f).flatten=((l.take k).map f).flatten++f x:=by
 have hk:=nX h
 have:l[k]=x:=by rw[List.getElem?_eq_getElem hk] at h;injection h
 rw[List.take_succ_eq_append_getElem hk,List.map_append,List.flatten_append,this];simp
theorem an5{α:Type}(f:α→Bool){l:List α}{k:Nat}{x:α}(h:l[k]?=some x):(l.take (k+1)).any f=((l.take k).any f||f x):=by
 have hk:=nX h
 have:l[k]=x:=by rw[List.getElem?_eq_getElem hk] at h;injection h
 rw[List.take_succ_eq_append_getElem hk,List.any_append,this];simp
theorem xP{α:Type}(f:α→List Int)(l:List α)(k:Nat):((l.take k).map f).flatten.length≤(l.map f).flatten.length:=by
 have:(l.map f).flatten=((l.take k).map f).flatten++((l.drop k).map f).flatten:=by rw[←List.flatten_append,←List.map_append,List.take_append_drop]
 rw[this,List.length_append];omega
theorem nD{α:Type}{L:(Int×Bool×List Int)→Option ((Int×Bool×List Int)⊕(Bool×List Int))}(W:α→aH→Option aH)(e:α→List Int)(b:α→Bool)(l:List α)(hl:l.length≤100000000)
 (hL:∀v bd bs,L (v,bd,bs)=bif decide ((v:Int)<(l.length:Int)) then(mg l v).bind fun x=>(W x ⟨bs,bd⟩).bind fun r=>some (.inl (IntKind.wrap .i64 (v+1),r.dS,r.bF)) else some (.inr (bd,bs)))
 (hW:∀x∈l,Wrt (W x) (e x) (b x)):Wrt (fun w=>(Q18 (l.length:Int) w).bind fun r=>(bV L FU (0,r.dS,r.bF)).bind fun q=>some ⟨q.2,q.1⟩) (jh e l) (l.any b):=⟨fun w hw=>by
 unfold jh at hw ⊢
 rw[List.length_append] at hw
 show(Q18 (l.length:Int) w).bind _=_
 rw[(iZ (l.length:Int)).h w (by omega),Option.bind_some]
 have key:Tot (bV L FU (0,(w.dS||false),w.bF++fB (l.length:Int))) (fun q=>q=(w.dS||l.any b,w.bF++(fB (l.length:Int)++(l.map e).flatten))):=by
  refine T.nV l.length (by omega) (fun k s=>s=((k:Int),(w.dS||(l.take k).any b),w.bF++(fB (l.length:Int)++((l.take k).map e).flatten))) _ (by simp) ?_ ?_
  ·rintro k s hk rfl
   have hx:=List.getElem?_eq_getElem hk
   have h1:=xP e l (k+1)
   rw[rG e hx,List.length_append] at h1
   rw[hL,ltt hx,gid hx]
   simp only[cond_true,Option.bind_some]
   rw[(hW l[k] (List.getElem_mem hk)).h _ (by show(w.bF++(fB (l.length:Int)++((l.take k).map e).flatten)).length+_≤_;rw[List.length_append,List.length_append];omega),Option.bind_some]
   refine T.ret ?_
   show _=_
   rw[inc k (by omega),rG e hx,an5 b hx]
   simp only[Bool.or_assoc,List.append_assoc]
  ·rintro s rfl
   rw[hL,ltn,List.take_length]
   exact T.ret rfl
 obtain⟨q,h,rfl⟩:=key
 rw[h];rfl⟩
theorem Pz(v:ah):Q0 v=some (iW v):=by
 simp only[Q0,apb,dQ,mX,mW,oZ,oW,Mo.den,au,aj,ak,ay,aA,iW]
 cases v.aF==0<;>cases v.eF==0<;>cases decide (v.fText=⟨#[]⟩)<;>cases (v.aT.length:Int)==0<;>rfl
theorem uo(s:ByteArray)(l:List Int)(hl:l.length+s.size≤50000000000):Tot (Z4 s l) (fun r=>r.length≤l.length+11+s.size):=by
 simp only[Z4,adD,Mo.den,au,aj,ak,ay,aA]
 exact T.bind (gI (s.size:Int) l (by omega)) fun r hr=>T.grd (by omega) (T.ret (by rw[List.length_append,iV];omega))
theorem axS(R:rW)(v:ah)(hb:aP v.lf1≤100000000)(hR:∀x∈v.aT,∀l:List Int,l.length+20*aP x.lf1≤10000000000→Tot (R.m2 x l) (fun r=>r.length≤l.length+20*aP x.lf1))(l:List Int)(hl:l.length+20*bK (v.aT.map ah.lf)≤10000000000):
 Tot (af6 R v 0 l) (fun r=>r.length≤l.length+20*bK (v.aT.map ah.lf)):=by
 have h0:=fH v.aT
 rw[dF] at hb
 refine T.nV v.aT.length (by omega) (fun k s=>s.1=(k:Int)∧s.2.length≤l.length+20*bK ((v.aT.take k).map ah.lf)) _ ⟨rfl,Nat.le_add_right _ _⟩ ?_ ?_
 ·rintro k ⟨i,m⟩ hk ⟨hi,hm⟩
  have hi:i=(k:Int):=hi
  have hm:m.length≤l.length+20*bK ((v.aT.take k).map ah.lf):=hm
  subst hi
  have hx:=List.getElem?_eq_getElem hk
  have e1:=xG ah.lf hx
  have e2:=jF ah.lf v.aT (k+1)
  rw[ah.aX] at e1
  simp only[rD,Mo.den,au,aj,ak,ay,aA,ltt hx,gid hx,cond_true,Option.bind_some]
  exact T.bind (hR _ (List.getElem_mem hk) m (by omega)) fun r hr=>T.ret ⟨inc k (by omega),by show r.length≤_;omega⟩
 ·rintro⟨i,m⟩ ⟨hi,hm⟩
  have hi:i=(v.aT.length:Int):=hi
  subst hi
  simp only[rD,Mo.den,au,aj,ak,ay,aA,ltn,cond_false]
  rw[List.take_length] at hm
  exact T.ret hm
end Go.Proofs.YtflpefkohpjjpaaGreatDoor
set_option linter.unusedSimpArgs false
set_option linter.unusedVariables false
namespace Go.Proofs.YtflpefkohpjjpaaGreatDoor
open Go.RowKit
theorem OH{x:Int}(h1:0≤x)(h2:x<18446744073709551616):IntKind.wrap .u64 x=x:=by rw[ng];omega
theorem Yw(a b:Nat)(ha:a<18446744073709551616)(hb:b<18446744073709551616):eU .xor .u64 (a:Int) (b:Int)=((a^^^ b:Nat):Int):=by
 show IntKind.wrap .u64 (BitVec.ofInt 64 (a:Int)^^^ BitVec.ofInt 64 (b:Int)).toNat=_
 have e1:BitVec.ofInt 64 (a:Int)=BitVec.ofNat 64 a:=by apply BitVec.eq_of_toNat_eq;rw[BitVec.toNat_ofInt,BitVec.toNat_ofNat];omega
 have e2:BitVec.ofInt 64 (b:Int)=BitVec.ofNat 64 b:=by apply BitVec.eq_of_toNat_eq;rw[BitVec.toNat_ofInt,BitVec.toNat_ofNat];omega
 rw[e1,e2,BitVec.toNat_xor,BitVec.toNat_ofNat,BitVec.toNat_ofNat,Nat.mod_eq_of_lt ha,Nat.mod_eq_of_lt hb]
 have hx:a^^^ b<2^64:=Nat.xor_lt_two_pow ha hb
 exact OH (by omega) (by omega)
theorem awX(n:Int):F7 .u64 n 1=IntKind.wrap .u64 (n*2):=rfl
theorem Dw(n:Int)(h:I64 n):ah0 n=some ((zz n:Nat):Int):=by
 unfold I64 at h
 unfold ah0 acY
 simp only[Mo.den,au,aj,ak,ay,aA]
 congr 1
 rw[awX]
 have hs:yh .i64 n 63=Int.fdiv n 9223372036854775808:=rfl
 rw[hs]
 by_cases h0:0≤n
 ·obtain⟨m,rfl⟩:=Int.eq_ofNat_of_zero_le h0
  rw[OH (x:=(m:Int)) (by omega) (by omega),OH (x:=(m:Int)*2) (by omega) (by omega),Int.fdiv_eq_ediv_of_nonneg _ (by omega),show(m:Int)/9223372036854775808=((0:Nat):Int) by omega,OH (x:=((0:Nat):Int)) (by omega) (by omega),show(m:Int)*2=((m*2:Nat):Int) by omega,Yw _ _ (by omega) (by omega)]
  simp only[Nat.xor_zero,zz]
  rw[if_pos (by omega)];omega
 ·have e1:IntKind.wrap .u64 n=n+18446744073709551616:=by rw[ng];omega
  have e2:IntKind.wrap .u64 ((n+18446744073709551616)*2)=((2*n+18446744073709551616).toNat:Int):=by rw[ng];omega
  have e3:IntKind.wrap .u64 (Int.fdiv n 9223372036854775808)=((18446744073709551615:Nat):Int):=by
   rw[Int.fdiv_eq_ediv_of_nonneg _ (by omega),ng];omega
  rw[e1,e2,e3,Yw _ _ (by omega) (by omega),Nat.xor_comm,ahh _ (by omega)]
  unfold zz
  rw[if_neg h0];omega
theorem an6(n:Int)(h:I64 n):Xp n=some ((zz n:Nat):Int):=by
 unfold I64 at h
 unfold Xp Nq
 simp only[Mo.den,au,aj,ak,ay,aA]
 rw[awX]
 have hm:(IntKind.max .u64)=((18446744073709551615:Nat):Int):=rfl
 by_cases h0:n<0
 ·rw[decide_eq_true h0]
  simp only[cond_true]
  congr 1
  have e1:IntKind.wrap .u64 n=n+18446744073709551616:=by rw[ng];omega
  have e2:IntKind.wrap .u64 ((n+18446744073709551616)*2)=((2*n+18446744073709551616).toNat:Int):=by rw[ng];omega
  rw[e1,e2,hm,Yw _ _ (by omega) (by omega),ahh _ (by omega)]
  unfold zz
  rw[if_neg (by omega)];omega
 ·rw[decide_eq_false h0]
  simp only[cond_false]
  congr 1
  rw[OH (x:=n) (by omega) (by omega),OH (x:=n*2) (by omega) (by omega)]
  unfold zz
  rw[if_pos (by omega)];omega
def bQ(u:Nat):List Int:=(Pv u).map fun b=>(b.toNat:Int)
theorem wH{u:Nat}(h:u<128):bQ u=[(u:Int)]:=by
 unfold bQ;rw[J5 h];simp only[List.map_cons,List.map_nil,anE u h]
theorem oL{u:Nat}(h:¬u<128):bQ u=((u%128+128:Nat):Int)::bQ (u/128):=by
 unfold bQ;rw[Yk h];simp only[List.map_cons]
 congr 1
 rw[UInt8.toNat_ofNat'];omega
theorem asC(u:Nat):eU .or .u8 (IntKind.wrap .u8 (u:Int)) 128=((u%128+128:Nat):Int):=by
 have h:∀x:Fin 256,eU .or .u8 (x.1:Int) 128=((x.1%128+128:Nat):Int):=by decide +kernel
 have h:=h ⟨u%256,by omega⟩
 simp only at h
 have e:IntKind.wrap .u8 (u:Int)=((u%256:Nat):Int):=by rw[IntKind.wrap_u8];omega
 rw[e,h];omega
theorem abR(u0:Nat)(l0:List Int)(hu:u0<18446744073709551616)(hl:l0.length≤100000000000):Tot (WS (u0:Int) l0) (fun r=>∃u:Nat,r.1=(u:Int)∧u<128∧r.2++[(u:Int)]=l0++bQ u0):=by
 refine rO (T:=fun v_=>(qA v_).den) (fun v=>∃u:Nat,v.1=(u:Int)∧v.2++bQ u=l0++bQ u0∧v.2.length+(bQ u).length≤100000000010) (fun v=>(bQ v.1.toNat).length) _ ?_ FU ((u0:Int),l0) ⟨u0,rfl,rfl,by have:=ug u0 hu;unfold bQ;rw[List.length_map];show l0.length+_≤_;omega⟩ (by have:=fJ;have:=ug u0 hu;show(bQ ((u0:Nat):Int).toNat).length<FU;rw[Int.toNat_natCast];unfold bQ;rw[List.length_map];omega)
 rintro⟨v,l⟩ ⟨u,hv,he,hn⟩
 obtain rfl:v=(u:Int):=hv
 have he:l++bQ u=l0++bQ u0:=he
 have hn:l.length+(bQ u).length≤100000000010:=hn
 by_cases h:u<128
 ·refine .inr ⟨((u:Int),l),?_,u,rfl,h,?_⟩
  ·simp only[qA,Mo.den,au,aj,ak,ay,aA]
   rw[decide_eq_false (show ¬(128:Int)≤(u:Int) by omega)];rfl
  ·rw[←he,wH h]
 ·refine .inl ⟨(((u/128:Nat):Int),l++[((u%128+128:Nat):Int)]),?_,⟨u/128,rfl,?_,?_⟩,?_⟩
  ·rw[oL h,List.length_cons] at hn
   simp only[qA,Mo.den,au,aj,ak,ay,aA]
   rw[decide_eq_true (show(128:Int)≤(u:Int) by omega),asC,avT (by omega),Int.toNat_natCast,if_pos (by rw[List.length_cons,List.length_nil];omega)];rfl
  ·rw[←he,oL h];simp
  ·rw[oL h,List.length_cons] at hn
   show(l++[((u%128+128:Nat):Int)]).length+_≤_
   rw[List.length_append,List.length_cons,List.length_nil];omega
  ·show(bQ ((u/128:Nat):Int).toNat).length<(bQ ((u:Nat):Int).toNat).length
   rw[Int.toNat_natCast,Int.toNat_natCast,oL h,List.length_cons];omega
theorem avX{u:Nat}(h:u<256):IntKind.wrap .u8 (u:Int)=(u:Int):=by rw[IntKind.wrap_u8];omega
theorem aeV(n:Int)(h:I64 n):Q74 n=some (bQ (zz n)):=by
 have hz:zz n<18446744073709551616:=aby n h
 obtain⟨r,hr,u,h1,h2,h3⟩:=abR (zz n) [] hz (by rw[List.length_nil];omega)
 have hlen:r.2.length+1=(bQ (zz n)).length:=by rw[List.nil_append] at h3;rw[←h3,List.length_append];rfl
 have h10:=ug (zz n) hz
 have hb:(bQ (zz n)).length≤10:=by unfold bQ;rw[List.length_map];exact h10
 unfold Q74 ak7
 simp only[Mo.den,au,aj,ak,ay,aA,Dw n h,Option.bind_some,hr]
 rw[if_pos (by rw[List.length_cons,List.length_nil];omega),h1,avX (by omega),h3];rfl
theorem ai7(v:Int)(l:List Int):adC v l=WS v l:=by simp only[adC,WS,yZ,qA,Mo.den,au,aj,ak,ay,aA]
theorem nG(n:Int)(l:List Int)(h:I64 n)(hl:l.length≤100000000000):Q53 n l=some (l++bQ (zz n)):=by
 have hz:zz n<18446744073709551616:=aby n h
 obtain⟨r,hr,u,h1,h2,h3⟩:=abR (zz n) l hz hl
 have hlen:r.2.length+1=l.length+(bQ (zz n)).length:=by rw[←List.length_append,←h3,List.length_append];rfl
 have h10:=ug (zz n) hz
 have hb:(bQ (zz n)).length≤10:=by unfold bQ;rw[List.length_map];exact h10
 unfold Q53 alb
 simp only[Mo.den,au,aj,ak,ay,aA,Dw n h,Option.bind_some,ai7,hr]
 rw[if_pos (by rw[List.length_cons,List.length_nil];omega),h1,avX (by omega),h3]
theorem an7(n:Int)(h:I64 n):ZY n=some (strOfNums (bQ (zz n))):=by
 simp only[ZY,adB,Mo.den,au,aj,ak,ay,aA,aeV n h,Option.bind_some]
theorem arM(n:Int)(h:I64 n):an4 n=strOfNums (bQ (zz n)):=by
 have h1:=(OG n).1
 rw[an7 n h] at h1
 exact(Option.some.inj h1).symm
theorem Yx(u:Nat):∀x∈bQ u,0≤x∧x<256:=by
 intro x hx
 unfold bQ at hx
 obtain⟨b,_,rfl⟩:=List.mem_map.1 hx
 have:=b.toNat_lt
 omega
theorem aeW(l:List Int)(h:∀x∈l,0≤x∧x<256):numsOf (strOfNums l)=l:=by
 unfold numsOf
 rw[strOfNums_data,List.map_map]
 conv=>rhs;rw[←List.map_id l]
 refine List.map_congr_left fun x hx=>?_
 have:=h x hx
 show((UInt8.ofNat x.toNat).toNat:Int)=x
 rw[UInt8.toNat_ofNat'];omega
theorem an8(n:Int)(h:I64 n):fB n=bQ (zz n):=by
 unfold fB
 rw[arM n h,aeW _ (Yx _)]
theorem xQ(a b:List Int):strOfNums (a++b)=strOfNums a++strOfNums b:=by
 apply ByteArray.ext
 apply Array.ext'
 rw[ByteArray.data_append,Array.toList_append,strOfNums_data,strOfNums_data,strOfNums_data,List.map_append]
theorem arN(u:Nat):IntKind.wrap .u64 (Int.tdiv (u:Int) 128)=IntKind.wrap .u64 ((u/128:Nat):Int):=by
 rw[Int.tdiv_eq_ediv_of_nonneg (by omega)];rfl
theorem arO(u:Nat):Int.tmod (u:Int) 128=((u%128:Nat):Int):=by
 rw[Int.tmod_eq_emod_of_nonneg (by omega)];rfl
theorem ai8(u0:Nat)(hu:u0<18446744073709551616):Tot (Xq (u0:Int) ⟨#[]⟩ 0) (fun r=>∃u:Nat,r.1=(u:Int)∧u<128∧r.2++strOfNums [(u:Int)]=strOfNums (bQ u0)):=by
 have h10:(bQ u0).length≤10:=by unfold bQ;rw[List.length_map];exact ug u0 hu
 refine T.nV 10 (by omega) (fun k v=>∃u:Nat,v.1=(u:Int)∧u<18446744073709551616∧v.2.2=(k:Int)∧v.2.1.size=k∧v.2.1++strOfNums (bQ u)=strOfNums (bQ u0)) _ ⟨u0,rfl,hu,rfl,rfl,(ByteArray.empty_append:ByteArray.empty++strOfNums (bQ u0)=_)⟩ ?_ ?_
 ·rintro k ⟨v,s,i⟩ hk ⟨u,hv,hlt,hi,hs,he⟩
  obtain rfl:v=(u:Int):=hv
  obtain rfl:i=(k:Int):=hi
  have hs:s.size=k:=hs
  have he:s++strOfNums (bQ u)=strOfNums (bQ u0):=he
  unfold AX
  simp only[Nr,Mo.den,au,aj,ak,ay,aA]
  rw[decide_eq_true (show(k:Int)<10 by omega)]
  simp only[cond_true,Option.bind_some]
  by_cases h:u<128
  ·rw[decide_eq_false (show ¬(128:Int)≤(u:Int) by omega)]
   exact T.ret ⟨u,rfl,h,by rw[←he,wH h]⟩
  ·have hz:(strOfNums [((u%128%128+128:Nat):Int)]).size=1:=strOfNums_size _
   rw[decide_eq_true (show(128:Int)≤(u:Int) by omega),arO,asC,arN,OH (by omega) (by omega)]
   simp only[cond_true]
   refine T.grd (by rw[hz];omega) (T.ret ⟨u/128,rfl,by omega,inc k (by omega),?_,?_⟩)
   ·show(s++strOfNums [((u%128%128+128:Nat):Int)]).size=k+1
    rw[ByteArray.size_append,hz,hs]
   ·show(s++strOfNums [((u%128%128+128:Nat):Int)])++strOfNums (bQ (u/128))=_
    rw[ByteArray.append_assoc,←xQ,←he,oL h,show u%128%128=u%128 by omega];rfl
 ·rintro⟨v,s,i⟩ ⟨u,hv,hlt,hi,hs,he⟩
  obtain rfl:v=(u:Int):=hv
  obtain rfl:i=((10:Nat):Int):=hi
  have hs:s.size=10:=hs
  have he:s++strOfNums (bQ u)=strOfNums (bQ u0):=he
  have hc:=congrArg ByteArray.size he
  rw[ByteArray.size_append,strOfNums_size,strOfNums_size,hs] at hc
  have hp:1≤(bQ u).length:=by unfold bQ;rw[List.length_map];exact anD u
  omega
theorem lZ(n:Int)(h:I64 n):Q31 n=some (strOfNums (bQ (zz n))):=by
 have hz:zz n<18446744073709551616:=aby n h
 obtain⟨r,hr,u,h1,h2,h3⟩:=ai8 (zz n) hz
 have hs:=congrArg ByteArray.size h3
 have h10:(bQ (zz n)).length≤10:=by unfold bQ;rw[List.length_map];exact ug (zz n) hz
 rw[ByteArray.size_append,strOfNums_size,strOfNums_size] at hs
 unfold Q31 alV
 simp only[Mo.den,au,aj,ak,ay,aA,an6 n h,Option.bind_some,hr,h1,avX (show u<256 by omega)]
 rw[strOfNums_size,if_pos (by omega),h3]
theorem sH(n:Int)(h:I64 n):Q67 n=some ((bQ (zz n)).length:Int):=by
 have hz:zz n<18446744073709551616:=aby n h
 have h10:(bQ (zz n)).length≤10:=by unfold bQ;rw[List.length_map];exact ug (zz n) hz
 have key:Tot (akI 1 ((zz n:Nat):Int)) (fun r=>r=((bQ (zz n)).length:Int)):=by
  refine rO (T:=fun v_=>(rQ v_).den) (fun v=>∃u k:Nat,v=((k:Int),(u:Int))∧k+(bQ u).length=(bQ (zz n)).length+1) (fun v=>(bQ v.2.toNat).length) _ ?_ FU (1,((zz n:Nat):Int)) ⟨zz n,1,rfl,by omega⟩ (by have:=fJ;show(bQ ((zz n:Nat):Int).toNat).length<FU;rw[Int.toNat_natCast];omega)
  rintro _ ⟨u,k,rfl,he⟩
  by_cases h:u<128
  ·refine .inr ⟨(k:Int),?_,?_⟩
   ·simp only[rQ,Mo.den,au,aj,ak,ay,aA]
    rw[decide_eq_false (show ¬(128:Int)≤(u:Int) by omega)];rfl
   ·rw[wH h,List.length_cons,List.length_nil] at he
    show(k:Int)=_
    omega
  ·rw[oL h,List.length_cons] at he
   refine .inl ⟨(((k+1:Nat):Int),((u/128:Nat):Int)),?_,⟨u/128,k+1,rfl,by omega⟩,?_⟩
   ·simp only[rQ,Mo.den,au,aj,ak,ay,aA]
    rw[decide_eq_true (show(128:Int)≤(u:Int) by omega),avT (by omega),Int.toNat_natCast,inc k (by omega)];rfl
   ·show(bQ ((u/128:Nat):Int).toNat).length<(bQ ((u:Nat):Int).toNat).length
    rw[Int.toNat_natCast,Int.toNat_natCast,oL h,List.length_cons];omega
 obtain⟨r,hr,rfl⟩:=key
 unfold Q67 akJ
 simp only[Mo.den,au,aj,ak,ay,aA,Dw n h,Option.bind_some,hr]
end Go.Proofs.YtflpefkohpjjpaaGreatDoor
set_option linter.unusedSimpArgs false
set_option linter.unusedVariables false
namespace Go.Proofs.YtflpefkohpjjpaaGreatDoor
open Go.RowKit
def zlf:Lf→Bool
 |.int _ n=>n==0
 |.str s=>decide (s=⟨#[]⟩)
 |.bool b=>!b
 |.rows _ l=>(l.length:Int)==0
theorem ahm(n:Int)(h:I64 n):E5 n=strOfNums (bQ (zz n)):=by
 have h1:=ahc n
 rw[lZ n h] at h1
 exact(Option.some.inj h1).symm
def zs(k:Nat):List UInt8:=List.replicate k 0
theorem abS(l:List Int):(strOfNums l).data.toList=l.map fun n=>UInt8.ofNat n.toNat:=strOfNums_data l
theorem wI(a b:ByteArray):(a++b).data.toList=a.data.toList++b.data.toList:=by rw[ByteArray.data_append,Array.toList_append]
theorem OI{n:Int}(h:I64 n){r t:List UInt8}(e:(E5 n).data.toList++r=0::t):n=0∧r=t:=by
 rw[ahm n h,abS] at e
 by_cases hz:zz n<128
 ·rw[wH hz] at e
  simp only[List.map_cons,List.map_nil,List.cons_append,List.nil_append] at e
  injection e with e1 e2
  have e1:=congrArg UInt8.toNat e1
  rw[UInt8.toNat_ofNat',Int.toNat_natCast] at e1
  have e1:zz n%256=0:=e1
  refine⟨?_,e2⟩
  have hz0:zz n=0:=by omega
  have:=arH n
  rw[hz0] at this
  exact this.symm
 ·rw[oL hz] at e
  simp only[List.map_cons,List.cons_append] at e
  injection e with e1 e2
  have e1:=congrArg UInt8.toNat e1
  rw[UInt8.toNat_ofNat',Int.toNat_natCast] at e1
  have e1:(zz n%128+128)%256=0:=e1
  omega
theorem aeX:(E5 0).data.toList=[0]:=by
 rw[ahm 0 (by unfold I64;omega),abS,show zz 0=0 from rfl,wH (by omega)];rfl
theorem abT{n:Nat}(h:n≤maxLen):I64 (n:Int):=by unfold maxLen at h;unfold I64;omega
theorem an9{x:Lf}(h:zlf x=true):(wrF x).data.toList=[0]:=by
 cases x with
 |int k n=>unfold zlf at h;rw[eq_of_beq h];unfold wrF;exact aeX
 |str s=>
  unfold zlf at h
  have h:=of_decide_eq_true h
  unfold wrF
  rw[h,wI]
  show(E5 0).data.toList++[]=[0]
  rw[aeX];rfl
 |bool b=>unfold zlf at h;cases b with|true=>cases h|false=>unfold wrF;rfl
 |rows n l=>
  unfold zlf at h
  have hl:=len0 h
  unfold wrF
  rw[hl,wI]
  show(E5 0).data.toList++(wrQ []).data.toList=[0]
  rw[aeX,wrQ];rfl
theorem jc{k:IntKind}{n:Int}(hk:k=.i64)(h:zC (.int k n)):I64 n:=by
 subst hk
 have:=ahl h
 unfold I64;omega
def allI:List Lf→Bool
 |[]=>true
 |.int k _::r=>decide (k=.i64)&&allI r
 |_::r=>allI r
theorem aoa{x:Lf}(hf:zC x)(hk:∀k n,x=.int k n→k=.i64){r t:List UInt8}(e:(wrF x).data.toList++r=0::t):zlf x=true∧r=t:=by
 cases x with
 |int k n=>
  unfold wrF at e
  obtain⟨h1,h2⟩:=OI (jc (hk k n rfl) hf) e
  exact⟨by unfold zlf;rw[h1];rfl,h2⟩
 |str s=>
  unfold wrF at e
  rw[wI,List.append_assoc] at e
  unfold zC at hf
  obtain⟨h1,h2⟩:=OI (abT hf) e
  have hs:s=⟨#[]⟩:=size_nil (by omega)
  refine⟨by show decide (s=⟨#[]⟩)=true;exact decide_eq_true hs,?_⟩
  rw[hs] at h2;exact h2
 |bool b=>
  cases b with
  |true=>unfold wrF at e;injection e with e1 _;cases e1
  |false=>unfold wrF at e;injection e with _ e2;exact⟨rfl,e2⟩
 |rows n l=>
  unfold wrF at e
  rw[wI,List.append_assoc] at e
  unfold zC at hf
  obtain⟨h1,h2⟩:=OI (abT hf.1) e
  have hl:l=[]:=List.eq_nil_of_length_eq_zero (by omega)
  refine⟨by unfold zlf;rw[hl];rfl,?_⟩
  rw[hl,wrQ] at h2;exact h2
theorem OJ:∀l:List Lf,l.all zlf=true→(wrL l).data.toList=zs l.length
 |[],_=>by unfold wrL;rfl
 |x::r,h=>by
  rw[List.all_cons,Bool.and_eq_true] at h
  unfold wrL
  rw[wI,an9 h.1,OJ r h.2];rfl
theorem abU:∀l:List Lf,gQ l→allI l=true→(wrL l).data.toList=zs l.length→l.all zlf=true
 |[],_,_,_=>rfl
 |x::r,hf,hi,h=>by
  rw[iH] at hf
  unfold wrL at h
  rw[wI] at h
  have hi2:allI r=true∧∀k n,x=.int k n→k=.i64:=by
   cases x with
   |int k n=>
    unfold allI at hi
    rw[Bool.and_eq_true] at hi
    exact⟨hi.2,fun k' n' e=>by injection e with e1 _;subst e1;exact of_decide_eq_true hi.1⟩
   |str s=>unfold allI at hi;exact⟨hi,fun k' n' e=>by cases e⟩
   |bool b=>unfold allI at hi;exact⟨hi,fun k' n' e=>by cases e⟩
   |rows n l=>unfold allI at hi;exact⟨hi,fun k' n' e=>by cases e⟩
  obtain⟨h1,h2⟩:=aoa hf.1 hi2.2 (show(wrF x).data.toList++(wrL r).data.toList=0::zs r.length from h)
  rw[List.all_cons,h1,abU r hf.2 hi2.1 h2];rfl
theorem Vg{l z:List Lf}(hf:gQ l)(hi:allI l=true)(hz:z.all zlf=true)(hl:l.length=z.length):decide (wrL l=wrL z)=l.all zlf:=by
 have h1:=OJ z hz
 by_cases h:l.all zlf=true
 ·rw[h,decide_eq_true]
  apply ByteArray.ext
  apply Array.ext'
  rw[OJ l h,h1,hl]
 ·rw[show l.all zlf=false by simpa using h, decide_eq_false]
  intro e
  rw[←e,←hl] at h1
  exact h (abU l hf hi h1)
theorem wJ:∀(l m:List Lf),allI (l++m)=(allI l&&allI m)
 |[],m=>rfl
 |x::r,m=>by
  rw[List.cons_append]
  cases x<;>simp only[allI,wJ r m,Bool.and_assoc]
theorem OL(v:ah):allI v.lf1=true:=rfl
theorem abV(s:aI):allI s.lf1=true:=by
 unfold aI.lf1;simp only[wJ,OL];rfl
theorem ai9(s:aQ):allI s.lf1=true:=by
 unfold aQ.lf1;simp only[wJ,OL];rfl
theorem aja(s:aO):allI s.lf1=true:=by
 unfold aO.lf1 dL.lf1;simp only[wJ,OL,ai9];rfl
theorem aeY(s:aS):allI s.lf1=true:=by
 unfold aS.lf1;simp only[wJ,aja];rfl
theorem aeZ(s:bW):allI s.lf1=true:=by
 unfold bW.lf1;simp only[wJ,abV];rfl
theorem abW(d:bW)(hb:aP d.lf1≤100000000)(hf:gQ d.lf1):avc d=some (d.lf1.all zlf):=by
 have h1:=Iz d.lf1
 have h2:=abt d hb ⟨⟨#[]⟩,false,true⟩ rfl (by show 0+_≤_;omega)
 have hz:aP (bW.mk ⟨#[]⟩ [] aI.z 0 0).lf1=25:=by kernel_rfl
 have h3:=Iz (bW.mk ⟨#[]⟩ [] aI.z 0 0).lf1
 have h4:=abt (bW.mk ⟨#[]⟩ [] aI.z 0 0) (by omega) ⟨⟨#[]⟩,false,true⟩ rfl (by show 0+_≤_;omega)
 have hc:=Vg (z:=(bW.mk ⟨#[]⟩ [] aI.z 0 0).lf1) hf (aeZ d) (by kernel_rfl) (by unfold bW.lf1 aI.lf1 ah.lf1;rfl)
 have e:∀x:ByteArray,(⟨#[]⟩:ByteArray)++x=x:=fun x=>ByteArray.empty_append
 simp only[avc,am1,SK,Mo.den,au,aj,ak,ay,aA,h2,h4,Option.bind_some,e,hc,dD,gt0]
 unfold bW.lf1
 simp only[List.cons_append,List.nil_append,List.all_cons,zlf,List.length_map]
 cases decide (d.fName=⟨#[]⟩)<;>cases (d.bJ.length:Int)==0<;>rfl
theorem Jd(d:aS)(hb:aP d.lf1≤100000000)(hf:gQ d.lf1):avd d=some (d.lf1.all zlf):=by
 have h1:=Iz d.lf1
 have h2:=Oa d hb ⟨⟨#[]⟩,false,true⟩ rfl (by show 0+_≤_;omega)
 have hz:aP aS.z.lf1=31:=by kernel_rfl
 have h3:=Iz aS.z.lf1
 have h4:=Oa aS.z (by omega) ⟨⟨#[]⟩,false,true⟩ rfl (by show 0+_≤_;omega)
 have hc:=Vg (z:=aS.z.lf1) hf (aeY d) (by kernel_rfl) (by unfold aS.lf1 aO.lf1 aQ.lf1 dL.lf1 ah.lf1;rfl)
 have e:∀x:ByteArray,(⟨#[]⟩:ByteArray)++x=x:=fun x=>ByteArray.empty_append
 simp only[avd,am2,Mo.den,au,aj,ak,ay,aA,h2,h4,Option.bind_some,e,hc]
theorem aob(v:ah):v.lf1.all zlf=iW v:=by
 unfold ah.lf1 iW
 simp only[List.all_cons,List.all_nil,zlf,List.length_map,Bool.and_true,Bool.and_assoc]
theorem OM(s:aI):Q22 s=some (s.lf1.all zlf):=by
 unfold aI.lf1
 simp only[Q22,akl,dQ,Qo,Qn,Qm,Ql,Qk,Qj,Qi,Qh,Qg,Qe,Zr,Zq,Mo.den,au,aj,ak,ay,aA,Fz,Option.bind_some,dD,oK,List.all_append,List.all_cons,List.all_nil,aob,zlf,List.length_map,Bool.and_true,Bool.and_assoc]
theorem PD(d:bW):Q85 d=some (d.lf1.all zlf):=by
 unfold bW.lf1
 simp only[Q85,akm,dQ,Qq,Qp,Zu,Zt,Mo.den,au,aj,ak,ay,aA,OM,Option.bind_some,dD,oK,List.all_append,List.all_cons,List.all_nil,zlf,List.length_map,Bool.and_true,Bool.and_assoc]
theorem Yy(s:aQ):Q11 s=some (s.lf1.all zlf):=by
 unfold aQ.lf1
 simp only[Q11,akn,dQ,nO,nN,Qr,nK,o8,o7,Mo.den,au,aj,ak,ay,aA,Fz,Option.bind_some,dD,oK,List.all_append,List.all_cons,List.all_nil,aob,zlf,List.length_map,Bool.and_true,Bool.and_assoc]
theorem Yz(s:aO):Q17 s=some (s.lf1.all zlf):=by
 unfold aO.lf1 dL.lf1
 simp only[Q17,ako,dQ,Am,Qs,Ak,Aj,Ai,Ah,Ag,Af,Zv,uY,Mo.den,au,aj,ak,ay,aA,Fz,Yy,Option.bind_some,dD,oK,List.all_append,List.all_cons,List.all_nil,aob,zlf,List.length_map,Bool.and_true,Bool.and_assoc]
theorem PE(x:aS):Q62 x=some (x.lf1.all zlf):=by
 unfold aS.lf1
 simp only[Q62,akp,dQ,Qx,Qw,Qv,Qu,Zx,Zw,Mo.den,au,aj,ak,ay,aA,Yz,Option.bind_some,dD,oK,List.all_append,List.all_cons,List.all_nil,zlf,List.length_map,Bool.and_true,Bool.and_assoc]
end Go.Proofs.YtflpefkohpjjpaaGreatDoor
set_option linter.unusedSimpArgs false
set_option linter.unusedVariables false
namespace Go.Proofs.YtflpefkohpjjpaaGreatDoor
open Go.RowKit
theorem Bz{v:ah}(h:gQ v.lf1):I64 v.eF∧(∀x∈v.aT,gQ x.lf1)∧∀f∈v.aW,gQ f.fValue.lf1:=by
 unfold ah.lf1 at h
 simp only[iH] at h
 obtain⟨_,a2,_,a4,a5,_⟩:=h
 refine⟨jc rfl a2,fun x hx=>?_,fun f hf=>?_⟩
 ·have h2:=kL a4 hx
  rw[ah.aX] at h2;exact h2
 ·have h2:=kL a5 hf
  rw[aJ.aX] at h2
  unfold aJ.lf1 at h2
  exact(jq.1 h2).2
theorem Vh{T1:ByteArray×Int→Option ((ByteArray×Int)⊕ByteArray)}{T2:Int×Int→Option ((Int×Int)⊕Int)}(n:Nat)(hn:n≤100000000)(B:Nat→Nat)
 (h:∀(k:Nat) (acc:ByteArray),k<n→acc.size+B k≤2000000000→∃s:ByteArray,s.size+B (k+1)≤B k∧T1 (acc,(k:Int))=some (.inl (acc++s,IntKind.wrap .i64 ((k:Int)+1)))∧T2 ((acc.size:Int),(k:Int))=some (.inl (((acc++s).size:Int),IntKind.wrap .i64 ((k:Int)+1))))
 (e1:∀acc,T1 (acc,(n:Int))=some (.inr acc)) (e2:∀z,T2 (z,(n:Int))=some (.inr z)):
 ∀m k F acc,k+m=n→m<F→acc.size+B k≤2000000000→∃r:ByteArray,r.size≤acc.size+B k∧bV T1 F (acc,(k:Int))=some r∧bV T2 F ((acc.size:Int),(k:Int))=some (r.size:Int):=by
 intro m
 induction m with
 |zero=>
  intro k F acc hk hF hb
  obtain⟨F,rfl⟩:∃G,F=G+1:=⟨F-1,by omega⟩
  obtain rfl:k=n:=by omega
  refine⟨acc,by omega,?_,?_⟩
  ·unfold bV;rw[e1];rfl
  ·unfold bV;rw[e2];rfl
 |succ m ih=>
  intro k F acc hk hF hb
  obtain⟨F,rfl⟩:∃G,F=G+1:=⟨F-1,by omega⟩
  obtain⟨s,hs,h1,h2⟩:=h k acc (by omega) hb
  have hsz:(acc++s).size=acc.size+s.size:=ByteArray.size_append
  obtain⟨r,hr,g1,g2⟩:=ih (k+1) F (acc++s) (by omega) (by omega) (by omega)
  refine⟨r,by omega,?_,?_⟩
  ·unfold bV
   rw[h1]
   simp only[Option.bind_some]
   rw[inc k (by omega)];exact g1
  ·unfold bV
   rw[h2]
   simp only[Option.bind_some]
   rw[inc k (by omega)];exact g2
theorem drop_cons'{α:Type}(f:α→List Lf){l:List α}{k:Nat}{x:α}(h:l[k]?=some x):bK ((l.drop k).map f)=aP (f x)+bK ((l.drop (k+1)).map f):=by
 have hk:=nX h
 have hx:l[k]=x:=by rw[List.getElem?_eq_getElem hk] at h;exact Option.some.inj h
 rw[List.drop_eq_getElem_cons hk,hx,List.map_cons];rfl
theorem jU{n:Nat}(h:n≤4000000000000):I64 (n:Int):=by unfold I64;omega
theorem sn1(x:Int):(strOfNums [x]).size=1:=strOfNums_size _
theorem gB{n:Int}(h:I64 n):(bQ (zz n)).length≤10:=by unfold bQ;rw[List.length_map];exact ug (zz n) (aby n h)
theorem ajb(n:Nat):∀(F G:Nat) (v:ah),aP v.lf1<n→n≤F→n≤G→aP v.lf1≤100000000→gQ v.lf1→∃s:ByteArray,s.size≤12*aP v.lf1∧(pU F).m1 v=some s∧(qV G).m1 v=some (s.size:Int):=by
 induction n with
 |zero=>intro F G v h;omega
 |succ n ih=>
  intro F G v hlt hF hG hb hf
  obtain⟨F,rfl⟩:∃K,F=K+1:=⟨F-1,by omega⟩
  obtain⟨G,rfl⟩:∃K,G=K+1:=⟨G-1,by omega⟩
  have hp:=dF v
  have hl:=fH v.aT
  have hd:=fK v.aW
  obtain⟨f1,f2,f3⟩:=Bz hf
  have iT:=jU (n:=v.fText.size) (by omega)
  have iL:=jU (n:=v.aT.length) (by omega)
  have iD:=jU (n:=v.aW.length) (by omega)
  have bI:=gB f1
  have bT:=gB iT
  have bL:=gB iL
  have bD:=gB iD
  have hL:∀acc:ByteArray,acc.size≤1000→∃r:ByteArray,r.size≤acc.size+12*bK (v.aT.map ah.lf)∧ad6 (pU F) v acc 0=some r∧afQ (qV G) v (acc.size:Int) 0=some (r.size:Int):=fun acc ha=>by
   refine Vh v.aT.length (by omega) (fun k=>12*bK ((v.aT.drop k).map ah.lf)) (fun k acc hk hacc=>?_) (fun acc=>by simp only[vK,Mo.den,au,aj,ak,ay,aA,ltn,cond_false]) (fun z=>by simp only[vw,Mo.den,au,aj,ak,ay,aA,ltn,cond_false]) v.aT.length 0 FU acc (by omega) (by have:=fJ;omega) (by rw[List.drop_zero];omega)
   obtain⟨x,hx⟩:∃x,v.aT[k]?=some x:=⟨_,List.getElem?_eq_getElem hk⟩
   have hm:=gJ (gG hx)
   have hdr:=drop_cons' ah.lf hx
   rw[ah.aX] at hdr
   obtain⟨s,hs,h1,h2⟩:=ih F G x (by omega) (by omega) (by omega) (by omega) (f2 x (gG hx))
   have hacc:acc.size+12*bK ((v.aT.drop k).map ah.lf)≤2000000000:=hacc
   have hsz:(acc++s).size=acc.size+s.size:=ByteArray.size_append
   refine⟨s,by show s.size+12*bK ((v.aT.drop (k+1)).map ah.lf)≤12*bK ((v.aT.drop k).map ah.lf);omega,?_,?_⟩
   ·simp only[vK,Mo.den,au,aj,ak,ay,aA,ltt hx,gid hx,cond_true,Option.bind_some,h1]
    rw[if_pos (by omega)]
   ·simp only[vw,Mo.den,au,aj,ak,ay,aA,ltt hx,gid hx,cond_true,Option.bind_some,h2]
    rw[hsz,w64 (by omega) (by omega)];rfl
  have hD:∀acc:ByteArray,acc.size≤1000→∃r:ByteArray,r.size≤acc.size+12*bK (v.aW.map aJ.lf)∧ad7 (pU F) v acc 0=some r∧afR (qV G) v (acc.size:Int) 0=some (r.size:Int):=fun acc ha=>by
   refine Vh v.aW.length (by omega) (fun k=>12*bK ((v.aW.drop k).map aJ.lf)) (fun k acc hk hacc=>?_) (fun acc=>by simp only[vM,Mo.den,au,aj,ak,ay,aA,ltn,cond_false]) (fun z=>by simp only[vC,Mo.den,au,aj,ak,ay,aA,ltn,cond_false]) v.aW.length 0 FU acc (by omega) (by have:=fJ;omega) (by rw[List.drop_zero];omega)
   obtain⟨x,hx⟩:∃x,v.aW[k]?=some x:=⟨_,List.getElem?_eq_getElem hk⟩
   have hm:=fE (gG hx)
   have hdr:=drop_cons' aJ.lf hx
   rw[aJ.aX,dY] at hdr
   rw[dY] at hm
   have iN:=jU (n:=x.fName.size) (by omega)
   have bN:=gB iN
   obtain⟨s,hs,h1,h2⟩:=ih F G x.fValue (by omega) (by omega) (by omega) (by omega) (f3 x (gG hx))
   have hacc:acc.size+12*bK ((v.aW.drop k).map aJ.lf)≤2000000000:=hacc
   have hnz:(strOfNums (bQ (zz (x.fName.size:Int)))).size=(bQ (zz (x.fName.size:Int))).length:=strOfNums_size _
   have z1:(acc++strOfNums (bQ (zz (x.fName.size:Int)))).size=acc.size+(bQ (zz (x.fName.size:Int))).length:=by rw[ByteArray.size_append,hnz]
   have z2:(acc++strOfNums (bQ (zz (x.fName.size:Int)))++x.fName).size=acc.size+(bQ (zz (x.fName.size:Int))).length+x.fName.size:=by rw[ByteArray.size_append,z1]
   have hsz:(acc++(strOfNums (bQ (zz (x.fName.size:Int)))++x.fName++s)).size=acc.size+((bQ (zz (x.fName.size:Int))).length+x.fName.size+s.size):=by rw[ByteArray.size_append,ByteArray.size_append,ByteArray.size_append,hnz]
   refine⟨strOfNums (bQ (zz (x.fName.size:Int)))++x.fName++s,?_,?_,?_⟩
   ·show _+12*bK ((v.aW.drop (k+1)).map aJ.lf)≤12*bK ((v.aW.drop k).map aJ.lf)
    rw[ByteArray.size_append,ByteArray.size_append,hnz];omega
   ·simp only[vM,Mo.den,au,aj,ak,ay,aA,ltt hx,gid hx,cond_true,Option.bind_some,h1,lZ _ iN]
    rw[hnz,if_pos (by omega),z1,if_pos (by omega),z2,if_pos (by omega)]
    simp only[ByteArray.append_assoc]
   ·simp only[vC,Mo.den,au,aj,ak,ay,aA,ltt hx,gid hx,cond_true,Option.bind_some,h2,sH _ iN]
    rw[hsz,w64 (x:=((bQ (zz (x.fName.size:Int))).length:Int)+(x.fName.size:Int)) (by omega) (by omega),w64 (x:=((bQ (zz (x.fName.size:Int))).length:Int)+(x.fName.size:Int)+(s.size:Int)) (by omega) (by omega),w64 (by omega) (by omega)];rfl
  have key:∃s:ByteArray,s.size≤12*aP v.lf1∧Nv (pU F) v=some s∧Ws (qV G) v=some (s.size:Int):=by
   have zI:(strOfNums (bQ (zz v.eF))).size=(bQ (zz v.eF)).length:=strOfNums_size _
   have zT:(strOfNums (bQ (zz (v.fText.size:Int)))).size=(bQ (zz (v.fText.size:Int))).length:=strOfNums_size _
   have zL:(strOfNums (bQ (zz (v.aT.length:Int)))).size=(bQ (zz (v.aT.length:Int))).length:=strOfNums_size _
   have zD:(strOfNums (bQ (zz (v.aW.length:Int)))).size=(bQ (zz (v.aW.length:Int))).length:=strOfNums_size _
   unfold Nv ED Ws GX
   simp only[Mo.den,au,aj,ak,ay,aA,Xy,Xz,LG,LH,dD,Option.bind_some,lZ _ f1,lZ _ iT,lZ _ iL,lZ _ iD,sH _ f1,sH _ iT,sH _ iL,sH _ iD]
   generalize (bif v.aF==3 then v.aF==3 else v.aF==10)=q1
   generalize (bif v.aF==4 then v.aF==4 else v.aF==7)=q2
   cases q1 with
   |true=>
    simp only[cond_true]
    have z:(strOfNums [IntKind.wrap .u8 v.aF]++strOfNums (bQ (zz v.eF))).size=1+(bQ (zz v.eF)).length:=by rw[ByteArray.size_append,sn1,zI]
    refine⟨_,?_,by rw[sn1,zI,if_pos (by omega)],by rw[z,w64 (by omega) (by omega)];rfl⟩
    rw[z];omega
   |false=>
   simp only[cond_false]
   cases v.aF==9 with
   |true=>
    simp only[cond_true]
    refine⟨strOfNums [IntKind.wrap .u8 v.aF]++strOfNums [IntKind.wrap .u8 v.eF],?_,by rw[sn1,sn1,if_pos (by omega)],by rw[ByteArray.size_append,sn1,sn1];rfl⟩
    rw[ByteArray.size_append,sn1,sn1];omega
   |false=>
   simp only[cond_false]
   cases q2 with
   |true=>
    simp only[cond_true]
    have z0:(strOfNums [IntKind.wrap .u8 v.aF]++strOfNums (bQ (zz (v.fText.size:Int)))).size=1+(bQ (zz (v.fText.size:Int))).length:=by rw[ByteArray.size_append,sn1,zT]
    have z:(strOfNums [IntKind.wrap .u8 v.aF]++strOfNums (bQ (zz (v.fText.size:Int)))++v.fText).size=1+(bQ (zz (v.fText.size:Int))).length+v.fText.size:=by rw[ByteArray.size_append,z0]
    refine⟨_,?_,by rw[sn1,zT,if_pos (by omega),z0,if_pos (by omega)],by rw[z,w64 (x:=((bQ (zz (v.fText.size:Int))).length:Int)+(v.fText.size:Int)) (by omega) (by omega),w64 (by omega) (by omega)];congr 1;omega⟩
    rw[z];omega
   |false=>
   simp only[cond_false]
   cases v.aF==8 with
   |true=>
    simp only[cond_true]
    have z:(strOfNums [IntKind.wrap .u8 v.aF]++v.fText).size=1+v.fText.size:=by rw[ByteArray.size_append,sn1]
    refine⟨_,?_,by rw[sn1,if_pos (by omega)],by rw[z,w64 (by omega) (by omega)];rfl⟩
    rw[z];omega
   |false=>
   simp only[cond_false]
   cases v.aF==6 with
   |true=>
    simp only[cond_true]
    have z:(strOfNums [IntKind.wrap .u8 v.aF]++strOfNums (bQ (zz (v.aT.length:Int)))).size=1+(bQ (zz (v.aT.length:Int))).length:=by rw[ByteArray.size_append,sn1,zL]
    obtain⟨r,hr,g1,g2⟩:=hL _ (show(strOfNums [IntKind.wrap .u8 v.aF]++strOfNums (bQ (zz (v.aT.length:Int)))).size≤1000 by omega)
    rw[z] at g2
    refine⟨r,by omega,by rw[sn1,zL,if_pos (by omega),g1];rfl,?_⟩
    rw[w64 (by omega) (by omega),show(1:Int)+((bQ (zz (v.aT.length:Int))).length:Int)=((1+(bQ (zz (v.aT.length:Int))).length:Nat):Int) by omega,g2];rfl
   |false=>
   simp only[cond_false]
   cases v.aF==5 with
   |true=>
    simp only[cond_true]
    have z:(strOfNums [IntKind.wrap .u8 v.aF]++strOfNums (bQ (zz (v.aW.length:Int)))).size=1+(bQ (zz (v.aW.length:Int))).length:=by rw[ByteArray.size_append,sn1,zD]
    obtain⟨r,hr,g1,g2⟩:=hD _ (show(strOfNums [IntKind.wrap .u8 v.aF]++strOfNums (bQ (zz (v.aW.length:Int)))).size≤1000 by omega)
    rw[z] at g2
    refine⟨r,by omega,by rw[sn1,zD,if_pos (by omega),g1];rfl,?_⟩
    rw[w64 (by omega) (by omega),show(1:Int)+((bQ (zz (v.aW.length:Int))).length:Int)=((1+(bQ (zz (v.aW.length:Int))).length:Nat):Int) by omega,g2];rfl
   |false=>
    simp only[cond_false]
    exact⟨_,by rw[sn1];omega,rfl,by rw[sn1];rfl⟩
  obtain⟨s,hs,g1,g2⟩:=key
  refine⟨s,hs,?_,?_⟩
  ·show Mo.den (aiw (pU F) v)=_
   unfold aiw
   simp only[Mo.den,au,aj,ak,ay,aA,g1,Option.bind_some]
  ·show Mo.den (ZI (qV G) v)=_
   unfold ZI
   simp only[Mo.den,au,aj,ak,ay,aA,g2,Option.bind_some]
theorem ajc(v:ah)(hb:aP v.lf1≤100000000)(hf:gQ v.lf1):avh v=akK v∧∃c,akK v=some c∧(lX v=true→c.2=0):=by
 obtain⟨s,_,h1,h2⟩:=ajb (aP v.lf1+1) FU FU v (by omega) (by have:=fJ;omega) (by have:=fJ;omega) hb hf
 have h1:Q6 v=some s:=h1
 have h2:Q34 v=some (s.size:Int):=h2
 simp only[avh,am6,Mo.den,au,aj,ak,ay,aA,aqF,ad8,Mo.den,au,aj,ak,ay,aA,akK,ac0,Mo.den,au,aj,ak,ay,aA,lN v hb,kF v hb,h1,h2,Option.bind_some]
 cases lX v with
 |false=>exact⟨rfl,_,rfl,fun h=>by cases h⟩
 |true=>exact⟨rfl,_,rfl,fun _=>rfl⟩
end Go.Proofs.YtflpefkohpjjpaaGreatDoor
set_option linter.unusedSimpArgs false
set_option linter.unusedVariables false
namespace Go.Proofs.YtflpefkohpjjpaaGreatDoor
open Go.RowKit
mutual
def vb:ah→List Int
 |.mk k i t l d=>IntKind.wrap .u8 k::(bif k==3||k==10 then bQ (zz i) else bif k==9 then [IntKind.wrap .u8 i] else bif k==4||k==7 then bQ (zz (t.size:Int))++numsOf t else bif k==8 then numsOf t else bif k==6 then bQ (zz (l.length:Int))++vbL l else bif k==5 then bQ (zz (d.length:Int))++vbD d else [])
def vbL:List ah→List Int
 |[]=>[]
 |x::r=>vb x++vbL r
def vbD:List aJ→List Int
 |[]=>[]
 |.mk n v::r=>(bQ (zz (n.size:Int))++numsOf n++vb v)++vbD r
end
def vbF(f:aJ):List Int:=bQ (zz (f.fName.size:Int))++numsOf f.fName++vb f.fValue
theorem aoc:∀l:List ah,vbL l=(l.map vb).flatten
 |[]=>by rw[vbL];rfl
 |x::r=>by rw[vbL,aoc r];rfl
theorem aod:∀l:List aJ,vbD l=(l.map vbF).flatten
 |[]=>by rw[vbD];rfl
 |.mk n v::r=>by rw[vbD,aod r];rfl
theorem abX(v:ah):vb v=IntKind.wrap .u8 v.aF::(bif v.aF==3||v.aF==10 then bQ (zz v.eF) else bif v.aF==9 then [IntKind.wrap .u8 v.eF] else bif v.aF==4||v.aF==7 then bQ (zz (v.fText.size:Int))++numsOf v.fText else bif v.aF==8 then numsOf v.fText else bif v.aF==6 then bQ (zz (v.aT.length:Int))++(v.aT.map vb).flatten else bif v.aF==5 then bQ (zz (v.aW.length:Int))++(v.aW.map vbF).flatten else []):=by
 cases v
 rw[vb,aoc,aod];rfl
theorem BA{α:Type}(e:α→List Int)(lf:α→List Lf)(l:List α)(h:∀x∈l,(e x).length≤12*aP (lf x)):((l.map e).flatten).length≤12*bK (l.map lf):=by
 induction l with
 |nil=>exact Nat.zero_le _
 |cons x r ih=>
  simp only[List.map_cons,List.flatten_cons,List.length_append,bK]
  have:=h x (List.mem_cons_self ..)
  have:=ih fun y hy=>h y (List.mem_cons_of_mem _ hy)
  omega
theorem aoe(n:Nat):∀v:ah,aP v.lf1<n→aP v.lf1≤100000000→gQ v.lf1→(vb v).length≤12*aP v.lf1:=by
 induction n with
 |zero=>intro v h;omega
 |succ n ih=>
  intro v hlt hb hf
  have hp:=dF v
  have hl:=fH v.aT
  have hd:=fK v.aW
  obtain⟨f1,f2,f3⟩:=Bz hf
  have bI:=gB f1
  have bT:=gB (jU (n:=v.fText.size) (by omega))
  have bL:=gB (jU (n:=v.aT.length) (by omega))
  have bD:=gB (jU (n:=v.aW.length) (by omega))
  have hL:=BA vb ah.lf v.aT fun x hx=>by
   have hm:=gJ hx
   rw[ah.aX];exact ih x (by omega) (by omega) (f2 x hx)
  have hD:=BA vbF aJ.lf v.aW fun x hx=>by
   have hm:=fE hx
   rw[dY] at hm
   rw[aJ.aX,dY]
   have:=ih x.fValue (by omega) (by omega) (f3 x hx)
   have:=gB (jU (n:=x.fName.size) (by omega))
   unfold vbF
   rw[List.length_append,List.length_append,iV];omega
  rw[abX,List.length_cons]
  have key:∀(c:Bool) (a b:List Int) (m:Nat),a.length≤m→b.length≤m→(bif c then a else b).length≤m:=fun c a b m h1 h2=>by cases c<;>assumption
  have:(bif v.aF==3||v.aF==10 then bQ (zz v.eF) else bif v.aF==9 then [IntKind.wrap .u8 v.eF] else bif v.aF==4||v.aF==7 then bQ (zz (v.fText.size:Int))++numsOf v.fText else bif v.aF==8 then numsOf v.fText else bif v.aF==6 then bQ (zz (v.aT.length:Int))++(v.aT.map vb).flatten else bif v.aF==5 then bQ (zz (v.aW.length:Int))++(v.aW.map vbF).flatten else []).length≤12*aP v.lf1-1:=by
   refine key _ _ _ _ (by omega) (key _ _ _ _ (by simp only[List.length_cons,List.length_nil];omega) (key _ _ _ _ (by rw[List.length_append,iV];omega) (key _ _ _ _ (by rw[iV];omega) (key _ _ _ _ (by rw[List.length_append];omega) (key _ _ _ _ (by rw[List.length_append];omega) (by simp only[List.length_nil];omega))))))
  omega
theorem FN{α:Type}{L:Int×List Int→Option ((Int×List Int)⊕List Int)}(l:List α)(hl:l.length≤100000000)(e:α→List Int)(B:Nat)
 (hs:∀(k:Nat) (x:α) (bs:List Int),l[k]?=some x→bs.length+(e x).length≤B→L ((k:Int),bs)=some (.inl (IntKind.wrap .i64 ((k:Int)+1),bs++e x)))
 (he:∀bs,L ((l.length:Int),bs)=some (.inr bs)) (acc:List Int) (hb:acc.length+((l.map e).flatten).length≤B):bV L FU (0,acc)=some (acc++(l.map e).flatten):=by
 have key:Tot (bV L FU (0,acc)) (fun q=>q=acc++(l.map e).flatten):=by
  refine T.nV l.length (by omega) (fun k s=>s=((k:Int),acc++((l.take k).map e).flatten)) _ (by simp) ?_ ?_
  ·rintro k s hk rfl
   have hx:=List.getElem?_eq_getElem hk
   have h1:=xP e l (k+1)
   rw[rG e hx,List.length_append] at h1
   rw[hs k _ _ hx (by rw[List.length_append];omega)]
   refine T.ret ?_
   show _=_
   rw[inc k (by omega),rG e hx,List.append_assoc]
  ·rintro s rfl
   rw[he,List.take_length]
   exact T.ret rfl
 obtain⟨q,h,rfl⟩:=key
 exact h
theorem Vj{α:Type}{L:ByteArray×Int→Option ((ByteArray×Int)⊕ByteArray)}(l:List α)(hl:l.length≤100000000)(e:α→List Int)(B:Nat)
 (hs:∀(k:Nat) (x:α) (bs:ByteArray),l[k]?=some x→bs.size+(e x).length≤B→L (bs,(k:Int))=some (.inl (bs++strOfNums (e x),IntKind.wrap .i64 ((k:Int)+1))))
 (he:∀bs,L (bs,(l.length:Int))=some (.inr bs)) (acc:ByteArray) (hb:acc.size+((l.map e).flatten).length≤B):bV L FU (acc,0)=some (acc++strOfNums ((l.map e).flatten)):=by
 have key:Tot (bV L FU (acc,0)) (fun q=>q=acc++strOfNums ((l.map e).flatten)):=by
  refine T.nV l.length (by omega) (fun k s=>s=(acc++strOfNums (((l.take k).map e).flatten),(k:Int))) _ (by show(acc,(0:Int))=(acc++ByteArray.empty,((0:Nat):Int));rw[ByteArray.append_empty];rfl) ?_ ?_
  ·rintro k s hk rfl
   have hx:=List.getElem?_eq_getElem hk
   have h1:=xP e l (k+1)
   rw[rG e hx,List.length_append] at h1
   rw[hs k _ _ hx (by rw[ByteArray.size_append,strOfNums_size];omega)]
   refine T.ret ?_
   show _=_
   rw[inc k (by omega),rG e hx,xQ,ByteArray.append_assoc]
  ·rintro s rfl
   rw[he,List.take_length]
   exact T.ret rfl
 obtain⟨q,h,rfl⟩:=key
 exact h
end Go.Proofs.YtflpefkohpjjpaaGreatDoor
set_option linter.unusedSimpArgs false
set_option linter.unusedVariables false
namespace Go.Proofs.YtflpefkohpjjpaaGreatDoor
open Go.RowKit
theorem axT(R:rW)(v:ah)(hb:aP v.lf1≤100000000)(hR:∀f∈v.aW,∀l:List Int,l.length+20*aP f.fValue.lf1≤10000000000→Tot (R.m2 f.fValue l) (fun r=>r.length≤l.length+20*aP f.fValue.lf1))(l:List Int)(hl:l.length+20*bK (v.aW.map aJ.lf)≤10000000000):
 Tot (af7 R v 0 l) (fun r=>r.length≤l.length+20*bK (v.aW.map aJ.lf)):=by
 have h0:=fK v.aW
 rw[dF] at hb
 refine T.nV v.aW.length (by omega) (fun k s=>s.1=(k:Int)∧s.2.length≤l.length+20*bK ((v.aW.take k).map aJ.lf)) _ ⟨rfl,Nat.le_add_right _ _⟩ ?_ ?_
 ·rintro k ⟨i,m⟩ hk ⟨hi,hm⟩
  have hi:i=(k:Int):=hi
  have hm:m.length≤l.length+20*bK ((v.aW.take k).map aJ.lf):=hm
  subst hi
  have hx:=List.getElem?_eq_getElem hk
  have e1:=xG aJ.lf hx
  have e2:=jF aJ.lf v.aW (k+1)
  rw[aJ.aX,dY] at e1
  simp only[rE,Mo.den,au,aj,ak,ay,aA,ltt hx,gid hx,cond_true,Option.bind_some]
  exact T.bind (uo _ m (by omega)) fun r hr=>T.bind (hR _ (List.getElem_mem hk) r (by omega)) fun r2 hr2=>T.ret ⟨inc k (by omega),by show r2.length≤_;omega⟩
 ·rintro⟨i,m⟩ ⟨hi,hm⟩
  have hi:i=(v.aW.length:Int):=hi
  subst hi
  simp only[rE,Mo.den,au,aj,ak,ay,aA,ltn,cond_false]
  rw[List.take_length] at hm
  exact T.ret hm
theorem asE:∀(F:Nat) (v:ah) (l:List Int),aP v.lf1≤F→aP v.lf1≤100000000→l.length+20*aP v.lf1≤10000000000→Tot ((lg F).m2 v l) (fun r=>r.length≤l.length+20*aP v.lf1):=by
 intro F
 induction F with
 |zero=>intro v l h;rw[dF] at h;omega
 |succ F ih=>
  intro v l hF hb hl
  have hp:=dF v
  have h1:=fH v.aT
  have h2:=fK v.aW
  show Tot (Mo.den (Sz (lg F) v l)) _
  have hL:=fun m hm=>axS (lg F) v hb (fun x hx l' hl'=>ih x l' (by have:=gJ hx;omega) (by have:=gJ hx;omega) hl') m hm
  have hD:=fun m hm=>axT (lg F) v hb (fun f hf l' hl'=>ih f.fValue l' (by have:=fE hf;rw[dY] at this;omega) (by have:=fE hf;rw[dY] at this;omega) hl') m hm
  simp only[Sz,Nh,Nj,He,Mo.den,au,aj,ak,ay,aA]
  refine T.grd (by simp only[List.length_cons,List.length_nil];omega) ?_
  have e0:(l++[IntKind.wrap .u8 v.aF]).length=l.length+1:=by rw[List.length_append];rfl
  refine T.bind (R:=fun r=>r.length≤l.length+20*aP v.lf1) (T.bind (R:=Any) (T.ite (fun _=>T.any) fun _=>T.any) fun _ _=>T.ite (fun _=>T.bind (gI _ _ (by omega)) fun r hr=>T.ret (by omega)) fun _=>T.ite (fun _=>T.grd (by simp only[List.length_append,List.length_cons,List.length_nil];omega) (T.ret (by simp only[List.length_append,List.length_cons,List.length_nil];omega))) fun _=>T.bind (R:=Any) (T.ite (fun _=>T.any) fun _=>T.any) fun _ _=>T.ite (fun _=>T.bind (uo _ _ (by omega)) fun r hr=>T.ret (by omega)) fun _=>T.ite (fun _=>T.grd (by omega) (T.ret (by rw[List.length_append,iV];omega))) fun _=>T.ite (fun _=>T.bind (gI _ _ (by omega)) fun r hr=>T.bind (hL r (by omega)) fun r2 hr2=>T.ret (by omega)) fun _=>T.ite (fun _=>T.bind (gI _ _ (by omega)) fun r hr=>T.bind (hD r (by omega)) fun r2 hr2=>T.ret (by omega)) fun _=>T.ret (by omega)) fun r hr=>T.ret hr
end Go.Proofs.YtflpefkohpjjpaaGreatDoor
set_option linter.unusedSimpArgs false
set_option linter.unusedVariables false
namespace Go.Proofs.YtflpefkohpjjpaaGreatDoor
open Go.RowKit
theorem awY(R:rW)(v:ah)(hb:aP v.lf1≤100000000)(hR:∀x∈v.aT,∀l:List Int,l.length+20*aP x.lf1≤10000000000→Tot (R.m2 x l) (fun r=>r.length≤l.length+20*aP x.lf1))(l:List Int)(hl:l.length+20*bK (v.aT.map ah.lf)≤10000000000):
 Tot (af4 R v 0 l) (fun r=>r.length≤l.length+20*bK (v.aT.map ah.lf)):=by
 have h0:=fH v.aT
 rw[dF] at hb
 refine T.nV v.aT.length (by omega) (fun k s=>s.1=(k:Int)∧s.2.length≤l.length+20*bK ((v.aT.take k).map ah.lf)) _ ⟨rfl,Nat.le_add_right _ _⟩ ?_ ?_
 ·rintro k ⟨i,m⟩ hk ⟨hi,hm⟩
  have hi:i=(k:Int):=hi
  have hm:m.length≤l.length+20*bK ((v.aT.take k).map ah.lf):=hm
  subst hi
  have hx:=List.getElem?_eq_getElem hk
  have e1:=xG ah.lf hx
  have e2:=jF ah.lf v.aT (k+1)
  rw[ah.aX] at e1
  simp only[ru,Mo.den,au,aj,ak,ay,aA,ltt hx,gid hx,cond_true,Option.bind_some]
  exact T.bind (hR _ (List.getElem_mem hk) m (by omega)) fun r hr=>T.ret ⟨inc k (by omega),by show r.length≤_;omega⟩
 ·rintro⟨i,m⟩ ⟨hi,hm⟩
  have hi:i=(v.aT.length:Int):=hi
  subst hi
  simp only[ru,Mo.den,au,aj,ak,ay,aA,ltn,cond_false]
  rw[List.take_length] at hm
  exact T.ret hm
theorem awZ(R:rW)(v:ah)(hb:aP v.lf1≤100000000)(hR:∀f∈v.aW,∀l:List Int,l.length+20*aP f.fValue.lf1≤10000000000→Tot (R.m2 f.fValue l) (fun r=>r.length≤l.length+20*aP f.fValue.lf1))(l:List Int)(hl:l.length+20*bK (v.aW.map aJ.lf)≤10000000000):
 Tot (af5 R v 0 l) (fun r=>r.length≤l.length+20*bK (v.aW.map aJ.lf)):=by
 have h0:=fK v.aW
 rw[dF] at hb
 refine T.nV v.aW.length (by omega) (fun k s=>s.1=(k:Int)∧s.2.length≤l.length+20*bK ((v.aW.take k).map aJ.lf)) _ ⟨rfl,Nat.le_add_right _ _⟩ ?_ ?_
 ·rintro k ⟨i,m⟩ hk ⟨hi,hm⟩
  have hi:i=(k:Int):=hi
  have hm:m.length≤l.length+20*bK ((v.aW.take k).map aJ.lf):=hm
  subst hi
  have hx:=List.getElem?_eq_getElem hk
  have e1:=xG aJ.lf hx
  have e2:=jF aJ.lf v.aW (k+1)
  rw[aJ.aX,dY] at e1
  simp only[rC,Mo.den,au,aj,ak,ay,aA,ltt hx,gid hx,cond_true,Option.bind_some]
  exact T.bind (uo _ m (by omega)) fun r hr=>T.bind (hR _ (List.getElem_mem hk) r (by omega)) fun r2 hr2=>T.ret ⟨inc k (by omega),by show r2.length≤_;omega⟩
 ·rintro⟨i,m⟩ ⟨hi,hm⟩
  have hi:i=(v.aW.length:Int):=hi
  subst hi
  simp only[rC,Mo.den,au,aj,ak,ay,aA,ltn,cond_false]
  rw[List.take_length] at hm
  exact T.ret hm
theorem aw0(v:ah)(hb:aP v.lf1≤100000000):Tot (Q20 v) (fun r=>r.length≤20*aP v.lf1):=by
 have hp:=dF v
 have h1:=fH v.aT
 have h2:=fK v.aW
 obtain⟨F,hF⟩:∃F,FU=F+1:=⟨FU-1,by have:=fJ;omega⟩
 have hB:=fJ
 show Tot ((lg FU).m1 v) _
 rw[hF]
 show Tot (Mo.den (Sv (lg F) v)) _
 have hL:=fun m hm=>awY (lg F) v hb (fun x hx l' hl'=>asE F x l' (by have:=gJ hx;omega) (by have:=gJ hx;omega) hl') m hm
 have hD:=fun m hm=>awZ (lg F) v hb (fun f hf l' hl'=>asE F f.fValue l' (by have:=fE hf;rw[dY] at this;omega) (by have:=fE hf;rw[dY] at this;omega) hl') m hm
 simp only[Sv,Nb,Nc,G9,Mo.den,au,aj,ak,ay,aA]
 refine T.grd (by simp only[List.length_cons,List.length_nil];omega) ?_
 have e0:([IntKind.wrap .u8 v.aF]:List Int).length=1:=rfl
 refine T.bind (R:=fun r=>r.length≤20*aP v.lf1) (T.bind (R:=Any) (T.ite (fun _=>T.any) fun _=>T.any) fun _ _=>T.ite (fun _=>T.bind (gI _ _ (by omega)) fun r hr=>T.ret (by omega)) fun _=>T.ite (fun _=>T.grd (by simp only[List.length_cons,List.length_nil];omega) (T.ret (by simp only[List.length_append,List.length_cons,List.length_nil];omega))) fun _=>T.bind (R:=Any) (T.ite (fun _=>T.any) fun _=>T.any) fun _ _=>T.ite (fun _=>T.bind (uo _ _ (by omega)) fun r hr=>T.ret (by omega)) fun _=>T.ite (fun _=>T.grd (by omega) (T.ret (by rw[List.length_append,iV];omega))) fun _=>T.ite (fun _=>T.bind (gI _ _ (by omega)) fun r hr=>T.bind (hL r (by omega)) fun r2 hr2=>T.ret (by omega)) fun _=>T.ite (fun _=>T.bind (gI _ _ (by omega)) fun r hr=>T.bind (hD r (by omega)) fun r2 hr2=>T.ret (by omega)) fun _=>T.ret (by omega)) fun r hr=>T.ret hr
noncomputable def PG(v:ah):ByteArray:=((alc v).getD (⟨#[]⟩,0)).1
theorem xR(v:ah)(hb:aP v.lf1≤100000000):alc v=some (bif lX v then(PG v,0) else(⟨#[]⟩,8))∧(PG v).size≤20*aP v.lf1:=by
 have hp:=dF v
 unfold PG
 simp only[alc,adE,Mo.den,au,aj,ak,ay,aA,kF v hb,Option.bind_some]
 cases lX v with
 |false=>exact⟨rfl,Nat.zero_le _⟩
 |true=>
  obtain⟨r,h,hr⟩:=aw0 v hb
  rw[h]
  refine⟨rfl,?_⟩
  show(strOfNums r).size≤_
  rw[strOfNums_size];exact hr
noncomputable def iw(v:ah):List Int:=bif iW v then [0] else bif lX v then [1]++numsOf (PG v) else []
def ji(v:ah):Bool:=!iW v&&!lX v
theorem oM(v:ah)(hb:aP v.lf1≤100000000):(iw v).length≤20*aP v.lf1+1:=by
 unfold iw
 have:=(xR v hb).2
 cases iW v<;>cases lX v<;>simp only[cond_true,cond_false,List.length_append,List.length_cons,List.length_nil,iV]<;>omega
theorem uq(v:ah)(hb:aP v.lf1≤100000000):Wrt (ap3 v) (iw v) (ji v):=⟨fun w hw=>by
 simp only[ap3,ald,Mo.den,au,aj,ak,ay,aA,Pz,kF v hb,(xR v hb).1,Option.bind_some]
 unfold iw ji at *
 cases hm:iW v with
 |true=>
  rw[hm] at hw
  have hw:w.bF.length+1≤100000000000:=hw
  simp only[cond_true]
  rw[(nC false).h w hw];rfl
 |false=>
  rw[hm] at hw
  cases hv:lX v with
  |false=>simp
  |true=>
   rw[hv] at hw
   have hw:w.bF.length+([1]++numsOf (PG v)).length≤100000000000:=hw
   rw[List.length_append,iV] at hw
   have hw:w.bF.length+(1+(PG v).size)≤100000000000:=hw
   simp only[cond_true,cond_false,Bool.not_true,Bool.not_false,bne_self_eq_false]
   rw[(nC true).h w (by show w.bF.length+1≤_;omega)]
   simp only[Option.bind_some]
   rw[if_pos (by rw[List.length_append];show w.bF.length+1+_≤_;omega)]
   simp[jI]⟩
end Go.Proofs.YtflpefkohpjjpaaGreatDoor
set_option linter.unusedSimpArgs false
set_option linter.unusedVariables false
namespace Go.Proofs.YtflpefkohpjjpaaGreatDoor
open Go.RowKit
theorem ae0(x y:Bool):(bif x then x else y)=(x||y):=by cases x<;>rfl
theorem bsm{α:Type}(x:Option α):(x.bind fun r=>some r)=x:=by cases x<;>rfl
theorem arP(a:Int)(l:List Int):strOfNums (a::l)=strOfNums [a]++strOfNums l:=xQ [a] l
theorem FP(s:ByteArray):strOfNums (numsOf s)=s:=by
 apply ByteArray.ext
 apply Array.ext'
 rw[strOfNums_data]
 unfold numsOf
 rw[List.map_map]
 conv=>rhs;rw[←List.map_id s.data.toList]
 refine List.map_congr_left fun x _=>?_
 show UInt8.ofNat ((x.toNat:Int)).toNat=x
 rw[Int.toNat_natCast];exact UInt8.ofNat_toNat
theorem ajd(n:Nat):∀(F:Nat) (v:ah),aP v.lf1<n→n≤F→aP v.lf1≤100000000→gQ v.lf1→(pU F).m1 v=some (strOfNums (vb v)):=by
 induction n with
 |zero=>intro F v h;omega
 |succ n ih=>
  intro F v hlt hF hb hf
  obtain⟨F,rfl⟩:∃K,F=K+1:=⟨F-1,by omega⟩
  have hp:=dF v
  have hl:=fH v.aT
  have hd:=fK v.aW
  obtain⟨f1,f2,f3⟩:=Bz hf
  have iT:=jU (n:=v.fText.size) (by omega)
  have iL:=jU (n:=v.aT.length) (by omega)
  have iD:=jU (n:=v.aW.length) (by omega)
  have bI:=gB f1
  have bT:=gB iT
  have bL:=gB iL
  have bD:=gB iD
  have lL:=BA vb ah.lf v.aT fun x hx=>by
   have hm:=gJ hx
   rw[ah.aX];exact aoe _ x (Nat.lt_succ_self _) (by omega) (f2 x hx)
  have lD:=BA vbF aJ.lf v.aW fun x hx=>by
   have hm:=fE hx
   rw[dY] at hm
   rw[aJ.aX,dY]
   have:=aoe _ x.fValue (Nat.lt_succ_self _) (by omega) (f3 x hx)
   have:=gB (jU (n:=x.fName.size) (by omega))
   unfold vbF
   rw[List.length_append,List.length_append,iV];omega
  have hL:∀acc:ByteArray,acc.size≤1000→ad6 (pU F) v acc 0=some (acc++strOfNums ((v.aT.map vb).flatten)):=fun acc ha=>by
   refine Vj v.aT (by omega) vb 2000000000 (fun k x bs hx hbs=>?_) (fun bs=>by simp only[vK,Mo.den,au,aj,ak,ay,aA,ltn,cond_false]) acc (by omega)
   have hm:=gJ (gG hx)
   simp only[vK,Mo.den,au,aj,ak,ay,aA,ltt hx,gid hx,cond_true,Option.bind_some,ih F x (by omega) (by omega) (by omega) (f2 x (gG hx))]
   rw[strOfNums_size,if_pos (by omega)]
  have hD:∀acc:ByteArray,acc.size≤1000→ad7 (pU F) v acc 0=some (acc++strOfNums ((v.aW.map vbF).flatten)):=fun acc ha=>by
   refine Vj v.aW (by omega) vbF 2000000000 (fun k x bs hx hbs=>?_) (fun bs=>by simp only[vM,Mo.den,au,aj,ak,ay,aA,ltn,cond_false]) acc (by omega)
   have hm:=fE (gG hx)
   rw[dY] at hm
   unfold vbF at hbs
   rw[List.length_append,List.length_append,iV] at hbs
   simp only[vM,Mo.den,au,aj,ak,ay,aA,ltt hx,gid hx,cond_true,Option.bind_some,ih F x.fValue (by omega) (by omega) (by omega) (f3 x (gG hx)),lZ _ (jU (n:=x.fName.size) (by omega)),ByteArray.size_append,strOfNums_size]
   rw[if_pos (by omega),if_pos (by omega),if_pos (by omega)]
   unfold vbF
   simp only[xQ,FP,ByteArray.append_assoc]
  show Mo.den (aiw (pU F) v)=_
  rw[abX,arP]
  unfold aiw
  unfold Nv ED
  simp only[Mo.den,au,aj,ak,ay,aA,Xy,Xz,dD,ae0,Option.bind_some,lZ _ f1,lZ _ iT,lZ _ iL,lZ _ iD]
  generalize (v.aF==3||v.aF==10)=q1
  generalize (v.aF==4||v.aF==7)=q2
  cases q1 with
  |true=>
   simp only[cond_true]
   rw[strOfNums_size,strOfNums_size,if_pos (by simp only[List.length_cons,List.length_nil];omega)];rfl
  |false=>
  simp only[cond_false]
  cases v.aF==9 with
  |true=>
   simp only[cond_true]
   rw[strOfNums_size,strOfNums_size,if_pos (by simp only[List.length_cons,List.length_nil];omega)];rfl
  |false=>
  simp only[cond_false]
  cases q2 with
  |true=>
   simp only[cond_true,ByteArray.size_append,strOfNums_size]
   rw[if_pos (by simp only[List.length_cons,List.length_nil];omega),if_pos (by simp only[List.length_cons,List.length_nil];omega),xQ,FP,ByteArray.append_assoc];rfl
  |false=>
  simp only[cond_false]
  cases v.aF==8 with
  |true=>
   simp only[cond_true]
   rw[strOfNums_size,if_pos (by simp only[List.length_cons,List.length_nil];omega),FP];rfl
  |false=>
  simp only[cond_false]
  cases v.aF==6 with
  |true=>
   simp only[cond_true]
   rw[strOfNums_size,strOfNums_size,if_pos (by simp only[List.length_cons,List.length_nil];omega),hL _ (by rw[ByteArray.size_append,strOfNums_size,strOfNums_size];simp only[List.length_cons,List.length_nil];omega),xQ,ByteArray.append_assoc];rfl
  |false=>
  simp only[cond_false]
  cases v.aF==5 with
  |true=>
   simp only[cond_true]
   rw[strOfNums_size,strOfNums_size,if_pos (by simp only[List.length_cons,List.length_nil];omega),hD _ (by rw[ByteArray.size_append,strOfNums_size,strOfNums_size];simp only[List.length_cons,List.length_nil];omega),xQ,ByteArray.append_assoc];rfl
  |false=>
   simp only[cond_false]
   show some (strOfNums [IntKind.wrap .u8 v.aF])=some (strOfNums [IntKind.wrap .u8 v.aF]++ByteArray.empty)
   rw[ByteArray.append_empty]
theorem abY{o:Option (List Int)}{r:List Int}(h:o=some r)(i:Int):(o.bind fun x=>some (Sum.inl (i,x):(Int×List Int)⊕List Int))=some (Sum.inl (i,r)):=by rw[h];rfl
theorem IV(s:ByteArray)(l:List Int)(hs:s.size≤100000000)(hl:l.length≤50000000000):Z4 s l=some (l++(bQ (zz (s.size:Int))++numsOf s)):=by
 have h:=jU (n:=s.size) (by omega)
 have:=gB h
 simp only[Z4,adD,Mo.den,au,aj,ak,ay,aA,nG _ l h (by omega),Option.bind_some]
 rw[if_pos (by rw[List.length_append];omega),List.append_assoc]
theorem arQ(n:Nat):∀(F:Nat) (v:ah),aP v.lf1<n→n≤F→aP v.lf1≤100000000→gQ v.lf1→(lg F).m1 v=some (vb v)∧∀l:List Int,l.length+(vb v).length≤10000000000→(lg F).m2 v l=some (l++vb v):=by
 induction n with
 |zero=>intro F v h;omega
 |succ n ih=>
  intro F v hlt hF hb hf
  obtain⟨F,rfl⟩:∃K,F=K+1:=⟨F-1,by omega⟩
  have hp:=dF v
  have hl:=fH v.aT
  have hd:=fK v.aW
  have hle:=aoe _ v (Nat.lt_succ_self _) hb hf
  obtain⟨f1,f2,f3⟩:=Bz hf
  have iT:=jU (n:=v.fText.size) (by omega)
  have iL:=jU (n:=v.aT.length) (by omega)
  have iD:=jU (n:=v.aW.length) (by omega)
  have bI:=gB f1
  have bL:=gB iL
  have bD:=gB iD
  have s1:∀(k:Nat) (x:ah) (bs:List Int),v.aT[k]?=some x→bs.length+(vb x).length≤10000000000→(lg F).m2 x bs=some (bs++vb x):=fun k x bs hx hbs=>by
   have hm:=gJ (gG hx)
   exact(ih F x (by omega) (by omega) (by omega) (f2 x (gG hx))).2 bs hbs
  have s2:∀(k:Nat) (x:aJ) (bs:List Int),v.aW[k]?=some x→bs.length+(vbF x).length≤10000000000→((Z4 x.fName bs).bind fun r=>(lg F).m2 x.fValue r)=some (bs++vbF x):=fun k x bs hx hbs=>by
   have hm:=fE (gG hx)
   rw[dY] at hm
   unfold vbF at hbs ⊢
   rw[List.length_append] at hbs
   rw[IV x.fName bs (by omega) (by omega),Option.bind_some,(ih F x.fValue (by omega) (by omega) (by omega) (f3 x (gG hx))).2 _ (by rw[List.length_append];omega),List.append_assoc]
  have tail:∀(l:List Int) (p q:Bool) (N1 N2 T1 L1 D1:Option (List Int)),
   (v.aF==3||v.aF==10)=p→(v.aF==4||v.aF==7)=q→
   N1=some (l++[IntKind.wrap .u8 v.aF]++bQ (zz v.eF))→N2=some (l++[IntKind.wrap .u8 v.aF]++[IntKind.wrap .u8 v.eF])→T1=some (l++[IntKind.wrap .u8 v.aF]++(bQ (zz (v.fText.size:Int))++numsOf v.fText))→
   ((v.aF==6)=true→L1=some (l++[IntKind.wrap .u8 v.aF]++(bQ (zz (v.aT.length:Int))++(v.aT.map vb).flatten)))→((v.aF==5)=true→D1=some (l++[IntKind.wrap .u8 v.aF]++(bQ (zz (v.aW.length:Int))++(v.aW.map vbF).flatten)))→
   (bif p then N1 else bif v.aF==9 then N2 else bif q then T1 else bif v.aF==8 then some (l++[IntKind.wrap .u8 v.aF]++numsOf v.fText) else bif v.aF==6 then L1 else bif v.aF==5 then D1 else some (l++[IntKind.wrap .u8 v.aF]))=some (l++vb v):=by
   rintro l p q _ _ _ L1 D1 hp hq rfl rfl rfl h6 h5
   rw[abX,hp,hq]
   cases p with
   |true=>simp
   |false=>
   cases v.aF==9 with
   |true=>simp
   |false=>
   cases q with
   |true=>simp
   |false=>
   cases v.aF==8 with
   |true=>simp
   |false=>
   cases e6:v.aF==6 with
   |true=>rw[h6 e6];simp
   |false=>
   cases e5:v.aF==5 with
   |true=>rw[h5 e5];simp
   |false=>simp
  have v6:(v.aF==6)=true→(vb v).length=1+((bQ (zz (v.aT.length:Int))).length+((v.aT.map vb).flatten).length):=fun h=>by
   rw[abX,eq_of_beq h]
   show(_::(bQ (zz (v.aT.length:Int))++(v.aT.map vb).flatten)).length=_
   rw[List.length_cons,List.length_append];omega
  have v5:(v.aF==5)=true→(vb v).length=1+((bQ (zz (v.aW.length:Int))).length+((v.aW.map vbF).flatten).length):=fun h=>by
   rw[abX,eq_of_beq h]
   show(_::(bQ (zz (v.aW.length:Int))++(v.aW.map vbF).flatten)).length=_
   rw[List.length_cons,List.length_append];omega
  have bT:=gB iT
  refine⟨?_,fun l hll=>?_⟩
  ·show Mo.den (Sv (lg F) v)=_
   unfold Sv
   unfold G9
   simp only[Mo.den,au,aj,ak,ay,aA,Nb,Nc,dD,ae0,bsm,Option.bind_some]
   rw[if_pos (by simp only[List.length_cons,List.length_nil];omega),if_pos (by simp only[List.length_cons,List.length_nil];omega),if_pos (by simp only[List.length_cons,List.length_nil];omega)]
   refine tail [] _ _ _ _ _ _ _ rfl rfl ?_ rfl ?_ (fun k6=>?_) (fun k5=>?_)
   ·exact nG _ _ f1 (by simp only[List.length_cons,List.length_nil];omega)
   ·exact IV _ _ (by omega) (by simp only[List.length_cons,List.length_nil];omega)
   ·rw[nG _ _ iL (by simp only[List.length_cons, List.length_nil];omega), Option.bind_some]
    refine(FN v.aT (by omega) vb 10000000000 (fun k x bs hx hbs=>?_) (fun bs=>by simp only[ru,Mo.den,au,aj,ak,ay,aA,ltn,cond_false]) _ ?_).trans ?_
    ·simp only[ru,Mo.den,au,aj,ak,ay,aA,ltt hx,gid hx,cond_true,Option.bind_some,s1 k x bs hx hbs]
    ·have:=v6 k6;simp only[List.length_append,List.length_cons,List.length_nil];omega
    ·simp only[List.append_assoc,List.nil_append]
   ·rw[nG _ _ iD (by simp only[List.length_cons, List.length_nil];omega), Option.bind_some]
    refine(FN v.aW (by omega) vbF 10000000000 (fun k x bs hx hbs=>?_) (fun bs=>by simp only[rC,Mo.den,au,aj,ak,ay,aA,ltn,cond_false]) _ ?_).trans ?_
    ·have:=s2 k x bs hx hbs
     have:=abY this (IntKind.wrap .i64 ((k:Int)+1))
     simp only[rC,Mo.den,au,aj,ak,ay,aA,ltt hx,gid hx,cond_true,Option.bind_some,Option.bind_assoc] at this ⊢
     exact this
    ·have:=v5 k5;simp only[List.length_append,List.length_cons,List.length_nil];omega
    ·simp only[List.append_assoc,List.nil_append]
  ·show Mo.den (Sz (lg F) v l)=_
   unfold Sz
   unfold He
   simp only[Mo.den,au,aj,ak,ay,aA,Nh,Nj,dD,ae0,bsm,Option.bind_some]
   rw[if_pos (by simp only[List.length_cons,List.length_nil];omega),if_pos (by simp only[List.length_append,List.length_cons,List.length_nil];omega),if_pos (by simp only[List.length_append,List.length_cons,List.length_nil];omega)]
   refine tail l _ _ _ _ _ _ _ rfl rfl ?_ rfl ?_ (fun k6=>?_) (fun k5=>?_)
   ·exact nG _ _ f1 (by simp only[List.length_append,List.length_cons,List.length_nil];omega)
   ·exact IV _ _ (by omega) (by simp only[List.length_append,List.length_cons,List.length_nil];omega)
   ·rw[nG _ _ iL (by simp only[List.length_append, List.length_cons, List.length_nil];omega), Option.bind_some]
    refine(FN v.aT (by omega) vb 10000000000 (fun k x bs hx hbs=>?_) (fun bs=>by simp only[rD,Mo.den,au,aj,ak,ay,aA,ltn,cond_false]) _ ?_).trans ?_
    ·simp only[rD,Mo.den,au,aj,ak,ay,aA,ltt hx,gid hx,cond_true,Option.bind_some,s1 k x bs hx hbs]
    ·have:=v6 k6;simp only[List.length_append,List.length_cons,List.length_nil];omega
    ·simp only[List.append_assoc,List.nil_append]
   ·rw[nG _ _ iD (by simp only[List.length_append, List.length_cons, List.length_nil];omega), Option.bind_some]
    refine(FN v.aW (by omega) vbF 10000000000 (fun k x bs hx hbs=>?_) (fun bs=>by simp only[rE,Mo.den,au,aj,ak,ay,aA,ltn,cond_false]) _ ?_).trans ?_
    ·have:=s2 k x bs hx hbs
     have:=abY this (IntKind.wrap .i64 ((k:Int)+1))
     simp only[rE,Mo.den,au,aj,ak,ay,aA,ltt hx,gid hx,cond_true,Option.bind_some,Option.bind_assoc] at this ⊢
     exact this
    ·have:=v5 k5;simp only[List.length_append,List.length_cons,List.length_nil];omega
    ·simp only[List.append_assoc,List.nil_append]
end Go.Proofs.YtflpefkohpjjpaaGreatDoor
set_option linter.unusedSimpArgs false
set_option linter.unusedVariables false
namespace Go.Proofs.YtflpefkohpjjpaaGreatDoor
open Go.RowKit
theorem arR{α:Type}(e:α→List Int)(lf:α→List Lf)(l:List α)(h:∀x∈l,(e x).length≤40*aP (lf x)):((l.map e).flatten).length≤40*bK (l.map lf):=by
 induction l with
 |nil=>exact Nat.zero_le _
 |cons x r ih=>
  simp only[List.map_cons,List.flatten_cons,List.length_append,bK]
  have:=h x (List.mem_cons_self ..)
  have:=ih fun y hy=>h y (List.mem_cons_of_mem _ hy)
  omega
theorem pG{α:Type}(e:α→List Int)(lf:α→List Lf)(l:List α)(h:∀x∈l,(e x).length≤40*aP (lf x)):(jh e l).length≤11+40*bK (l.map lf):=by
 unfold jh
 rw[List.length_append]
 have:=gU (l.length:Int)
 have:=arR e lf l h
 omega
theorem nH(s:ByteArray):(fU s).length≤11+s.size:=by
 unfold fU
 rw[List.length_append,iV]
 have:=gU (s.size:Int)
 omega
theorem lQ(b:Bool):(jI b).length≤1:=by cases b<;>exact Nat.le_refl _
theorem sJ(l:List ByteArray):(jh fU l).length≤11+40*bK (l.map lfS):=pG fU lfS l fun s _=>by have:=nH s;rw[N9];omega
theorem ae1(l:List Int):(jh fB l).length≤11+40*bK (l.map lfI):=pG fB lfI l fun n _=>by have:=gU n;rw[aex];omega
theorem OO(l:List ah)(h:bK (l.map ah.lf)≤100000000):(jh iw l).length≤11+40*bK (l.map ah.lf):=pG iw ah.lf l fun v hv=>by
 have h1:=gJ hv
 have h2:=dF v
 have:=oM v (by omega)
 rw[ah.aX];omega
theorem any_false{α:Type}(l:List α):l.any (fun _=>false)=false:=by induction l with|nil=>rfl|cons x r ih=>rw[List.any_cons,ih];rfl
theorem zF(l:List ByteArray)(h:bK (l.map lfS)≤100000000):Wrt (Q93 l) (jh fU l) false:=by
 have:=gX l
 rw[←any_false l]
 refine Wrt.of (fun w=>?_) (nD (L:=fun v=>(Nk l v).den) aui fU (fun _=>false) l (by omega) (fun v bd bs=>?_) fun s _=>Wrt.of (fun w=>by simp only[aui,ale,Mo.den,au,aj,ak,ay,aA]) (Wrt.last (qG s)))
 ·unfold Q93 ar7;simp only[Mo.den,au,aj,ak,ay,aA]
 ·simp only[Nk,Mo.den,au,aj,ak,ay,aA]
theorem aof(l:List Int)(h:bK (l.map lfI)≤100000000):Wrt (aup l) (jh fB l) false:=by
 have:=zk l
 rw[←any_false l]
 refine Wrt.of (fun w=>?_) (nD (L:=fun v=>(Hy l v).den) auo fB (fun _=>false) l (by omega) (fun v bd bs=>?_) fun s _=>Wrt.of (fun w=>by simp only[auo,aly,Mo.den,au,aj,ak,ay,aA]) (Wrt.last (iZ s)))
 ·unfold aup alz;simp only[Mo.den,au,aj,ak,ay,aA]
 ·simp only[Hy,Mo.den,au,aj,ak,ay,aA]
theorem abZ(l:List ah)(h:bK (l.map ah.lf)≤100000000):Wrt (auk l) (jh iw l) (l.any ji):=by
 have:=fH l
 refine Wrt.of (fun w=>?_) (nD (L:=fun v=>(Hg l v).den) ap3 iw ji l (by omega) (fun v bd bs=>?_) fun s hs=>uq s (by have:=gJ hs;omega))
 ·unfold auk alh;simp only[Mo.den,au,aj,ak,ay,aA]
 ·simp only[Hg,Mo.den,au,aj,ak,ay,aA]
noncomputable def nZ(x:aY):List Int:=jh fU x.cO++(jI x.xW)
def sK(x:aY):Bool:=false||(false)
theorem ab1(x:aY)(h:aP x.lf1≤100000000):(nZ x).length≤40*aP x.lf1:=by
 have hb:=kR x
 have:=sJ x.cO
 have:=lQ x.xW
 unfold nZ
 simp only[List.length_append]
 omega
theorem aje(x:aY)(h:aP x.lf1≤100000000):Wrt (ap5 x) (nZ x) (sK x):=by
 have hb:=kR x
 exact Wrt.of (fun w=>by unfold ap5 alf;simp only[Mo.den,au,aj,ak,ay,aA]) (Wrt.bind (zF x.cO (by omega)) (Wrt.last (nC x.xW)))
theorem YA(l:List aY)(h:bK (l.map aY.lf)≤100000000):(jh nZ l).length≤11+40*bK (l.map aY.lf):=pG nZ aY.lf l fun v hv=>by
 have h1:=dH aY.lf hv
 rw[aY.aX] at h1 ⊢
 exact ab1 v (by omega)
theorem ae2(l:List aY)(h:bK (l.map aY.lf)≤100000000):Wrt (auj l) (jh nZ l) (l.any sK):=by
 have:=lK l
 refine Wrt.of (fun w=>?_) (nD (L:=fun v=>(Hf l v).den) ap5 nZ sK l (by omega) (fun v bd bs=>?_) fun s hs=>aje s (by have h1:=dH aY.lf hs;rw[aY.aX] at h1;omega))
 ·unfold auj alg;simp only[Mo.den,au,aj,ak,ay,aA]
 ·simp only[Hf,Mo.den,au,aj,ak,ay,aA]
noncomputable def l7(x:bU):List Int:=fB x.fX++(fB x.fY)
def qH(x:bU):Bool:=false||(false)
theorem ab2(x:bU)(h:aP x.lf1≤100000000):(l7 x).length≤40*aP x.lf1:=by
 have hb:=pV x
 have:=gU x.fX
 have:=gU x.fY
 unfold l7
 simp only[List.length_append]
 omega
theorem ajf(x:bU)(h:aP x.lf1≤100000000):Wrt (ap8 x) (l7 x) (qH x):=by
 have hb:=pV x
 exact Wrt.of (fun w=>by unfold ap8 ali;simp only[Mo.den,au,aj,ak,ay,aA]) (Wrt.bind (iZ x.fX) (Wrt.last (iZ x.fY)))
theorem YB(l:List bU)(h:bK (l.map bU.lf)≤100000000):(jh l7 l).length≤11+40*bK (l.map bU.lf):=pG l7 bU.lf l fun v hv=>by
 have h1:=dH bU.lf hv
 rw[bU.aX] at h1 ⊢
 exact ab2 v (by omega)
theorem ae3(l:List bU)(h:bK (l.map bU.lf)≤100000000):Wrt (aul l) (jh l7 l) (l.any qH):=by
 have:=pX l
 refine Wrt.of (fun w=>?_) (nD (L:=fun v=>(Ho l v).den) ap8 l7 qH l (by omega) (fun v bd bs=>?_) fun s hs=>ajf s (by have h1:=dH bU.lf hs;rw[bU.aX] at h1;omega))
 ·unfold aul alj;simp only[Mo.den,au,aj,ak,ay,aA]
 ·simp only[Ho,Mo.den,au,aj,ak,ay,aA]
mutual
noncomputable def jV:aQ→List Int
 |.mk a0 a1 a2 a3 a4 a5 a6=>fB a0++(jh fU a1++(fU a2++(jh fU a3++(iw a4++(fB a5++((fB (a6.length:Int)++zG a6)))))))
noncomputable def zG:List aQ→List Int
 |[]=>[]
 |x::r=>jV x++zG r
end
mutual
def lS:aQ→Bool
 |.mk a0 a1 a2 a3 a4 a5 a6=>false||(false||(false||(false||(ji a4||(false||(zH a6))))))
def zH:List aQ→Bool
 |[]=>false
 |x::r=>lS x||zH r
end
theorem Je:∀l:List aQ,zG l=(l.map jV).flatten
 |[]=>by rw[zG];rfl
 |x::r=>by rw[zG,Je r];rfl
theorem Jf:∀l:List aQ,zH l=l.any lS
 |[]=>by rw[zH];rfl
 |x::r=>by rw[zH,Jf r];rfl
theorem Dx(x:aQ):jV x=fB x.fOp++(jh fU x.cO++(fU x.fName++(jh fU x.eu++(iw x.fArg++(fB x.fN++(jh jV x.bC)))))):=by
 cases x
 rw[jV]
 simp only[Je]
 rfl
theorem OQ(x:aQ):lS x=(false||(false||(false||(false||(ji x.fArg||(false||(x.bC.any lS))))))):=by
 cases x
 rw[lS]
 simp only[Jf]
 rfl
theorem ab3(n:Nat):(∀x:aQ,aP x.lf1<n→aP x.lf1≤100000000→(jV x).length≤40*aP x.lf1):=by
 induction n with
 |zero=>intro x hn;omega
 |succ n ih=>
  intro x hn h
  have hb:=jA x
  have:=gU x.fOp
  have:=sJ x.cO
  have:=nH x.fName
  have:=sJ x.eu
  have:=oM x.fArg (by omega)
  have:=gU x.fN
  have:=pG jV aQ.lf x.bC fun v hv=>(by have h1:=dH aQ.lf hv;rw[aQ.aX] at h1 ⊢;exact ih v (by omega) (by omega))
  rw[Dx]
  simp only[List.length_append]
  omega
theorem ae4(x:aQ)(h:aP x.lf1≤100000000):(jV x).length≤40*aP x.lf1:=(ab3 (aP x.lf1+1)) x (Nat.lt_succ_self _) h
theorem PI(n:Nat):∀F,4*n≤F→(∀x:aQ,aP x.lf1<n→aP x.lf1≤100000000→Wrt ((qK F).m1 x) (jV x) (lS x)):=by
 induction n with
 |zero=>intro F _;intro x hn;omega
 |succ n ih=>
  intro F hF
  obtain⟨G,rfl⟩:∃G,F=G+2:=⟨F-2,by omega⟩
  have ihExpr:=(ih G (by omega))
  have ih1Expr:=(ih (G+1) (by omega))
  have hlExpr:∀l:List aQ,bK (l.map aQ.lf)<n→bK (l.map aQ.lf)≤100000000→Wrt ((qK (G+1)).m2 l) (jh jV l) (l.any lS):=fun l hn hb=>by
   have:=pY l
   refine Wrt.of (fun w=>?_) (nD (L:=fun v=>(Hq (qK G) l v).den) (qK G).m1 jV lS l (by omega) (fun v bd bs=>?_) fun s hs=>ihExpr s (by have h1:=dH aQ.lf hs;rw[aQ.aX] at h1;omega) (by have h1:=dH aQ.lf hs;rw[aQ.aX] at h1;omega))
   ·show Mo.den (WW (qK G) l w)=_
    unfold WW;simp only[Mo.den,au,aj,ak,ay,aA]
   ·simp only[Hq,Mo.den,au,aj,ak,ay,aA]
  intro x hn h
  have hb:=jA x
  rw[Dx,OQ]
  exact Wrt.of (fun w=>by show Mo.den (WV (qK (G+1)) x w)=_;unfold WV;simp only[Mo.den,au,aj,ak,ay,aA]) (Wrt.bind (iZ x.fOp) (Wrt.bind (zF x.cO (by omega)) (Wrt.bind (qG x.fName) (Wrt.bind (zF x.eu (by omega)) (Wrt.bind (uq x.fArg (by omega)) (Wrt.bind (iZ x.fN) (Wrt.last (hlExpr x.bC (by omega) (by omega)))))))))
theorem aog(x:aQ)(h:aP x.lf1≤100000000):Wrt (awr x) (jV x) (lS x):=((PI (aP x.lf1+1)) FU (by have:=fJ;omega)) x (Nat.lt_succ_self _) h
mutual
noncomputable def kM:aO→List Int
 |.mk a0 a1 a2 a3 a4 a5 a6 a7 a8=>fB a0++(jh fU a1++(iw a2++(jh iw a3++(fB a4++(fB a5++(fB a6.aF++(jh l7 a6.bG++(fB a6.fR++(jV a7++((fB (a8.length:Int)++zJ a8)))))))))))
noncomputable def zJ:List aO→List Int
 |[]=>[]
 |x::r=>kM x++zJ r
end
mutual
def mM:aO→Bool
 |.mk a0 a1 a2 a3 a4 a5 a6 a7 a8=>false||(false||(ji a2||(a3.any ji||(false||(false||(false||(a6.bG.any qH||(false||(lS a7||(zK a8))))))))))
def zK:List aO→Bool
 |[]=>false
 |x::r=>mM x||zK r
end
theorem Jg:∀l:List aO,zJ l=(l.map kM).flatten
 |[]=>by rw[zJ];rfl
 |x::r=>by rw[zJ,Jg r];rfl
theorem Jh:∀l:List aO,zK l=l.any mM
 |[]=>by rw[zK];rfl
 |x::r=>by rw[zK,Jh r];rfl
theorem Dy(x:aO):kM x=fB x.fOp++(jh fU x.cO++(iw x.fArg++(jh iw x.fArgs++(fB x.fN++(fB x.fM++(fB x.dI.aF++(jh l7 x.dI.bG++(fB x.dI.fR++(jV x.fExpr++(jh kM x.bC)))))))))):=by
 cases x
 rw[kM]
 simp only[Jg]
 rfl
theorem OT(x:aO):mM x=(false||(false||(ji x.fArg||(x.fArgs.any ji||(false||(false||(false||(x.dI.bG.any qH||(false||(lS x.fExpr||(x.bC.any mM))))))))))):=by
 cases x
 rw[mM]
 simp only[Jh]
 rfl
theorem ab4(n:Nat):(∀x:aO,aP x.lf1<n→aP x.lf1≤100000000→(kM x).length≤40*aP x.lf1):=by
 induction n with
 |zero=>intro x hn;omega
 |succ n ih=>
  intro x hn h
  have hb:=gK x
  have hs:=kS x.dI
  have:=gU x.fOp
  have:=sJ x.cO
  have:=oM x.fArg (by omega)
  have:=OO x.fArgs (by omega)
  have:=gU x.fN
  have:=gU x.fM
  have:=gU x.dI.aF
  have:=YB x.dI.bG (by omega)
  have:=gU x.dI.fR
  have:=ae4 x.fExpr (by omega)
  have:=pG kM aO.lf x.bC fun v hv=>(by have h1:=dH aO.lf hv;rw[aO.aX] at h1 ⊢;exact ih v (by omega) (by omega))
  rw[Dy]
  simp only[List.length_append]
  omega
theorem ae5(x:aO)(h:aP x.lf1≤100000000):(kM x).length≤40*aP x.lf1:=(ab4 (aP x.lf1+1)) x (Nat.lt_succ_self _) h
theorem PK(n:Nat):∀F,4*n≤F→(∀x:aO,aP x.lf1<n→aP x.lf1≤100000000→Wrt ((qL F).m1 x) (kM x) (mM x)):=by
 induction n with
 |zero=>intro F _;intro x hn;omega
 |succ n ih=>
  intro F hF
  obtain⟨G,rfl⟩:∃G,F=G+2:=⟨F-2,by omega⟩
  have ihPred:=(ih G (by omega))
  have ih1Pred:=(ih (G+1) (by omega))
  have hlPred:∀l:List aO,bK (l.map aO.lf)<n→bK (l.map aO.lf)≤100000000→Wrt ((qL (G+1)).m2 l) (jh kM l) (l.any mM):=fun l hn hb=>by
   have:=nR l
   refine Wrt.of (fun w=>?_) (nD (L:=fun v=>(Hr (qL G) l v).den) (qL G).m1 kM mM l (by omega) (fun v bd bs=>?_) fun s hs=>ihPred s (by have h1:=dH aO.lf hs;rw[aO.aX] at h1;omega) (by have h1:=dH aO.lf hs;rw[aO.aX] at h1;omega))
   ·show Mo.den (WZ (qL G) l w)=_
    unfold WZ;simp only[Mo.den,au,aj,ak,ay,aA]
   ·simp only[Hr,Mo.den,au,aj,ak,ay,aA]
  intro x hn h
  have hb:=gK x
  have hs:=kS x.dI
  rw[Dy,OT]
  exact Wrt.of (fun w=>by show Mo.den (WY (qL (G+1)) x w)=_;unfold WY;simp only[Mo.den,au,aj,ak,ay,aA]) (Wrt.bind (iZ x.fOp) (Wrt.bind (zF x.cO (by omega)) (Wrt.bind (uq x.fArg (by omega)) (Wrt.bind (abZ x.fArgs (by omega)) (Wrt.bind (iZ x.fN) (Wrt.bind (iZ x.fM) (Wrt.bind (iZ x.dI.aF) (Wrt.bind (ae3 x.dI.bG (by omega)) (Wrt.bind (iZ x.dI.fR) (Wrt.bind (aog x.fExpr (by omega)) (Wrt.last (hlPred x.bC (by omega) (by omega)))))))))))))
theorem aoh(x:aO)(h:aP x.lf1≤100000000):Wrt (awt x) (kM x) (mM x):=((PK (aP x.lf1+1)) FU (by have:=fJ;omega)) x (Nat.lt_succ_self _) h
noncomputable def kN(x:aS):List Int:=fU x.fName++(fB x.aF++(jh nZ x.fA++(jI x.fC++(jI x.jS++(jI x.iE++(kM x.bM))))))
def og(x:aS):Bool:=false||(false||(x.fA.any sK||(false||(false||(false||(mM x.bM))))))
theorem Ji(x:aS)(h:aP x.lf1≤100000000):(kN x).length≤40*aP x.lf1:=by
 have hb:=jB x
 have:=nH x.fName
 have:=gU x.aF
 have:=YA x.fA (by omega)
 have:=lQ x.fC
 have:=lQ x.jS
 have:=lQ x.iE
 have:=ae5 x.bM (by omega)
 unfold kN
 simp only[List.length_append]
 omega
theorem Vk(x:aS)(h:aP x.lf1≤100000000):Wrt (aqd x) (kN x) (og x):=by
 have hb:=jB x
 exact Wrt.of (fun w=>by unfold aqd alp;simp only[Mo.den,au,aj,ak,ay,aA]) (Wrt.bind (qG x.fName) (Wrt.bind (iZ x.aF) (Wrt.bind (ae2 x.fA (by omega)) (Wrt.bind (nC x.fC) (Wrt.bind (nC x.jS) (Wrt.bind (nC x.iE) (Wrt.last (aoh x.bM (by omega)))))))))
theorem YC(l:List aS)(h:bK (l.map aS.lf)≤100000000):(jh kN l).length≤11+40*bK (l.map aS.lf):=pG kN aS.lf l fun v hv=>by
 have h1:=dH aS.lf hv
 rw[aS.aX] at h1 ⊢
 exact Ji v (by omega)
theorem ab5(l:List aS)(h:bK (l.map aS.lf)≤100000000):Wrt (aum l) (jh kN l) (l.any og):=by
 have:=jQ l
 refine Wrt.of (fun w=>?_) (nD (L:=fun v=>(Ht l v).den) aqd kN og l (by omega) (fun v bd bs=>?_) fun s hs=>Vk s (by have h1:=dH aS.lf hs;rw[aS.aX] at h1;omega))
 ·unfold aum alq;simp only[Mo.den,au,aj,ak,ay,aA]
 ·simp only[Ht,Mo.den,au,aj,ak,ay,aA]
mutual
noncomputable def oq:bH→List Int
 |.mk a0 a1=>fU a0++(gW a1)
noncomputable def zM:List bH→List Int
 |[]=>[]
 |x::r=>oq x++zM r
noncomputable def gW:aI→List Int
 |.mk a0 a1 a2 a3 a4 a5 a6 a7 a8 a9 a10 a11 a12=>fB a0++(jI a1++(iw a2++(jI a3++(iw a4++(jh iw a5++(fB a6++(fB a7++(jh fU a8++((fB (a9.length:Int)++zM a9)++(jI a10++((fB (a11.length:Int)++sO a11)++(jI a12))))))))))))
noncomputable def sO:List aI→List Int
 |[]=>[]
 |x::r=>gW x++sO r
end
mutual
def qm:bH→Bool
 |.mk a0 a1=>false||(jd a1)
def zN:List bH→Bool
 |[]=>false
 |x::r=>qm x||zN r
def jd:aI→Bool
 |.mk a0 a1 a2 a3 a4 a5 a6 a7 a8 a9 a10 a11 a12=>false||(false||(ji a2||(false||(ji a4||(a5.any ji||(false||(false||(false||(zN a9||(false||(sQ a11||(false))))))))))))
def sQ:List aI→Bool
 |[]=>false
 |x::r=>jd x||sQ r
end
theorem Jj:∀l:List bH,zM l=(l.map oq).flatten
 |[]=>by rw[zM];rfl
 |x::r=>by rw[zM,Jj r];rfl
theorem Jk:∀l:List bH,zN l=l.any qm
 |[]=>by rw[zN];rfl
 |x::r=>by rw[zN,Jk r];rfl
theorem Ci:∀l:List aI,sO l=(l.map gW).flatten
 |[]=>by rw[sO];rfl
 |x::r=>by rw[sO,Ci r];rfl
theorem Cj:∀l:List aI,sQ l=l.any jd
 |[]=>by rw[sQ];rfl
 |x::r=>by rw[sQ,Cj r];rfl
theorem Dz(x:bH):oq x=fU x.fName++(gW x.bn):=by
 cases x
 rw[oq]
 rfl
theorem OU(x:bH):qm x=(false||(jd x.bn)):=by
 cases x
 rw[qm]
 rfl
theorem xU(x:aI):gW x=fB x.ig++(jI x.iO++(iw x.kP++(jI x.iP++(iw x.kQ++(jh iw x.gZ++(fB x.jD++(fB x.jE++(jh fU x.dW++(jh oq x.cZ++(jI x.kG++(jh gW x.dV++(jI x.fC)))))))))))):=by
 cases x
 rw[gW]
 simp only[Jj,Ci]
 rfl
theorem FQ(x:aI):jd x=(false||(false||(ji x.kP||(false||(ji x.kQ||(x.gZ.any ji||(false||(false||(false||(x.cZ.any qm||(false||(x.dV.any jd||(false))))))))))))):=by
 cases x
 rw[jd]
 simp only[Jk,Cj]
 rfl
theorem PL(n:Nat):(∀x:bH,aP x.lf1<n→aP x.lf1≤100000000→(oq x).length≤40*aP x.lf1)∧(∀x:aI,aP x.lf1<n→aP x.lf1≤100000000→(gW x).length≤40*aP x.lf1):=by
 induction n with
 |zero=>exact⟨fun x hn=>by omega,fun x hn=>by omega⟩
 |succ n ih=>
  refine⟨?_,?_⟩
  ·intro x hn h
   have hb:=nP x
   have:=nH x.fName
   have:=ih.2 x.bn (by omega) (by omega)
   rw[Dz]
   simp only[List.length_append]
   omega
  ·intro x hn h
   have hb:=fO x
   have:=gU x.ig
   have:=lQ x.iO
   have:=oM x.kP (by omega)
   have:=lQ x.iP
   have:=oM x.kQ (by omega)
   have:=OO x.gZ (by omega)
   have:=gU x.jD
   have:=gU x.jE
   have:=sJ x.dW
   have:=pG oq bH.lf x.cZ fun v hv=>(by have h1:=dH bH.lf hv;rw[bH.aX] at h1 ⊢;exact ih.1 v (by omega) (by omega))
   have:=lQ x.kG
   have:=pG gW aI.lf x.dV fun v hv=>(by have h1:=dH aI.lf hv;rw[aI.aX] at h1 ⊢;exact ih.2 v (by omega) (by omega))
   have:=lQ x.fC
   rw[xU]
   simp only[List.length_append]
   omega
theorem YD(x:aI)(h:aP x.lf1≤100000000):(gW x).length≤40*aP x.lf1:=(PL (aP x.lf1+1)).2 x (Nat.lt_succ_self _) h
theorem JF(n:Nat):∀F,4*n≤F→(∀x:bH,aP x.lf1<n→aP x.lf1≤100000000→Wrt ((ku F).m4 x) (oq x) (qm x))∧(∀x:aI,aP x.lf1<n→aP x.lf1≤100000000→Wrt ((ku F).m1 x) (gW x) (jd x)):=by
 induction n with
 |zero=>intro F _;exact⟨fun x hn=>by omega,fun x hn=>by omega⟩
 |succ n ih=>
  intro F hF
  obtain⟨G,rfl⟩:∃G,F=G+2:=⟨F-2,by omega⟩
  have ihProp:=(ih G (by omega)).1
  have ih1Prop:=(ih (G+1) (by omega)).1
  have ihSchema:=(ih G (by omega)).2
  have ih1Schema:=(ih (G+1) (by omega)).2
  have hlProp:∀l:List bH,bK (l.map bH.lf)<n→bK (l.map bH.lf)≤100000000→Wrt ((ku (G+1)).m2 l) (jh oq l) (l.any qm):=fun l hn hb=>by
   have:=lq l
   refine Wrt.of (fun w=>?_) (nD (L:=fun v=>(Hu (ku G) l v).den) (ku G).m4 oq qm l (by omega) (fun v bd bs=>?_) fun s hs=>ihProp s (by have h1:=dH bH.lf hs;rw[bH.aX] at h1;omega) (by have h1:=dH bH.lf hs;rw[bH.aX] at h1;omega))
   ·show Mo.den (Xb (ku G) l w)=_
    unfold Xb;simp only[Mo.den,au,aj,ak,ay,aA]
   ·simp only[Hu,Mo.den,au,aj,ak,ay,aA]
  have hlSchema:∀l:List aI,bK (l.map aI.lf)<n→bK (l.map aI.lf)≤100000000→Wrt ((ku (G+1)).m3 l) (jh gW l) (l.any jd):=fun l hn hb=>by
   have:=lF l
   refine Wrt.of (fun w=>?_) (nD (L:=fun v=>(Hw (ku G) l v).den) (ku G).m1 gW jd l (by omega) (fun v bd bs=>?_) fun s hs=>ihSchema s (by have h1:=dH aI.lf hs;rw[aI.aX] at h1;omega) (by have h1:=dH aI.lf hs;rw[aI.aX] at h1;omega))
   ·show Mo.den (Xc (ku G) l w)=_
    unfold Xc;simp only[Mo.den,au,aj,ak,ay,aA]
   ·simp only[Hw,Mo.den,au,aj,ak,ay,aA]
  refine⟨?_,?_⟩
  ·intro x hn h
   have hb:=nP x
   rw[Dz,OU]
   exact Wrt.of (fun w=>by show Mo.den (Xd (ku (G+1)) x w)=_;unfold Xd;simp only[Mo.den,au,aj,ak,ay,aA]) (Wrt.bind (qG x.fName) (Wrt.last (ih1Schema x.bn (by omega) (by omega))))
  ·intro x hn h
   have hb:=fO x
   rw[xU,FQ]
   exact Wrt.of (fun w=>by show Mo.den (Xa (ku (G+1)) x w)=_;unfold Xa;simp only[Mo.den,au,aj,ak,ay,aA]) (Wrt.bind (iZ x.ig) (Wrt.bind (nC x.iO) (Wrt.bind (uq x.kP (by omega)) (Wrt.bind (nC x.iP) (Wrt.bind (uq x.kQ (by omega)) (Wrt.bind (abZ x.gZ (by omega)) (Wrt.bind (iZ x.jD) (Wrt.bind (iZ x.jE) (Wrt.bind (zF x.dW (by omega)) (Wrt.bind (hlProp x.cZ (by omega) (by omega)) (Wrt.bind (nC x.kG) (Wrt.bind (hlSchema x.dV (by omega) (by omega)) (Wrt.last (nC x.fC))))))))))))))
theorem ae6(x:aI)(h:aP x.lf1≤100000000):Wrt (awu x) (gW x) (jd x):=((JF (aP x.lf1+1)) FU (by have:=fJ;omega)).2 x (Nat.lt_succ_self _) h
noncomputable def sS(x:bW):List Int:=fU x.fName++(jh kN x.bJ++(gW x.bn++(fB x.jZ++(fB x.iI))))
def zO(x:bW):Bool:=false||(x.bJ.any og||(jd x.bn||(false||(false))))
theorem ab6(x:bW)(h:aP x.lf1≤100000000):(sS x).length≤40*aP x.lf1:=by
 have hb:=lJ x
 have:=nH x.fName
 have:=YC x.bJ (by omega)
 have:=YD x.bn (by omega)
 have:=gU x.jZ
 have:=gU x.iI
 unfold sS
 simp only[List.length_append]
 omega
theorem ajg(x:bW)(h:aP x.lf1≤100000000):Wrt (aun x) (sS x) (zO x):=by
 have hb:=lJ x
 exact Wrt.of (fun w=>by unfold aun alx;simp only[Mo.den,au,aj,ak,ay,aA]) (Wrt.bind (qG x.fName) (Wrt.bind (ab5 x.bJ (by omega)) (Wrt.bind (ae6 x.bn (by omega)) (Wrt.bind (iZ x.jZ) (Wrt.last (iZ x.iI))))))
mutual
noncomputable def jH:aG→List Int
 |.mk a0 a1 a2 a3 a4 a5 a6 a7 a8 a9 a10 a11=>fB a0++(fU a1++(iw a2++(iw a3++(iw a4++(sS a5++(kN a6++(fU a7++(fB a8++((fB (a9.length:Int)++wK a9)++(jh fB a10++(jI a11)))))))))))
noncomputable def wK:List aG→List Int
 |[]=>[]
 |x::r=>jH x++wK r
end
mutual
def jr:aG→Bool
 |.mk a0 a1 a2 a3 a4 a5 a6 a7 a8 a9 a10 a11=>false||(false||(ji a2||(ji a3||(ji a4||(zO a5||(og a6||(false||(false||(wL a9||(false||(false)))))))))))
def wL:List aG→Bool
 |[]=>false
 |x::r=>jr x||wL r
end
theorem FT:∀l:List aG,wK l=(l.map jH).flatten
 |[]=>by rw[wK];rfl
 |x::r=>by rw[wK,FT r];rfl
theorem FW:∀l:List aG,wL l=l.any jr
 |[]=>by rw[wL];rfl
 |x::r=>by rw[wL,FW r];rfl
theorem zQ(x:aG):jH x=fB x.aF++(fU x.fV++(iw x.fZ++(iw x.aW++(iw x.dG++(sS x.dO++(kN x.bf++(fU x.mO++(fB x.dU++(jh jH x.bP++(jh fB x.dK++(jI x.gq))))))))))):=by
 cases x
 rw[jH]
 simp only[FT]
 rfl
theorem Jl(x:aG):jr x=(false||(false||(ji x.fZ||(ji x.aW||(ji x.dG||(zO x.dO||(og x.bf||(false||(false||(x.bP.any jr||(false||(false)))))))))))):=by
 cases x
 rw[jr]
 simp only[FW]
 rfl
theorem YE(n:Nat):(∀x:aG,aP x.lf1<n→aP x.lf1≤100000000→(jH x).length≤40*aP x.lf1):=by
 induction n with
 |zero=>intro x hn;omega
 |succ n ih=>
  intro x hn h
  have hb:=jJ x
  have:=gU x.aF
  have:=nH x.fV
  have:=oM x.fZ (by omega)
  have:=oM x.aW (by omega)
  have:=oM x.dG (by omega)
  have:=ab6 x.dO (by omega)
  have:=Ji x.bf (by omega)
  have:=nH x.mO
  have:=gU x.dU
  have:=pG jH aG.lf x.bP fun v hv=>(by have h1:=dH aG.lf hv;rw[aG.aX] at h1 ⊢;exact ih v (by omega) (by omega))
  have:=ae1 x.dK
  have:=lQ x.gq
  rw[zQ]
  simp only[List.length_append]
  omega
theorem ab7(x:aG)(h:aP x.lf1≤100000000):(jH x).length≤40*aP x.lf1:=(YE (aP x.lf1+1)) x (Nat.lt_succ_self _) h
theorem OV(n:Nat):∀F,4*n≤F→(∀x:aG,aP x.lf1<n→aP x.lf1≤100000000→Wrt ((qM F).m1 x) (jH x) (jr x)):=by
 induction n with
 |zero=>intro F _;intro x hn;omega
 |succ n ih=>
  intro F hF
  obtain⟨G,rfl⟩:∃G,F=G+2:=⟨F-2,by omega⟩
  have ihWrite:=(ih G (by omega))
  have ih1Write:=(ih (G+1) (by omega))
  have hlWrite:∀l:List aG,bK (l.map aG.lf)<n→bK (l.map aG.lf)≤100000000→Wrt ((qM (G+1)).m2 l) (jh jH l) (l.any jr):=fun l hn hb=>by
   have:=su l
   refine Wrt.of (fun w=>?_) (nD (L:=fun v=>(Hz (qM G) l v).den) (qM G).m1 jH jr l (by omega) (fun v bd bs=>?_) fun s hs=>ihWrite s (by have h1:=dH aG.lf hs;rw[aG.aX] at h1;omega) (by have h1:=dH aG.lf hs;rw[aG.aX] at h1;omega))
   ·show Mo.den (Xg (qM G) l w)=_
    unfold Xg;simp only[Mo.den,au,aj,ak,ay,aA]
   ·simp only[Hz,Mo.den,au,aj,ak,ay,aA]
  intro x hn h
  have hb:=jJ x
  rw[zQ,Jl]
  exact Wrt.of (fun w=>by show Mo.den (Xf (qM (G+1)) x w)=_;unfold Xf;simp only[Mo.den,au,aj,ak,ay,aA]) (Wrt.bind (iZ x.aF) (Wrt.bind (qG x.fV) (Wrt.bind (uq x.fZ (by omega)) (Wrt.bind (uq x.aW (by omega)) (Wrt.bind (uq x.dG (by omega)) (Wrt.bind (ajg x.dO (by omega)) (Wrt.bind (Vk x.bf (by omega)) (Wrt.bind (qG x.mO) (Wrt.bind (iZ x.dU) (Wrt.bind (hlWrite x.bP (by omega) (by omega)) (Wrt.bind (aof x.dK (by omega)) (Wrt.last (nC x.gq)))))))))))))
theorem ajh(x:aG)(h:aP x.lf1≤100000000):Wrt (aqj x) (jH x) (jr x):=((OV (aP x.lf1+1)) FU (by have:=fJ;omega)) x (Nat.lt_succ_self _) h
end Go.Proofs.YtflpefkohpjjpaaGreatDoor
set_option linter.unusedSimpArgs false
set_option linter.unusedVariables false
namespace Go.Proofs.YtflpefkohpjjpaaGreatDoor
open Go.RowKit
noncomputable def sU(e:bY):List Int:=fB e.rH++(fB e.dU++(fU e.kH++(fB e.oO++jH e.dh)))
theorem ab8(e:bY)(h:aP e.lf1≤100000000):(sU e).length≤40*aP e.lf1:=by
 have hb:=pW e
 have:=gU e.rH
 have:=gU e.dU
 have:=gU e.oO
 have:=nH e.kH
 have:=ab7 e.dh (by omega)
 unfold sU
 simp only[List.length_append]
 omega
noncomputable def YF(e:bY)(x:Int):ByteArray×Int:=bif x != 0 then(⟨#[]⟩,x) else bif jr e.dh then(⟨#[]⟩,8) else(strOfNums (sU e),0)
theorem OX(e:bY)(h:aP e.lf1≤100000000):ah7 e=(ah3 e).bind fun x=>some (YF e x):=by
 have hb:=pW e
 have hl:=ab8 e h
 have h0:([]:List Int).length+(sU e).length≤100000000000:=by rw[List.length_nil];omega
 have hW:Wrt (fun w=>(Q18 e.rH w).bind fun a=>(Q18 e.dU a).bind fun a=>(ak9 e.kH a).bind fun a=>(Q18 e.oO a).bind fun a=>aqj e.dh a) (sU e) (false||(false||(false||(false||jr e.dh)))):=(Wrt.bind (iZ e.rH) (Wrt.bind (iZ e.dU) (Wrt.bind (qG e.kH) (Wrt.bind (iZ e.oO) (ajh e.dh (by omega))))))
 have hw:=hW.h ⟨[],false⟩ h0
 clear hW h0
 unfold ah7 alC
 simp only[Mo.den,au,aj,ak,ay,aA]
 cases ah3 e with
 |none=>rfl
 |some x=>
  simp only[Option.bind_some]
  unfold YF
  cases hx:x != 0 with
  |true=>rfl
  |false=>
   simp only[cond_false]
   have key:((Q18 e.rH ⟨[],false⟩).bind fun a=>(Q18 e.dU a).bind fun a=>(ak9 e.kH a).bind fun a=>(Q18 e.oO a).bind fun a=>aqj e.dh a)=some ⟨sU e,jr e.dh⟩:=by
    refine hw.trans ?_
    simp only[List.nil_append,Bool.false_or]
   have hb2:∀{α β γ:Type} (m:Option α) (f:α→Option β) (g:β→Option γ),(m.bind f).bind g=m.bind fun a=>(f a).bind g:=fun m f g=>by cases m<;>rfl
   have k2:=congrArg (fun o=>o.bind fun r=>bif r.dS then some ((⟨#[]⟩:ByteArray),(8:Int)) else some (strOfNums r.bF,0)) key
   simp only[hb2] at k2
   refine k2.trans ?_
   simp only[Option.bind_some]
   cases jr e.dh<;>rfl
theorem ae7(e:bY)(h:aP e.lf1≤100000000):Tot (ah7 e) Any:=by
 obtain⟨x,hx,_⟩:=JD e h
 rw[OX e h,hx]
 exact T.any
end Go.Proofs.YtflpefkohpjjpaaGreatDoor
set_option linter.unusedSimpArgs false
set_option linter.unusedVariables false
namespace Go.Proofs.YtflpefkohpjjpaaGreatDoor
open Go.RowKit
def zS(s:ByteArray):Bool:=decide (s=⟨#[]⟩)
theorem Vl{w:aG}(h:gQ w.lf1):gQ w.dO.lf1∧gQ w.bf.lf1:=by
 unfold aG.lf1 at h
 simp only[jq] at h
 exact⟨h.2.2.2.2.1,h.2.2.2.2.2.1⟩
theorem aoi{x:aS}(h:gQ x.lf1):gQ (aS.P7 x ⟨#[]⟩).lf1:=by
 unfold aS.lf1 at h ⊢
 simp only[jq,iH] at h ⊢
 obtain⟨⟨_,h2⟩,h3⟩:=h
 refine⟨⟨?_,h2⟩,h3⟩
 unfold zC
 exact Nat.zero_le _
theorem PN(w:aG):Q28 w=some (w.aF==0&&(zS w.fV&&(iW w.fZ&&(iW w.aW&&(iW w.dG&&(w.dO.lf1.all zlf&&(w.bf.lf1.all zlf&&(zS w.mO&&(w.dU==0&&((w.bP.length:Int)==0&&((w.dK.length:Int)==0&&!w.gq))))))))))):=by
 simp only[Q28,akq,dQ,QG,QF,QE,QD,QC,QB,QA,Qz,Qy,Zz,Zy,Mo.den,au,aj,ak,ay,aA,Fz,PD,PE,Option.bind_some,dD,oK,Bool.and_assoc,zS]
theorem ab9(x:aS):aP (aS.P7 x ⟨#[]⟩).lf1≤aP x.lf1:=by
 rw[jB,jB]
 show 6+0+bK (x.fA.map aY.lf)+aP x.bM.lf1≤_
 omega
theorem asF:iW (ah.mk 0 0 ⟨#[]⟩ [] [])=true:=rfl
theorem nil0{α:Type}:((([]:List α).length:Int)==0)=true:=rfl
theorem aw1:decide ((⟨#[]⟩:ByteArray)=⟨#[]⟩)=true:=decide_eq_true rfl
theorem ahn(k:Int):k=2∨k=3∨k=4∨k=5∨k=6∨k=7∨k=8∨k=9∨k=10∨k=11∨k=12∨(k<2∨12<k):=by omega
theorem OY:(bW.mk ⟨#[]⟩ [] aI.z 0 0).lf1.all zlf=true:=by unfold bW.lf1 aI.lf1 ah.lf1;rfl
theorem OZ:aS.z.lf1.all zlf=true:=by unfold aS.lf1 aO.lf1 aQ.lf1 dL.lf1 ah.lf1;rfl
theorem YG(w:aG)(hb:aP w.lf1≤100000000)(hf:gQ w.lf1):Q13 w=Q24 w:=by
 have hp:=jJ w
 have hfi:=Vl hf
 have hns:=abW w.dO (by omega) hfi.1
 have hni:=Jd w.bf (by omega) hfi.2
 have hnn:=Jd (aS.P7 w.bf ⟨#[]⟩) (by have:=ab9 w.bf;omega) (aoi hfi.2)
 clear hp hfi hf hb
 cases w with
 |mk k sp key doc bef df ix tx st ws sh sil=>
 simp only[aG.dO,aG.bf] at hns hni hnn
 simp only[Q13,am4,SX,Ii,Ih,Ig,SV,SS,SQ,SN,SL,aaH,aaG,Mo.den,au,aj,ak,ay,aA,aq4,XR,Mo.den,au,aj,ak,ay,aA,aq2,XQ,Mo.den,au,aj,ak,ay,aA,aq5,XT,Mo.den,au,aj,ak,ay,aA,am3,NR,Mo.den,au,aj,ak,ay,aA,aq8,XV,Mo.den,au,aj,ak,ay,aA,Q24,akr,GV,GU,GN,GL,GK,GH,Gz,Gy,Lj,Lh,Mo.den,au,aj,ak,ay,aA,akk,Ld,Mo.den,au,aj,ak,ay,aA,PN,hns,hni,hnn,qB,Option.bind_some,aG.aF,aG.fV,aG.fZ,aG.aW,aG.dG,aG.dO,aG.bf,aG.mO,aG.dU,aG.bP,aG.dK,aG.gq]
 rcases ahn k with rfl|rfl|rfl|rfl|rfl|rfl|rfl|rfl|rfl|rfl|rfl|hk
 case inr.inr.inr.inr.inr.inr.inr.inr.inr.inr.inr=>
  have hne:∀c:Int,2≤c→c≤12→(k==c)=false:=fun c h1 h2=>by rw[beq_eq_false_iff_ne];omega
  have d1:(decide (2≤k)&&decide (k≤7))=false:=by
   rcases hk with h|h
   ·rw[decide_eq_false (by omega)];rfl
   ·rw[decide_eq_false (show ¬k≤7 by omega),Bool.and_false]
  have d2:(decide (9≤k)&&decide (k≤12))=false:=by
   rcases hk with h|h
   ·rw[decide_eq_false (by omega)];rfl
   ·rw[decide_eq_false (show ¬k≤12 by omega),Bool.and_false]
  simp only[Mo.den,au,aj,ak,ay,aA,hns,hni,hnn,Option.bind_some,cond_true,cond_false,aG.aF,aG.fV,aG.fZ,aG.aW,aG.dG,aG.dO,aG.bf,aG.mO,aG.dU,aG.bP,aG.dK,aG.gq,aG.I4,aG.VJ,aG.aoN,aG.aoO,aG.VK,aG.as3,aG.VL,aG.as4,aG.acB,aG.VN,aG.VO,aG.VP,aN.z,aN.wR,aN.ahJ,aN.ajR,aN.ajS,aN.KJ,aN.rM,aN.Zg,aN.Gn,aN.Ad,aN.D6,dD,oK,OY,OZ,Int.reduceBEq,Int.reduceLE,Int.reduceBNe,decide_true,decide_false,bne,Bool.not_true,Bool.not_false,hne 2 (by omega) (by omega),hne 3 (by omega) (by omega),hne 4 (by omega) (by omega),hne 5 (by omega) (by omega),hne 6 (by omega) (by omega),hne 7 (by omega) (by omega),hne 8 (by omega) (by omega),hne 9 (by omega) (by omega),hne 10 (by omega) (by omega),hne 11 (by omega) (by omega),hne 12 (by omega) (by omega),d1,d2,Bool.false_and,Bool.and_false,Bool.true_and,Bool.and_true,cond_true,cond_false,zS,asF,aw1,beq_self_eq_true]
  congr 1
  ac_rfl
 all_goals (simp(decide:=true) only[Mo.den,au,aj,ak,ay,aA,hns,hni,hnn,Option.bind_some,cond_true,cond_false,aG.aF,aG.fV,aG.fZ,aG.aW,aG.dG,aG.dO,aG.bf,aG.mO,aG.dU,aG.bP,aG.dK,aG.gq,aG.I4,aG.VJ,aG.aoN,aG.aoO,aG.VK,aG.as3,aG.VL,aG.as4,aG.acB,aG.VN,aG.VO,aG.VP,aN.z,aN.wR,aN.ahJ,aN.ajR,aN.ajS,aN.KJ,aN.rM,aN.Zg,aN.Gn,aN.Ad,aN.D6,dD,oK,OY,OZ,Int.reduceBEq,Int.reduceLE,Int.reduceBNe,decide_true,decide_false,bne,Bool.not_true,Bool.not_false])
 all_goals (simp only[Bool.false_and,Bool.and_false,Bool.true_and,Bool.and_true,cond_true,cond_false,zS,asF,aw1,nil0,beq_self_eq_true,Bool.and_true])
 all_goals (congr 1;ac_rfl)
end Go.Proofs.YtflpefkohpjjpaaGreatDoor
set_option linter.unusedSimpArgs false
set_option linter.unusedVariables false
namespace Go.Proofs.YtflpefkohpjjpaaGreatDoor
open Go.RowKit
theorem ae8{v:ah}(h:lX v=true)(hk:¬v.aF=5):v.aW=[]:=by
 unfold lX at h
 rw[Bool.and_eq_true,Bool.and_eq_true] at h
 have hs:=h.2.2
 rw[aeB] at hs
 simp only[Bool.and_eq_true] at hs
 have hh:=hs.1.1
 unfold Gt at hh
 simp only[Bool.and_eq_true,Bool.or_eq_true,beq_iff_eq] at hh
 rcases hh.2 with h5|h0
 ·exact absurd h5 hk
 ·exact List.eq_nil_of_length_eq_zero h0
theorem Vm(d k:ah)(hd:aP d.lf1≤100000000)(hk:aP k.lf1≤100000000)(hf:gQ d.lf1)(hi:¬k.aF=6∧¬k.aF=1∧¬k.aF=11):aem d k=Q81 d k:=by
 obtain⟨hL,⟨n,e⟩,hc,hce⟩:=ajc d hd hf
 have hp:=dF d
 unfold aem ana Q81 akL
 simp only[Mo.den,au,aj,ak,ay,aA,Tf,LJ,LK,GY,awP,am7,Mo.den,au,aj,ak,ay,aA,awO,am5,NT,NS,Tc,S9,Mo.den,au,aj,ak,ay,aA,hL,hc,kF d hd,lN d hd,Option.bind_some,dD]
 cases hv:lX d with
 |false=>cases d.aF != 5<;>rfl
 |true=>
  by_cases h5:¬d.aF=5
  ·have hn:=ae8 hv h5
   rw[show(d.aF != 5)=true from bne_iff_ne.2 h5,hn];rfl
  rw[show(d.aF != 5)=false by rw[Classical.not_not.1 h5];rfl]
  cases hD:d.aW with
  |nil=>rfl
  |cons f r=>
   have hm:f∈d.aW:=by rw[hD];exact List.mem_cons_self ..
   have hbf:=fE hm
   rw[dY] at hbf
   have hcmp:=aeS f.fValue k (by omega) hk
   obtain⟨c,hcc,_⟩:=uh f.fValue k (by omega) hk
   have hg:mg (f::r) 0=some f:=rfl
   have hl:(((f::r).length:Int)==0)=false:=by rw[beq_eq_false_iff_ne,List.length_cons];omega
   have he:e=0:=hce hv
   subst he
   simp only[hg,hl,hcmp,hcc,apn,acX,Mo.den,au,aj,ak,ay,aA,Option.bind_some,dD,Bool.not_true,cond_true,cond_false,bne_self_eq_false]
   cases hname:decide (f.fName=(⟨#[95,105,100]⟩:ByteArray)) with
   |false=>rfl
   |true=>
    simp only[Bool.not_true,cond_false]
    by_cases hid:f.fValue.aF=6∨f.fValue.aF=1∨f.fValue.aF=11
    ·have hne:(f.fValue.aF != k.aF)=true:=by rw[bne_iff_ne];omega
     have hc0:(c==0)=false:=by
      rw[beq_eq_false_iff_ne]
      intro h0
      subst h0
      unfold Q37 at hcc
      obtain⟨G,hG⟩:=J8
      rw[hG] at hcc
      have hcc:Mo.den (LC (lU G) f.fValue k)=some 0:=hcc
      unfold LC at hcc
      simp only[Mo.den,au,aj,ak,ay,aA,hne,cond_true,abJ,Option.bind_some] at hcc
      have hcc:=Option.some.inj hcc
      unfold FD at hcc
      have hk2:¬f.fValue.aF=k.aF:=bne_iff_ne.1 hne
      rcases Int.lt_or_gt_of_ne hk2 with h1|h1
      ·rw[decide_eq_true h1] at hcc;cases hcc
      ·rw[decide_eq_false (by omega),decide_eq_true h1] at hcc;cases hcc
     rw[hc0]
     have hq:(bif bif f.fValue.aF==6 then true else f.fValue.aF==1 then true else f.fValue.aF==11)=true:=by
      rcases hid with h|h|h
      ·rw[h];rfl
      ·rw[h];rfl
      ·rw[h];rfl
     rw[hq];rfl
    ·have hq:(bif bif f.fValue.aF==6 then true else f.fValue.aF==1 then true else f.fValue.aF==11)=false:=by
      rw[show(f.fValue.aF==6)=false by rw[beq_eq_false_iff_ne];omega,show(f.fValue.aF==1)=false by rw[beq_eq_false_iff_ne];omega,show(f.fValue.aF==11)=false by rw[beq_eq_false_iff_ne];omega];rfl
     rw[hq]
     simp only[cond_false,Bool.not_true,bne]
     cases c==0 with
     |true=>cases decide ((16384:Int)<n)<;>rfl
     |false=>cases decide ((16384:Int)<n)<;>rfl
end Go.Proofs.YtflpefkohpjjpaaGreatDoor
set_option linter.unusedSimpArgs false
set_option linter.unusedVariables false
namespace Go.Proofs.YtflpefkohpjjpaaGreatDoor
open Go.RowKit
theorem aji(v:ah)(hb:aP v.lf1≤100000000):Q88 v=some (!(v.aF==6)&&(!(v.aF==1)&&(!(v.aF==11)&&lX v))):=by
 simp only[Q88,akH,dQ,QW,ZH,ZG,Mo.den,au,aj,ak,ay,aA,kF v hb,Option.bind_some,dD,oK,bne,Bool.and_assoc]
theorem ae9(v:ah)(hb:aP v.lf1≤100000000):Q77 v=some (!(v.aF==6)&&(!(v.aF==1)&&(!(v.aF==11)&&lX v))):=by
 simp only[Q77,ash,dQ,SY,aaK,aaJ,Mo.den,au,aj,ak,ay,aA,lN v hb,Option.bind_some,dD,oK,bne,Bool.and_assoc]
 congr 1
 ac_rfl
def DC(l:List Int)(k:Nat):Option Unit:=match l[k]? with
 |some x=>hit (bif decide (x<0) then true else bif decide (8≤x) then true else bif decide (0<k) then decide (x≤l.getD (k-1) 0) else false)
 |none=>none
noncomputable def FX(l:List Int):Bool:=(dB (DC l) 0 l.length).isNone&&decide ((0:Int)<(l.length:Int))
theorem aho{l:List Int}{k:Nat}(hk:k<l.length)(h0:0<k)(hl:l.length≤100000000):mg l (IntKind.wrap .i64 ((k:Int)-1))=some (l.getD (k-1) 0):=by
 rw[w64 (by omega) (by omega),show(k:Int)-1=((k-1:Nat):Int) by omega,KR,List.getD_eq_getElem?_getD,List.getElem?_eq_getElem (show k-1<l.length by omega)];rfl
theorem afa(l:List Int)(hl:l.length≤100000000):Q57 l=some (FX l):=by
 have hL:V8 l 0=some (jM (dB (DC l) 0 l.length)):=by
  try unfold V8
  refine dX _ l.length (by omega) (fun k hk=>?_) (by simp only[uZ,Mo.den,au,aj,ak,ay,aA,ltn,cond_false])
  have hx:=List.getElem?_eq_getElem hk
  have hd:decide ((0:Int)<(k:Int))=decide (0<k):=by rw[decide_eq_decide];omega
  simp only[uZ,Ll,Lm,Mo.den,au,aj,ak,ay,aA,ltt hx,gid hx,cond_true,Option.bind_some,dD,hd,DC,hx]
  by_cases h0:0<k
  ·rw[aho hk h0 hl,decide_eq_true h0]
   simp only[Option.bind_some,cond_true,dD]
   cases decide (l[k]<0)<;>cases decide (8≤l[k])<;>cases decide (l[k]≤l.getD (k-1) 0)<;>rfl
  ·rw[decide_eq_false h0]
   simp only[cond_false,dD,Option.bind_some]
   cases decide (l[k]<0)<;>cases decide (8≤l[k])<;>rfl
 unfold Q57 aks FX
 simp only[Mo.den,au,aj,ak,ay,aA,hL,Option.bind_some]
 cases dB (DC l) 0 l.length<;>rfl
theorem acd(l:List Int)(hl:l.length≤100000000):Q78 l=some (FX l):=by
 have hL:aek l 0=some (jM (dB (DC l) 0 l.length)):=by
  try unfold aek
  refine dX _ l.length (by omega) (fun k hk=>?_) (by simp only[EK,Mo.den,au,aj,ak,ay,aA,ltn,cond_false])
  have hx:=List.getElem?_eq_getElem hk
  have hd:decide ((0:Int)<(k:Int))=decide (0<k):=by rw[decide_eq_decide];omega
  simp only[EK,aaI,Mo.den,au,aj,ak,ay,aA,ltt hx,gid hx,cond_true,Option.bind_some,dD,hd,DC,hx]
  by_cases h0:0<k
  ·rw[aho hk h0 hl,decide_eq_true h0]
   simp only[Option.bind_some,cond_true,dD]
   cases decide (l[k]<0)<;>cases decide (8≤l[k])<;>cases decide (l[k]≤l.getD (k-1) 0)<;>rfl
  ·rw[decide_eq_false h0]
   simp only[cond_false,dD,Option.bind_some]
   cases decide (l[k]<0)<;>cases decide (8≤l[k])<;>rfl
 unfold Q78 asg FX
 simp only[Mo.den,au,aj,ak,ay,aA,hL,Option.bind_some]
 cases dB (DC l) 0 l.length<;>rfl
theorem DF(w:aG)(h:Q13 w=some true):(¬w.aF=10→¬w.aF=12→w.dU=0)∧(¬w.aF=8→¬w.aF=9→w.bP=[]):=by
 unfold Q13 am4 at h
 simp only[Mo.den,au,aj,ak,ay,aA] at h
 obtain⟨ix,_,h⟩:=iC h
 obtain⟨a1,_,h⟩:=iC h
 obtain⟨a2,_,h⟩:=iC h
 obtain⟨a3,_,h⟩:=iC h
 obtain⟨a4,_,h⟩:=iC h
 obtain⟨a5,_,h⟩:=iC h
 obtain⟨a6,_,h⟩:=iC h
 obtain⟨a7,h7,h⟩:=iC h
 obtain⟨a8,h8,h⟩:=iC h
 obtain⟨a9,h9,h⟩:=iC h
 obtain⟨_,_,h⟩:=iC h
 have e9:a9=true:=Option.some.inj h
 unfold Ii at h9
 unfold Ih at h8
 unfold Ig at h7
 simp only[Mo.den,au,aj,ak,ay,aA,am3,NR,Mo.den,au,aj,ak,ay,aA,dD,Option.bind_some] at h9 h8 h7
 have h9:=Option.some.inj h9
 have h8:=Option.some.inj h8
 have h7:=Option.some.inj h7
 rw[e9] at h9
 cases e8:a8 with
 |false=>rw[e8] at h9;cases h9
 |true=>
  rw[e8] at h8
  cases e7:a7 with
  |false=>rw[e7] at h8;cases h8
  |true=>
   rw[e7] at h8 h7
   simp only[cond_true] at h8
   refine⟨fun k1 k2=>?_,fun k1 k2=>?_⟩
   ·cases e6:a6 with
    |false=>rw[e6] at h7;cases h7
    |true=>
     rw[e6,show(w.aF==10)=false from beq_eq_false_iff_ne.2 k1,show(w.aF==12)=false from beq_eq_false_iff_ne.2 k2] at h7
     exact eq_of_beq h7
   ·rw[show(w.aF==8)=false from beq_eq_false_iff_ne.2 k1,show(w.aF==9)=false from beq_eq_false_iff_ne.2 k2] at h8
    exact len0 h8
theorem ahp(R:RB1)(w:aG)(lo hi:Int)(hb:aP w.lf1≤100000000)(hf:gQ w.lf1)(h1:1≤lo)(h12:hi≤12):
 ∃o,Q3 w lo hi=some o∧Mo.den (adz R w lo hi)=bif o != 0 then some o else bif w.aF==4||w.aF==6 then some 0 else(wX R (bif w.aF==8 then 7 else bif w.aF==9 then 3 else hi) w 0).bind (Sum.elim some fun _=>some 0):=by
 have hp:=jJ w
 have hfi:=Vl hf
 have hfd:gQ w.aW.lf1∧gQ w.dG.lf1:=by
  unfold aG.lf1 at hf
  simp only[jq] at hf
  exact⟨hf.2.2.1,hf.2.2.2.1⟩
 have hsh:=zk w.dK
 have hue:=YG w hb hf
 have hem:=DF w
 obtain⟨u,hu,_⟩:=lM w
 rw[hu] at hue
 rw[hue] at hem
 have hcat:∃c,Q65 w.dO=some c:=(uj w.dO (by omega)).imp fun _ h=>h.1
 obtain⟨cat,hcat⟩:=hcat
 have hRcat:=(an3 w.dO (by omega) (by have:=hfi.1;unfold bW.lf1 at this;simp only[jq] at this;exact this.2.1)).trans hcat
 obtain⟨ixv,hix⟩:∃c,ZU w.bf=some c:=(lu w.bf (by omega)).imp fun _ h=>h.1
 have hRix:=(abM w.bf (by omega)).trans hix
 obtain⟨d1,hd1⟩:∃c,Q81 w.aW w.fZ=some c:=(oC w.aW w.fZ (by omega) (by omega)).imp fun _ h=>h.1
 obtain⟨d2,hd2⟩:∃c,Q81 w.dG w.fZ=some c:=(oC w.dG w.fZ (by omega) (by omega)).imp fun _ h=>h.1
 have hq1:(!(w.fZ.aF==6)&&(!(w.fZ.aF==1)&&(!(w.fZ.aF==11)&&lX w.fZ)))=true→aem w.aW w.fZ=some d1∧aem w.dG w.fZ=some d2:=fun h=>by
  simp only[Bool.and_eq_true,Bool.not_eq_true',beq_eq_false_iff_ne] at h
  exact⟨(Vm w.aW w.fZ (by omega) (by omega) hfd.1 ⟨h.1,h.2.1,h.2.2.1⟩).trans hd1,(Vm w.dG w.fZ (by omega) (by omega) hfd.2 ⟨h.1,h.2.1,h.2.2.1⟩).trans hd2⟩
 have hv1:=aji w.fZ (by omega)
 have hv2:=ae9 w.fZ (by omega)
 have hs1:=afa w.dK (by omega)
 have hs2:=acd w.dK (by omega)
 clear hp hfi hfd hsh hb hf
 unfold Q3 arB adz
 simp only[Mo.den,au,zB,ay,aA,WQ,WR,MP,MQ,MR,MS,MV,MW,MX,MZ,JZ,J3,EX,aa9,abb,abd,abe,abf,abg,abh,abj,abk,abl,abm,abn,abo,abp,hu,hue,hcat,hRcat,hix,hRix,atH,ac1,QX,Mo.den,au,aj,ak,ay,aA,hd1,hd2,hv1,hv2,hs1,hs2,rF,UR,Fz,qB,atx,acQ,QH,Mo.den,au,aj,ak,ay,aA,Option.bind_some,dD,oK,Yt]
 generalize (!(w.fZ.aF==6)&&(!(w.fZ.aF==1)&&(!(w.fZ.aF==11)&&lX w.fZ)))=idk at *
 generalize hk:w.aF=k at *
 generalize aem w.aW w.fZ=S1 at *
 generalize aem w.dG w.fZ=S2 at *
 generalize wX R=L at *
 have hst:¬k=10→¬k=12→u=true→decide (w.dU<0)=false∧decide (1099511627776<w.dU)=false:=fun a b c=>by
  subst c
  rw[(hem rfl).1 a b];exact⟨rfl,rfl⟩
 have n1:decide (1≤w.dU)=!decide (w.dU<1):=by rw[Bool.eq_iff_iff];simp
 have n0:decide (0≤w.dU)=!decide (w.dU<0):=by rw[Bool.eq_iff_iff];simp
 have nM:decide (w.dU≤1099511627776)=!decide (1099511627776<w.dU):=by rw[Bool.eq_iff_iff];simp
 have n10:decide (w.dU<1)=false→decide (w.dU<0)=false:=fun h=>by
  have:=of_decide_eq_false h
  exact decide_eq_false (by omega)
 clear hem hs1 hs2 hv1 hv2 hd1 hd2 hix hRix hcat hRcat hue hu
 rcases ahn k with rfl|rfl|rfl|rfl|rfl|rfl|rfl|rfl|rfl|rfl|rfl|hk2
 case inr.inr.inr.inr.inr.inr.inr.inr.inr.inr.inr=>
  have hne:∀c:Int,2≤c→c≤12→(k==c)=false:=fun c h1 h2=>by rw[beq_eq_false_iff_ne];omega
  have d1':(decide (2≤k)&&decide (k≤7))=false:=by
   rcases hk2 with h|h
   ·rw[decide_eq_false (by omega)];rfl
   ·rw[decide_eq_false (show ¬k≤7 by omega),Bool.and_false]
  have d2':(decide (9≤k)&&decide (k≤12))=false:=by
   rcases hk2 with h|h
   ·rw[decide_eq_false (by omega)];rfl
   ·rw[decide_eq_false (show ¬k≤12 by omega),Bool.and_false]
  have hst:=hst (by omega) (by omega)
  simp only[akk,Ld,Mo.den,au,aj,ak,ay,aA,aq4,XR,Mo.den,au,aj,ak,ay,aA,aq2,XQ,Mo.den,au,aj,ak,ay,aA,aq5,XT,Mo.den,au,aj,ak,ay,aA,am3,NR,Mo.den,au,aj,ak,ay,aA,aq8,XV,Mo.den,au,aj,ak,ay,aA,aN.z,aN.wR,aN.ahJ,aN.ajR,aN.ajS,aN.KJ,aN.rM,aN.Zg,aN.Gn,aN.Ad,aN.D6,Option.bind_some,dD,oK,Yt,Int.reduceBEq,Int.reduceLE,Int.reduceLT,Int.reduceBNe,decide_true,decide_false,bne,Bool.not_true,Bool.not_false,cond_true,cond_false,Bool.or_false,Bool.false_or,Bool.true_or,Bool.or_true,Bool.true_and,Bool.false_and,Bool.and_true,Bool.and_false,Sum.elim_inl,Sum.elim_inr,hne 2 (by omega) (by omega),hne 3 (by omega) (by omega),hne 4 (by omega) (by omega),hne 5 (by omega) (by omega),hne 6 (by omega) (by omega),hne 7 (by omega) (by omega),hne 8 (by omega) (by omega),hne 9 (by omega) (by omega),hne 10 (by omega) (by omega),hne 11 (by omega) (by omega),hne 12 (by omega) (by omega),d1',d2']
  generalize decide (w.dU<0)=s0 at *
  generalize decide (1099511627776<w.dU)=sM at *
  generalize decide (256<(w.bP.length:Int))=B at *
  generalize decide (k<lo)=A1 at *
  generalize decide (hi<k)=A2 at *
  cases u<;>cases A1<;>cases A2<;>cases B<;>cases s0<;>cases sM<;>first|exact⟨_,rfl,rfl⟩|(exact absurd (hst rfl).1 (by decide))|(exact absurd (hst rfl).2 (by decide))
 all_goals simp(decide:=true) only[akk,Ld,Mo.den,au,aj,ak,ay,aA,aq4,XR,Mo.den,au,aj,ak,ay,aA,aq2,XQ,Mo.den,au,aj,ak,ay,aA,aq5,XT,Mo.den,au,aj,ak,ay,aA,am3,NR,Mo.den,au,aj,ak,ay,aA,aq8,XV,Mo.den,au,aj,ak,ay,aA,aN.z,aN.wR,aN.ahJ,aN.ajR,aN.ajS,aN.KJ,aN.rM,aN.Zg,aN.Gn,aN.Ad,aN.D6,Option.bind_some,dD,oK,Yt,Int.reduceBEq,Int.reduceLE,Int.reduceLT,Int.reduceBNe,decide_true,decide_false,bne,Bool.not_true,Bool.not_false,cond_true,cond_false,Bool.or_false,Bool.false_or,Bool.true_or,Bool.or_true,Bool.true_and,Bool.false_and,Bool.and_true,Bool.and_false,Sum.elim_inl,Sum.elim_inr,n1,n0,nM]
 all_goals generalize decide (w.dU<0)=s0 at *
 all_goals generalize decide (w.dU<1)=s1 at *
 all_goals generalize decide (1099511627776<w.dU)=sM at *
 all_goals generalize decide (256<(w.bP.length:Int))=B at *
 all_goals generalize ((w.bP.length:Int)==0)=z at *
 all_goals generalize nameB w.fV=ns at *
 all_goals generalize nameB w.mO=nt at *
 all_goals generalize nameB w.bf.fName=ni at *
 all_goals generalize FX w.dK=sb at *
 all_goals generalize iW w.dG=mb at *
 ·have hst:=hst (by decide) (by decide)
  generalize (decide (2<lo)||decide (hi<2))=A at *
  cases u with
  |false=>cases A<;>exact⟨_,rfl,rfl⟩
  |true=>
   obtain⟨rfl,rfl⟩:=hst rfl
   cases A with
   |true=>exact⟨_,rfl,rfl⟩
   |false=>
   cases B with
   |true=>exact⟨_,rfl,rfl⟩
   |false=>
   cases ns with
   |false=>exact⟨_,rfl,rfl⟩
   |true=>
   cases idk with
   |false=>exact⟨_,rfl,rfl⟩
   |true=>
    obtain⟨rfl,rfl⟩:=hq1 rfl
    simp only[Option.bind_some,cond_true,cond_false,Bool.not_true,Bool.not_false,Bool.or_false,Sum.elim_inr]
    cases e1:d1==0 with
    |false=>exact⟨d1,rfl,by rw[e1];simp only[Bool.not_false,cond_true,Sum.elim_inl,Option.bind_some,e1]⟩
    |true=>
     simp only[Bool.not_true,cond_false,Sum.elim_inr,Option.bind_some]
     cases mb with
     |true=>exact⟨0,rfl,rfl⟩
     |false=>
      simp only[Bool.not_false,cond_true,cond_false,Option.bind_some]
      cases e2:d2==0 with
      |false=>exact⟨d2,rfl,by rw[e2];rfl⟩
      |true=>exact⟨0,rfl,rfl⟩
 ·have hst:=hst (by decide) (by decide)
  generalize (decide (3<lo)||decide (hi<3))=A at *
  cases u with
  |false=>cases A<;>exact⟨_,rfl,rfl⟩
  |true=>
   obtain⟨rfl,rfl⟩:=hst rfl
   cases A with
   |true=>exact⟨_,rfl,rfl⟩
   |false=>
   cases B with
   |true=>exact⟨_,rfl,rfl⟩
   |false=>
   cases ns with
   |false=>exact⟨_,rfl,rfl⟩
   |true=>
   cases idk with
   |false=>exact⟨_,rfl,rfl⟩
   |true=>
    obtain⟨_,rfl⟩:=hq1 rfl
    cases mb with
    |true=>exact⟨0,rfl,rfl⟩
    |false=>
     simp only[Option.bind_some,cond_true,cond_false,Bool.not_true,Bool.not_false,Bool.or_false]
     cases e2:d2==0 with
     |false=>exact⟨d2,rfl,by rw[e2];rfl⟩
     |true=>exact⟨0,rfl,rfl⟩
 ·have hst:=hst (by decide) (by decide)
  generalize (decide (4<lo)||decide (hi<4))=A at *
  cases u<;>cases A<;>cases B<;>cases s0<;>cases sM<;>first|exact⟨_,rfl,rfl⟩|(exact absurd (hst rfl).1 (by decide))|(exact absurd (hst rfl).2 (by decide))|(refine⟨_,rfl,?_⟩;show some cat=some (bif !(cat==0) then cat else 0);cases e:cat==0 with|true=>rw[eq_of_beq e];rfl|false=>rfl)
 ·have hst:=hst (by decide) (by decide)
  generalize (decide (5<lo)||decide (hi<5))=A at *
  cases u<;>cases A<;>cases B<;>cases ns<;>cases s0<;>cases sM<;>first|exact⟨_,rfl,rfl⟩|(exact absurd (hst rfl).1 (by decide))|(exact absurd (hst rfl).2 (by decide))
 ·have hst:=hst (by decide) (by decide)
  generalize (decide (6<lo)||decide (hi<6))=A at *
  cases u<;>cases A<;>cases B<;>cases ns<;>cases s0<;>cases sM<;>first|exact⟨_,rfl,rfl⟩|(exact absurd (hst rfl).1 (by decide))|(exact absurd (hst rfl).2 (by decide))|(refine⟨_,rfl,?_⟩;show some ixv=some (bif !(ixv==0) then ixv else 0);cases e:ixv==0 with|true=>rw[eq_of_beq e];rfl|false=>rfl)
 ·have hst:=hst (by decide) (by decide)
  generalize (decide (7<lo)||decide (hi<7))=A at *
  cases u<;>cases A<;>cases B<;>cases ns<;>cases ni<;>cases s0<;>cases sM<;>first|exact⟨_,rfl,rfl⟩|(exact absurd (hst rfl).1 (by decide))|(exact absurd (hst rfl).2 (by decide))
 ·have hst:=hst (by decide) (by decide)
  generalize (decide (8<lo)||decide (hi<8))=A at *
  cases u<;>cases A<;>cases B<;>cases z<;>cases s0<;>cases sM<;>first|exact⟨_,rfl,rfl⟩|(exact absurd (hst rfl).1 (by decide))|(exact absurd (hst rfl).2 (by decide))
 ·have hst:=hst (by decide) (by decide)
  generalize (decide (9<lo)||decide (hi<9))=A at *
  cases u<;>cases A<;>cases B<;>cases z<;>cases nt<;>cases s0<;>cases sM<;>first|exact⟨_,rfl,rfl⟩|(exact absurd (hst rfl).1 (by decide))|(exact absurd (hst rfl).2 (by decide))
 ·generalize (decide (10<lo)||decide (hi<10))=A at *
  cases u<;>cases A<;>cases B<;>cases nt<;>cases s1<;>cases s0<;>cases sM<;>first|exact⟨_,rfl,rfl⟩|(exact absurd (n10 rfl) (by decide))
 ·have hst:=hst (by decide) (by decide)
  generalize (decide (11<lo)||decide (hi<11))=A at *
  cases u<;>cases A<;>cases B<;>cases nt<;>cases s0<;>cases sM<;>first|exact⟨_,rfl,rfl⟩|(exact absurd (hst rfl).1 (by decide))|(exact absurd (hst rfl).2 (by decide))
 ·generalize (decide (12<lo)||decide (hi<12))=A at *
  cases u<;>cases A<;>cases B<;>cases nt<;>cases s0<;>cases sM<;>cases sb<;>exact⟨_,rfl,rfl⟩
theorem arS(R:RB1)(w:aG)(hi:Int)(hb:aP w.lf1≤100000000)(hf:gQ w.lf1)(h7:hi≤7):∃o,Q3 w 2 hi=some o∧Mo.den (adz R w 2 hi)=some o:=by
 obtain⟨o,h1,h2⟩:=ahp R w 2 hi hb hf (by omega) (by omega)
 refine⟨o,h1,?_⟩
 rw[h2]
 cases ho:o != 0 with
 |true=>rfl
 |false=>
  have h0:o=0:=by simpa using ho
  subst h0
  have hu:=YG w hb hf
  obtain⟨u,hu2,_⟩:=lM w
  rw[hu2] at hu
  have hem:=DF w
  rw[hu] at hem
  have hacc:u=true∧2≤w.aF∧w.aF≤hi:=by
   unfold Q3 arB at h1
   simp only[Mo.den,au,aj,ak,ay,aA,JZ,J3,hu,dD,Yt,Option.bind_some] at h1
   obtain⟨z,hz,h1⟩:=iC h1
   obtain⟨_,_,h1⟩:=iC h1
   cases hz2:z with
   |true=>rw[hz2] at h1;cases h1
   |false=>
    rw[hz2] at hz
    unfold EX at hz
    simp only[Mo.den,au,aj,ak,ay,aA] at hz
    cases hq:decide (w.aF<2)||decide (hi<w.aF)||!u with
    |true=>rw[hq] at hz;cases hz
    |false=>
     simp only[Bool.or_eq_false_iff,decide_eq_false_iff_not,Bool.not_eq_false'] at hq
     exact⟨hq.2,by omega,by omega⟩
  obtain⟨rfl,k2,k7⟩:=hacc
  have hw:=(hem rfl).2 (by omega) (by omega)
  have hL:∀g,wX R g w 0=some (.inr ()):=fun g=>oJ (by simp only[rU,Mo.den,au,aj,ak,ay,aA,hw];rfl)
  rw[hL]
  cases w.aF==4||w.aF==6<;>rfl
theorem aoj(e:bY)(hb:aP e.lf1≤100000000)(hf:gQ e.lf1):Q29 e=ah3 e:=by
 have hbe:=pW e
 have hbw:=jJ e.dh
 have hlw:=su e.dh.bP
 have hfw:=ai4 hf
 obtain⟨G,hG⟩:∃G,FU=G+2:=⟨FU-2,by have:=fJ;omega⟩
 obtain⟨o,h1,h2⟩:=ahp (lV (G+1)) e.dh 1 12 (by omega) hfw (by omega) (by omega)
 have hV:Q4 e.dh 1 12=Mo.den (adz (lV (G+1)) e.dh 1 12):=by
  unfold Q4
  rw[hG];rfl
 have hV:=hV.trans h2
 let hi2:Int:=bif e.dh.aF==9 then 3 else 7
 let f:Nat→Option Int:=fun k=>match e.dh.bP[k]? with
  |some x=>bif (Q3 x 2 hi2).getD 0 != 0 then some ((Q3 x 2 hi2).getD 0) else none
  |none=>none
 have hi7:hi2≤7:=by
  show(bif e.dh.aF==9 then(3:Int) else 7)≤7
  cases e.dh.aF==9
  ·exact Int.le_refl _
  ·show(3:Int)≤7;decide
 have kid:∀{k:Nat} {x:aG},e.dh.bP[k]?=some x→∃c,Q3 x 2 hi2=some c∧(lV (G+1)).m1 x 2 hi2=some c:=fun {k x} hx=>by
  have hm:=UN (gG hx)
  exact arS (lV G) x hi2 (by omega) ((ai3 hfw).2 x (gG hx)) hi7
 have LP:wX (lV (G+1)) hi2 e.dh 0=some (jM (dB f 0 e.dh.bP.length)):=by
  try unfold wX
  refine dX f e.dh.bP.length (by omega) (fun k hk=>?_) (by simp only[rU,Mo.den,au,aj,ak,ay,aA,ltn,cond_false])
  obtain⟨x,hx⟩:∃x,e.dh.bP[k]?=some x:=⟨_,List.getElem?_eq_getElem hk⟩
  obtain⟨c,c1,c2⟩:=kid hx
  simp only[rU,Mo.den,au,aj,ak,ay,aA,ltt hx,gid hx,cond_true,Option.bind_some,c2,c1,f,hx,Option.getD_some]
  cases c != 0<;>rfl
 have LR:Yg e hi2 0=some (jM (dB f 0 e.dh.bP.length)):=by
  try unfold Yg
  refine dX f e.dh.bP.length (by omega) (fun k hk=>?_) (by simp only[Bj,Mo.den,au,aj,ak,ay,aA,ltn,cond_false])
  obtain⟨x,hx⟩:∃x,e.dh.bP[k]?=some x:=⟨_,List.getElem?_eq_getElem hk⟩
  obtain⟨c,c1,c2⟩:=kid hx
  simp only[Bj,Mo.den,au,aj,ak,ay,aA,ltt hx,gid hx,cond_true,Option.bind_some,c1,f,hx,Option.getD_some]
  cases c != 0<;>rfl
 have hnil:(o != 0)=false→¬e.dh.aF=8→¬e.dh.aF=9→e.dh.bP=[]:=fun ho k8 k9=>by
  have h0:o=0:=by simpa using ho
  subst h0
  have hu:=YG e.dh (by omega) hfw
  obtain⟨u,hu2,_⟩:=lM e.dh
  rw[hu2] at hu
  have hem:=DF e.dh
  rw[hu] at hem
  have hacc:u=true:=by
   unfold Q3 arB at h1
   simp only[Mo.den,au,aj,ak,ay,aA,JZ,J3,hu,dD,Yt,Option.bind_some] at h1
   obtain⟨z,hz,h1⟩:=iC h1
   obtain⟨_,_,h1⟩:=iC h1
   cases hz2:z with
   |true=>rw[hz2] at h1;cases h1
   |false=>
    rw[hz2] at hz
    unfold EX at hz
    simp only[Mo.den,au,aj,ak,ay,aA] at hz
    cases u with
    |true=>rfl
    |false=>rw[Bool.not_false,Bool.or_true] at hz;cases hz
  exact(hem (by rw[hacc])).2 k8 k9
 unfold Q29 asz ah3 adA
 have hJ:Yf e=some hi2:=by
  unfold Yf UM
  simp only[Mo.den,au,aj,ak,ay,aA]
  show _=some (bif e.dh.aF==9 then(3:Int) else 7)
  cases e.dh.aF==9<;>rfl
 simp only[Mo.den,au,zB,ay,aA,abq,abr,UK,UL,Sm,Sr,Na,rF,UR,Option.bind_some,dD,h1,hV,hJ,LR]
 have tail:(bif o != 0 then some o else Sum.elim some (fun _=>some 0) (jM (dB f 0 e.dh.bP.length)))=(bif o != 0 then some o else bif e.dh.aF==4||e.dh.aF==6 then some 0 else(wX (lV (G+1)) (bif e.dh.aF==8 then 7 else bif e.dh.aF==9 then 3 else 12) e.dh 0).bind (Sum.elim some fun _=>some 0)):=by
  cases ho:o != 0 with
  |true=>rfl
  |false=>
   simp only[cond_false]
   by_cases k8:e.dh.aF=8
   ·rw[show(e.dh.aF==4||e.dh.aF==6)=false by rw[k8];rfl,show(bif e.dh.aF==8 then(7:Int) else bif e.dh.aF==9 then 3 else 12)=hi2 by show _=(bif e.dh.aF==9 then(3:Int) else 7);rw[k8];rfl,LP];rfl
   ·by_cases k9:e.dh.aF=9
    ·rw[show(e.dh.aF==4||e.dh.aF==6)=false by rw[k9];rfl,show(bif e.dh.aF==8 then(7:Int) else bif e.dh.aF==9 then 3 else 12)=hi2 by show _=(bif e.dh.aF==9 then(3:Int) else 7);rw[k9];rfl,LP];rfl
    ·have hw:=hnil ho k8 k9
     have hL:∀g,wX (lV (G+1)) g e.dh 0=some (.inr ()):=fun g=>oJ (by simp only[rU,Mo.den,au,aj,ak,ay,aA,hw];rfl)
     rw[hL,hw]
     cases e.dh.aF==4||e.dh.aF==6<;>rfl
 rw[tail]
 cases (bif o != 0 then some o else bif e.dh.aF==4||e.dh.aF==6 then some 0 else(wX (lV (G+1)) (bif e.dh.aF==8 then 7 else bif e.dh.aF==9 then 3 else 12) e.dh 0).bind (Sum.elim some fun _=>some 0))<;>rfl
end Go.Proofs.YtflpefkohpjjpaaGreatDoor
set_option linter.unusedSimpArgs false
set_option linter.unusedVariables false
namespace Go.Proofs.YtflpefkohpjjpaaGreatDoor
theorem ajj:awL=some true:=by kernel_rfl
end Go.Proofs.YtflpefkohpjjpaaGreatDoor
set_option linter.unusedSimpArgs false
set_option linter.unusedVariables false
namespace Go.Proofs.YtflpefkohpjjpaaGreatDoor
open Go.RowKit
theorem arT(e:bY)(hb:aP e.lf1≤100000000):∃b,ava e=some b:=by
 have hbe:=pW e
 have hbw:=jJ e.dh
 have hlw:=su e.dh.bP
 have hI:∃c,Q72 e.dh.bP=some c:=by
  have hL:aej e.dh.bP 0=some (jM (dB (fun k=>match e.dh.bP[k]? with|some x=>bif decide ((300:Int)<(x.bP.length:Int)) then some (k:Int) else none|none=>none) 0 e.dh.bP.length)):=by
   try unfold aej
   refine dX _ e.dh.bP.length (by omega) (fun k hk=>?_) (by simp only[EJ,Mo.den,au,aj,ak,ay,aA,ltn,cond_false])
   obtain⟨x,hx⟩:∃x,e.dh.bP[k]?=some x:=⟨_,List.getElem?_eq_getElem hk⟩
   simp only[EJ,awM,amX,Mo.den,au,aj,ak,ay,aA,ltt hx,gid hx,cond_true,Option.bind_some,hx]
   cases decide ((300:Int)<(x.bP.length:Int))<;>rfl
  unfold Q72 ase
  simp only[Mo.den,au,aj,ak,ay,aA,hL,Option.bind_some]
  generalize dB _ 0 e.dh.bP.length=o
  cases o<;>exact⟨_,rfl⟩
 obtain⟨c,hc⟩:=hI
 unfold ava amZ awN amY
 simp only[Mo.den,au,aj,ak,ay,aA,hc,Option.bind_some,dD]
 exact⟨_,rfl⟩
end Go.Proofs.YtflpefkohpjjpaaGreatDoor
set_option linter.unusedSimpArgs false
set_option linter.unusedVariables false
namespace Go.Proofs.YtflpefkohpjjpaaGreatDoor
open Go.RowKit
def OW(F:aK→Option aK)(e:List Int)(b:Bool)(n:Nat):Prop:=∀w,w.rJ=false→w.fS.size+n≤100000000000→∃w',F w=some w'∧w'.rJ=false∧w'.qJ=(w.qJ||b)∧w'.fS.size≤w.fS.size+n∧(b=false→w'.fS=w.fS++strOfNums e)
theorem OW.bind{F G:aK→Option aK}{e e':List Int}{b b':Bool}{n n':Nat}(h:OW F e b n)(k:OW G e' b' n'):OW (fun w=>(F w).bind G) (e++e') (b||b') (n+n'):=by
 intro w hr hs
 obtain⟨w1,h1,r1,b1,s1,c1⟩:=h w hr (by omega)
 obtain⟨w2,h2,r2,b2,s2,c2⟩:=k w1 r1 (by omega)
 refine⟨w2,by show(F w).bind G=_;rw[h1];exact h2,r2,by rw[b2,b1,Bool.or_assoc],by omega,fun hb=>?_⟩
 rw[Bool.or_eq_false_iff] at hb
 rw[c2 hb.2,c1 hb.1,xQ,ByteArray.append_assoc]
theorem OW.nil:OW some [] false 0:=fun w hr _=>⟨w,rfl,hr,(Bool.or_false _).symm,Nat.le_refl _,fun _=>(ByteArray.append_empty (b:=w.fS)).symm⟩
theorem OW.to{m k:aK→Option aK}{e e':List Int}{b b':Bool}{n n':Nat}(h:OW k e b n)(q:∀w,w.rJ=false→m w=k w)(he:e=e')(hb:b=b')(hn:n≤n'):OW m e' b' n':=by
 subst he hb
 intro w hr hs
 obtain⟨w1,h1,r1,b1,s1,c1⟩:=h w hr (by omega)
 exact⟨w1,(q w hr).trans h1,r1,b1,by omega,c1⟩
theorem OW.loop{α:Type}(lf:α→List Lf)(e:α→List Int)(b:α→Bool)(l:List α)(g:α→aK→Option aK)(T:Int×aK→Option ((Int×aK)⊕aK))(hl:l.length≤100000000)
 (hg:∀x∈l,OW (g x) (e x) (b x) (40*aP (lf x)))
 (hT:∀(k:Nat) s,(∀x,l[k]?=some x→T ((k:Int),s)=(g x s).bind fun r=>some (.inl (IntKind.wrap .i64 ((k:Int)+1),r)))∧(l[k]?=none→T ((k:Int),s)=some (.inr s))):
 OW (fun w=>bV T FU (0,w)) ((l.map e).flatten) (l.any b) (40*bK (l.map lf)):=by
 have key:∀(m:List α) (k F:Nat),l.drop k=m→m.length<F→OW (fun w=>bV T F ((k:Int),w)) ((m.map e).flatten) (m.any b) (40*bK (m.map lf)):=by
  intro m
  induction m with
  |nil=>
   intro k F hd hn w hr hs
   obtain⟨F,rfl⟩:∃j,F=j+1:=⟨F-1,by simp at hn;omega⟩
   have h1:l[k]?=none:=by
    have:=congrArg List.length hd
    simp only[List.length_drop,List.length_nil] at this
    rw[List.getElem?_eq_none];omega
   refine⟨w,?_,hr,(Bool.or_false _).symm,Nat.le_add_right _ _,fun _=>(ByteArray.append_empty (b:=w.fS)).symm⟩
   show bV T (F+1) _=_
   unfold bV
   rw[(hT k w).2 h1];rfl
  |cons x m ih=>
   intro k F hd hn
   obtain⟨F,rfl⟩:∃j,F=j+1:=⟨F-1,by simp at hn;omega⟩
   have h1:l[k]?=some x:=by rw[←List.head?_drop,hd];rfl
   have h2:l.drop (k+1)=m:=by rw[←List.tail_drop,hd];rfl
   have hk:k<l.length:=(List.getElem?_eq_some_iff.1 h1).1
   have hx:x∈l:=List.mem_of_getElem? h1
   refine((hg x hx).bind (ih (k+1) F h2 (by simp at hn;omega))).to (fun w _=>?_) (by simp) (by simp) (by simp only[List.map_cons,bK];omega)
   have e0:∀v,bV T (F+1) v=(T v).bind fun x=>match x with|.inl v'=>bV T F v'|.inr r=>some r:=fun v=>by rw[bV];cases T v with|none=>rfl|some z=>cases z<;>rfl
   show bV T (F+1) ((k:Int),w)=_
   rw[e0,(hT k w).1 x h1]
   cases g x w with
   |none=>rfl
   |some r=>
    simp only[Option.bind_some]
    rw[inc k (by omega)]
 have h:=key l 0 FU rfl (xY (by omega))
 exact h
theorem kE(n:Int)(h:I64 n):OW (Q8 n) (fB n) false 11:=by
 intro w hr hs
 have:=gB h
 rw[an8 n h]
 simp only[Q8,auD,Mo.den,au,aj,ak,ay,aA,lZ n h,Option.bind_some,strOfNums_size]
 rw[if_pos (by omega)]
 exact⟨_,rfl,hr,(Bool.or_false _).symm,by show(w.fS++_).size≤_;rw[ByteArray.size_append,strOfNums_size];omega,fun _=>rfl⟩
theorem qR(n:Nat)(h:n≤100000000):OW (Q8 (n:Int)) (fB (n:Int)) false 11:=kE _ (jU (by omega))
theorem zU(s:ByteArray)(h:s.size≤100000000):OW (Q56 s) (fU s) false (11+s.size):=by
 have h2:OW (fun r=>if r.fS.size+s.size≤9223372036854775807 then some (aK.mk (r.fS++s) r.qJ r.rJ) else none) (numsOf s) false s.size:=by
  intro w hr hs
  exact⟨⟨w.fS++s,w.qJ,w.rJ⟩,if_pos (by omega),hr,(Bool.or_false _).symm,by show(w.fS++s).size≤_;rw[ByteArray.size_append];omega,fun _=>by rw[FP]⟩
 exact((qR s.size h).bind h2).to (fun w _=>by simp only[Q56,alW,Mo.den,au,aj,ak,ay,aA]) rfl rfl (Nat.le_refl _)
theorem qZ(c:Bool):OW (Q64 c) (jI c) false 1:=by
 intro w hr hs
 simp only[Q64,amc,Mo.den,au,aj,ak,ay,aA]
 cases c
 ·simp only[cond_false]
  rw[if_pos (by show w.fS.size+1≤_;omega)]
  exact⟨_,rfl,hr,(Bool.or_false _).symm,by show(w.fS++_).size≤_;rw[ByteArray.size_append];exact Nat.le_refl _,fun _=>rfl⟩
 ·simp only[cond_true]
  rw[if_pos (by show w.fS.size+1≤_;omega)]
  exact⟨_,rfl,hr,(Bool.or_false _).symm,by show(w.fS++_).size≤_;rw[ByteArray.size_append];exact Nat.le_refl _,fun _=>rfl⟩
theorem FY(l:List ByteArray)(h:bK (l.map lfS)≤100000000):OW (Q39 l) (jh fU l) false (11+40*bK (l.map lfS)):=by
 have hn:=gX l
 have hL:OW (Ny l 0) ((l.map fU).flatten) (l.any fun _=>false) (40*bK (l.map lfS)):=by
  refine(OW.loop lfS fU (fun _=>false) l Q56 _ (by omega) (fun x hx=>(zU x ?_).to (fun _ _=>rfl) rfl rfl (by rw[N9];omega)) fun k s=>⟨fun x h=>?_,fun h=>?_⟩).to (fun w _=>by unfold Ny;rfl) rfl rfl (Nat.le_refl _)
  ·have:=dH lfS hx
   rw[N9] at this;omega
  ·obtain⟨h1,h2⟩:=(dJ l k).1 x h
   simp only[vO,Mo.den,au,aj,ak,ay,aA,h1,h2,cond_true,Option.bind_some]
  ·simp only[vO,Mo.den,au,aj,ak,ay,aA,(dJ l k).2 h,cond_false]
 refine((qR l.length (by omega)).bind (hL.bind OW.nil)).to (fun w _=>by simp only[Q39,amb,Mo.den,au,aj,ak,ay,aA]) (by simp[jh]) ?_ (by omega)
 rw[any_false];rfl
theorem aok(v:ah)(hb:aP v.lf1≤100000000)(hf:gQ v.lf1):aqF v=some (bif lX v then(PG v,0) else(⟨#[]⟩,8)):=by
 have h1:Q6 v=some (strOfNums (vb v)):=ajd (aP v.lf1+1) FU v (Nat.lt_succ_self _) (by have:=fJ;omega) hb hf
 have h2:=(xR v hb).1
 have h3:Q20 v=some (vb v):=(arQ (aP v.lf1+1) FU v (Nat.lt_succ_self _) (by have:=fJ;omega) hb hf).1
 simp only[alc,adE,Mo.den,au,aj,ak,ay,aA,kF v hb,h3,Option.bind_some] at h2
 simp only[aqF,ad8,Mo.den,au,aj,ak,ay,aA,lN v hb,h1,Option.bind_some]
 cases hv:lX v with
 |false=>rfl
 |true=>
  rw[hv] at h2
  exact h2
theorem ahq(n:Nat)(v:ah)(hn:0<n)(hb:aP v.lf1≤100000000)(hf:gQ v.lf1):OW ((kC n).m1 v) (iw v) (ji v) (2+20*aP v.lf1):=by
 obtain⟨n,rfl⟩:∃k,n=k+1:=⟨n-1,by omega⟩
 intro w hr hs
 have hE:=(xR v hb).2
 show ∃w',Mo.den (aay (kC n) v w)=some w'∧_
 unfold aay
 simp only[Mo.den,au,aj,ak,ay,aA,hr,cond_false,qB,Option.bind_some,aok v hb hf,aax,dD]
 unfold iw ji
 cases hm:iW v with
 |true=>
  simp only[cond_true]
  rw[if_pos (by show w.fS.size+1≤_;omega)]
  exact⟨_,rfl,rfl,(Bool.or_false _).symm,by show(w.fS++_).size≤_;rw[ByteArray.size_append];show w.fS.size+1≤_;omega,fun _=>rfl⟩
 |false=>
  simp only[cond_false]
  cases hv:lX v with
  |true=>
   simp only[cond_true,bne_self_eq_false,Bool.not_false,Bool.not_true,Bool.and_false,Bool.or_false]
   have e1:((⟨#[1]⟩:ByteArray)++PG v).size=1+(PG v).size:=by rw[ByteArray.size_append];rfl
   rw[if_pos (by show 1+(PG v).size≤_;omega)]
   have e2:∀z:Bool,(bif w.qJ then aK.mk w.fS true false else aK.mk w.fS z false)=⟨w.fS,w.qJ||z,false⟩:=fun z=>by cases w.qJ<;>rfl
   rw[e2]
   rw[if_pos (by rw[e1];show w.fS.size+_≤_;omega)]
   refine⟨_,rfl,rfl,Bool.or_false _,by show(w.fS++_).size≤_;rw[ByteArray.size_append,e1];omega,fun _=>?_⟩
   show w.fS++_=_
   rw[xQ,FP];rfl
  |false=>
   simp only[cond_false,Bool.not_false,Bool.and_true]
   have e2:∀z:Bool,(bif w.qJ then aK.mk w.fS true false else aK.mk w.fS z false)=⟨w.fS,w.qJ||z,false⟩:=fun z=>by cases w.qJ<;>rfl
   rw[e2,if_pos (by show 1+0≤_;omega),if_pos (by show w.fS.size+1≤_;omega)]
   exact⟨_,rfl,rfl,rfl,by show(w.fS++_).size≤_;rw[ByteArray.size_append];show w.fS.size+1≤_;omega,fun h=>by cases h⟩
theorem DI(v:ah)(hb:aP v.lf1≤100000000)(hf:gQ v.lf1):OW (Q32 v) (iw v) (ji v) (2+20*aP v.lf1):=ahq FU v (by have:=fJ;omega) hb hf
theorem ahr(l:List ah)(h:bK (l.map ah.lf)≤100000000)(hf:zC (.rows 5 (l.map ah.lf))):OW (Q43 l) (jh iw l) (l.any ji) (11+40*bK (l.map ah.lf)):=by
 have hn:=fH l
 obtain⟨G,hG⟩:=J8
 have hL:OW (Nw (kC G) l 0) ((l.map iw).flatten) (l.any ji) (40*bK (l.map ah.lf)):=by
  refine(OW.loop ah.lf iw ji l (fun p b=>(kC G).m1 p b) _ (by omega) (fun x hx=>?_) fun k s=>⟨fun x h=>?_,fun h=>?_⟩).to (fun w _=>by unfold Nw;rfl) rfl rfl (Nat.le_refl _)
  ·have h1:=gJ hx
   have h2:=dF x
   exact(ahq G x (by have:=fJ;omega) (by omega) (by have:=kL hf hx;rw[ah.aX] at this;exact this)).to (fun _ _=>rfl) rfl rfl (by rw[ah.aX];omega)
  ·obtain⟨h1,h2⟩:=(dJ l k).1 x h
   simp only[vN,Mo.den,au,aj,ak,ay,aA,h1,h2,cond_true,Option.bind_some]
  ·simp only[vN,Mo.den,au,aj,ak,ay,aA,(dJ l k).2 h,cond_false]
 refine((qR l.length (by omega)).bind (hL.bind OW.nil)).to (fun w _=>?_) (by simp[jh]) (by simp) (by omega)
 show(kC FU).m2 l w=_
 rw[hG]
 show Mo.den (aaz (kC G) l w)=_
 simp only[aaz,Mo.den,au,aj,ak,ay,aA]
theorem aol(x:dL)(hb:aP x.lf1≤100000000)(hf:gQ x.lf1):OW (Q55 x) (fB x.aF++(jh l7 x.bG++fB x.fR)) (x.bG.any qH) (40*aP x.lf1):=by
 have hl:=pX x.bG
 rw[kS] at hb
 have hfx:=hf
 unfold dL.lf1 at hfx
 simp only[iH] at hfx
 obtain⟨q1,q2,q3,_⟩:=hfx
 have hL0:OW (NC x 0) ((x.bG.map l7).flatten) (x.bG.any qH) (40*bK (x.bG.map bU.lf)):=by
  refine(OW.loop bU.lf l7 qH x.bG (fun p b=>(Q8 p.fX b).bind fun r=>Q8 p.fY r) _ (by omega) (fun y hy=>?_) fun k s=>⟨fun y h=>?_,fun h=>?_⟩).to (fun w _=>by unfold NC;rfl) rfl rfl (Nat.le_refl _)
  ·have h2:=kL q2 hy
   rw[bU.aX] at h2
   unfold bU.lf1 at h2
   simp only[iH] at h2
   exact((kE y.fX (jc rfl h2.1)).bind (kE y.fY (jc rfl h2.2.1))).to (fun _ _=>rfl) rfl rfl (by rw[bU.aX,pV];omega)
  ·obtain⟨h1,h2⟩:=(dJ x.bG k).1 y h
   simp only[vP,Mo.den,au,aj,ak,ay,aA,h1,h2,cond_true,Option.bind_some,Option.bind_assoc]
  ·simp only[vP,Mo.den,au,aj,ak,ay,aA,(dJ x.bG k).2 h,cond_false]
 exact((kE x.aF (jc rfl q1)).bind ((qR x.bG.length (by omega)).bind (hL0.bind ((kE x.fR (jc rfl q3)).bind OW.nil)))).to (fun w _=>by simp only[Q55,amd,Mo.den,au,aj,ak,ay,aA]) (by simp[jh]) (by simp) (by rw[kS];omega)
theorem aom(n:Nat):∀x:aQ,aP x.lf1<n→aP x.lf1≤100000000→gQ x.lf1→OW ((qN n).m1 x) (jV x) (lS x) (40*aP x.lf1):=by
 induction n with
 |zero=>intro x h _;omega
 |succ n ih=>
  intro x h hb hf
  have hfx:=hf
  unfold aQ.lf1 at hfx
  simp only[jq,iH] at hfx
  obtain⟨⟨q1,q2,q3,q4,_⟩,q5,⟨q6,q7,_⟩⟩:=hfx
  have:=pY x.bC
  have hbk:=jA x
  have hL0:OW (ND (qN n) x 0) ((x.bC.map jV).flatten) (x.bC.any lS) (40*bK (x.bC.map aQ.lf)):=by
   refine(OW.loop aQ.lf jV lS x.bC (fun p b=>(qN n).m1 p b) _ (by omega) (fun y hy=>?_) fun k s=>⟨fun y h=>?_,fun h=>?_⟩).to (fun w _=>by unfold ND;rfl) rfl rfl (Nat.le_refl _)
   ·have h1:=dH aQ.lf hy;rw[aQ.aX] at h1;exact(ih y (by omega) (by omega) (by have:=kL q7 hy;rw[aQ.aX] at this;exact this)).to (fun _ _=>rfl) rfl rfl (by rw[aQ.aX];exact Nat.le_refl _)
   ·obtain⟨h1,h2⟩:=(dJ x.bC k).1 y h
    simp only[vS,Mo.den,au,aj,ak,ay,aA,h1,h2,cond_true,Option.bind_some,Option.bind_assoc]
   ·simp only[vS,Mo.den,au,aj,ak,ay,aA,(dJ x.bC k).2 h,cond_false]
  refine(OW.bind (kE x.fOp (jc rfl q1)) (OW.bind (FY x.cO (by omega)) (OW.bind (zU x.fName (by omega)) (OW.bind (FY x.eu (by omega)) (OW.bind (DI x.fArg (by omega) q5) (OW.bind (kE x.fN (jc rfl q6)) (OW.bind (qR x.bC.length (by omega)) (OW.bind (hL0) (OW.nil))))))))).to (fun w _=>?_) (by rw[Dx];simp[jh]) (by rw[OQ];simp) (by omega)
  show Mo.den (aaA (qN n) x w)=_
  simp only[aaA,Mo.den,au,aj,ak,ay,aA]
theorem arU(x:aQ)(hb:aP x.lf1≤100000000)(hf:gQ x.lf1):OW (Q46 x) (jV x) (lS x) (40*aP x.lf1):=aom FU x (xY (by omega)) hb hf
theorem aon(n:Nat):∀x:aO,aP x.lf1<n→aP x.lf1≤100000000→gQ x.lf1→OW ((qO n).m1 x) (kM x) (mM x) (40*aP x.lf1):=by
 induction n with
 |zero=>intro x h _;omega
 |succ n ih=>
  intro x h hb hf
  have hfx:=hf
  unfold aO.lf1 at hfx
  simp only[jq,iH] at hfx
  obtain⟨⟨q1,q2,_⟩,q3,⟨q4,q5,q6,_⟩,⟨q7,q8,q9,_⟩,q10,⟨q11,_⟩⟩:=hfx
  have:=fH x.fArgs
  have:=nR x.bC
  have hbk:=gK x
  have hsh:gQ x.dI.lf1:=by
   have h2:=hf
   unfold aO.lf1 at h2
   simp only[jq] at h2
   exact h2.2.2.2.1
  have hbs:=kS x.dI
  have hL0:OW (NG (qO n) x 0) ((x.bC.map kM).flatten) (x.bC.any mM) (40*bK (x.bC.map aO.lf)):=by
   refine(OW.loop aO.lf kM mM x.bC (fun p b=>(qO n).m1 p b) _ (by omega) (fun y hy=>?_) fun k s=>⟨fun y h=>?_,fun h=>?_⟩).to (fun w _=>by unfold NG;rfl) rfl rfl (Nat.le_refl _)
   ·have h1:=dH aO.lf hy;rw[aO.aX] at h1;exact(ih y (by omega) (by omega) (by have:=kL q11 hy;rw[aO.aX] at this;exact this)).to (fun _ _=>rfl) rfl rfl (by rw[aO.aX];exact Nat.le_refl _)
   ·obtain⟨h1,h2⟩:=(dJ x.bC k).1 y h
    simp only[vT,Mo.den,au,aj,ak,ay,aA,h1,h2,cond_true,Option.bind_some,Option.bind_assoc]
   ·simp only[vT,Mo.den,au,aj,ak,ay,aA,(dJ x.bC k).2 h,cond_false]
  refine(OW.bind (kE x.fOp (jc rfl q1)) (OW.bind (FY x.cO (by omega)) (OW.bind (DI x.fArg (by omega) q3) (OW.bind (ahr x.fArgs (by omega) q4) (OW.bind (kE x.fN (jc rfl q5)) (OW.bind (kE x.fM (jc rfl q6)) (OW.bind (aol x.dI (by omega) hsh) (OW.bind (arU x.fExpr (by omega) q10) (OW.bind (qR x.bC.length (by omega)) (OW.bind (hL0) (OW.nil))))))))))).to (fun w _=>?_) (by rw[Dy];simp[jh]) (by rw[OT];simp) (by omega)
  show Mo.den (aaB (qO n) x w)=_
  simp only[aaB,Mo.den,au,aj,ak,ay,aA]
theorem arV(x:aO)(hb:aP x.lf1≤100000000)(hf:gQ x.lf1):OW (Q51 x) (kM x) (mM x) (40*aP x.lf1):=aon FU x (xY (by omega)) hb hf
theorem ace(x:aS)(hb:aP x.lf1≤100000000)(hf:gQ x.lf1):OW (Q36 x) (kN x) (og x) (40*aP x.lf1):=by
 have hfx:=hf
 unfold aS.lf1 at hfx
 simp only[jq,iH] at hfx
 obtain⟨⟨q1,q2,q3,q4,q5,q6,_⟩,q7⟩:=hfx
 have:=lK x.fA
 have hbk:=jB x
 have hL0:OW (NH x 0) ((x.fA.map nZ).flatten) (x.fA.any sK) (40*bK (x.fA.map aY.lf)):=by
  refine(OW.loop aY.lf nZ sK x.fA (fun p b=>(Q39 p.cO b).bind fun r=>Q64 p.xW r) _ (by omega) (fun y hy=>?_) fun k s=>⟨fun y h=>?_,fun h=>?_⟩).to (fun w _=>by unfold NH;rfl) rfl rfl (Nat.le_refl _)
  ·have h1:=dH aY.lf hy;rw[aY.aX,kR] at h1;exact((FY y.cO (by omega)).bind (qZ y.xW)).to (fun _ _=>rfl) rfl rfl (by rw[aY.aX,kR];omega)
  ·obtain⟨h1,h2⟩:=(dJ x.fA k).1 y h
   simp only[vU,Mo.den,au,aj,ak,ay,aA,h1,h2,cond_true,Option.bind_some,Option.bind_assoc]
  ·simp only[vU,Mo.den,au,aj,ak,ay,aA,(dJ x.fA k).2 h,cond_false]
 refine(OW.bind (zU x.fName (by omega)) (OW.bind (kE x.aF (jc rfl q2)) (OW.bind (qR x.fA.length (by omega)) (OW.bind (hL0) (OW.bind (qZ x.fC) (OW.bind (qZ x.jS) (OW.bind (qZ x.iE) (OW.bind (arV x.bM (by omega) q7) (OW.nil))))))))).to (fun w _=>?_) (by unfold kN;simp[jh]) (by unfold og;simp[sK]) (by omega)
 simp only[Q36,amg,Mo.den,au,aj,ak,ay,aA]
theorem afb(n:Nat):∀x:aI,aP x.lf1<n→aP x.lf1≤100000000→gQ x.lf1→OW ((nU n).m1 x) (gW x) (jd x) (40*aP x.lf1):=by
 induction n with
 |zero=>intro x h _;omega
 |succ n ih=>
  intro x h hb hf
  have hfx:=hf
  unfold aI.lf1 at hfx
  simp only[jq,iH] at hfx
  obtain⟨⟨q1,q2,_⟩,q3,⟨q4,_⟩,q5,⟨q6,q7,q8,q9,q10,q11,q12,q13,_⟩⟩:=hfx
  have:=fH x.gZ
  have:=lq x.cZ
  have:=lF x.dV
  have hbk:=fO x
  have hL0:OW (NI (nU n) x 0) ((x.cZ.map oq).flatten) (x.cZ.any qm) (40*bK (x.cZ.map bH.lf)):=by
   refine(OW.loop bH.lf oq qm x.cZ (fun p b=>(Q56 p.fName b).bind fun r=>(nU n).m1 p.bn r) _ (by omega) (fun y hy=>?_) fun k s=>⟨fun y h=>?_,fun h=>?_⟩).to (fun w _=>by unfold NI;rfl) rfl rfl (Nat.le_refl _)
   ·have h1:=dH bH.lf hy;rw[bH.aX,nP] at h1;have h2:=kL q10 hy;rw[bH.aX] at h2;unfold bH.lf1 at h2;simp only[jq] at h2;exact((zU y.fName (by omega)).bind (ih y.bn (by omega) (by omega) h2.2)).to (fun _ _=>rfl) (Dz y).symm (OU y).symm (by rw[bH.aX,nP];omega)
   ·obtain⟨h1,h2⟩:=(dJ x.cZ k).1 y h
    simp only[vV,Mo.den,au,aj,ak,ay,aA,h1,h2,cond_true,Option.bind_some,Option.bind_assoc]
   ·simp only[vV,Mo.den,au,aj,ak,ay,aA,(dJ x.cZ k).2 h,cond_false]
  have hL6:OW (NJ (nU n) x 0) ((x.dV.map gW).flatten) (x.dV.any jd) (40*bK (x.dV.map aI.lf)):=by
   refine(OW.loop aI.lf gW jd x.dV (fun p b=>(nU n).m1 p b) _ (by omega) (fun y hy=>?_) fun k s=>⟨fun y h=>?_,fun h=>?_⟩).to (fun w _=>by unfold NJ;rfl) rfl rfl (Nat.le_refl _)
   ·have h1:=dH aI.lf hy;rw[aI.aX] at h1;exact(ih y (by omega) (by omega) (by have:=kL q12 hy;rw[aI.aX] at this;exact this)).to (fun _ _=>rfl) rfl rfl (by rw[aI.aX];exact Nat.le_refl _)
   ·obtain⟨h1,h2⟩:=(dJ x.dV k).1 y h
    simp only[vW,Mo.den,au,aj,ak,ay,aA,h1,h2,cond_true,Option.bind_some,Option.bind_assoc]
   ·simp only[vW,Mo.den,au,aj,ak,ay,aA,(dJ x.dV k).2 h,cond_false]
  refine(OW.bind (kE x.ig (jc rfl q1)) (OW.bind (qZ x.iO) (OW.bind (DI x.kP (by omega) q3) (OW.bind (qZ x.iP) (OW.bind (DI x.kQ (by omega) q5) (OW.bind (ahr x.gZ (by omega) q6) (OW.bind (kE x.jD (jc rfl q7)) (OW.bind (kE x.jE (jc rfl q8)) (OW.bind (FY x.dW (by omega)) (OW.bind (qR x.cZ.length (by omega)) (OW.bind (hL0) (OW.bind (qZ x.kG) (OW.bind (qR x.dV.length (by omega)) (OW.bind (hL6) (OW.bind (qZ x.fC) (OW.nil)))))))))))))))).to (fun w _=>?_) (by rw[xU];simp[jh]) (by rw[FQ];simp) (by omega)
  show Mo.den (aaC (nU n) x w)=_
  simp only[aaC,Mo.den,au,aj,ak,ay,aA]
theorem ajk(x:aI)(hb:aP x.lf1≤100000000)(hf:gQ x.lf1):OW (Q19 x) (gW x) (jd x) (40*aP x.lf1):=afb FU x (xY (by omega)) hb hf
theorem aoo(x:bW)(hb:aP x.lf1≤100000000)(hf:gQ x.lf1):OW (Q44 x) (sS x) (zO x) (40*aP x.lf1):=by
 have hfx:=hf
 unfold bW.lf1 at hfx
 simp only[jq,iH] at hfx
 obtain⟨⟨q1,q2,_⟩,q3,⟨q4,q5,_⟩⟩:=hfx
 have:=jQ x.bJ
 have hbk:=lJ x
 have hL0:OW (NK x 0) ((x.bJ.map kN).flatten) (x.bJ.any og) (40*bK (x.bJ.map aS.lf)):=by
  refine(OW.loop aS.lf kN og x.bJ (fun p b=>Q36 p b) _ (by omega) (fun y hy=>?_) fun k s=>⟨fun y h=>?_,fun h=>?_⟩).to (fun w _=>by unfold NK;rfl) rfl rfl (Nat.le_refl _)
  ·have h1:=dH aS.lf hy;rw[aS.aX] at h1;exact(ace y (by omega) (by have:=kL q2 hy;rw[aS.aX] at this;exact this)).to (fun _ _=>rfl) rfl rfl (by rw[aS.aX];exact Nat.le_refl _)
  ·obtain⟨h1,h2⟩:=(dJ x.bJ k).1 y h
   simp only[vX,Mo.den,au,aj,ak,ay,aA,h1,h2,cond_true,Option.bind_some,Option.bind_assoc]
  ·simp only[vX,Mo.den,au,aj,ak,ay,aA,(dJ x.bJ k).2 h,cond_false]
 refine(OW.bind (zU x.fName (by omega)) (OW.bind (qR x.bJ.length (by omega)) (OW.bind (hL0) (OW.bind (ajk x.bn (by omega) q3) (OW.bind (kE x.jZ (jc rfl q4)) (OW.bind (kE x.iI (jc rfl q5)) (OW.nil))))))).to (fun w _=>?_) (by unfold sS;simp[jh]) (by unfold zO;simp) (by omega)
 simp only[Q44,amh,Mo.den,au,aj,ak,ay,aA]
theorem ajl(n:Nat):∀x:aG,aP x.lf1<n→aP x.lf1≤100000000→gQ x.lf1→OW ((xq n).m1 x) (jH x) (jr x) (40*aP x.lf1):=by
 induction n with
 |zero=>intro x h _;omega
 |succ n ih=>
  intro x h hb hf
  have hfx:=hf
  unfold aG.lf1 at hfx
  simp only[jq,iH] at hfx
  obtain⟨⟨q1,q2,_⟩,q3,q4,q5,q6,q7,⟨q8,q9,q10,q11,q12,_⟩⟩:=hfx
  have:=su x.bP
  have:=zk x.dK
  have hbk:=jJ x
  have hL0:OW (aed (xq n) x 0) ((x.bP.map jH).flatten) (x.bP.any jr) (40*bK (x.bP.map aG.lf)):=by
   refine(OW.loop aG.lf jH jr x.bP (fun p b=>(xq n).m1 p b) _ (by omega) (fun y hy=>?_) fun k s=>⟨fun y h=>?_,fun h=>?_⟩).to (fun w _=>by unfold aed;rfl) rfl rfl (Nat.le_refl _)
   ·have h1:=dH aG.lf hy;rw[aG.aX] at h1;exact(ih y (by omega) (by omega) (by have:=kL q10 hy;rw[aG.aX] at this;exact this)).to (fun _ _=>rfl) rfl rfl (by rw[aG.aX];exact Nat.le_refl _)
   ·obtain⟨h1,h2⟩:=(dJ x.bP k).1 y h
    simp only[EH,Mo.den,au,aj,ak,ay,aA,h1,h2,cond_true,Option.bind_some,Option.bind_assoc]
   ·simp only[EH,Mo.den,au,aj,ak,ay,aA,(dJ x.bP k).2 h,cond_false]
  have hL6:OW (aee (xq n) x 0) ((x.dK.map fB).flatten) (x.dK.any fun _=>false) (40*bK (x.dK.map lfI)):=by
   refine(OW.loop lfI fB (fun _=>false) x.dK (fun p b=>Q8 p b) _ (by omega) (fun y hy=>?_) fun k s=>⟨fun y h=>?_,fun h=>?_⟩).to (fun w _=>by unfold aee;rfl) rfl rfl (Nat.le_refl _)
   ·have h2:=kL q11 hy
    unfold lfI at h2
    simp only[iH] at h2
    exact(kE y (jc rfl h2.1)).to (fun _ _=>rfl) rfl rfl (by rw[aex];omega)
   ·obtain⟨h1,h2⟩:=(dJ x.dK k).1 y h
    simp only[EI,Mo.den,au,aj,ak,ay,aA,h1,h2,cond_true,Option.bind_some,Option.bind_assoc]
   ·simp only[EI,Mo.den,au,aj,ak,ay,aA,(dJ x.dK k).2 h,cond_false]
  refine(OW.bind (kE x.aF (jc rfl q1)) (OW.bind (zU x.fV (by omega)) (OW.bind (DI x.fZ (by omega) q3) (OW.bind (DI x.aW (by omega) q4) (OW.bind (DI x.dG (by omega) q5) (OW.bind (aoo x.dO (by omega) q6) (OW.bind (ace x.bf (by omega) q7) (OW.bind (zU x.mO (by omega)) (OW.bind (kE x.dU (jc rfl q9)) (OW.bind (qR x.bP.length (by omega)) (OW.bind (hL0) (OW.bind (qR x.dK.length (by omega)) (OW.bind (hL6) (OW.bind (qZ x.gq) (OW.nil))))))))))))))).to (fun w _=>?_) (by rw[zQ];simp[jh]) (by rw[Jl];simp[any_false]) (by omega)
  show Mo.den (agA (xq n) x w)=_
  simp only[agA,Mo.den,au,aj,ak,ay,aA]
theorem aop(x:aG)(hb:aP x.lf1≤100000000)(hf:gQ x.lf1):OW (Q38 x) (jH x) (jr x) (40*aP x.lf1):=ajl FU x (xY (by omega)) hb hf
theorem afc(e:bY)(hb:aP e.lf1≤100000000)(hf:gQ e.lf1):avO e=ah7 e:=by
 have hbe:=pW e
 have hfx:=hf
 unfold bY.lf1 at hfx
 simp only[jq,iH] at hfx
 obtain⟨⟨q1,q2,q3,q4,_⟩,q5⟩:=hfx
 have hW:=OW.bind (kE e.rH (jc rfl q1)) (OW.bind (kE e.dU (jc rfl q2)) (OW.bind (zU e.kH (by omega)) (OW.bind (kE e.oO (jc rfl q4)) (OW.bind (aop e.dh (by omega) q5) OW.nil))))
 obtain⟨w,h1,h2,h3,h4,h5⟩:=hW ⟨⟨#[]⟩,false,false⟩ rfl (by show 0+_≤_;omega)
 have h1:auT e ⟨⟨#[]⟩,false,false⟩=some w:=by
  rw[←h1]
  simp only[auT,ami,Mo.den,au,aj,ak,ay,aA]
 rw[OX e hb]
 unfold avO anv
 simp only[Mo.den,au,aj,ak,ay,aA,aoj e hb hf,h1,Option.bind_some]
 simp only[Bool.false_or,Bool.or_false] at h3 h5
 refine congrArg _ (funext fun x=>?_)
 unfold YF
 rw[h3]
 cases x != 0 with
 |true=>rfl
 |false=>
  simp only[cond_false]
  cases hbw:jr e.dh with
  |true=>rfl
  |false=>
   simp only[cond_false]
   rw[h5 hbw]
   unfold sU
   rw[List.append_nil]
   show some ((⟨#[]⟩:ByteArray)++_,(0:Int))=_
   exact congrArg (fun s=>some (s,(0:Int))) ByteArray.empty_append
theorem JG(e:bY)(hb:aP e.lf1≤100000000)(hf:gQ e.lf1):avP e=some true:=by
 obtain⟨b,hb2⟩:=arT e hb
 obtain⟨v,hv,_⟩:=ae7 e hb
 have hR:=(afc e hb hf).trans hv
 simp only[avP,anw,Mo.den,au,aj,ak,ay,aA,ajj,hb2,hv,hR,Option.bind_some,beq_self_eq_true,decide_true]
 cases b<;>rfl
end Go.Proofs.YtflpefkohpjjpaaGreatDoor
