/- (alias) -/
import Derived.Test.YtbdcaeahocbkbaaGreatDoorQAAp8
import Derived.Test.YtbdcaeahocbkbaaGreatDoorQA4
import Derived.Test.YtbdcaeahocbkbaaGreatDoorQAName
import Derived.Test.YtbdcaeahocbkbaaGreatDoorQA3
import Derived.Test.YtbdcaeahocbkbaaGreatDoorQANumP
import Derived.Test.YtbdcaeahocbkbaaGreatDoorQAR1b
set_option linter.unusedSimpArgs false
set_option linter.unusedVariables false
namespace Go.Proofs.YtbdcaeahocbkbaaGreatDoor
open Go.RowKit
theorem oL(s:ByteArray)(k:Nat)(h:k<s.size):lS s (k:Int)=some s[k]:=by
 unfold lS;rw[if_pos (by omega),Int.toNat_natCast];exact getElem?_pos s k h
theorem aqb{α:Type}(l:List α)(k:Nat)(h:k<l.length):fQ l (k:Int)=some l[k]:=by
 rw[yc,List.getElem?_eq_getElem h]
theorem iW{α:Type}(f:α→List Lf){x:α}:∀{l:List α},x∈l→aW (f x)≤bM (l.map f)
 |y::r,h=>by
  simp only[List.map_cons,bM]
  rcases List.mem_cons.1 h with rfl|h
  ·omega
  ·have:=iW f h;omega
theorem iQ{α:Type}(f:α→List Lf)(hf:∀x,1≤aW (f x)):∀l:List α,l.length≤bM (l.map f)
 |[]=>by simp
 |x::r=>by have:=iQ f hf r;have:=hf x;simp only[List.map_cons,List.length_cons,bM];omega
theorem dA(v:ah):aW v.lf1=5+v.fText.size+bM (v.bF.map ah.lf)+bM (v.bC.map aN.lf):=by simp only[ah.lf1,aW,Lf.bulk];omega
theorem fP(v:aN):aW v.lf1=1+v.fName.size+aW v.fValue.lf1:=by simp only[aN.lf1,fO,aW,Lf.bulk];omega
theorem lV(v:bf):aW v.lf1=2+bM (v.cZ.map lfS):=by simp only[bf.lf1,aW,Lf.bulk];omega
theorem CB(v:dO):aW v.lf1=2:=by simp only[dO.lf1,aW,Lf.bulk]
theorem nR(v:dP):aW v.lf1=3+bM (v.bK.map dO.lf):=by simp only[dP.lf1,aW,Lf.bulk];omega
theorem iY(v:aT):aW v.lf1=6+bM (v.cZ.map lfS)+v.fName.size+bM (v.eH.map lfS)+aW v.fArg.lf1+bM (v.bJ.map aT.lf):=by simp only[aT.lf1,fO,aW,Lf.bulk];omega
theorem gy(v:aP):aW v.lf1=6+bM (v.cZ.map lfS)+aW v.fArg.lf1+bM (v.fArgs.map ah.lf)+aW v.eF.lf1+aW v.fExpr.lf1+bM (v.bJ.map aP.lf):=by simp only[aP.lf1,fO,aW,Lf.bulk];omega
theorem iR(v:aU):aW v.lf1=6+v.fName.size+bM (v.gU.map bf.lf)+aW v.jr.lf1:=by simp only[aU.lf1,fO,aW,Lf.bulk];omega
theorem pz(v:bH):aW v.lf1=1+v.fName.size+aW v.dW.lf1:=by simp only[bH.lf1,fO,aW,Lf.bulk];omega
theorem fA(v:aI):aW v.lf1=11+aW v.rM.lf1+aW v.rO.lf1+bM (v.iZ.map ah.lf)+bM (v.eu.map lfS)+bM (v.dD.map bH.lf)+bM (v.eP.map aI.lf):=by simp only[aI.lf1,fO,aW,Lf.bulk];omega
theorem jV(v:cu):aW v.lf1=4+v.fName.size+bM (v.bV.map aU.lf)+aW v.dW.lf1:=by simp only[cu.lf1,fO,aW,Lf.bulk];omega
theorem jl(v:aH):aW v.lf1=7+v.iO.size+aW v.jh.lf1+aW v.bC.lf1+aW v.eX.lf1+aW v.kM.lf1+aW v.bP.lf1+v.oz.size+bM (v.dh.map aH.lf)+bM (v.dZ.map lfI):=by simp only[aH.lf1,fO,aW,Lf.bulk];omega
theorem pF(v:aF):aW v.lf1=4+v.nD.size+aW v.dL.lf1:=by simp only[aF.lf1,fO,aW,Lf.bulk];omega
theorem al9(s:ByteArray):aW (lfS s)=s.size+1:=by simp only[lfS,aW,Lf.bulk,Nat.add_zero]
theorem auH(n:Int):aW (lfI n)=1:=by simp only[lfI,aW,Lf.bulk]
theorem fV(l:List ah):l.length≤bM (l.map ah.lf):=iQ _ (fun x=>by rw[ah.aX,dA];omega) l
theorem gG(l:List aN):l.length≤bM (l.map aN.lf):=iQ _ (fun x=>by rw[aN.aX,fP];omega) l
theorem jO(l:List bf):l.length≤bM (l.map bf.lf):=iQ _ (fun x=>by rw[bf.aX,lV];omega) l
theorem lX(l:List dO):l.length≤bM (l.map dO.lf):=iQ _ (fun x=>by have:=CB x;rw[dO.aX];omega) l
theorem mW(l:List aT):l.length≤bM (l.map aT.lf):=iQ _ (fun x=>by rw[aT.aX,iY];omega) l
theorem kJ(l:List aP):l.length≤bM (l.map aP.lf):=iQ _ (fun x=>by rw[aP.aX,gy];omega) l
theorem jc(l:List aU):l.length≤bM (l.map aU.lf):=iQ _ (fun x=>by rw[aU.aX,iR];omega) l
theorem jL(l:List bH):l.length≤bM (l.map bH.lf):=iQ _ (fun x=>by rw[bH.aX,pz];omega) l
theorem jI(l:List aI):l.length≤bM (l.map aI.lf):=iQ _ (fun x=>by rw[aI.aX,fA];omega) l
theorem nS(l:List aH):l.length≤bM (l.map aH.lf):=iQ _ (fun x=>by rw[aH.aX,jl];omega) l
theorem qg(l:List aF):l.length≤bM (l.map aF.lf):=iQ _ (fun x=>by rw[aF.aX,pF];omega) l
theorem fB(l:List ByteArray):l.length≤bM (l.map lfS):=iQ _ (fun x=>by rw[al9];omega) l
theorem jB(l:List Int):l.length≤bM (l.map lfI):=iQ _ (fun x=>by rw[auH];omega) l
theorem jg{x:ah}{l:List ah}(h:x∈l):aW x.lf1≤bM (l.map ah.lf):=by rw[←ah.aX];exact iW _ h
theorem gB{x:aN}{l:List aN}(h:x∈l):aW x.lf1≤bM (l.map aN.lf):=by rw[←aN.aX];exact iW _ h
theorem qN{x:bf}{l:List bf}(h:x∈l):aW x.lf1≤bM (l.map bf.lf):=iW _ h
theorem qh{x:aT}{l:List aT}(h:x∈l):aW x.lf1≤bM (l.map aT.lf):=by rw[←aT.aX];exact iW _ h
theorem nK{x:aP}{l:List aP}(h:x∈l):aW x.lf1≤bM (l.map aP.lf):=by rw[←aP.aX];exact iW _ h
theorem uO{x:aU}{l:List aU}(h:x∈l):aW x.lf1≤bM (l.map aU.lf):=iW _ h
theorem qj{x:bH}{l:List bH}(h:x∈l):aW x.lf1≤bM (l.map bH.lf):=by rw[←bH.aX];exact iW _ h
theorem lY{x:aI}{l:List aI}(h:x∈l):aW x.lf1≤bM (l.map aI.lf):=by rw[←aI.aX];exact iW _ h
theorem pG{x:aH}{l:List aH}(h:x∈l):aW x.lf1≤bM (l.map aH.lf):=by rw[←aH.aX];exact iW _ h
theorem Hw{x:aF}{l:List aF}(h:x∈l):aW x.lf1≤bM (l.map aF.lf):=iW _ h
theorem Jq{x:ByteArray}{l:List ByteArray}(h:x∈l):x.size+1≤bM (l.map lfS):=by rw[←al9];exact iW _ h
theorem wo(x:Int):(strOfNums [x]).size=1:=by rw[Fv];rfl
theorem agk(n:Int):∃r,Q31 n=some r∧r.size≤11:=by
 unfold Q31 ak9 VY L6 VZ Ad L8
 simp only[Mo.den,aj,au,ak,ay]
 have key:∀a:Int,∃r,((bQ (fun v_:Int×ByteArray×Int=>(bif decide ((v_.2.2:Int)<10) then some (decide ((128:Int)≤v_.1)) else some false).bind fun a_1=>bif a_1 then if v_.2.1.size+(strOfNums [bZ .or .u8 (IntKind.wrap .u8 (Int.tmod v_.1 128)) 128]).size≤9223372036854775807 then some (.inl (IntKind.wrap .u64 (Int.tdiv v_.1 128),v_.2.1++strOfNums [bZ .or .u8 (IntKind.wrap .u8 (Int.tmod v_.1 128)) 128],IntKind.wrap .i64 (v_.2.2+1))) else none else some (.inr (v_.1,v_.2.1))) FU (a,⟨#[]⟩,0))=some r)∧(r:Int×ByteArray).2.size≤10:=by
  intro a
  refine JV 10 (by omega) (fun(k:Nat) (v:Int×ByteArray×Int)=>v.2.2=(k:Int)∧v.2.1.size=k) (fun(r:Int×ByteArray)=>r.2.size≤10) ⟨rfl,rfl⟩ ?_ ?_
  ·rintro k ⟨u,s,i⟩ hk ⟨h1,h2⟩
   simp only at h1 h2
   subst h1
   simp only[decide_eq_true (show(k:Int)<10 by omega),cond_true,Option.bind_some]
   cases decide ((128:Int)≤u) with
   |true=>
    left
    simp only[cond_true,wo,h2]
    rw[if_pos (by omega)]
    exact⟨_,rfl,inc k (by omega),by rw[ByteArray.size_append,wo,h2]⟩
   |false=>right;exact⟨_,rfl,by simp only;omega⟩
  ·rintro⟨u,s,i⟩ ⟨h1,h2⟩
   simp only at h1 h2
   subst h1
   exact⟨_,rfl,by simp only;omega⟩
 have fin:∀a:Int,∃r,(Option.bind (bQ (fun v_:Int×ByteArray×Int=>(bif decide ((v_.2.2:Int)<10) then some (decide ((128:Int)≤v_.1)) else some false).bind fun a_1=>bif a_1 then if v_.2.1.size+(strOfNums [bZ .or .u8 (IntKind.wrap .u8 (Int.tmod v_.1 128)) 128]).size≤9223372036854775807 then some (.inl (IntKind.wrap .u64 (Int.tdiv v_.1 128),v_.2.1++strOfNums [bZ .or .u8 (IntKind.wrap .u8 (Int.tmod v_.1 128)) 128],IntKind.wrap .i64 (v_.2.2+1))) else none else some (.inr (v_.1,v_.2.1))) FU (a,⟨#[]⟩,0)) (fun r:Int×ByteArray=>if r.2.size+(strOfNums [IntKind.wrap .u8 r.1]).size≤9223372036854775807 then some (r.2++strOfNums [IntKind.wrap .u8 r.1]) else none))=some r∧r.size≤11:=by
  intro a
  obtain⟨r,h1,h2⟩:=key a
  rw[h1]
  simp only[Option.bind_some,wo]
  rw[if_pos (by omega)]
  exact⟨_,rfl,by rw[ByteArray.size_append,wo];omega⟩
 cases decide (n<0)
 ·exact fin _
 ·exact fin _
noncomputable def EM(n:Int):ByteArray:=(Q31 n).getD ⟨#[]⟩
theorem agl(n:Int):Q31 n=some (EM n):=by
 obtain⟨r,h,_⟩:=agk n
 unfold EM;rw[h];rfl
theorem Hy(n:Int):(EM n).size≤11:=by
 obtain⟨r,h,h2⟩:=agk n
 unfold EM;rw[h];exact h2
end Go.Proofs.YtbdcaeahocbkbaaGreatDoor
set_option linter.unusedSimpArgs false
set_option linter.unusedVariables false
namespace Go.Proofs.YtbdcaeahocbkbaaGreatDoor
open Go.RowKit
theorem iw:1152921504606846975<FU:=by unfold FU;omega
def Tot{ρ:Type}(m:Option ρ)(Q:ρ→Prop):Prop:=∃r,m=some r∧Q r
def LP{σ ρ:Type}(P:σ→Prop)(Q:ρ→Prop):σ⊕ρ→Prop
 |.inl s=>P s
 |.inr r=>Q r
def Any{ρ:Type}:ρ→Prop:=fun _=>True
namespace T
variable {ρ α σ:Type}
theorem ret{Q:ρ→Prop}{r:ρ}(h:Q r):Tot (some r) Q:=⟨r,rfl,h⟩
theorem any{r:ρ}:Tot (some r) Any:=⟨r,rfl,trivial⟩
theorem bind{m:Option α}{R:α→Prop}{k:α→Option ρ}{Q:ρ→Prop}(h:Tot m R)(h2:∀a,R a→Tot (k a) Q):Tot (m.bind k) Q:=by
 obtain⟨a,rfl,ha⟩:=h
 exact h2 a ha
theorem ite{b:Bool}{x y:Option ρ}{Q:ρ→Prop}(h1:b=true→Tot x Q)(h2:b=false→Tot y Q):Tot (bif b then x else y) Q:=by
 cases b
 ·exact h2 rfl
 ·exact h1 rfl
theorem grd{p:Prop}[Decidable p]{x:Option ρ}{Q:ρ→Prop}(h:p)(h2:Tot x Q):Tot (if p then x else none) Q:=by
 rw[if_pos h];exact h2
theorem mono{m:Option ρ}{Q R:ρ→Prop}(h:Tot m Q)(h2:∀r,Q r→R r):Tot m R:=by
 obtain⟨r,h1,h3⟩:=h;exact⟨r,h1,h2 r h3⟩
theorem wk{m:Option ρ}{Q:ρ→Prop}(h:Tot m Q):Tot m Any:=mono h fun _ _=>trivial
theorem val{m:Option ρ}{r:ρ}(h:m=some r):Tot m (fun x=>x=r):=⟨r,h,rfl⟩
theorem oh{T:σ→Option (σ⊕ρ)}{s0:σ}(n:Nat)(hn:n≤1000000000)(P:Nat→σ→Prop)(Q:ρ→Prop)(h0:P 0 s0)(step:∀k s,k<n→P k s→Tot (T s) (LP (P (k+1)) Q))(fin:∀s,P n s→Tot (T s) (LP (fun _=>False) Q)):Tot (bQ T FU s0) Q:=by
 refine JV n hn P Q h0 ?_ ?_
 ·intro k s hk hP
  obtain⟨r,h1,h2⟩:=step k s hk hP
  rcases r with v|r
  ·exact .inl ⟨v,h1,h2⟩
  ·exact .inr ⟨r,h1,h2⟩
 ·intro s hP
  obtain⟨r,h1,h2⟩:=fin s hP
  rcases r with v|r
  ·exact h2.elim
  ·exact⟨r,h1,h2⟩
theorem awx{T:Int→Option (Int⊕ρ)}(n:Nat)(hn:n≤1000000000)(Q:ρ→Prop)(step:∀k:Nat,k<n→Tot (T (k:Int)) (LP (fun v=>v=IntKind.wrap .i64 ((k:Int)+1)) Q))(fin:Tot (T (n:Int)) (LP (fun _=>False) Q)):Tot (bQ T FU 0) Q:=
 oh n hn (fun k v=>v=(k:Int)) Q rfl (fun k s hk hs=>by
  obtain rfl:s=(k:Int):=hs
  refine mono (step k hk) ?_
  rintro(v|r) h
  ·exact(show v=_ from h).trans (inc k (by omega))
  ·exact h) (fun s hs=>by
  obtain rfl:s=(n:Int):=hs
  exact fin)
theorem avL{T:Int→Option (Int⊕ρ)}(l:List α)(hn:l.length≤1000000000)(Q:ρ→Prop)(step:∀(k:Nat) x,l[k]?=some x→Tot (T (k:Int)) (LP (fun v=>v=IntKind.wrap .i64 ((k:Int)+1)) Q))(fin:Tot (T (l.length:Int)) (LP (fun _=>False) Q)):Tot (bQ T FU 0) Q:=
 awx l.length hn Q (fun k hk=>step k _ (List.getElem?_eq_getElem hk)) fin
end T
theorem ltt{α:Type}{l:List α}{k:Nat}{x:α}(h:l[k]?=some x):decide ((k:Int)<(l.length:Int))=true:=iLt (List.getElem?_eq_some_iff.1 h).1
theorem ltn(n:Nat):decide ((n:Int)<(n:Int))=false:=X6 (Nat.lt_irrefl _)
theorem gid{α:Type}{l:List α}{k:Nat}{x:α}(h:l[k]?=some x):fQ l (k:Int)=some x:=by rw[yc,h]
theorem iH{α:Type}{l:List α}{k:Nat}{x:α}(h:l[k]?=some x):x∈l:=List.mem_of_getElem? h
theorem pI{α:Type}{l:List α}{k:Nat}{x:α}(h:l[k]?=some x):k<l.length:=(List.getElem?_eq_some_iff.1 h).1
theorem Tz(l m:List (List Lf)):bM (l++m)=bM l+bM m:=by
 induction l with
 |nil=>simp[bM]
 |cons x l ih=>simp only[List.cons_append,bM,ih];omega
theorem nN{α:Type}(f:α→List Lf)(l:List α)(k:Nat):bM ((l.take k).map f)≤bM (l.map f):=by
 have:=Tz ((l.take k).map f) ((l.drop k).map f)
 rw[←List.map_append,List.take_append_drop] at this;omega
def MT{ρ:Type}(t:Mo ρ)(Q:ρ→Prop):Prop:=Tot t.den Q
namespace MT
variable {ρ α β γ:Type}
theorem ret{f:Fit}{r:ρ}{Q:ρ→Prop}(h:Q r):MT (.ret f r) Q:=⟨r,rfl,h⟩
theorem any{f:Fit}{r:ρ}:MT (.ret f r) Any:=⟨r,rfl,trivial⟩
theorem say{qs:List Ans}{Φ:List Prop}{ok:eY Φ}{k:Mo ρ}{Q:ρ→Prop}(h:MT k Q):MT (.say qs ok k) Q:=h
theorem ite{b:Bool}{t:b=true→Mo ρ}{e:b=false→Mo ρ}{Q:ρ→Prop}(h1:∀h,MT (t h) Q)(h2:∀h,MT (e h) Q):MT (.ite b t e) Q:=by
 cases b
 ·exact h2 rfl
 ·exact h1 rfl
theorem grd{p:Prop}[d:Decidable p]{k:p→Mo ρ}{Q:ρ→Prop}(h:p)(h2:∀h,MT (k h) Q):MT (.grd p k) Q:=by
 unfold MT Tot
 show ∃r,Oy p _=some r∧Q r
 unfold Oy
 cases d with
 |isTrue hh=>exact h2 hh
 |isFalse hh=>exact absurd h hh
theorem ask{m:Option α}{k:(a:α)→m=some a→Mo ρ}{R:α→Prop}{Q:ρ→Prop}(h:Tot m R)(h2:∀a h,R a→MT (k a h) Q):MT (.ask m k) Q:=by
 obtain⟨a,rfl,ha⟩:=h
 exact h2 a rfl ha
theorem lD{m:Option (α⊕β)}{k1:(a:α)→m=some (.inl a)→Mo ρ}{k2:(b:β)→m=some (.inr b)→Mo ρ}{R:α⊕β→Prop}{Q:ρ→Prop}(h:Tot m R)(h1:∀a h,R (.inl a)→MT (k1 a h) Q)(h2:∀b h,R (.inr b)→MT (k2 b h) Q):MT (.lD m k1 k2) Q:=by
 obtain⟨a,rfl,ha⟩:=h
 rcases a with a|a
 ·exact h1 a rfl ha
 ·exact h2 a rfl ha
theorem agU{m:Option (α⊕β⊕γ)}{k1:(a:α)→m=some (.inl a)→Mo ρ}{k2:(b:β)→m=some (.inr (.inl b))→Mo ρ}{k3:(c:γ)→m=some (.inr (.inr c))→Mo ρ}{R:α⊕β⊕γ→Prop}{Q:ρ→Prop}(h:Tot m R)(h1:∀a h,R (.inl a)→MT (k1 a h) Q)(h2:∀b h,R (.inr (.inl b))→MT (k2 b h) Q)(h3:∀b h,R (.inr (.inr b))→MT (k3 b h) Q):MT (.agU m k1 k2 k3) Q:=by
 obtain⟨a,rfl,ha⟩:=h
 rcases a with a|a|a
 ·exact h1 a rfl ha
 ·exact h2 a rfl ha
 ·exact h3 a rfl ha
end MT
structure Clo {ρ:Type} (m:Option ρ):Prop where
 h:Tot m Any
namespace MT
variable {ρ α β γ:Type}
theorem lZ{m:Option α}{k:(a:α)→m=some a→Mo ρ}{Q:ρ→Prop}(h:Clo m)(h2:∀a h,MT (k a h) Q):MT (.ask m k) Q:=ask h.h fun a h _=>h2 a h
theorem aro{m:Option (α⊕β)}{k1:(a:α)→m=some (.inl a)→Mo ρ}{k2:(b:β)→m=some (.inr b)→Mo ρ}{Q:ρ→Prop}(h:Clo m)(h1:∀a h,MT (k1 a h) Q)(h2:∀b h,MT (k2 b h) Q):MT (.lD m k1 k2) Q:=lD h.h (fun a h _=>h1 a h) (fun a h _=>h2 a h)
end MT
theorem fC{α:Type}(l:List α)(i:Int)(h0:0≤i)(h1:i<l.length):Tot (fQ l i) (fun x=>x∈l):=by
 obtain⟨x,h2,h3⟩:=anm h0 h1
 exact⟨x,h2,List.mem_of_getElem? h3⟩
namespace T
variable {ρ σ:Type}
theorem aqc{T:σ→Option (σ⊕ρ)}{s0:σ}(c:σ→Int)(P:σ→Prop)(Q:ρ→Prop)(h0:c s0=0)(hP:P s0)(step:∀(k:Nat) s,k≤100000000→c s=k→P s→Tot (T s) (LP (fun v=>c v=IntKind.wrap .i64 ((k:Int)+1)∧P v∧k<100000000) Q)):Tot (bQ T FU s0) Q:=by
 refine lT (fun s=>0≤c s∧c s≤100000000∧P s) (fun s=>100000000-(c s).toNat) Q ?_ FU s0 ⟨by omega,by omega,hP⟩ (by have:=iw;omega)
 rintro s ⟨h1,h2,h3⟩
 obtain⟨r,h4,h5⟩:=step (c s).toNat s (by omega) (by omega) h3
 rcases r with v|r
 ·have h5:c v=IntKind.wrap .i64 (((c s).toNat:Int)+1)∧P v∧(c s).toNat<100000000:=h5
  have h6:=h5.1
  rw[inc _ (by omega)] at h6
  exact .inl ⟨v,h4,⟨by omega,by omega,h5.2.1⟩,by omega⟩
 ·exact .inr ⟨r,h4,h5⟩
theorem cnt{T:Int→Option (Int⊕ρ)}(Q:ρ→Prop)(step:∀k:Nat,k≤100000000→Tot (T (k:Int)) (LP (fun v=>v=IntKind.wrap .i64 ((k:Int)+1)∧k<100000000) Q)):Tot (bQ T FU 0) Q:=
 aqc (fun v=>v) (fun _=>True) Q rfl trivial fun k s hk hs _=>by
  obtain rfl:s=(k:Int):=hs
  refine mono (step k hk) ?_
  rintro(v|r) h
  ·exact⟨h.1,trivial,h.2⟩
  ·exact h
theorem auI{α:Type}{T:α×Int→Option ((α×Int)⊕ρ)}{a:α}(Q:ρ→Prop)(step:∀(a:α) (k:Nat),k≤100000000→Tot (T (a,(k:Int))) (LP (fun v=>v.2=IntKind.wrap .i64 ((k:Int)+1)∧k<100000000) Q)):Tot (bQ T FU (a,0)) Q:=
 aqc (fun v=>v.2) (fun _=>True) Q rfl trivial fun k s hk hs _=>by
  obtain⟨a,i⟩:=s
  obtain rfl:i=(k:Int):=hs
  refine mono (step a k hk) ?_
  rintro(v|r) h
  ·exact⟨h.1,trivial,h.2⟩
  ·exact h
theorem NZ{α:Type}{T:Int×α→Option ((Int×α)⊕ρ)}{a:α}(Q:ρ→Prop)(step:∀(k:Nat) (a:α),k≤100000000→Tot (T ((k:Int),a)) (LP (fun v=>v.1=IntKind.wrap .i64 ((k:Int)+1)∧k<100000000) Q)):Tot (bQ T FU (0,a)) Q:=
 aqc (fun v=>v.1) (fun _=>True) Q rfl trivial fun k s hk hs _=>by
  obtain⟨i,a⟩:=s
  obtain rfl:i=(k:Int):=hs
  refine mono (step k a hk) ?_
  rintro(v|r) h
  ·exact⟨h.1,trivial,h.2⟩
  ·exact h
end T
end Go.Proofs.YtbdcaeahocbkbaaGreatDoor
set_option linter.unusedSimpArgs false
set_option linter.unusedVariables false
namespace Go.Proofs.YtbdcaeahocbkbaaGreatDoor
open Go.RowKit
theorem kN(v:aB):aW v.lf1=12+bM (v.bn.map aF.lf)+bM (v.fNext.map lfI)+bM (v.bg.map lfI):=by simp only[aB.lf1,fO,aW,Lf.bulk];omega
theorem gV{α:Type}(l:List α)(c:α→Option α)(z:List α)(T0:Int×List α→Option ((Int×List α)⊕List α))(hz:z.length=l.length)(hl:l.length≤1000000000)(hc:∀x∈l,c x=some x)
 (hT:∀(k:Nat) (s:List α),T0 ((k:Int),s)=bif decide ((k:Int)<(l.length:Int)) then(fQ l (k:Int)).bind fun x=>(c x).bind fun r=>(fQ s (k:Int)).bind fun _=>some (.inl (IntKind.wrap .i64 ((k:Int)+1),s.set (k:Int).toNat r)) else some (.inr s)):
 bQ T0 FU (0,z)=some l:=by
 have:Tot (bQ T0 FU (0,z)) (fun r=>r=l):=by
  refine T.oh l.length hl (fun k s=>s.1=(k:Int)∧s.2.length=l.length∧∀j,j<k→s.2[j]?=l[j]?) _ ⟨rfl,hz,fun j h=>by omega⟩ ?_ ?_
  ·rintro k ⟨i,s⟩ hk ⟨h1,h2,h3⟩
   obtain rfl:i=(k:Int):=h1
   have h2:s.length=l.length:=h2
   have hx:=List.getElem?_eq_getElem hk
   have hy:=List.getElem?_eq_getElem (show k<s.length by omega)
   rw[hT]
   simp only[ltt hx,gid hx,gid hy,cond_true,Option.bind_some,hc _ (iH hx),Int.toNat_natCast]
   refine T.ret ⟨inc k (by omega),by simp[h2],fun j hj=>?_⟩
   show(s.set k l[k])[j]?=l[j]?
   rcases Nat.lt_succ_iff_lt_or_eq.1 hj with h|rfl
   ·rw[List.getElem?_set_ne (by omega)];exact h3 j h
   ·rw[List.getElem?_set_self (by omega),hx]
  ·rintro⟨i,s⟩ ⟨h1,h2,h3⟩
   obtain rfl:i=(l.length:Int):=h1
   have h2:s.length=l.length:=h2
   rw[hT]
   simp only[ltn,cond_false]
   refine T.ret (show s=l from List.ext_getElem? fun j=>?_)
   by_cases hj:j<l.length
   ·exact h3 j hj
   ·rw[List.getElem?_eq_none (by omega),List.getElem?_eq_none (by omega)]
 obtain⟨r,h,rfl⟩:=this
 exact h
theorem fD{α:Type}(l:List α)(p:Prop)[Decidable p](hp:p):(bif ((l.length:Int)==0) then some [] else if p then(some l).bind (fun a=>some a) else none)=some l:=by
 rw[if_pos hp]
 cases l with
 |nil=>rfl
 |cons x r=>
  rw[show(((x::r).length:Int)==0)=false by simp;omega]
  rfl
end Go.Proofs.YtbdcaeahocbkbaaGreatDoor
set_option linter.unusedSimpArgs false
set_option linter.unusedVariables false
namespace Go.Proofs.YtbdcaeahocbkbaaGreatDoor
open Go.RowKit
theorem oM(n_:Nat):(∀p_v:ah,4*aW p_v.lf1+0<n_→aW p_v.lf1≤100000000→(lJ n_).m1 p_v=some p_v)∧(∀p_l:List ah,4*bM (p_l.map ah.lf)+1<n_→bM (p_l.map ah.lf)≤100000000→(lJ n_).m2 p_l=some p_l)∧(∀p_l:List aN,4*bM (p_l.map aN.lf)+2<n_→bM (p_l.map aN.lf)≤100000000→(lJ n_).m3 p_l=some p_l)∧(∀p_f:aN,4*aW p_f.lf1+1<n_→aW p_f.lf1≤100000000→(lJ n_).m4 p_f=some p_f):=by
 induction n_ with
 |zero=>exact⟨fun _ h=>by omega,fun _ h=>by omega,fun _ h=>by omega,fun _ h=>by omega⟩
 |succ n_ ih=>
  refine⟨?_,?_,?_,?_⟩
  ·intro p_v h_ h2_
   have hbv:=dA p_v
   have:=gG p_v.bC
   have:=fV p_v.bF
   have e0:=(ih.2.1 p_v.bF (by omega) (by omega))
   have e1:=(ih.2.2.1 p_v.bC (by omega) (by omega))
   simp only[lJ,abB,Mo.den,ak,aj,au,ay,e0,e1,Option.bind_some,List.length_nil]
   all_goals (cases p_v;rfl)
  ·intro p_l h_ h2_
   have hl:=fV p_l
   have h1:aja (lJ n_) p_l 0 (List.replicate (p_l.length:Int).toNat (ah.mk 0 0 ⟨#[]⟩ [] []))=some p_l:=gV p_l (fun x=>(lJ n_).m1 x) _ _ (by simp) (by omega) (fun x hx=>ih.1 x (by have:=jg hx;omega) (by have:=jg hx;omega)) (fun k s=>by simp only[J4,Mo.den,ak,aj,au,ay])
   simp only[lJ,ajb,Mo.den,ak,aj,au,ay,h1]
   exact fD p_l _ ⟨by omega,by omega,by unfold maxLen;omega⟩
  ·intro p_l h_ h2_
   have hl:=gG p_l
   have h1:aeW (lJ n_) p_l 0 (List.replicate (p_l.length:Int).toNat (aN.mk ⟨#[]⟩ (ah.mk 0 0 ⟨#[]⟩ [] [])))=some p_l:=gV p_l (fun x=>(lJ n_).m4 x) _ _ (by simp) (by omega) (fun x hx=>ih.2.2.2 x (by have:=gB hx;omega) (by have:=gB hx;omega)) (fun k s=>by simp only[FZ,Mo.den,ak,aj,au,ay])
   simp only[lJ,abC,Mo.den,ak,aj,au,ay,h1]
   exact fD p_l _ ⟨by omega,by omega,by unfold maxLen;omega⟩
  ·intro p_f h_ h2_
   have hbv:=fP p_f
   have:=dA p_f.fValue
   have e0:=(ih.1 p_f.fValue (by omega) (by omega))
   simp only[lJ,abD,Mo.den,ak,aj,au,ay,e0,Option.bind_some,List.length_nil]
   all_goals (cases p_f;rfl)
theorem gI(p_v:ah)(h_:aW p_v.lf1≤100000000):avc p_v=some p_v:=(oM FU).1 p_v (kY (by omega)) h_
theorem kP(p_l:List ah)(h_:bM (p_l.map ah.lf)≤100000000):Q54 p_l=some p_l:=(oM FU).2.1 p_l (kY (by omega)) h_
theorem iI(p_l:List ByteArray)(h_:bM (p_l.map lfS)≤100000000):agY p_l=some p_l:=by
 have hl:=fB p_l
 simp only[agY,abE,Mo.den,ak,aj,au,ay,Option.bind_some,List.length_nil]
 rw[if_pos (by omega)]
 try rfl
theorem xq(p_o:bf)(h_:aW p_o.lf1≤100000000):anE p_o=some p_o:=by
 have hbv:=lV p_o
 have:=fB p_o.cZ
 have e0:=(iI p_o.cZ (by omega))
 simp only[anE,ajf,Mo.den,ak,aj,au,ay,e0,Option.bind_some,List.length_nil]
 all_goals (cases p_o;rfl)
theorem ql(p_l:List bf)(h_:bM (p_l.map bf.lf)≤100000000):Q87 p_l=some p_l:=by
 have hl:=jO p_l
 have h1:ajg p_l 0 (List.replicate (p_l.length:Int).toNat (bf.mk [] false))=some p_l:=gV p_l (fun x=>anE x) _ _ (by simp) (by omega) (fun x hx=>xq x (by have:=qN hx;omega)) (fun k s=>by simp only[J5,Mo.den,ak,aj,au,ay])
 simp only[Q87,aqH,Mo.den,ak,aj,au,ay,h1]
 exact fD p_l _ ⟨by omega,by omega,by unfold maxLen;omega⟩
theorem xu(n_:Nat):(∀p_e:aT,4*aW p_e.lf1+0<n_→aW p_e.lf1≤100000000→(wS n_).m1 p_e=some p_e)∧(∀p_l:List aT,4*bM (p_l.map aT.lf)+1<n_→bM (p_l.map aT.lf)≤100000000→(wS n_).m2 p_l=some p_l):=by
 induction n_ with
 |zero=>exact⟨fun _ h=>by omega,fun _ h=>by omega⟩
 |succ n_ ih=>
  refine⟨?_,?_⟩
  ·intro p_e h_ h2_
   have hbv:=iY p_e
   have:=dA p_e.fArg
   have:=mW p_e.bJ
   have:=fB p_e.eH
   have:=fB p_e.cZ
   have e0:=(iI p_e.cZ (by omega))
   have e1:=(iI p_e.eH (by omega))
   have e2:=(gI p_e.fArg (by omega))
   have e3:=(ih.2 p_e.bJ (by omega) (by omega))
   simp only[wS,abH,Mo.den,ak,aj,au,ay,e0,e1,e2,e3,Option.bind_some,List.length_nil]
   all_goals (cases p_e;rfl)
  ·intro p_l h_ h2_
   have hl:=mW p_l
   have h1:aeX (wS n_) p_l 0 (List.replicate (p_l.length:Int).toNat aT.z)=some p_l:=gV p_l (fun x=>(wS n_).m1 x) _ _ (by simp) (by omega) (fun x hx=>ih.1 x (by have:=qh hx;omega) (by have:=qh hx;omega)) (fun k s=>by simp only[F5,Mo.den,ak,aj,au,ay])
   simp only[wS,abI,Mo.den,ak,aj,au,ay,h1]
   exact fD p_l _ ⟨by omega,by omega,by unfold maxLen;omega⟩
theorem yM(p_e:aT)(h_:aW p_e.lf1≤100000000):avd p_e=some p_e:=(xu FU).1 p_e (kY (by omega)) h_
theorem xw(n_:Nat):(∀p_p:aP,4*aW p_p.lf1+0<n_→aW p_p.lf1≤100000000→(wU n_).m1 p_p=some p_p)∧(∀p_l:List aP,4*bM (p_l.map aP.lf)+1<n_→bM (p_l.map aP.lf)≤100000000→(wU n_).m2 p_l=some p_l):=by
 induction n_ with
 |zero=>exact⟨fun _ h=>by omega,fun _ h=>by omega⟩
 |succ n_ ih=>
  refine⟨?_,?_⟩
  ·intro p_p h_ h2_
   have hbv:=gy p_p
   have:=dA p_p.fArg
   have:=fV p_p.fArgs
   have:=iY p_p.fExpr
   have:=kJ p_p.bJ
   have:=fB p_p.cZ
   have:=nR p_p.eF
   have:=lX p_p.eF.bK
   have:=lX p_p.eF.bK
   have e0:=(iI p_p.cZ (by omega))
   have e1:=(gI p_p.fArg (by omega))
   have e2:=(kP p_p.fArgs (by omega))
   have e3:=(yM p_p.fExpr (by omega))
   have e4:=(ih.2 p_p.bJ (by omega) (by omega))
   simp only[wU,abK,Mo.den,ak,aj,au,ay,e0,e1,e2,e3,e4,Option.bind_some,List.length_nil]
   rw[if_pos (by omega)]
   all_goals (cases p_p;rfl)
  ·intro p_l h_ h2_
   have hl:=kJ p_l
   have h1:aeY (wU n_) p_l 0 (List.replicate (p_l.length:Int).toNat aP.z)=some p_l:=gV p_l (fun x=>(wU n_).m1 x) _ _ (by simp) (by omega) (fun x hx=>ih.1 x (by have:=nK hx;omega) (by have:=nK hx;omega)) (fun k s=>by simp only[F6,Mo.den,ak,aj,au,ay])
   simp only[wU,abL,Mo.den,ak,aj,au,ay,h1]
   exact fD p_l _ ⟨by omega,by omega,by unfold maxLen;omega⟩
theorem yN(p_p:aP)(h_:aW p_p.lf1≤100000000):ar9 p_p=some p_p:=(xw FU).1 p_p (kY (by omega)) h_
theorem oU(p_x:aU)(h_:aW p_x.lf1≤100000000):anI p_x=some p_x:=by
 have hbv:=iR p_x
 have:=jO p_x.gU
 have:=gy p_x.jr
 have e0:=(ql p_x.gU (by omega))
 have e1:=(yN p_x.jr (by omega))
 simp only[anI,ajn,Mo.den,ak,aj,au,ay,e0,e1,Option.bind_some,List.length_nil]
 all_goals (cases p_x;rfl)
theorem qm(p_l:List aU)(h_:bM (p_l.map aU.lf)≤100000000):Q88 p_l=some p_l:=by
 have hl:=jc p_l
 have h1:ajo p_l 0 (List.replicate (p_l.length:Int).toNat aU.z)=some p_l:=gV p_l (fun x=>anI x) _ _ (by simp) (by omega) (fun x hx=>oU x (by have:=uO hx;omega)) (fun k s=>by simp only[J6,Mo.den,ak,aj,au,ay])
 simp only[Q88,aqI,Mo.den,ak,aj,au,ay,h1]
 exact fD p_l _ ⟨by omega,by omega,by unfold maxLen;omega⟩
theorem uP(n_:Nat):(∀p_s:aI,4*aW p_s.lf1+0<n_→aW p_s.lf1≤100000000→(mZ n_).m1 p_s=some p_s)∧(∀p_l:List bH,4*bM (p_l.map bH.lf)+2<n_→bM (p_l.map bH.lf)≤100000000→(mZ n_).m2 p_l=some p_l)∧(∀p_l:List aI,4*bM (p_l.map aI.lf)+1<n_→bM (p_l.map aI.lf)≤100000000→(mZ n_).m3 p_l=some p_l)∧(∀p_p:bH,4*aW p_p.lf1+1<n_→aW p_p.lf1≤100000000→(mZ n_).m4 p_p=some p_p):=by
 induction n_ with
 |zero=>exact⟨fun _ h=>by omega,fun _ h=>by omega,fun _ h=>by omega,fun _ h=>by omega⟩
 |succ n_ ih=>
  refine⟨?_,?_,?_,?_⟩
  ·intro p_s h_ h2_
   have hbv:=fA p_s
   have:=fV p_s.iZ
   have:=jI p_s.eP
   have:=dA p_s.rO
   have:=dA p_s.rM
   have:=jL p_s.dD
   have:=fB p_s.eu
   have e0:=(gI p_s.rM (by omega))
   have e1:=(gI p_s.rO (by omega))
   have e2:=(kP p_s.iZ (by omega))
   have e3:=(iI p_s.eu (by omega))
   have e4:=(ih.2.1 p_s.dD (by omega) (by omega))
   have e5:=(ih.2.2.1 p_s.eP (by omega) (by omega))
   simp only[mZ,abN,Mo.den,ak,aj,au,ay,e0,e1,e2,e3,e4,e5,Option.bind_some,List.length_nil]
   all_goals (cases p_s;rfl)
  ·intro p_l h_ h2_
   have hl:=jL p_l
   have h1:ae0 (mZ n_) p_l 0 (List.replicate (p_l.length:Int).toNat (bH.mk ⟨#[]⟩ aI.z))=some p_l:=gV p_l (fun x=>(mZ n_).m4 x) _ _ (by simp) (by omega) (fun x hx=>ih.2.2.2 x (by have:=qj hx;omega) (by have:=qj hx;omega)) (fun k s=>by simp only[F7,Mo.den,ak,aj,au,ay])
   simp only[mZ,abO,Mo.den,ak,aj,au,ay,h1]
   exact fD p_l _ ⟨by omega,by omega,by unfold maxLen;omega⟩
  ·intro p_l h_ h2_
   have hl:=jI p_l
   have h1:ae1 (mZ n_) p_l 0 (List.replicate (p_l.length:Int).toNat aI.z)=some p_l:=gV p_l (fun x=>(mZ n_).m1 x) _ _ (by simp) (by omega) (fun x hx=>ih.1 x (by have:=lY hx;omega) (by have:=lY hx;omega)) (fun k s=>by simp only[F8,Mo.den,ak,aj,au,ay])
   simp only[mZ,abP,Mo.den,ak,aj,au,ay,h1]
   exact fD p_l _ ⟨by omega,by omega,by unfold maxLen;omega⟩
  ·intro p_p h_ h2_
   have hbv:=pz p_p
   have:=fA p_p.dW
   have e0:=(ih.1 p_p.dW (by omega) (by omega))
   simp only[mZ,abQ,Mo.den,ak,aj,au,ay,e0,Option.bind_some,List.length_nil]
   all_goals (cases p_p;rfl)
theorem wu(p_s:aI)(h_:aW p_s.lf1≤100000000):asb p_s=some p_s:=(uP FU).1 p_s (kY (by omega)) h_
theorem xA(p_d:cu)(h_:aW p_d.lf1≤100000000):asc p_d=some p_d:=by
 have hbv:=jV p_d
 have:=jc p_d.bV
 have:=fA p_d.dW
 have e0:=(qm p_d.bV (by omega))
 have e1:=(wu p_d.dW (by omega))
 simp only[asc,ajw,Mo.den,ak,aj,au,ay,e0,e1,Option.bind_some,List.length_nil]
 all_goals (cases p_d;rfl)
theorem l7(p_l:List Int)(h_:bM (p_l.map lfI)≤100000000):Yr p_l=some p_l:=by
 have hl:=jB p_l
 simp only[Yr,abR,Mo.den,ak,aj,au,ay,Option.bind_some,List.length_nil]
 rw[if_pos (by omega)]
 try rfl
theorem wz(n_:Nat):(∀p_w:aH,4*aW p_w.lf1+0<n_→aW p_w.lf1≤100000000→(wV n_).m1 p_w=some p_w)∧(∀p_l:List aH,4*bM (p_l.map aH.lf)+1<n_→bM (p_l.map aH.lf)≤100000000→(wV n_).m2 p_l=some p_l):=by
 induction n_ with
 |zero=>exact⟨fun _ h=>by omega,fun _ h=>by omega⟩
 |succ n_ ih=>
  refine⟨?_,?_⟩
  ·intro p_w h_ h2_
   have hbv:=jl p_w
   have:=dA p_w.eX
   have:=jV p_w.kM
   have:=dA p_w.bC
   have:=iR p_w.bP
   have:=dA p_w.jh
   have:=jB p_w.dZ
   have:=nS p_w.dh
   have e0:=(gI p_w.jh (by omega))
   have e1:=(gI p_w.bC (by omega))
   have e2:=(gI p_w.eX (by omega))
   have e3:=(xA p_w.kM (by omega))
   have e4:=(oU p_w.bP (by omega))
   have e5:=(ih.2 p_w.dh (by omega) (by omega))
   have e6:=(l7 p_w.dZ (by omega))
   simp only[wV,abT,Mo.den,ak,aj,au,ay,e0,e1,e2,e3,e4,e5,e6,Option.bind_some,List.length_nil]
   all_goals (cases p_w;rfl)
  ·intro p_l h_ h2_
   have hl:=nS p_l
   have h1:ae2 (wV n_) p_l 0 (List.replicate (p_l.length:Int).toNat aH.z)=some p_l:=gV p_l (fun x=>(wV n_).m1 x) _ _ (by simp) (by omega) (fun x hx=>ih.1 x (by have:=pG hx;omega) (by have:=pG hx;omega)) (fun k s=>by simp only[F9,Mo.den,ak,aj,au,ay])
   simp only[wV,abU,Mo.den,ak,aj,au,ay,h1]
   exact fD p_l _ ⟨by omega,by omega,by unfold maxLen;omega⟩
theorem xB(p_w:aH)(h_:aW p_w.lf1≤100000000):ave p_w=some p_w:=(wz FU).1 p_w (kY (by omega)) h_
theorem xC(p_e:aF)(h_:aW p_e.lf1≤100000000):anM p_e=some p_e:=by
 have hbv:=pF p_e
 have:=jl p_e.dL
 have e0:=(xB p_e.dL (by omega))
 simp only[anM,ajA,Mo.den,ak,aj,au,ay,e0,Option.bind_some,List.length_nil]
 all_goals (cases p_e;rfl)
theorem qo(p_l:List aF)(h_:bM (p_l.map aF.lf)≤100000000):Q89 p_l=some p_l:=by
 have hl:=qg p_l
 have h1:ajB p_l 0 (List.replicate (p_l.length:Int).toNat (aF.mk 0 0 ⟨#[]⟩ 0 aH.z))=some p_l:=gV p_l (fun x=>anM x) _ _ (by simp) (by omega) (fun x hx=>xC x (by have:=Hw hx;omega)) (fun k s=>by simp only[J7,Mo.den,ak,aj,au,ay])
 simp only[Q89,aqJ,Mo.den,ak,aj,au,ay,h1]
 exact fD p_l _ ⟨by omega,by omega,by unfold maxLen;omega⟩
theorem wB(p_m:aB)(h_:aW p_m.lf1≤100000000):asf p_m=some p_m:=by
 have hbv:=kN p_m
 have:=qg p_m.bn
 have:=jB p_m.bg
 have:=jB p_m.fNext
 have e0:=(qo p_m.bn (by omega))
 have e1:=(l7 p_m.fNext (by omega))
 have e2:=(l7 p_m.bg (by omega))
 simp only[asf,ajC,Mo.den,ak,aj,au,ay,e0,e1,e2,Option.bind_some,List.length_nil]
 all_goals (cases p_m;rfl)
theorem oN(n_:Nat):(∀p_v:ah,4*aW p_v.lf1+0<n_→aW p_v.lf1≤100000000→(lK n_).m1 p_v=some p_v)∧(∀p_l:List ah,4*bM (p_l.map ah.lf)+1<n_→bM (p_l.map ah.lf)≤100000000→(lK n_).m2 p_l=some p_l)∧(∀p_l:List aN,4*bM (p_l.map aN.lf)+2<n_→bM (p_l.map aN.lf)≤100000000→(lK n_).m3 p_l=some p_l)∧(∀p_f:aN,4*aW p_f.lf1+1<n_→aW p_f.lf1≤100000000→(lK n_).m4 p_f=some p_f):=by
 induction n_ with
 |zero=>exact⟨fun _ h=>by omega,fun _ h=>by omega,fun _ h=>by omega,fun _ h=>by omega⟩
 |succ n_ ih=>
  refine⟨?_,?_,?_,?_⟩
  ·intro p_v h_ h2_
   have hbv:=dA p_v
   have:=gG p_v.bC
   have:=fV p_v.bF
   have e0:=(ih.2.1 p_v.bF (by omega) (by omega))
   have e1:=(ih.2.2.1 p_v.bC (by omega) (by omega))
   simp only[lK,ab7,Mo.den,ak,aj,au,ay,e0,e1,Option.bind_some,List.length_nil]
   all_goals (cases p_v;rfl)
  ·intro p_l h_ h2_
   have hl:=fV p_l
   have h1:ajK (lK n_) p_l 0 (List.replicate (p_l.length:Int).toNat (ah.mk 0 0 ⟨#[]⟩ [] []))=some p_l:=gV p_l (fun x=>(lK n_).m1 x) _ _ (by simp) (by omega) (fun x hx=>ih.1 x (by have:=jg hx;omega) (by have:=jg hx;omega)) (fun k s=>by simp only[J8,Mo.den,ak,aj,au,ay])
   simp only[lK,ajL,Mo.den,ak,aj,au,ay,h1]
   exact fD p_l _ ⟨by omega,by omega,by unfold maxLen;omega⟩
  ·intro p_l h_ h2_
   have hl:=gG p_l
   have h1:ae5 (lK n_) p_l 0 (List.replicate (p_l.length:Int).toNat (aN.mk ⟨#[]⟩ (ah.mk 0 0 ⟨#[]⟩ [] [])))=some p_l:=gV p_l (fun x=>(lK n_).m4 x) _ _ (by simp) (by omega) (fun x hx=>ih.2.2.2 x (by have:=gB hx;omega) (by have:=gB hx;omega)) (fun k s=>by simp only[Gf,Mo.den,ak,aj,au,ay])
   simp only[lK,ab8,Mo.den,ak,aj,au,ay,h1]
   exact fD p_l _ ⟨by omega,by omega,by unfold maxLen;omega⟩
  ·intro p_f h_ h2_
   have hbv:=fP p_f
   have:=dA p_f.fValue
   have e0:=(ih.1 p_f.fValue (by omega) (by omega))
   simp only[lK,ab9,Mo.den,ak,aj,au,ay,e0,Option.bind_some,List.length_nil]
   all_goals (cases p_f;rfl)
theorem gJ(p_v:ah)(h_:aW p_v.lf1≤100000000):avk p_v=some p_v:=(oN FU).1 p_v (kY (by omega)) h_
theorem kQ(p_l:List ah)(h_:bM (p_l.map ah.lf)≤100000000):Q55 p_l=some p_l:=(oN FU).2.1 p_l (kY (by omega)) h_
theorem iJ(p_l:List ByteArray)(h_:bM (p_l.map lfS)≤100000000):agY p_l=some p_l:=by
 have hl:=fB p_l
 simp only[agY,abE,Mo.den,ak,aj,au,ay,Option.bind_some,List.length_nil]
 rw[if_pos (by omega)]
 try rfl
theorem xE(p_o:bf)(h_:aW p_o.lf1≤100000000):an2 p_o=some p_o:=by
 have hbv:=lV p_o
 have:=fB p_o.cZ
 have e0:=(iJ p_o.cZ (by omega))
 simp only[an2,ajP,Mo.den,ak,aj,au,ay,e0,Option.bind_some,List.length_nil]
 all_goals (cases p_o;rfl)
theorem qp(p_l:List bf)(h_:bM (p_l.map bf.lf)≤100000000):Q90 p_l=some p_l:=by
 have hl:=jO p_l
 have h1:ajQ p_l 0 (List.replicate (p_l.length:Int).toNat (bf.mk [] false))=some p_l:=gV p_l (fun x=>an2 x) _ _ (by simp) (by omega) (fun x hx=>xE x (by have:=qN hx;omega)) (fun k s=>by simp only[J9,Mo.den,ak,aj,au,ay])
 simp only[Q90,aqK,Mo.den,ak,aj,au,ay,h1]
 exact fD p_l _ ⟨by omega,by omega,by unfold maxLen;omega⟩
theorem xG(n_:Nat):(∀p_e:aT,4*aW p_e.lf1+0<n_→aW p_e.lf1≤100000000→(wW n_).m1 p_e=some p_e)∧(∀p_l:List aT,4*bM (p_l.map aT.lf)+1<n_→bM (p_l.map aT.lf)≤100000000→(wW n_).m2 p_l=some p_l):=by
 induction n_ with
 |zero=>exact⟨fun _ h=>by omega,fun _ h=>by omega⟩
 |succ n_ ih=>
  refine⟨?_,?_⟩
  ·intro p_e h_ h2_
   have hbv:=iY p_e
   have:=dA p_e.fArg
   have:=mW p_e.bJ
   have:=fB p_e.eH
   have:=fB p_e.cZ
   have e0:=(iJ p_e.cZ (by omega))
   have e1:=(iJ p_e.eH (by omega))
   have e2:=(gJ p_e.fArg (by omega))
   have e3:=(ih.2 p_e.bJ (by omega) (by omega))
   simp only[wW,ace,Mo.den,ak,aj,au,ay,e0,e1,e2,e3,Option.bind_some,List.length_nil]
   all_goals (cases p_e;rfl)
  ·intro p_l h_ h2_
   have hl:=mW p_l
   have h1:ae6 (wW n_) p_l 0 (List.replicate (p_l.length:Int).toNat aT.z)=some p_l:=gV p_l (fun x=>(wW n_).m1 x) _ _ (by simp) (by omega) (fun x hx=>ih.1 x (by have:=qh hx;omega) (by have:=qh hx;omega)) (fun k s=>by simp only[Gg,Mo.den,ak,aj,au,ay])
   simp only[wW,acf,Mo.den,ak,aj,au,ay,h1]
   exact fD p_l _ ⟨by omega,by omega,by unfold maxLen;omega⟩
theorem yO(p_e:aT)(h_:aW p_e.lf1≤100000000):avl p_e=some p_e:=(xG FU).1 p_e (kY (by omega)) h_
theorem xH(n_:Nat):(∀p_p:aP,4*aW p_p.lf1+0<n_→aW p_p.lf1≤100000000→(wX n_).m1 p_p=some p_p)∧(∀p_l:List aP,4*bM (p_l.map aP.lf)+1<n_→bM (p_l.map aP.lf)≤100000000→(wX n_).m2 p_l=some p_l):=by
 induction n_ with
 |zero=>exact⟨fun _ h=>by omega,fun _ h=>by omega⟩
 |succ n_ ih=>
  refine⟨?_,?_⟩
  ·intro p_p h_ h2_
   have hbv:=gy p_p
   have:=dA p_p.fArg
   have:=fV p_p.fArgs
   have:=iY p_p.fExpr
   have:=kJ p_p.bJ
   have:=fB p_p.cZ
   have:=nR p_p.eF
   have:=lX p_p.eF.bK
   have:=lX p_p.eF.bK
   have e0:=(iJ p_p.cZ (by omega))
   have e1:=(gJ p_p.fArg (by omega))
   have e2:=(kQ p_p.fArgs (by omega))
   have e3:=(yO p_p.fExpr (by omega))
   have e4:=(ih.2 p_p.bJ (by omega) (by omega))
   simp only[wX,ach,Mo.den,ak,aj,au,ay,e0,e1,e2,e3,e4,Option.bind_some,List.length_nil]
   rw[if_pos (by omega)]
   all_goals (cases p_p;rfl)
  ·intro p_l h_ h2_
   have hl:=kJ p_l
   have h1:ae7 (wX n_) p_l 0 (List.replicate (p_l.length:Int).toNat aP.z)=some p_l:=gV p_l (fun x=>(wX n_).m1 x) _ _ (by simp) (by omega) (fun x hx=>ih.1 x (by have:=nK hx;omega) (by have:=nK hx;omega)) (fun k s=>by simp only[Gi,Mo.den,ak,aj,au,ay])
   simp only[wX,aci,Mo.den,ak,aj,au,ay,h1]
   exact fD p_l _ ⟨by omega,by omega,by unfold maxLen;omega⟩
theorem yP(p_p:aP)(h_:aW p_p.lf1≤100000000):asF p_p=some p_p:=(xH FU).1 p_p (kY (by omega)) h_
theorem oW(p_x:aU)(h_:aW p_x.lf1≤100000000):an6 p_x=some p_x:=by
 have hbv:=iR p_x
 have:=jO p_x.gU
 have:=gy p_x.jr
 have e0:=(qp p_x.gU (by omega))
 have e1:=(yP p_x.jr (by omega))
 simp only[an6,ajX,Mo.den,ak,aj,au,ay,e0,e1,Option.bind_some,List.length_nil]
 all_goals (cases p_x;rfl)
theorem qw(p_l:List aU)(h_:bM (p_l.map aU.lf)≤100000000):Q91 p_l=some p_l:=by
 have hl:=jc p_l
 have h1:ajY p_l 0 (List.replicate (p_l.length:Int).toNat aU.z)=some p_l:=gV p_l (fun x=>an6 x) _ _ (by simp) (by omega) (fun x hx=>oW x (by have:=uO hx;omega)) (fun k s=>by simp only[Ko,Mo.den,ak,aj,au,ay])
 simp only[Q91,aqL,Mo.den,ak,aj,au,ay,h1]
 exact fD p_l _ ⟨by omega,by omega,by unfold maxLen;omega⟩
theorem uQ(n_:Nat):(∀p_s:aI,4*aW p_s.lf1+0<n_→aW p_s.lf1≤100000000→(jS n_).m1 p_s=some p_s)∧(∀p_l:List bH,4*bM (p_l.map bH.lf)+2<n_→bM (p_l.map bH.lf)≤100000000→(jS n_).m2 p_l=some p_l)∧(∀p_l:List aI,4*bM (p_l.map aI.lf)+1<n_→bM (p_l.map aI.lf)≤100000000→(jS n_).m3 p_l=some p_l)∧(∀p_p:bH,4*aW p_p.lf1+1<n_→aW p_p.lf1≤100000000→(jS n_).m4 p_p=some p_p):=by
 induction n_ with
 |zero=>exact⟨fun _ h=>by omega,fun _ h=>by omega,fun _ h=>by omega,fun _ h=>by omega⟩
 |succ n_ ih=>
  refine⟨?_,?_,?_,?_⟩
  ·intro p_s h_ h2_
   have hbv:=fA p_s
   have:=fV p_s.iZ
   have:=jI p_s.eP
   have:=dA p_s.rO
   have:=dA p_s.rM
   have:=jL p_s.dD
   have:=fB p_s.eu
   have e0:=(gJ p_s.rM (by omega))
   have e1:=(gJ p_s.rO (by omega))
   have e2:=(kQ p_s.iZ (by omega))
   have e3:=(iJ p_s.eu (by omega))
   have e4:=(ih.2.1 p_s.dD (by omega) (by omega))
   have e5:=(ih.2.2.1 p_s.eP (by omega) (by omega))
   simp only[jS,acj,Mo.den,ak,aj,au,ay,e0,e1,e2,e3,e4,e5,Option.bind_some,List.length_nil]
   all_goals (cases p_s;rfl)
  ·intro p_l h_ h2_
   have hl:=jL p_l
   have h1:afc (jS n_) p_l 0 (List.replicate (p_l.length:Int).toNat (bH.mk ⟨#[]⟩ aI.z))=some p_l:=gV p_l (fun x=>(jS n_).m4 x) _ _ (by simp) (by omega) (fun x hx=>ih.2.2.2 x (by have:=qj hx;omega) (by have:=qj hx;omega)) (fun k s=>by simp only[Gl,Mo.den,ak,aj,au,ay])
   simp only[jS,acn,Mo.den,ak,aj,au,ay,h1]
   exact fD p_l _ ⟨by omega,by omega,by unfold maxLen;omega⟩
  ·intro p_l h_ h2_
   have hl:=jI p_l
   have h1:afd (jS n_) p_l 0 (List.replicate (p_l.length:Int).toNat aI.z)=some p_l:=gV p_l (fun x=>(jS n_).m1 x) _ _ (by simp) (by omega) (fun x hx=>ih.1 x (by have:=lY hx;omega) (by have:=lY hx;omega)) (fun k s=>by simp only[Gm,Mo.den,ak,aj,au,ay])
   simp only[jS,aco,Mo.den,ak,aj,au,ay,h1]
   exact fD p_l _ ⟨by omega,by omega,by unfold maxLen;omega⟩
  ·intro p_p h_ h2_
   have hbv:=pz p_p
   have:=fA p_p.dW
   have e0:=(ih.1 p_p.dW (by omega) (by omega))
   simp only[jS,acp,Mo.den,ak,aj,au,ay,e0,Option.bind_some,List.length_nil]
   all_goals (cases p_p;rfl)
theorem wC(p_s:aI)(h_:aW p_s.lf1≤100000000):asH p_s=some p_s:=(uQ FU).1 p_s (kY (by omega)) h_
theorem xI(p_d:cu)(h_:aW p_d.lf1≤100000000):asI p_d=some p_d:=by
 have hbv:=jV p_d
 have:=jc p_d.bV
 have:=fA p_d.dW
 have e0:=(qw p_d.bV (by omega))
 have e1:=(wC p_d.dW (by omega))
 simp only[asI,aj3,Mo.den,ak,aj,au,ay,e0,e1,Option.bind_some,List.length_nil]
 all_goals (cases p_d;rfl)
theorem l9(p_l:List Int)(h_:bM (p_l.map lfI)≤100000000):Yr p_l=some p_l:=by
 have hl:=jB p_l
 simp only[Yr,abR,Mo.den,ak,aj,au,ay,Option.bind_some,List.length_nil]
 rw[if_pos (by omega)]
 try rfl
theorem wE(n_:Nat):(∀p_w:aH,4*aW p_w.lf1+0<n_→aW p_w.lf1≤100000000→(wY n_).m1 p_w=some p_w)∧(∀p_l:List aH,4*bM (p_l.map aH.lf)+1<n_→bM (p_l.map aH.lf)≤100000000→(wY n_).m2 p_l=some p_l):=by
 induction n_ with
 |zero=>exact⟨fun _ h=>by omega,fun _ h=>by omega⟩
 |succ n_ ih=>
  refine⟨?_,?_⟩
  ·intro p_w h_ h2_
   have hbv:=jl p_w
   have:=dA p_w.eX
   have:=jV p_w.kM
   have:=dA p_w.bC
   have:=iR p_w.bP
   have:=dA p_w.jh
   have:=jB p_w.dZ
   have:=nS p_w.dh
   have e0:=(gJ p_w.jh (by omega))
   have e1:=(gJ p_w.bC (by omega))
   have e2:=(gJ p_w.eX (by omega))
   have e3:=(xI p_w.kM (by omega))
   have e4:=(oW p_w.bP (by omega))
   have e5:=(ih.2 p_w.dh (by omega) (by omega))
   have e6:=(l9 p_w.dZ (by omega))
   simp only[wY,acs,Mo.den,ak,aj,au,ay,e0,e1,e2,e3,e4,e5,e6,Option.bind_some,List.length_nil]
   all_goals (cases p_w;rfl)
  ·intro p_l h_ h2_
   have hl:=nS p_l
   have h1:afe (wY n_) p_l 0 (List.replicate (p_l.length:Int).toNat aH.z)=some p_l:=gV p_l (fun x=>(wY n_).m1 x) _ _ (by simp) (by omega) (fun x hx=>ih.1 x (by have:=pG hx;omega) (by have:=pG hx;omega)) (fun k s=>by simp only[Gn,Mo.den,ak,aj,au,ay])
   simp only[wY,acu,Mo.den,ak,aj,au,ay,h1]
   exact fD p_l _ ⟨by omega,by omega,by unfold maxLen;omega⟩
theorem xJ(p_w:aH)(h_:aW p_w.lf1≤100000000):avm p_w=some p_w:=(wE FU).1 p_w (kY (by omega)) h_
theorem xK(p_e:aF)(h_:aW p_e.lf1≤100000000):aoa p_e=some p_e:=by
 have hbv:=pF p_e
 have:=jl p_e.dL
 have e0:=(xJ p_e.dL (by omega))
 simp only[aoa,aj9,Mo.den,ak,aj,au,ay,e0,Option.bind_some,List.length_nil]
 all_goals (cases p_e;rfl)
theorem kR(p_l:List aF)(h_:bM (p_l.map aF.lf)≤100000000):Q63 p_l=some p_l:=by
 have hl:=qg p_l
 have h1:akb p_l 0 (List.replicate (p_l.length:Int).toNat (aF.mk 0 0 ⟨#[]⟩ 0 aH.z))=some p_l:=gV p_l (fun x=>aoa x) _ _ (by simp) (by omega) (fun x hx=>xK x (by have:=Hw hx;omega)) (fun k s=>by simp only[Kq,Mo.den,ak,aj,au,ay])
 simp only[Q63,aqM,Mo.den,ak,aj,au,ay,h1]
 exact fD p_l _ ⟨by omega,by omega,by unfold maxLen;omega⟩
theorem wF(p_m:aB)(h_:aW p_m.lf1≤100000000):aoc p_m=some p_m:=by
 have hbv:=kN p_m
 have:=qg p_m.bn
 have:=jB p_m.bg
 have:=jB p_m.fNext
 have e0:=(kR p_m.bn (by omega))
 have e1:=(l9 p_m.fNext (by omega))
 have e2:=(l9 p_m.bg (by omega))
 simp only[aoc,akc,Mo.den,ak,aj,au,ay,e0,e1,e2,Option.bind_some,List.length_nil]
 all_goals (cases p_m;rfl)
end Go.Proofs.YtbdcaeahocbkbaaGreatDoor
set_option linter.unusedSimpArgs false
set_option linter.unusedVariables false
namespace Go.Proofs.YtbdcaeahocbkbaaGreatDoor
open Go.RowKit
mutual
noncomputable def wrF:Lf→ByteArray
 |.int _ n=>EM n
 |.str s=>EM (s.size:Int)++s
 |.bool b=>if b then⟨#[1]⟩ else⟨#[0]⟩
 |.rows _ l=>EM (l.length:Int)++wrQ l
noncomputable def wrQ:List (List Lf)→ByteArray
 |[]=>ByteArray.empty
 |r::q=>wrL r++wrQ q
noncomputable def wrL:List Lf→ByteArray
 |[]=>ByteArray.empty
 |x::r=>wrF x++wrL r
end
theorem qL(r s:List Lf):wrL (r++s)=wrL r++wrL s:=by
 induction r with
 |nil=>simp[wrL]
 |cons x r ih=>simp only[List.cons_append,wrL,ih,ByteArray.append_assoc]
theorem agm(b:UInt8):(⟨#[b]⟩:ByteArray).size=1:=rfl
mutual
theorem auJ:∀x:Lf,(wrF x).size≤12*x.bulk
 |.int _ n=>by have:=Hy n;simp only[wrF,Lf.bulk];omega
 |.str s=>by have:=Hy (s.size:Int);simp only[wrF,Lf.bulk,ByteArray.size_append];omega
 |.bool b=>by cases b<;>simp[wrF,Lf.bulk,agm]
 |.rows _ l=>by have:=Hy (l.length:Int);have:=ama l;simp only[wrF,Lf.bulk,ByteArray.size_append];omega
theorem ama:∀l:List (List Lf),(wrQ l).size≤12*bM l
 |[]=>by simp[wrQ,bM]
 |r::q=>by have:=CG r;have:=ama q;simp only[wrQ,bM,ByteArray.size_append];omega
theorem CG:∀l:List Lf,(wrL l).size≤12*aW l
 |[]=>by simp[wrL,aW]
 |x::r=>by have:=auJ x;have:=CG r;simp only[wrL,aW,ByteArray.size_append];omega
end
def Ap(m:aO→Option aO)(s:ByteArray):Prop:=∀b,b.xk=true→b.fS.size+s.size≤4611686018427387904→m b=some ⟨b.fS++s,b.IB,b.xk⟩
theorem Ap.bind{m k:aO→Option aO}{s t:ByteArray}(h:Ap m s)(h2:Ap k t):Ap (fun b=>(m b).bind k) (s++t):=by
 intro b hb hs
 rw[ByteArray.size_append] at hs
 show(m b).bind k=_
 rw[h b hb (by omega),Option.bind_some]
 refine(h2 ⟨b.fS++s,b.IB,b.xk⟩ hb (by simp only[ByteArray.size_append];omega)).trans ?_
 simp only[ByteArray.append_assoc]
theorem Ap.to{m:aO→Option aO}{s t:ByteArray}(h:Ap m s)(e:s=t):Ap m t:=e▸h
theorem Ap.nil:Ap some ByteArray.empty:=fun b _ _=>by rw[ByteArray.append_empty]
theorem Ap.of{m k:aO→Option aO}{s:ByteArray}(h:Ap k s)(e:∀b,b.xk=true→m b=k b):Ap m s:=fun b hb hs=>by rw[e b hb];exact h b hb hs
theorem Ap.loop{α:Type}(f:α→List Lf)(l:List α)(g:α→aO→Option aO)(T:Int×aO→Option ((Int×aO)⊕aO))(hl:l.length≤1000000000)
 (hg:∀x∈l,Ap (g x) (wrL (f x)))
 (hT:∀(k:Nat) s,(∀x,l[k]?=some x→T ((k:Int),s)=(g x s).bind fun r=>some (.inl (IntKind.wrap .i64 ((k:Int)+1),r)))∧(l[k]?=none→T ((k:Int),s)=some (.inr s))):
 Ap (fun b=>bQ T FU (0,b)) (wrQ (l.map f)):=by
 intro b hb hs
 have key:∀(m:List α) (k:Nat) (b:aO) (n:Nat),l.drop k=m→m.length<n→b.xk=true→b.fS.size+(wrQ (m.map f)).size≤4611686018427387904→
  bQ T n ((k:Int),b)=some ⟨b.fS++wrQ (m.map f),b.IB,b.xk⟩:=by
  intro m
  induction m with
  |nil=>
   intro k b n hd hn hb hs
   obtain⟨n,rfl⟩:∃j,n=j+1:=⟨n-1,by simp at hn;omega⟩
   have h1:l[k]?=none:=by
    have:=congrArg List.length hd
    simp only[List.length_drop,List.length_nil] at this
    rw[List.getElem?_eq_none];omega
   unfold bQ
   rw[(hT k b).2 h1]
   simp only[List.map_nil,wrQ,ByteArray.append_empty,Option.bind_some]
  |cons x m ih=>
   intro k b n hd hn hb hs
   obtain⟨n,rfl⟩:∃j,n=j+1:=⟨n-1,by simp at hn;omega⟩
   have h1:l[k]?=some x:=by rw[←List.head?_drop,hd];rfl
   have h2:l.drop (k+1)=m:=by rw[←List.tail_drop,hd];rfl
   have hk:k<l.length:=(List.getElem?_eq_some_iff.1 h1).1
   simp only[List.map_cons,wrQ,ByteArray.size_append] at hs
   unfold bQ
   rw[(hT k b).1 x h1,hg x (List.mem_of_getElem? h1) b hb (by omega)]
   simp only[Option.bind_some]
   rw[inc k (by omega)]
   refine(ih (k+1) ⟨b.fS++wrL (f x),b.IB,b.xk⟩ n h2 (by simp at hn;omega) hb (by simp only[ByteArray.size_append];omega)).trans ?_
   simp only[List.map_cons,wrQ,ByteArray.append_assoc]
 exact key l 0 b FU rfl (kY (by omega)) hb hs
theorem gQ(n:Int):Ap (Q14 n) (EM n):=by
 intro b _ hs
 unfold Q14 aqT
 simp only[Mo.den,ak,ay,agl,Option.bind_some]
 rw[if_pos (by omega)]
theorem tV(s:ByteArray):Ap (Q71 s) (EM (s.size:Int)++s):=by
 intro b hb hs
 rw[ByteArray.size_append] at hs
 unfold Q71 aqU
 simp only[Mo.den,ak,ay]
 rw[gQ _ b hb (by omega)]
 simp only[Option.bind_some,ByteArray.size_append]
 rw[if_pos (by omega)]
 simp only[ByteArray.append_assoc]
theorem qM(c:Bool):Ap (Q86 c) (wrF (.bool c)):=by
 intro b hb hs
 unfold Q86 aqW
 simp only[Mo.den,ak,au,ay,agm]
 cases c
 ·simp only[wrF,cond_false,Bool.false_eq_true,if_false,agm] at hs ⊢;rw[if_pos (by omega)]
 ·simp only[wrF,cond_true,if_true,agm] at hs ⊢;rw[if_pos (by omega)]
theorem fH{α:Type}(l:List α)(k:Nat):(∀x,l[k]?=some x→decide ((k:Int)<(l.length:Int))=true∧fQ l (k:Int)=some x)∧(l[k]?=none→decide ((k:Int)<(l.length:Int))=false):=by
 refine⟨fun x h=>?_,fun h=>?_⟩
 ·have:=(List.getElem?_eq_some_iff.1 h).1
  exact⟨iLt this,by rw[yc,h]⟩
 ·rw[List.getElem?_eq_none_iff] at h
  exact X6 (by omega)
theorem Ap.of'{m k:aO→Option aO}{s t:ByteArray}(e:∀b,b.xk=true→m b=k b)(h:Ap k s)(hs:s=t):Ap m t:=hs▸Ap.of h e
theorem EN(l:List ByteArray)(hl:l.length≤1000000000):Ap (Q51 l) (wrF (.rows 1 (l.map lfS))):=by
 have hL:Ap (adh l 0) (wrQ (l.map lfS)):=by
  refine Ap.of' (fun b hb=>by unfold adh;rfl) (Ap.loop lfS l Q71 _ hl (fun x _=>(tV x).to (by simp only[lfS,wrL,wrF,ByteArray.append_empty])) fun k s=>⟨fun x h=>?_,fun h=>?_⟩) rfl
  ·obtain⟨h1,h2⟩:=(fH l k).1 x h
   simp only[DZ,Mo.den,ak,au,h1,h2,cond_true,Option.bind_some]
  ·simp only[DZ,Mo.den,ak,au,(fH l k).2 h,cond_false]
 refine Ap.of' (fun b hb=>?_) (Ap.bind (gQ (l.length:Int)) (Ap.bind hL Ap.nil)) ?_
 ·simp only[Q51,aqV,Mo.den,ak]
 ·simp only[wrF,List.length_map,ByteArray.append_empty]
end Go.Proofs.YtbdcaeahocbkbaaGreatDoor
set_option linter.unusedSimpArgs false
set_option linter.unusedVariables false
namespace Go.Proofs.YtbdcaeahocbkbaaGreatDoor
open Go.RowKit
theorem amb(x:dP)(hb:aW x.lf1≤100000000):Ap (Q83 x) (wrL x.lf1):=by
 have hl:=lX x.bK
 rw[nR] at hb
 have hL:Ap (ads x 0) (wrQ (x.bK.map dO.lf)):=by
  refine Ap.of' (fun b hb=>by unfold ads;rfl) (Ap.loop dO.lf x.bK (fun p b=>(Q14 p.fX b).bind fun r=>Q14 p.fY r) _ (by omega) (fun x hx=>(Ap.bind (gQ _) (gQ _)).to (by simp only[dO.lf,dO.lf1,wrL,wrF,ByteArray.append_empty])) fun k s=>⟨fun y h=>?_,fun h=>?_⟩) rfl
  ·obtain⟨h1,h2⟩:=(fH x.bK k).1 y h
   simp only[Ee,Mo.den,ak,au,h1,h2,cond_true,Option.bind_some,Option.bind_assoc]
  ·simp only[Ee,Mo.den,ak,au,(fH x.bK k).2 h,cond_false]
 refine Ap.of' (fun b hb=>?_) (Ap.bind (gQ (x.aK)) (Ap.bind (gQ ((x.bK.length:Int))) (Ap.bind hL (Ap.bind (gQ (x.fR)) Ap.nil)))) ?_
 ·simp only[Q83,aqZ,Mo.den,ak,au]
 ·simp only[dP.lf1,wrL,wrF,List.length_map,ByteArray.append_empty,ByteArray.append_assoc]
theorem WW:∀n,(∀v:ah,2*aW v.lf1<n→aW v.lf1≤100000000→Ap ((nC n).m1 v) (wrL v.lf1))∧∀l:List ah,2*bM (l.map ah.lf)+1<n→bM (l.map ah.lf)≤100000000→Ap ((nC n).m2 l) (wrF (.rows 5 (l.map ah.lf)))
 |0=>⟨fun v h=>by omega,fun l h=>by omega⟩
 |n+1=>by
  have ih:=WW n
  refine⟨fun x h hb=>?_,fun l h hb=>?_⟩
  ·have hl:=gG x.bC
   rw[dA] at h hb
   have hL:Ap (adq (nC n) x 0) (wrQ (x.bC.map aN.lf)):=by
    refine Ap.of' (fun b hb=>by unfold adq;rfl) (Ap.loop aN.lf x.bC (fun p b=>(Q71 p.fName b).bind fun r=>(nC n).m1 p.fValue r) _ (by omega) (fun x hx=>by have h1:=gB hx;rw[fP] at h1;exact(Ap.bind (tV _) (ih.1 _ (by omega) (by omega))).to (by rw[aN.aX];simp only[aN.lf1,qL,wrL,wrF,ByteArray.append_empty])) fun k s=>⟨fun y h=>?_,fun h=>?_⟩) rfl
    ·obtain⟨h1,h2⟩:=(fH x.bC k).1 y h
     simp only[Ec,Mo.den,ak,au,h1,h2,cond_true,Option.bind_some,Option.bind_assoc]
    ·simp only[Ec,Mo.den,ak,au,(fH x.bC k).2 h,cond_false]
   refine Ap.of' (fun b hr=>?_) (Ap.bind (gQ (x.aK)) (Ap.bind (gQ (x.je)) (Ap.bind (tV (x.fText)) (Ap.bind (ih.2 x.bF (by omega) (by omega)) (Ap.bind (gQ ((x.bC.length:Int))) (Ap.bind hL Ap.nil)))))) ?_
   ·simp only[nC,alo,Mo.den,ak,au,hr,cond_true]
   ·simp only[ah.lf1,wrL,wrF,List.length_map,ByteArray.append_empty,ByteArray.append_assoc]
  ·have hl:=fV l
   have hL:Ap (adr (nC n) l 0) (wrQ (l.map ah.lf)):=by
    refine Ap.of' (fun b hb=>by unfold adr;rfl) (Ap.loop ah.lf l (fun p b=>(nC n).m1 p b) _ (by omega) (fun x hx=>by have h1:=jg hx;exact(ih.1 _ (by omega) (by omega)).to (by rw[ah.aX])) fun k s=>⟨fun y h=>?_,fun h=>?_⟩) rfl
    ·obtain⟨h1,h2⟩:=(fH l k).1 y h
     simp only[Ed,Mo.den,ak,au,h1,h2,cond_true,Option.bind_some,Option.bind_assoc]
    ·simp only[Ed,Mo.den,ak,au,(fH l k).2 h,cond_false]
   refine Ap.of' (fun b hr=>?_) (Ap.bind (gQ ((l.length:Int))) (Ap.bind hL Ap.nil)) ?_
   ·simp only[nC,alp,Mo.den,ak,au]
   ·simp only[wrF,List.length_map,ByteArray.append_empty]
theorem rC(v:ah)(hb:aW v.lf1≤100000000):Ap (Q41 v) (wrL v.lf1):=(WW FU).1 v (kY (by omega)) hb
theorem TA(l:List ah)(hb:bM (l.map ah.lf)≤100000000):Ap (Q58 l) (wrF (.rows 5 (l.map ah.lf))):=(WW FU).2 l (kY (by omega)) hb
theorem amc(n:Nat):∀x:aT,aW x.lf1<n→aW x.lf1≤100000000→Ap ((yH n).m1 x) (wrL x.lf1):=by
 induction n with
 |zero=>intro x h _;omega
 |succ n ih=>
  intro x h hb
  have hl:=mW x.bJ
  have hl1:=fB x.cZ
  have hl2:=fB x.eH
  rw[iY] at h hb
  have hL:Ap (adt (yH n) x 0) (wrQ (x.bJ.map aT.lf)):=by
   refine Ap.of' (fun b hb=>by unfold adt;rfl) (Ap.loop aT.lf x.bJ (fun p b=>(yH n).m1 p b) _ (by omega) (fun x hx=>by have h1:=qh hx;exact(ih _ (by omega) (by omega)).to (by rw[aT.aX])) fun k s=>⟨fun y h=>?_,fun h=>?_⟩) rfl
   ·obtain⟨h1,h2⟩:=(fH x.bJ k).1 y h
    simp only[Ef,Mo.den,ak,au,h1,h2,cond_true,Option.bind_some,Option.bind_assoc]
   ·simp only[Ef,Mo.den,ak,au,(fH x.bJ k).2 h,cond_false]
  refine Ap.of' (fun b hr=>?_) (Ap.bind (gQ (x.fOp)) (Ap.bind (EN (x.cZ) (by omega)) (Ap.bind (tV (x.fName)) (Ap.bind (EN (x.eH) (by omega)) (Ap.bind (rC (x.fArg) (by omega)) (Ap.bind (gQ (x.fN)) (Ap.bind (gQ ((x.bJ.length:Int))) (Ap.bind hL Ap.nil)))))))) ?_
  ·simp only[yH,als,Mo.den,ak,au]
  ·simp only[aT.lf1,qL,wrL,wrF,List.length_map,ByteArray.append_empty,ByteArray.append_assoc]
theorem aqd(v:aT)(hb:aW v.lf1≤100000000):Ap (Q67 v) (wrL v.lf1):=amc FU v (kY (by omega)) hb
theorem amd(n:Nat):∀x:aP,aW x.lf1<n→aW x.lf1≤100000000→Ap ((yI n).m1 x) (wrL x.lf1):=by
 induction n with
 |zero=>intro x h _;omega
 |succ n ih=>
  intro x h hb
  have hl:=kJ x.bJ
  have hl1:=fB x.cZ
  rw[gy] at h hb
  have hL:Ap (adu (yI n) x 0) (wrQ (x.bJ.map aP.lf)):=by
   refine Ap.of' (fun b hb=>by unfold adu;rfl) (Ap.loop aP.lf x.bJ (fun p b=>(yI n).m1 p b) _ (by omega) (fun x hx=>by have h1:=nK hx;exact(ih _ (by omega) (by omega)).to (by rw[aP.aX])) fun k s=>⟨fun y h=>?_,fun h=>?_⟩) rfl
   ·obtain⟨h1,h2⟩:=(fH x.bJ k).1 y h
    simp only[Eh,Mo.den,ak,au,h1,h2,cond_true,Option.bind_some,Option.bind_assoc]
   ·simp only[Eh,Mo.den,ak,au,(fH x.bJ k).2 h,cond_false]
  refine Ap.of' (fun b hr=>?_) (Ap.bind (gQ (x.fOp)) (Ap.bind (EN (x.cZ) (by omega)) (Ap.bind (rC (x.fArg) (by omega)) (Ap.bind (TA (x.fArgs) (by omega)) (Ap.bind (gQ (x.fN)) (Ap.bind (gQ (x.fM)) (Ap.bind (amb (x.eF) (by omega)) (Ap.bind (aqd (x.fExpr) (by omega)) (Ap.bind (gQ ((x.bJ.length:Int))) (Ap.bind hL Ap.nil)))))))))) ?_
  ·simp only[yI,alv,Mo.den,ak,au]
  ·simp only[aP.lf1,qL,wrL,wrF,List.length_map,ByteArray.append_empty,ByteArray.append_assoc]
theorem aqe(v:aP)(hb:aW v.lf1≤100000000):Ap (Q72 v) (wrL v.lf1):=amd FU v (kY (by omega)) hb
theorem EO(x:aU)(hb:aW x.lf1≤100000000):Ap (Q52 x) (wrL x.lf1):=by
 have hl:=jO x.gU
 rw[iR] at hb
 have hL:Ap (adv x 0) (wrQ (x.gU.map bf.lf)):=by
  refine Ap.of' (fun b hb=>by unfold adv;rfl) (Ap.loop bf.lf x.gU (fun p b=>(Q51 p.cZ b).bind fun r=>Q86 p.Il r) _ (by omega) (fun x hx=>by have h1:=qN hx;rw[lV] at h1;have h2:=fB x.cZ;exact(Ap.bind (EN _ (by omega)) (qM _)).to (by simp only[bf.lf,bf.lf1,wrL,ByteArray.append_empty])) fun k s=>⟨fun y h=>?_,fun h=>?_⟩) rfl
  ·obtain⟨h1,h2⟩:=(fH x.gU k).1 y h
   simp only[Ei,Mo.den,ak,au,h1,h2,cond_true,Option.bind_some,Option.bind_assoc]
  ·simp only[Ei,Mo.den,ak,au,(fH x.gU k).2 h,cond_false]
 refine Ap.of' (fun b hb=>?_) (Ap.bind (tV (x.fName)) (Ap.bind (gQ (x.aK)) (Ap.bind (gQ ((x.gU.length:Int))) (Ap.bind hL (Ap.bind (qM (x.jG)) (Ap.bind (qM (x.qI)) (Ap.bind (qM (x.lQ)) (Ap.bind (aqe (x.jr) (by omega)) Ap.nil)))))))) ?_
 ·simp only[Q52,aq0,Mo.den,ak,au]
 ·simp only[aU.lf1,qL,wrL,wrF,List.length_map,ByteArray.append_empty,ByteArray.append_assoc]
theorem adP(n:Nat):∀x:aI,aW x.lf1<n→aW x.lf1≤100000000→Ap ((tK n).m1 x) (wrL x.lf1):=by
 induction n with
 |zero=>intro x h _;omega
 |succ n ih=>
  intro x h hb
  have hl:=jL x.dD
  have hl1:=jI x.eP
  have hl2:=fB x.eu
  rw[fA] at h hb
  have hL:Ap (adx (tK n) x 0) (wrQ (x.dD.map bH.lf)):=by
   refine Ap.of' (fun b hb=>by unfold adx;rfl) (Ap.loop bH.lf x.dD (fun p b=>(Q71 p.fName b).bind fun r=>(tK n).m1 p.dW r) _ (by omega) (fun x hx=>by have h1:=qj hx;rw[pz] at h1;exact(Ap.bind (tV _) (ih _ (by omega) (by omega))).to (by rw[bH.aX];simp only[bH.lf1,qL,wrL,wrF,ByteArray.append_empty])) fun k s=>⟨fun y h=>?_,fun h=>?_⟩) rfl
   ·obtain⟨h1,h2⟩:=(fH x.dD k).1 y h
    simp only[Ej,Mo.den,ak,au,h1,h2,cond_true,Option.bind_some,Option.bind_assoc]
   ·simp only[Ej,Mo.den,ak,au,(fH x.dD k).2 h,cond_false]
  have hL2:Ap (ady (tK n) x 0) (wrQ (x.eP.map aI.lf)):=by
   refine Ap.of' (fun b hb=>by unfold ady;rfl) (Ap.loop aI.lf x.eP (fun p b=>(tK n).m1 p b) _ (by omega) (fun x hx=>by have h1:=lY hx;exact(ih _ (by omega) (by omega)).to (by rw[aI.aX])) fun k s=>⟨fun y h=>?_,fun h=>?_⟩) rfl
   ·obtain⟨h1,h2⟩:=(fH x.eP k).1 y h
    simp only[Em,Mo.den,ak,au,h1,h2,cond_true,Option.bind_some,Option.bind_assoc]
   ·simp only[Em,Mo.den,ak,au,(fH x.eP k).2 h,cond_false]
  refine Ap.of' (fun b hr=>?_) (Ap.bind (gQ (x.jH)) (Ap.bind (qM (x.kU)) (Ap.bind (rC (x.rM) (by omega)) (Ap.bind (qM (x.kV)) (Ap.bind (rC (x.rO) (by omega)) (Ap.bind (TA (x.iZ) (by omega)) (Ap.bind (gQ (x.mG)) (Ap.bind (gQ (x.mJ)) (Ap.bind (EN (x.eu) (by omega)) (Ap.bind (gQ ((x.dD.length:Int))) (Ap.bind hL (Ap.bind (qM (x.qJ)) (Ap.bind (gQ ((x.eP.length:Int))) (Ap.bind hL2 (Ap.bind (qM (x.jG)) Ap.nil))))))))))))))) ?_
  ·simp only[tK,alx,Mo.den,ak,au]
  ·simp only[aI.lf1,qL,wrL,wrF,List.length_map,ByteArray.append_empty,ByteArray.append_assoc]
theorem ahB(v:aI)(hb:aW v.lf1≤100000000):Ap (Q36 v) (wrL v.lf1):=adP FU v (kY (by omega)) hb
theorem MN(x:cu)(hb:aW x.lf1≤100000000):Ap (Q62 x) (wrL x.lf1):=by
 have hl:=jc x.bV
 rw[jV] at hb
 have hL:Ap (adz x 0) (wrQ (x.bV.map aU.lf)):=by
  refine Ap.of' (fun b hb=>by unfold adz;rfl) (Ap.loop aU.lf x.bV (fun p b=>Q52 p b) _ (by omega) (fun x hx=>by have h1:=uO hx;exact EO _ (by omega)) fun k s=>⟨fun y h=>?_,fun h=>?_⟩) rfl
  ·obtain⟨h1,h2⟩:=(fH x.bV k).1 y h
   simp only[En,Mo.den,ak,au,h1,h2,cond_true,Option.bind_some,Option.bind_assoc]
  ·simp only[En,Mo.den,ak,au,(fH x.bV k).2 h,cond_false]
 refine Ap.of' (fun b hb=>?_) (Ap.bind (tV (x.fName)) (Ap.bind (gQ ((x.bV.length:Int))) (Ap.bind hL (Ap.bind (ahB (x.dW) (by omega)) (Ap.bind (gQ (x.ou)) (Ap.bind (gQ (x.jX)) Ap.nil)))))) ?_
 ·simp only[Q62,aq1,Mo.den,ak,au]
 ·simp only[cu.lf1,qL,wrL,wrF,List.length_map,ByteArray.append_empty,ByteArray.append_assoc]
end Go.Proofs.YtbdcaeahocbkbaaGreatDoor
set_option linter.unusedSimpArgs false
set_option linter.unusedVariables false
namespace Go.Proofs.YtbdcaeahocbkbaaGreatDoor
open Go.RowKit
theorem ahC(n:Nat):∀x:aH,aW x.lf1<n→aW x.lf1≤100000000→Ap ((vZ n).m1 x) (wrL x.lf1):=by
 induction n with
 |zero=>intro x h _;omega
 |succ n ih=>
  intro x h hb
  have hl:=nS x.dh
  have hl1:=jB x.dZ
  rw[jl] at h hb
  have hL:Ap (adN (vZ n) x 0) (wrQ (x.dh.map aH.lf)):=by
   refine Ap.of' (fun b hb=>by unfold adN;rfl) (Ap.loop aH.lf x.dh (fun p b=>(vZ n).m1 p b) _ (by omega) (fun x hx=>by have h1:=pG hx;exact(ih _ (by omega) (by omega)).to (by rw[aH.aX])) fun k s=>⟨fun y h=>?_,fun h=>?_⟩) rfl
   ·obtain⟨h1,h2⟩:=(fH x.dh k).1 y h
    simp only[EJ,Mo.den,ak,au,h1,h2,cond_true,Option.bind_some,Option.bind_assoc]
   ·simp only[EJ,Mo.den,ak,au,(fH x.dh k).2 h,cond_false]
  have hL2:Ap (adO (vZ n) x 0) (wrQ (x.dZ.map lfI)):=by
   refine Ap.of' (fun b hb=>by unfold adO;rfl) (Ap.loop lfI x.dZ (fun p b=>Q14 p b) _ (by omega) (fun x hx=>(gQ x).to (by simp only[lfI,wrL,wrF,ByteArray.append_empty])) fun k s=>⟨fun y h=>?_,fun h=>?_⟩) rfl
   ·obtain⟨h1,h2⟩:=(fH x.dZ k).1 y h
    simp only[EK,Mo.den,ak,au,h1,h2,cond_true,Option.bind_some,Option.bind_assoc]
   ·simp only[EK,Mo.den,ak,au,(fH x.dZ k).2 h,cond_false]
  refine Ap.of' (fun b hr=>?_) (Ap.bind (gQ (x.aK)) (Ap.bind (tV (x.iO)) (Ap.bind (rC (x.jh) (by omega)) (Ap.bind (rC (x.bC) (by omega)) (Ap.bind (rC (x.eX) (by omega)) (Ap.bind (MN (x.kM) (by omega)) (Ap.bind (EO (x.bP) (by omega)) (Ap.bind (tV (x.oz)) (Ap.bind (gQ (x.dQ)) (Ap.bind (gQ ((x.dh.length:Int))) (Ap.bind hL (Ap.bind (gQ ((x.dZ.length:Int))) (Ap.bind hL2 (Ap.bind (qM (x.iK)) Ap.nil)))))))))))))) ?_
  ·simp only[vZ,al3,Mo.den,ak,au]
  ·simp only[aH.lf1,qL,wrL,wrF,List.length_map,ByteArray.append_empty,ByteArray.append_assoc]
theorem ame(v:aH)(hb:aW v.lf1≤100000000):Ap (Q40 v) (wrL v.lf1):=ahC FU v (kY (by omega)) hb
theorem amf(x:aF)(hb:aW x.lf1≤100000000):Ap (auE x) (wrL x.lf1):=by
 rw[pF] at hb
 refine Ap.of' (fun b hb=>?_) (Ap.bind (gQ (x.bW)) (Ap.bind (gQ (x.dQ)) (Ap.bind (tV (x.nD)) (Ap.bind (gQ (x.vI)) (Ap.bind (ame (x.dL) (by omega)) Ap.nil))))) ?_
 ·simp only[auE,al4,Mo.den,ak,au]
 ·simp only[aF.lf1,qL,wrL,wrF,ByteArray.append_empty,ByteArray.append_assoc]
theorem amg(x:aF)(hb:aW x.lf1≤100000000):al6 x=some (wrL x.lf1):=by
 have h1:=CG x.lf1
 have h2:=amf x hb ⟨⟨#[]⟩,false,true⟩ rfl (by show 0+_≤_;omega)
 simp only[al6,al5,Mo.den,ak,aj,aA,au,ay,h2,Option.bind_some]
 exact congrArg some ByteArray.empty_append
end Go.Proofs.YtbdcaeahocbkbaaGreatDoor
set_option linter.unusedSimpArgs false
set_option linter.unusedVariables false
namespace Go.Proofs.YtbdcaeahocbkbaaGreatDoor
open Go.RowKit
theorem ahD:Q47=some true:=by kernel_rfl
namespace T
theorem auK{p q:Prop}[Decidable p][Decidable q]:Tot (bif decide p then some true else some (decide q)) (fun b=>b=false→¬p∧¬q):=
 ite (fun h=>ret (by simp)) (fun h=>ret fun h2=>⟨of_decide_eq_false h,of_decide_eq_false h2⟩)
theorem orc{r:Bool}{p A:Prop}[Decidable p](hr:r=false→A):Tot (bif r then some true else some (decide p)) (fun b=>b=false→A∧¬p):=
 ite (fun h=>ret (by simp)) (fun h=>ret fun h2=>⟨hr h,of_decide_eq_false h2⟩)
theorem avM{r:Bool}{x:Bool}{A:Prop}(hr:r=true→A):Tot (bif r then some x else some false) (fun b=>b=true→A∧x=true):=
 ite (fun h=>ret fun h2=>⟨hr h,h2⟩) (fun h=>ret (by simp))
theorem avN{r:Bool}{m:Option Bool}{A:Prop}{Q:Prop}(hr:r=true→A)(hm:Tot m (fun b=>b=true→Q)):Tot (bif r then m.bind fun a=>some a else some false) (fun b=>b=true→A∧Q):=
 ite (fun h=>bind hm fun a ha=>ret fun h2=>⟨hr h,ha h2⟩) (fun h=>ret (by simp))
end T
theorem MO(l:List Int)(most:Int)(hl:l.length≤100000000):Tot (Q77 l most) (fun b=>b=true→∀x∈l,0≤x∧x≤most):=by
 have h1:Tot (ai4 l most 0) (LP (fun _=>True) (fun _=>∀x∈l,0≤x∧x≤most)):=by
  refine T.oh l.length (by omega) (fun k s=>s=(k:Int)∧∀x∈l.take k,0≤x∧x≤most) _ ⟨rfl,by simp⟩ ?_ ?_
  ·rintro k s hk ⟨rfl,hs⟩
   have hx:=List.getElem?_eq_getElem hk
   simp only[DC,Yb,Mo.den,ak,aj,aA,au,ay,ltt hx,gid hx,cond_true,Option.bind_some]
   refine T.bind T.auK fun b hb=>T.ite (fun _=>T.ret trivial) fun h=>T.ret ⟨inc k (by omega),fun x hx2=>?_⟩
   have hb:=hb h
   rw[List.take_succ_eq_append_getElem hk] at hx2
   rcases List.mem_append.1 hx2 with h2|h2
   ·exact hs x h2
   ·obtain rfl:x=l[k]:=by simpa using h2
    omega
  ·rintro s ⟨rfl,hs⟩
   simp only[DC,Mo.den,ak,aj,aA,au,ay,ltn,cond_false]
   rw[List.take_length] at hs
   exact T.ret hs
 unfold Q77 aqG
 simp only[Mo.den,ak,aj,aA,au,ay]
 refine T.bind h1 ?_
 rintro(r|r) hr
 ·exact T.ret (by simp)
 ·exact T.ret fun _=>hr
theorem adQ(m:aB):Tot (Q0 m) (fun b=>b=true→m.bn.length≤16384∧0≤m.aJ∧m.aJ≤m.bn.length):=by
 unfold Q0 ai1
 simp only[Mo.den,ak,aj,aA,au,ay]
 refine T.ite (fun _=>T.ret (by simp)) fun h0=>?_
 have h0:=of_decide_eq_false h0
 refine T.bind (R:=Any) ?_ ?_
 ·refine T.oh m.bn.length (by omega) (fun k s=>s.2.2=(k:Int)) _ rfl ?_ ?_
  ·rintro k ⟨a,b,i⟩ hk rfl
   have hx:=List.getElem?_eq_getElem hk
   unfold Dy
   simp only[Jf,Jg,Dx,Mo.den,ak,aj,aA,au,ay,ltt hx,gid hx,cond_true,Option.bind_some]
   refine T.bind (R:=Any) (T.wk T.auK) fun r _=>T.bind (R:=Any) (T.wk (T.orc (A:=True) fun _=>trivial)) fun r _=>T.bind (R:=Any) (T.wk (T.orc (A:=True) fun _=>trivial)) fun r _=>T.ite (fun _=>T.ret trivial) fun _=>T.ret ?_
   exact inc k (by omega)
  ·rintro⟨a,b,i⟩ rfl
   unfold Dy
   simp only[Jf,Jg,Dx,Mo.den,ak,aj,aA,au,ay,ltn,cond_false]
   exact T.ret trivial
 ·rintro(r|r) _
  ·exact T.ret (by simp)
  ·simp only[Dz,dG,Mo.den,ak,aj,aA,au,ay,Option.bind_some]
   refine T.bind (T.ite (fun h=>T.ret (Q:=fun b=>b=true→0≤m.aJ∧m.aJ≤m.bn.length) fun h2=>⟨of_decide_eq_true h,of_decide_eq_true h2⟩) (fun h=>T.ret (by simp))) fun b hb=>T.ret fun h=>⟨by omega,hb h⟩
theorem ahE(s n:Int)(hn:n≤1000):Tot (anw s n) Any:=by
 unfold anw ai2
 simp only[Mo.den,ak,aj,aA,au,ay]
 refine T.bind (R:=Any) (T.auI _ fun a k hk=>?_) fun r _=>T.any
 simp only[OA,Mo.den,ak,aj,aA,au,ay]
 refine T.ite (fun h=>T.grd (by omega) (T.ret ⟨rfl,?_⟩)) fun _=>T.ret trivial
 have:=of_decide_eq_true h;omega
def maj(n:Int):Int:=if n<1∨7<n then 0 else n/2+1
theorem tX(n:Int):anz n=some (maj n):=by
 simp only[anz,ai3,FY,Mo.den,ak,aj,aA,au,ay,maj]
 by_cases h1:n<1
 ·rw[decide_eq_true h1,if_pos (.inl h1)];rfl
 rw[decide_eq_false h1]
 by_cases h2:7<n
 ·rw[decide_eq_true h2,if_pos (.inr h2)];rfl
 rw[decide_eq_false h2,if_neg (by omega)]
 simp only[cond_false,Option.bind_some]
 obtain⟨k,rfl⟩:=Int.eq_ofNat_of_zero_le (show 0≤n by omega)
 rw[show Int.tdiv (k:Int) 2=(k:Int)/2 from Int.tdiv_eq_ediv_of_nonneg (by omega),w64 (x:=(k:Int)/2) (by omega) (by omega),w64 (by omega) (by omega)]
structure Good (m:aB):Prop where
 s1:1≤m.dX
 s7:m.dX≤7
 i0:0≤m.fID
 i1:m.fID<m.dX
 t0:0≤m.bW
 tm:0≤m.jq
 lg:m.bn.length≤200
 c0:0≤m.aJ
 c1:m.aJ≤m.bn.length
 v0:0≤m.iE
 v1:m.iE<AU .i64 1 m.dX
 pr:m.gX=2→(m.fNext.length:Int)=m.dX∧(m.bg.length:Int)=m.dX∧(∀x∈m.fNext,0≤x∧x≤m.bn.length)∧∀x∈m.bg,0≤x∧x≤m.bn.length
theorem amh(m:aB)(hb:aW m.lf1≤100000000):Tot (ar2 m) (fun b=>b=true→Good m):=by
 rw[kN] at hb
 have hl1:=jB m.fNext
 have hl2:=jB m.bg
 simp only[ar2,ai6,Mo.den,ak,aj,aA,au,ay]
 refine T.ite (fun h200=>?_) fun _=>T.ret (by simp)
 have h200:=of_decide_eq_true h200
 refine T.bind (R:=fun b=>b=true→Good m) ?_ fun b hb=>T.ret hb
 simp only[Q7,au9,Yq,dG,Yp,Yo,Yn,Ym,Yl,Yk,Yj,Yi,Yh,Yg,Yf,Ye,Yd,Yc,aeV,aeU,Mo.den,ak,aj,aA,au,ay,tX,Option.bind_some]
 refine T.bind T.auK fun r h=>T.bind (T.orc h) fun r h=>T.bind (T.orc h) fun r h=>T.bind (T.orc h) fun r h=>T.bind (T.orc h) fun r h=>T.bind (T.orc h) fun r h=>T.bind (T.orc h) fun r h=>T.bind (T.orc h) fun r h=>T.ite (fun _=>T.ret (by simp)) fun hr=>?_
 have h:=h hr
 refine T.bind (R:=fun b=>b=false→0≤m.jq∧0≤m.iE∧m.iE<AU .i64 1 m.dX∧m.bn.length≤16384∧0≤m.aJ∧m.aJ≤m.bn.length) ?_ fun r2 h2=>T.ite (fun _=>T.ret (by simp)) fun hr2=>?_
 ·refine T.ite (fun _=>T.ret (by simp)) fun _=>T.ite (fun _=>T.ret (by simp)) fun _=>T.ite (fun _=>T.ret (by simp)) fun ht=>T.ite (fun _=>T.ret (by simp)) fun hv=>T.grd (by omega) (T.ite (fun _=>T.ret (by simp)) fun hw=>?_)
  have ht:=of_decide_eq_false ht
  have hv:=of_decide_eq_false hv
  have hw:=of_decide_eq_false hw
  exact T.bind (adQ m) fun b hb=>T.ret fun h=>⟨by omega,by omega,by omega,hb (by simpa using h)⟩
 have h2:=h2 hr2
 refine T.bind (R:=Any) (T.ite (fun _=>T.ite (fun _=>T.any) fun _=>T.ite (fun _=>T.any) fun _=>T.grd (by omega) T.any) fun _=>T.any) fun _ _=>T.ite (fun _=>T.ret (by simp)) fun _=>?_
 refine T.bind (ahE _ _ (by omega)) fun v _=>?_
 have G:(m.gX=2→(m.fNext.length:Int)=m.dX∧(m.bg.length:Int)=m.dX∧(∀x∈m.fNext,0≤x∧x≤m.bn.length)∧∀x∈m.bg,0≤x∧x≤m.bn.length)→Good m:=fun hp=>⟨by omega,by omega,by omega,by omega,by omega,by omega,by omega,by omega,by omega,by omega,by omega,hp⟩
 refine T.bind (R:=LP (fun b=>b=true→Good m) (fun _=>¬m.gX=2)) ?_ ?_
 ·refine T.ite (fun h1=>?_) fun _=>T.ite (fun h3=>?_) fun h3=>T.ret (by show ¬m.gX=2;simpa using h3)
  ·have h1:m.gX=1:=by simpa using h1
   refine T.bind (R:=Any) (T.ite (fun _=>T.any) fun _=>T.any) fun _ _=>T.ite (fun _=>T.ret (by show false=true→_;simp)) fun _=>T.ret (by show ¬m.gX=2;omega)
  ·refine T.bind (R:=Any) (T.ite (fun _=>T.any) fun _=>T.any) fun r0 _=>T.bind (T.avM (A:=True) fun _=>trivial) fun r1 k1=>T.bind (T.avM k1) fun r2 k2=>T.bind (T.avN k2 (MO _ _ (by omega))) fun r3 k3=>T.bind (T.avN k3 (MO _ _ (by omega))) fun r4 k4=>T.ret fun h5=>G fun _=>?_
   have k:=k4 h5
   exact⟨by simpa using k.1.1.1.2,by simpa using k.1.1.2,k.1.2,k.2⟩
 ·rintro(b|u) hb2
  ·exact T.ret hb2
  ·exact T.ite (fun _=>T.ret fun _=>G fun h=>absurd h hb2) fun _=>T.ret (by simp)
theorem Hz(l:List aF)(hb:bM (l.map aF.lf)≤100000000):Q82 l l=some true:=by
 have hl:=qg l
 have e1:Tot (al7 l l 0) (fun r=>r=.inr ()):=by
  refine T.avL l (by omega) _ (fun k x hx=>?_) ?_
  ·have hm:=Hw (iH hx)
   simp only[EL,Mo.den,ak,aj,aA,au,ay,ltt hx,gid hx,cond_true,Option.bind_some,amg x (by omega),decide_true,Bool.not_true,cond_false];exact T.ret rfl
  ·simp only[EL,Mo.den,ak,aj,aA,au,ay,ltn,cond_false];exact T.ret rfl
 obtain⟨_,e1,rfl⟩:=e1
 simp only[Q82,arn,Mo.den,ak,aj,aA,au,ay,bne_self_eq_false,cond_false,e1,Option.bind_some]
theorem uS(l:List Int)(hl:l.length≤100000000):Q74 l l=some true:=by
 have e1:Tot (al1 l l 0) (fun r=>r=.inr ()):=by
  refine T.avL l (by omega) _ (fun k x hx=>?_) ?_
  ·simp only[EI,Mo.den,ak,aj,aA,au,ay,ltt hx,gid hx,cond_true,Option.bind_some,bne_self_eq_false,cond_false];exact T.ret rfl
  ·simp only[EI,Mo.den,ak,aj,aA,au,ay,ltn,cond_false];exact T.ret rfl
 obtain⟨_,e1,rfl⟩:=e1
 simp only[Q74,arl,Mo.den,ak,aj,aA,au,ay,bne_self_eq_false,cond_false,e1,Option.bind_some]
theorem IQ(m:aB)(hb:aW m.lf1≤100000000):Q9 m m=some true:=by
 rw[kN] at hb
 have hl1:=jB m.fNext
 have hl2:=jB m.bg
 unfold Q9 avJ aax aaw aav aau aat aas aar aaq aap aao agj agi
 simp only[Mo.den,ak,aj,aA,au,ay,BEq.rfl,cond_true,Option.bind_some,uS _ (show m.fNext.length≤100000000 by omega),uS _ (show m.bg.length≤100000000 by omega),Hz _ (show bM (m.bn.map aF.lf)≤100000000 by omega)]
end Go.Proofs.YtbdcaeahocbkbaaGreatDoor
set_option linter.unusedSimpArgs false
set_option linter.unusedVariables false
namespace Go.Proofs.YtbdcaeahocbkbaaGreatDoor
open Go.RowKit
theorem CJ:∀l:List Int,bM (l.map lfI)=l.length
 |[]=>rfl
 |x::r=>by simp only[List.map_cons,bM,CJ r,lfI,aW,Lf.bulk,List.length_cons];omega
theorem MP(m:aB)(hb:aW m.lf1≤100000000):ajG m=some m:=by
 simp only[ajG,ajF,Mo.den,ak,aj,aA,au,ay,avf,ajE,Mo.den,ak,aj,aA,au,ay,anO,ajD,OB,Mo.den,ak,aj,aA,au,ay,wB m hb,Option.bind_some,decide_eq_true (show m.bW≤m.bW by omega),cond_true]
theorem IU(l:List aF)(hb:bM (l.map aF.lf)≤10000000):akf l=some l:=by
 have h0:¬((l.length:Int)<0):=by omega
 have e1:(aB.xY aB.z l).bn=l:=rfl
 have e2:(aB.xY aB.z l).aJ=0:=rfl
 have e3:=kR l (by omega)
 have hz:aW ((aB.xY aB.z l).xY []).lf1=12:=by kernel_rfl
 have e4:=wF ((aB.xY aB.z l).xY []) (by omega)
 simp only[akf,ake,Mo.den,ak,aj,aA,au,ay,avn,akd,Mo.den,ak,aj,aA,au,ay,e1,e2,gt_iff_lt,Int.lt_irrefl,if_false,h0,Int.toNat_zero,List.drop_zero,List.take_zero,e3,e4,Option.bind_some]
 rw[if_pos (by omega),if_pos (by omega)];rfl
structure awy (m:aB) (x:aG):Prop where
 t0:0≤x.bW
 i0:0≤x.bP
 i1:x.bP≤16384
 c0:0≤x.aJ
 c1:x.aJ≤16384
 es:x.bY.length≤16
end Go.Proofs.YtbdcaeahocbkbaaGreatDoor
set_option linter.unusedSimpArgs false
set_option linter.unusedVariables false
namespace Go.Proofs.YtbdcaeahocbkbaaGreatDoor
open Go.RowKit
def ia(l:List Int)(k:Nat):Int:=l[k]?.getD 0
theorem sD{l:List Int}{k:Nat}(h:k<l.length):fQ l (k:Int)=some (ia l k):=by
 rw[yc,ia,List.getElem?_eq_getElem h];rfl
theorem WX(l:List Int)(k:Nat)(v:Int)(p:Nat)(h:k<l.length):ia (l.set k v) p=if p=k then v else ia l p:=by
 unfold ia
 by_cases e:p=k
 ·subst e;rw[if_pos rfl,List.getElem?_set_self h];rfl
 ·rw[if_neg e,List.getElem?_set_ne (fun x=>e x.symm)]
theorem adR{l:List Int}{k:Nat}(h:k<l.length):l[k]=ia l k:=by
 unfold ia;rw[List.getElem?_eq_getElem h];rfl
def Srt(l:List Int)(i j:Nat):Prop:=∀p q,p<q→q<i→q≠j→ia l p≤ia l q
theorem ami(x y:Int):aoj x y=some (decide (x<y)):=by
 simp only[aoj,akg,Kr,OD,OC,Mo.den,ak,aj,aA,au,ay,aoi,U5,Mo.den,ak,aj,aA,au,ay]
 simp
theorem swap_perm(l:List Int)(j:Nat)(h:j+1<l.length):((l.set (j+1) (ia l j)).set j (ia l (j+1))).Perm l:=by
 have:=List.set_set_perm (show j+1<l.length from h) (show j<l.length by omega)
 rwa [adR,adR] at this
theorem amj(l:List Int)(i j:Nat)(hi:i<l.length)(hj:j+1≤i)(hs:Srt l (i+1) (j+1))(h:ia l (j+1)<ia l j):Srt ((l.set (j+1) (ia l j)).set j (ia l (j+1))) (i+1) j:=by
 intro p q h1 h2 h3
 have hl1:j<(l.set (j+1) (ia l j)).length:=by rw[List.length_set];omega
 rw[WX _ j _ p hl1,WX _ j _ q hl1,WX l (j+1) _ p (by omega),WX l (j+1) _ q (by omega),if_neg h3]
 by_cases e1:q=j+1
 ·rw[if_pos e1]
  by_cases e2:p=j
  ·rw[if_pos e2];omega
  ·rw[if_neg e2, if_neg (by omega)]
   exact hs p j (by omega) (by omega) (by omega)
 ·rw[if_neg e1]
  by_cases e2:p=j
  ·rw[if_pos e2];exact hs (j+1) q (by omega) (by omega) (by omega)
  ·rw[if_neg e2]
   by_cases e3:p=j+1
   ·rw[if_pos e3];exact hs j q (by omega) (by omega) (by omega)
   ·rw[if_neg e3];exact hs p q h1 h2 e1
theorem ahF(l:List Int)(b i:Int)(j:Nat)(h:j<l.length)(hl:l.length≤1000):acC l 0 b i (j:Int)=some (decide (0<j∧ia l j<ia l (j-1))):=by
 unfold acC Yt
 simp only[Mo.den,ak,aj,aA,au,ay]
 by_cases h0:0<j
 ·have e:IntKind.wrap .i64 ((j:Int)-1)=((j-1:Nat):Int):=by rw[w64 (by omega) (by omega)];omega
  rw[decide_eq_true (show(0:Int)<(j:Int) by omega),e,sD h,sD (by omega)]
  simp only[cond_true,Option.bind_some,ami,h0,true_and]
 ·rw[decide_eq_false (show ¬(0:Int)<(j:Int) by omega),decide_eq_false (by omega)];rfl
theorem aqf(l0:List Int)(i:Nat)(b:Int)(hi:i<l0.length)(hl:l0.length≤1000)(hs:Srt l0 i i):Tot (acD 0 b (i:Int) (i:Int) l0) (fun r=>r.Perm l0∧Srt r (i+1) (i+1)):=by
 try unfold acD
 refine lT (fun v=>∃j:Nat,v.1=(j:Int)∧j≤i∧v.2.Perm l0∧Srt v.2 (i+1) j) (fun v=>v.1.toNat) _ ?_ FU _ ⟨i,rfl,Nat.le_refl _,List.Perm.refl _,fun p q h1 h2 h3=>hs p q h1 (by omega) h3⟩ (kY (by show(i:Int).toNat≤_;omega))
 rintro⟨jj,l⟩ ⟨j,h1,h2,h3,h4⟩
 obtain rfl:jj=(j:Int):=h1
 have h3:l.Perm l0:=h3
 have h4:Srt l (i+1) j:=h4
 have hlen:=h3.length_eq
 unfold Kt
 simp only[Mo.den,ak,aj,aA,au,ay]
 rw[ahF l b i j (by omega) (by omega)]
 simp only[Option.bind_some]
 by_cases hc:0<j∧ia l j<ia l (j-1)
 ·obtain⟨k, rfl⟩:∃k, j=k+1:=⟨j-1, by omega⟩
  have hc2:ia l (k+1)<ia l k:=hc.2
  have e:IntKind.wrap .i64 (((k+1:Nat):Int)-1)=(k:Int):=by rw[w64 (by omega) (by omega)];omega
  have e2:((k+1:Nat):Int).toNat=k+1:=by omega
  have e3:(k:Int).toNat=k:=by omega
  rw[decide_eq_true hc,e,sD (l:=l) (by omega),sD (l:=l) (by omega)]
  simp only[cond_true,Option.bind_some,e2,e3]
  rw[sD (by simp;omega)]
  exact .inl ⟨_,rfl,⟨k,rfl,by omega,(swap_perm l k (by omega)).trans h3,amj l i k (by omega) (by omega) h4 hc2⟩,by show(k:Int).toNat<((k+1:Nat):Int).toNat;omega⟩
 ·rw[decide_eq_false hc]
  refine .inr ⟨l,rfl,h3,fun p q k1 k2 k3=>?_⟩
  by_cases e:q=j
  ·subst e
   have h5:ia l (q-1)≤ia l q:=by have:¬ia l q<ia l (q-1):=fun x=>hc ⟨by omega,x⟩;omega
   by_cases e:p=q-1
   ·rw[e];exact h5
   ·exact Int.le_trans (h4 p (q-1) (by omega) (by omega) (by omega)) h5
  ·exact h4 p q k1 k2 e
theorem amk(l0:List Int)(hl:l0.length≤1000):Tot (Q22 0 (l0.length:Int) l0) (fun r=>r.Perm l0∧Srt r l0.length l0.length):=by
 unfold Q22 aqN
 simp only[Mo.den,ak,aj,aA,au,ay]
 refine T.bind (R:=fun r=>r.Perm l0∧Srt r l0.length l0.length) ?_ fun r h=>T.ret h
 try unfold aol
 have e1:IntKind.wrap .i64 ((0:Int)+1)=1:=by decide
 rw[e1]
 refine lT (fun v=>∃i:Nat,v.1=(i:Int)∧1≤i∧i≤l0.length+1∧v.2.Perm l0∧Srt v.2 i i) (fun v=>2000-v.1.toNat) _ ?_ FU _ ⟨1,rfl,by omega,by omega,List.Perm.refl _,fun p q h1 h2 h3=>by omega⟩ (kY (by omega))
 rintro⟨ii,l⟩ ⟨i,h1,h1',h2,h3,h4⟩
 obtain rfl:ii=(i:Int):=h1
 have h3:l.Perm l0:=h3
 have h4:Srt l i i:=h4
 have hlen:=h3.length_eq
 unfold Gp
 simp only[Mo.den,ak,aj,aA,au,ay]
 by_cases hc:i<l0.length
 ·obtain⟨r, k1, k2, k3⟩:=aqf l i (l0.length:Int) (by omega) (by omega) h4
  rw[iLt hc,k1]
  simp only[cond_true,Option.bind_some]
  rw[inc i (by omega)]
  exact .inl ⟨_,rfl,⟨i+1,rfl,by omega,by omega,k2.trans h3,k3⟩,by show 2000-((i+1:Nat):Int).toNat<2000-(i:Int).toNat;omega⟩
 ·rw[X6 hc]
  exact .inr ⟨l,rfl,h3,fun p q k1 k2 k3=>h4 p q k1 (by omega) (by omega)⟩
theorem aqg(n:Nat)(h:n≤7):Tot (avp (IntKind.wrap .u64 (n:Int))) Any:=by
 have:n=0∨n=1∨n=2∨n=3∨n=4∨n=5∨n=6∨n=7:=by omega
 rcases this with rfl|rfl|rfl|rfl|rfl|rfl|rfl|rfl
 ·exact⟨0,by kernel_rfl,trivial⟩
 ·exact⟨1,by kernel_rfl,trivial⟩
 ·exact⟨2,by kernel_rfl,trivial⟩
 ·exact⟨2,by kernel_rfl,trivial⟩
 ·exact⟨3,by kernel_rfl,trivial⟩
 ·exact⟨3,by kernel_rfl,trivial⟩
 ·exact⟨3,by kernel_rfl,trivial⟩
 ·exact⟨3,by kernel_rfl,trivial⟩
theorem aqh(l:List Int)(hl:l.length≤12)(lim:Int)(n:Nat)(hn:0<n):Tot ((Gq n).m1 0 (l.length:Int) lim l) (fun r=>r.Perm l∧Srt r l.length l.length):=by
 obtain⟨k,rfl⟩:∃k,n=k+1:=⟨n-1,by omega⟩
 show Tot (Mo.den (afh (Gq k) 0 (l.length:Int) lim l)) _
 unfold afh
 simp only[Mo.den,ak,aj,aA,au,ay]
 refine T.bind (R:=fun r=>r.Perm l∧Srt r l.length l.length) ?_ fun r h=>T.ret h
 try unfold asP
 refine T.oh 0 (by omega) (fun _ _=>True) _ trivial (fun k s h=>by omega) fun s _=>?_
 unfold Ku
 simp only[Mo.den,ak,aj,aA,au,ay]
 rw[w64 (by omega) (by omega),decide_eq_true (show(l.length:Int)-0≤12 by omega)]
 simp only[cond_true]
 exact T.bind (amk l (by omega)) fun r h=>T.ret h
theorem aml(l:List Int)(hl:l.length≤7):Tot (aon l) (fun r=>r.Perm l∧Srt r l.length l.length):=by
 unfold aon aki
 simp only[Mo.den,ak,aj,aA,au,ay]
 refine T.bind (aqg l.length hl) fun b _=>?_
 refine T.bind (R:=fun r=>r.Perm l∧Srt r l.length l.length) ?_ fun r h=>T.ret h
 unfold Q73
 exact aqh l (by omega) b FU (kY (by omega))
def cnt(l:List Int)(v:Int):Nat:=l.countP (fun x=>decide (v≤x))
theorem adS(s:List Int)(k:Nat)(v:Int)(hk:k<s.length)(hs:Srt s s.length s.length):v≤ia s k↔s.length-k≤cnt s v:=by
 have hmem:∀{p:Nat} {a:Int},s[p]?=some a→ia s p=a:=fun h=>by unfold ia;rw[h];rfl
 constructor
 ·intro h
  have h1:cnt s v=cnt (s.take k) v+cnt (s.drop k) v:=by unfold cnt;rw[←List.countP_append,List.take_append_drop]
  have h2:cnt (s.drop k) v=(s.drop k).length:=by
   unfold cnt
   rw[List.countP_eq_length]
   intro a ha
   obtain⟨i,hi⟩:=List.mem_iff_getElem?.1 ha
   rw[List.getElem?_drop] at hi
   have hlt:=(List.getElem?_eq_some_iff.1 hi).1
   have h3:=hmem hi
   have h4:ia s k≤ia s (k+i):=by
    by_cases e:i=0
    ·subst e;exact Int.le_refl _
    ·exact hs k (k+i) (by omega) hlt (by omega)
   exact decide_eq_true (by omega)
  rw[h1,h2,List.length_drop];omega
 ·intro h
  apply Decidable.byContradiction
  intro hn
  have h1:cnt s v=cnt (s.take (k+1)) v+cnt (s.drop (k+1)) v:=by unfold cnt;rw[←List.countP_append,List.take_append_drop]
  have h2:cnt (s.take (k+1)) v=0:=by
   unfold cnt
   rw[List.countP_eq_zero]
   intro a ha
   obtain⟨i,hi⟩:=List.mem_iff_getElem?.1 ha
   rw[List.getElem?_take] at hi
   split at hi
   ·rename_i hik
    have h3:=hmem hi
    have h4:ia s i≤ia s k:=by
     by_cases e:i=k
     ·subst e;exact Int.le_refl _
     ·exact hs i k (by omega) hk (by omega)
    simp only[decide_eq_true_eq];omega
   ·cases hi
  have h3:cnt (s.drop (k+1)) v≤s.length-(k+1):=by
   have:=List.countP_le_length (p:=fun x=>decide (v≤x)) (l:=s.drop (k+1))
   rwa [List.length_drop] at this
  omega
theorem ahG(m:aB)(v:Int)(hl:m.bg.length≤1000):WS m v 0 0=some (cnt m.bg v:Int):=by
 suffices h:Tot (WS m v 0 0) (fun r=>r=(cnt m.bg v:Int)) by
  obtain⟨r,h1,rfl⟩:=h;exact h1
 try unfold WS
 refine T.oh m.bg.length (by omega) (fun k s=>s=((cnt (m.bg.take k) v:Int),(k:Int))) _ rfl ?_ ?_
 ·rintro k s hk rfl
  have hx:=List.getElem?_eq_getElem hk
  have hc:cnt (m.bg.take (k+1)) v=cnt (m.bg.take k) v+(if v≤m.bg[k] then 1 else 0):=by
   unfold cnt
   rw[List.take_add_one,hx,List.countP_append]
   simp only[Option.toList,List.countP_cons,List.countP_nil,Nat.zero_add,decide_eq_true_eq]
  have hb:cnt (m.bg.take k) v≤1000:=by
   have h1:=List.countP_le_length (p:=fun x=>decide (v≤x)) (l:=m.bg.take k)
   have h2:(m.bg.take k).length≤k:=List.length_take_le _ _
   unfold cnt;omega
  unfold EH aan
  simp only[Mo.den,ak,aj,aA,au,ay]
  rw[iLt hk,gid hx,inc k (by omega)]
  simp only[cond_true,Option.bind_some]
  by_cases e:v≤m.bg[k]
  ·rw[decide_eq_true e, inc _ (by omega)]
   rw[if_pos e] at hc
   exact⟨_,rfl,by rw[hc];rfl⟩
  ·rw[decide_eq_false e]
   rw[if_neg e] at hc
   exact⟨_,rfl,by rw[hc];rfl⟩
 ·rintro s rfl
  unfold EH
  simp only[Mo.den,ak,aj,aA,au,ay]
  rw[X6 (Nat.lt_irrefl _)]
  exact⟨_,rfl,by rw[List.take_length];rfl⟩
def trm(m:aB)(k:Nat):Int:=match m.bn[k]? with|some e=>e.bW|none=>0
def AY(m:aB)(med:Int):Nat→Int
 |0=>m.aJ
 |k+1=>if m.aJ<((k+1:Nat):Int) then(if((k+1:Nat):Int)≤med∧trm m k=m.bW then((k+1:Nat):Int) else AY m med k) else m.aJ
theorem Az(m:aB)(med:Int)(k:Nat):AY m med (k+1)=if m.aJ<((k+1:Nat):Int) then(if((k+1:Nat):Int)≤med∧trm m k=m.bW then((k+1:Nat):Int) else AY m med k) else m.aJ:=rfl
theorem MQ(m:aB)(med:Int):∀k:Nat,(k:Int)≤m.aJ→AY m med k=m.aJ
 |0,_=>rfl
 |k+1,h=>by rw[Az,if_neg (by omega)]
theorem aay(m:aB)(b:Nat):∀k:Nat,AY m (b:Int) (b+k)=AY m (b:Int) b
 |0=>rfl
 |k+1=>by
  show AY m (b:Int) (b+k+1)=_
  have ih:=aay m b k
  rw[Az]
  by_cases h:m.aJ<((b+k+1:Nat):Int)
  ·rw[if_pos h,if_neg (by omega)];exact ih
  ·rw[if_neg h]
   exact(MQ m b b (by omega)).symm
theorem amm(m:aB)(med:Int)(K:Nat)(hK:(K:Int)≤med)(hl:K≤m.bn.length)(hb:m.bn.length≤100000)(h0:0≤m.aJ):Tot (U7 m (K:Int)) (fun r=>(if m.aJ > r then m.aJ else r)=AY m med K):=by
 try unfold U7
 refine lT (fun v=>∃k:Nat,v=(k:Int)∧k≤K∧AY m med k=AY m med K) (fun v=>v.toNat) _ ?_ FU _ ⟨K,rfl,Nat.le_refl _,rfl⟩ (kY (by omega))
 rintro v ⟨k,rfl,h1,h2⟩
 unfold Gs OE
 simp only[Mo.den,ak,aj,aA,au,ay]
 by_cases hc:m.aJ<(k:Int)
 ·obtain⟨j, rfl⟩:∃j, k=j+1:=⟨k-1, by omega⟩
  have e:IntKind.wrap .i64 (((j+1:Nat):Int)-1)=(j:Int):=by rw[w64 (by omega) (by omega)];omega
  have hx:=List.getElem?_eq_getElem (l:=m.bn) (i:=j) (by omega)
  have ht:trm m j=(m.bn[j]'(by omega)).bW:=by unfold trm;rw[hx]
  rw[decide_eq_true hc,decide_eq_true (show(0:Int)<((j+1:Nat):Int) by omega),e,gid hx]
  simp only[cond_true,Option.bind_some]
  rw[Az] at h2
  rw[if_pos hc] at h2
  by_cases he:(m.bn[j]'(by omega)).bW=m.bW
  ·rw[if_pos ⟨by omega, ht.trans he⟩] at h2
   have hne:((m.bn[j]'(by omega)).bW != m.bW)=false:=by simp[he]
   rw[hne]
   exact .inr ⟨_,rfl,by rw[if_neg (by omega)];exact h2⟩
  ·rw[if_neg (fun x=>he (ht.symm.trans x.2))] at h2
   have hne:((m.bn[j]'(by omega)).bW != m.bW)=true:=by simp[he]
   rw[hne]
   exact .inl ⟨_,rfl,⟨j,rfl,by omega,h2⟩,by omega⟩
 ·rw[decide_eq_false hc]
  refine .inr ⟨(k:Int),rfl,?_⟩
  rw[←h2,MQ m med k (by omega)]
  split<;>omega
def arp(m:aB)(med:Int):Prop:=∀v:Int,v≤med↔maj m.dX≤(cnt m.bg v:Int)
theorem amn(m:aB)(med:Int)(hm:arp m med)(hl:m.bg.length≤1000)(hb:m.bn.length≤100000)(h0:0≤m.aJ):Tot (WT m (m.bn.length:Int)) (fun r=>(match r with|.inl o=>o|.inr _=>m.aJ)=AY m med m.bn.length):=by
 try unfold WT
 refine lT (fun v=>∃k:Nat,v=(k:Int)∧k≤m.bn.length∧AY m med k=AY m med m.bn.length) (fun v=>v.toNat) _ ?_ FU _ ⟨_,rfl,Nat.le_refl _,rfl⟩ (kY (by omega))
 rintro v ⟨k,rfl,h1,h2⟩
 unfold Hu Tt
 simp only[Mo.den,ak,aj,aA,au,ay]
 rw[ahG m (k:Int) hl,tX]
 simp only[Option.bind_some]
 by_cases hc:m.aJ<(k:Int)
 ·obtain⟨j, rfl⟩:∃j, k=j+1:=⟨k-1, by omega⟩
  have e:IntKind.wrap .i64 (((j+1:Nat):Int)-1)=(j:Int):=by rw[w64 (by omega) (by omega)];omega
  have hx:=List.getElem?_eq_getElem (l:=m.bn) (i:=j) (by omega)
  have ht:trm m j=(m.bn[j]'(by omega)).bW:=by unfold trm;rw[hx]
  have hmv:=hm ((j+1:Nat):Int)
  rw[decide_eq_true hc,e,gid hx]
  rw[Az] at h2
  rw[if_pos hc] at h2
  simp only[cond_true,Option.bind_some]
  by_cases hq:maj m.dX≤(cnt m.bg ((j+1:Nat):Int):Int)
  ·rw[decide_eq_true hq]
   by_cases he:(m.bn[j]'(by omega)).bW=m.bW
   ·rw[if_pos ⟨hmv.2 hq,ht.trans he⟩] at h2
    have hne:((m.bn[j]'(by omega)).bW==m.bW)=true:=by simp[he]
    rw[hne]
    exact .inr ⟨_,rfl,h2⟩
   ·rw[if_neg (fun x=>he (ht.symm.trans x.2))] at h2
    have hne:((m.bn[j]'(by omega)).bW==m.bW)=false:=by simp[he]
    rw[hne]
    exact .inl ⟨_,rfl,⟨j,rfl,by omega,h2⟩,by omega⟩
  ·rw[if_neg (fun x=>hq (hmv.1 x.1))] at h2
   rw[decide_eq_false hq]
   exact .inl ⟨_,rfl,⟨j,rfl,by omega,h2⟩,by omega⟩
 ·rw[decide_eq_false hc]
  refine .inr ⟨.inr (),rfl,?_⟩
  rw[←h2,MQ m med k (by omega)]
theorem WY(n:Int):asr n=some (maj n):=tX n
theorem CO(m:aB):aB.qK m m.aJ=m:=by cases m;rfl
theorem aaz(m:aB)(t:Int):aW (aB.qK m t).lf1=aW m.lf1:=by rw[kN,kN];rfl
theorem aaA(m:aB)(s1:1≤m.dX)(s7:m.dX≤7)(c0:0≤m.aJ)(lg:m.bn.length≤1000)(pr:m.gX=2→(m.bg.length:Int)=m.dX∧∀x∈m.bg,0≤x∧x≤m.bn.length):∃t,Q59 m=some (aB.qK m t)∧Q33 m=some (aB.qK m t):=by
 have hM:maj m.dX=m.dX/2+1:=by unfold maj;rw[if_neg (by omega)]
 unfold Q59 aqO Yu Yv Q33 ark
 simp only[Mo.den,ak,aj,aA,au,ay,Option.bind_some,WY]
 by_cases hr:m.gX=2
 ·obtain⟨hlen,hrange⟩:=pr hr
  obtain⟨s,k1,k2,k3⟩:=aml m.bg (by omega)
  have k4:=k2.length_eq
  obtain⟨i,hi⟩:∃i:Nat,(m.bg.length:Int)-maj m.dX=(i:Int)∧i<m.bg.length:=⟨((m.bg.length:Int)-maj m.dX).toNat,by omega,by omega⟩
  have hmem:ia s i∈m.bg:=k2.mem_iff.1 (by rw[←adR (by omega)];exact List.getElem_mem _)
  obtain⟨r0,r1⟩:=hrange _ hmem
  have hmed:arp m (ia s i):=by
   intro v
   rw[adS s i v (by omega) (by rw[k4];exact k3)]
   have:cnt s v=cnt m.bg v:=k2.countP_eq _
   rw[this];omega
  obtain⟨b,hbm⟩:∃b:Nat,ia s i=(b:Int):=⟨(ia s i).toNat,by omega⟩
  obtain⟨t,d1,d2⟩:=amm m (ia s i) b (by omega) (by omega) (by omega) c0
  obtain⟨u,e1,e2⟩:=amn m (ia s i) hmed (by omega) (by omega) c0
  have hadv:AY m (ia s i) m.bn.length=AY m (ia s i) b:=by
   have:=aay m b (m.bn.length-b)
   rw[show b+(m.bn.length-b)=m.bn.length by omega] at this
   rw[hbm];exact this
  have hne:(m.gX != 2)=false:=by simp[hr]
  have h0:(maj m.dX==0)=false:=by simp;omega
  have hlt:decide ((m.bg.length:Int)<maj m.dX)=false:=decide_eq_false (by omega)
  have hcl:ar0 m.bg=some m.bg:=by unfold ar0;rw[if_pos (by omega)]
  rw[hne,h0]
  simp only[cond_false,Option.bind_some,hlt,hcl,k1,e1]
  rw[k4,hi.1,w64 (by omega) (by omega),sD (by omega)]
  simp only[Option.bind_some]
  rw[if_neg (by omega),hbm,d1]
  refine⟨AY m (ia s i) b,by simp only[Option.bind_some];rw[d2],?_⟩
  rcases u with o|o
  ·have e2:o=_:=e2
   rw[←hadv,←e2]
  ·have e2:m.aJ=_:=e2
   rw[←hadv,←e2,CO]
 ·have hne:(m.gX != 2)=true:=by simp[hr]
  rw[hne]
  exact⟨m.aJ,by rw[CO];rfl,by rw[CO];rfl⟩
end Go.Proofs.YtbdcaeahocbkbaaGreatDoor
set_option linter.unusedSimpArgs false
set_option linter.unusedVariables false
namespace Go.Proofs.YtbdcaeahocbkbaaGreatDoor
open Go.RowKit
theorem rD(s:ByteArray):Q66 s=some (nameB s):=by
 unfold Q66 aqS QE QD QC kE kD
 simp only[Mo.den,ak,aj,aA,au,ay]
 by_cases h0:s.size<1
 ·rw[decide_eq_true (show(s.size:Int)<1 by omega),FW s (by omega)];rfl
 rw[decide_eq_false (show ¬(s.size:Int)<1 by omega)];simp only[cond_false,Option.bind_some]
 by_cases h1:32<s.size
 ·rw[decide_eq_true (show(32:Int)<(s.size:Int) by omega),FT s h1];rfl
 rw[decide_eq_false (show ¬(32:Int)<(s.size:Int) by omega)];simp only[cond_false]
 have hz:lS s 0=some s[0]:=oL s 0 (by omega)
 rw[hz,BU s (by omega) (by omega)]
 simp only[Option.bind_some]
 have e36:((s[0].toNat:Int)==36)=(s[0].toNat==36):=by rw[Bool.eq_iff_iff];simp;omega
 rw[e36]
 cases hq:s[0].toNat==36 with
 |true=>rfl
 |false=>
  simp only[cond_false,Bool.not_false,Bool.true_and]
  refine X5 s.size (by omega) (fun n k=>k=n∧∀i (hi:i<s.size),i<n→rX s[i].toNat=true) (fun r=>match r with|.inl _=>s.data.toList.all (fun c=>rX c.toNat)=false|.inr _=>s.data.toList.all (fun c=>rX c.toNat)=true) ⟨rfl,by omega⟩ ?_ ?_ ?_
  ·rintro n k hn ⟨rfl,hv⟩
   simp only[iLt hn,cond_true,oL s n hn,Option.bind_some]
   have hc:rX s[n].toNat=(decide (33≤s[n].toNat)&&decide (s[n].toNat≤126)&&!(s[n].toNat==46)):=rfl
   have e46:((s[n].toNat:Int)==46)=(s[n].toNat==46):=by rw[Bool.eq_iff_iff];simp;omega
   by_cases a1:s[n].toNat<33
   ·rw[decide_eq_true (show(s[n].toNat:Int)<33 by omega)];right
    exact⟨_,rfl,vK s _ n hn (by rw[hc,decide_eq_false (show ¬33≤s[n].toNat by omega)];rfl)⟩
   rw[decide_eq_false (show ¬(s[n].toNat:Int)<33 by omega)];simp only[cond_false]
   by_cases a2:126<s[n].toNat
   ·rw[decide_eq_true (show(126:Int)<(s[n].toNat:Int) by omega)];right
    exact⟨_,rfl,vK s _ n hn (by rw[hc,decide_eq_false (show ¬s[n].toNat≤126 by omega),Bool.and_false];rfl)⟩
   rw[decide_eq_false (show ¬(126:Int)<(s[n].toNat:Int) by omega),e46];simp only[cond_false,Option.bind_some]
   cases a3:s[n].toNat==46 with
   |true=>right;exact⟨_,rfl,vK s _ n hn (by rw[hc,a3,Bool.not_true,Bool.and_false])⟩
   |false=>
    left
    refine⟨_,rfl,inc n (by omega),fun i hi hl=>?_⟩
    rcases Nat.lt_succ_iff_lt_or_eq.1 hl with h3|rfl
    ·exact hv i hi h3
    ·rw[hc,a3,decide_eq_true (show 33≤s[i].toNat by omega),decide_eq_true (show s[i].toNat≤126 by omega)];rfl
  ·rintro k ⟨rfl,hv⟩
   exact⟨.inr (),by simp only[X6 (Nat.lt_irrefl _),cond_false],UM s _ fun i hi=>hv i hi hi⟩
  ·rintro(u|u) h2
   ·exact congrArg some h2.symm
   ·exact congrArg some h2.symm
def sF(p:List ByteArray):Bool:=decide (1≤p.length)&&decide (p.length≤16)&&p.all nameB
theorem yQ{α:Type}(f:α→Bool){l:List α}{k:Nat}{x:α}(h:l[k]?=some x):(l.take (k+1)).all f=((l.take k).all f&&f x):=by
 have hk:=pI h
 have:l[k]=x:=by rw[List.getElem?_eq_getElem hk] at h;injection h
 rw[List.take_succ_eq_append_getElem hk,List.all_append,this];simp
theorem WZ{α:Type}(f:α→Bool){l:List α}{k:Nat}{x:α}(h:l[k]?=some x)(hf:f x=false):l.all f=false:=by
 rw[List.all_eq_false];exact⟨x,iH h,by simp[hf]⟩
theorem EP(p:List ByteArray):atC p=some (sF p):=by
 unfold atC ak6 QG QF
 simp only[Mo.den,ak,aj,aA,au,ay,sF]
 by_cases h0:p.length<1
 ·rw[decide_eq_true (show(p.length:Int)<1 by omega),decide_eq_false (show ¬1≤p.length by omega)];rfl
 rw[decide_eq_false (show ¬(p.length:Int)<1 by omega),decide_eq_true (show 1≤p.length by omega)];simp only[cond_false,Option.bind_some,Bool.true_and]
 by_cases h1:16<p.length
 ·rw[decide_eq_true (show(16:Int)<(p.length:Int) by omega),decide_eq_false (show ¬p.length≤16 by omega)];rfl
 rw[decide_eq_false (show ¬(16:Int)<(p.length:Int) by omega),decide_eq_true (show p.length≤16 by omega)];simp only[cond_false,Bool.true_and]
 refine X5 p.length (by omega) (fun n k=>k=n∧(p.take n).all nameB=true) (fun r=>match r with|.inl _=>p.all nameB=false|.inr _=>p.all nameB=true) ⟨rfl,by simp⟩ ?_ ?_ ?_
 ·rintro n k hn ⟨rfl,hv⟩
  have hx:=List.getElem?_eq_getElem hn
  simp only[iLt hn,cond_true,gid hx,Option.bind_some,rD]
  cases hb:nameB p[n] with
  |false=>right;exact⟨_,rfl,WZ _ hx hb⟩
  |true=>left;exact⟨_,rfl,inc n (by omega),by rw[yQ _ hx,hv,hb];rfl⟩
 ·rintro k ⟨rfl,hv⟩
  exact⟨.inr (),by simp only[X6 (Nat.lt_irrefl _),cond_false],by rw[List.take_length] at hv;exact hv⟩
 ·rintro(u|u) h2
  ·exact congrArg some h2.symm
  ·exact congrArg some h2.symm
theorem TB(s:ByteArray):atD s=some (nameB s):=by
 simp only[atD,ak7,Mo.den,ak,aj,aA,au,ay,EP,Option.bind_some,sF,List.length_cons,List.length_nil,List.all_cons,List.all_nil,Bool.and_true];rfl
def jJ(v:ah):Bool:=v.aK==0&&v.je==0&&decide (v.fText=⟨#[]⟩)&&(v.bF.length:Int)==0&&(v.bC.length:Int)==0
theorem sG(v:ah):atE v=some (jJ v):=by
 simp only[atE,ak8,dG,lu,lq,nJ,nI,Mo.den,ak,aj,aA,au,ay,jJ]
 cases v.aK==0<;>cases v.je==0<;>cases decide (v.fText=⟨#[]⟩)<;>cases (v.bF.length:Int)==0<;>rfl
def parts(v:ah):List ah:=(if v.aK=6 then v.bF else [])++(if v.aK=5 then v.bC.map aN.fValue else [])
theorem TF(v:ah)(hb:aW v.lf1≤100000000):Q38 v=some (parts v):=by
 have hl:=fV v.bF
 have hd:=gG v.bC
 rw[dA] at hb
 have h0:adi v 0 []=some v.bF:=by
  have:Tot (adi v 0 []) (fun r=>r=v.bF):=by
   refine T.oh v.bF.length (by omega) (fun k s=>s=((k:Int),v.bF.take k)) _ rfl ?_ ?_
   ·rintro k s hk rfl
    have hx:=List.getElem?_eq_getElem hk
    simp only[D5,Mo.den,ak,aj,aA,au,ay,ltt hx,gid hx,cond_true,Option.bind_some]
    refine T.grd (by simp only[List.length_take,List.length_cons,List.length_nil];omega) (T.ret ?_)
    show _=_
    rw[inc k (by omega),List.take_succ_eq_append_getElem hk]
   ·rintro s rfl
    simp only[D5,Mo.den,ak,aj,aA,au,ay,ltn,cond_false]
    exact T.ret (show _=_ by rw[List.take_length])
  obtain⟨r,h,rfl⟩:=this;exact h
 have h1:∀l0:List ah,l0.length≤100000000→V3 v 0 l0=some (l0++v.bC.map aN.fValue):=by
  intro l0 hl0
  have:Tot (V3 v 0 l0) (fun r=>r=l0++v.bC.map aN.fValue):=by
   refine T.oh v.bC.length (by omega) (fun k s=>s=((k:Int),l0++(v.bC.take k).map aN.fValue)) _ (by simp) ?_ ?_
   ·rintro k s hk rfl
    have hx:=List.getElem?_eq_getElem hk
    simp only[Ae,Mo.den,ak,aj,aA,au,ay,ltt hx,gid hx,cond_true,Option.bind_some]
    refine T.grd (by simp only[List.length_append,List.length_map,List.length_take,List.length_cons,List.length_nil];omega) (T.ret ?_)
    show _=_
    rw[inc k (by omega),List.take_succ_eq_append_getElem hk,List.map_append,List.append_assoc];rfl
   ·rintro s rfl
    simp only[Ae,Mo.den,ak,aj,aA,au,ay,ltn,cond_false]
    exact T.ret (show _=_ by rw[List.take_length])
  obtain⟨r,h,rfl⟩:=this;exact h
 unfold Q38 aqX Y4 QH parts
 simp only[Mo.den,ak,aj,aA,au,ay,h0]
 by_cases a:v.aK=6
 ·have b:v.aK≠5:=by omega
  rw[show(v.aK==6)=true by simpa using a,show(v.aK==5)=false by simpa using b]
  simp[a]
 ·rw[show(v.aK==6)=false by simpa using a]
  by_cases b:v.aK=5
  ·rw[show(v.aK==5)=true by simpa using b];simp[a,b,h1]
  ·rw[show(v.aK==5)=false by simpa using b];simp[a,b]
theorem wG{v x:ah}(h:x∈parts v):aW x.lf1<aW v.lf1:=by
 rw[dA v]
 unfold parts at h
 rcases List.mem_append.1 h with h|h
 ·split at h
  ·have:=jg h;omega
  ·simp at h
 ·split at h
  ·obtain⟨f,hf,rfl⟩:=List.mem_map.1 h
   have:=gB hf;rw[fP] at this;omega
  ·simp at h
theorem TG(v:ah):(parts v).length≤aW v.lf1:=by
 have hl:=fV v.bF
 have hd:=gG v.bC
 rw[dA v]
 unfold parts
 rw[List.length_append]
 split<;>split<;>simp<;>omega
end Go.Proofs.YtbdcaeahocbkbaaGreatDoor
set_option linter.unusedSimpArgs false
set_option linter.unusedVariables false
namespace Go.Proofs.YtbdcaeahocbkbaaGreatDoor
open Go.RowKit
def jP(f:ah→Nat→Nat)(lim:Nat):List ah→Nat→Nat
 |[],n=>n
 |p::r,n=>if f p n<lim then jP f lim r (f p n) else f p n
theorem wH(f:ah→Nat→Nat)(lim:Nat)(p:ah)(r:List ah)(n:Nat):jP f lim (p::r) n=if f p n<lim then jP f lim r (f p n) else f p n:=rfl
mutual
def ah.cnt:ah→Nat
 |.mk k _ _ l d=>1+((if k=6 then ah.cnts l else 0)+(if k=5 then aN.cnts d else 0))
def ah.cnts:List ah→Nat
 |[]=>0
 |x::r=>x.cnt+ah.cnts r
def aN.cnts:List aN→Nat
 |[]=>0
 |.mk _ x::r=>x.cnt+aN.cnts r
end
mutual
def ah.dep:ah→Nat
 |.mk k _ _ l d=>1+max (if k=6 then ah.deps l else 0) (if k=5 then aN.deps d else 0)
def ah.deps:List ah→Nat
 |[]=>0
 |x::r=>max x.dep (ah.deps r)
def aN.deps:List aN→Nat
 |[]=>0
 |.mk _ x::r=>max x.dep (aN.deps r)
end
def mg:List Nat→Nat
 |[]=>0
 |x::r=>x+mg r
def oO:List Nat→Nat
 |[]=>0
 |x::r=>max x (oO r)
theorem ER:∀l m:List Nat,mg (l++m)=mg l+mg m
 |[],m=>(Nat.zero_add _).symm
 |x::r,m=>by show x+mg (r++m)=(x+mg r)+mg m;rw[ER r m];omega
theorem MR:∀l m:List Nat,oO (l++m)=max (oO l) (oO m)
 |[],m=>by show oO m=max 0 (oO m);omega
 |x::r,m=>by show max x (oO (r++m))=max (max x (oO r)) (oO m);rw[MR r m];omega
theorem agn:∀l:List ah,ah.cnts l=mg (l.map ah.cnt)
 |[]=>by simp[ah.cnts,mg]
 |x::r=>by simp[ah.cnts,mg,agn r]
theorem aaB:∀l:List aN,aN.cnts l=mg ((l.map aN.fValue).map ah.cnt)
 |[]=>by simp[aN.cnts,mg]
 |.mk n x::r=>by simp[aN.cnts,mg,aaB r,aN.fValue]
theorem agp:∀l:List ah,ah.deps l=oO (l.map ah.dep)
 |[]=>by simp[ah.deps,oO]
 |x::r=>by simp[ah.deps,oO,agp r]
theorem aaC:∀l:List aN,aN.deps l=oO ((l.map aN.fValue).map ah.dep)
 |[]=>by simp[aN.deps,oO]
 |.mk n x::r=>by simp[aN.deps,oO,aaC r,aN.fValue]
theorem HY(v:ah):v.cnt=1+mg ((parts v).map ah.cnt):=by
 cases v with
 |mk k i s l d=>
  unfold parts
  rw[List.map_append,ER]
  unfold ah.cnt
  rw[agn,aaB]
  simp only[ah.aK,ah.bF,ah.bC]
  by_cases h6:k=6
  ·subst h6;simp[mg]
  ·by_cases h5:k=5
   ·subst h5;simp[mg]
   ·simp[h6,h5,mg]
theorem H6(v:ah):v.dep=1+oO ((parts v).map ah.dep):=by
 cases v with
 |mk k i s l d=>
  unfold parts
  rw[List.map_append,MR]
  unfold ah.dep
  rw[agp,aaC]
  simp only[ah.aK,ah.bF,ah.bC]
  by_cases h6:k=6
  ·subst h6;simp[oO]
  ·by_cases h5:k=5
   ·subst h5;simp[oO]
   ·simp[h6,h5,oO]
theorem aeJ(v:ah):1≤v.cnt:=by rw[HY];omega
theorem aeK(v:ah):1≤v.dep:=by rw[H6];omega
theorem TJ(most:Nat):∀(l:List ah) (n:Nat),n<most→jP (fun p n=>n+min p.cnt (most-n)) most l n=min (n+mg (l.map ah.cnt)) most
 |[],n,h=>by unfold jP;simp only[List.map_nil,mg];omega
 |p::r,n,h=>by
  unfold jP
  simp only[List.map_cons,mg]
  split
  ·rename_i hc
   rw[TJ most r _ hc]
   omega
  ·omega
theorem TK(most:Nat)(hm:1≤most):∀(l:List ah) (n:Nat),n≤most-1→(l=[]∨n<most-1→jP (fun p n=>max n (min p.dep (most-1))) (most-1) l n=min (max n (oO (l.map ah.dep))) (most-1))
 |[],n,h,_=>by unfold jP;simp only[List.map_nil,oO];omega
 |p::r,n,h,hh=>by
  have hn:n<most-1:=hh.resolve_left (by simp)
  unfold jP
  simp only[List.map_cons,oO]
  split
  ·rename_i hc
   rw[TK most hm r _ (by omega) (.inr hc)]
   omega
  ·omega

theorem ahH(R:IG)(v:ah)(f:ah→Nat→Nat)(lim:Nat)(b1:Int)(I:Nat→Prop)(hb:aW v.lf1≤100000000)
 (h3:∀p∈parts v,∀n:Nat,I n→R.m3 p n b1=some (decide (f p n<lim),(f p n:Int),b1)∧(f p n<lim→I (f p n))) (n:Nat) (hn:I n):
 Mo.den (KC R v n b1)=some (((jP f lim (parts v) n:Nat):Int),b1):=by
 have hl:=fV v.bF
 have hd:=gG v.bC
 rw[dA] at hb
 unfold KC
 simp only[Mo.den,ak,aj,aA,au,ay]
 by_cases h6:v.aK=6
 ·have e6:(v.aK==6)=true:=by simpa using h6
  have hp:parts v=v.bF:=by unfold parts;rw[if_pos h6,if_neg (by omega),List.append_nil]
  rw[e6,hp]
  simp only[cond_true]
  have key:Tot (afl R v 0 n b1) (fun r=>match r with|.inl o=>o=(((jP f lim v.bF n:Nat):Int),b1)|.inr o=>o=(((jP f lim v.bF n:Nat):Int),b1)):=by
   refine T.oh v.bF.length (by omega) (fun k s=>∃m:Nat,s=((k:Int),(m:Int),b1)∧I m∧jP f lim v.bF n=jP f lim (v.bF.drop k) m) _ ⟨n,rfl,hn,rfl⟩ ?_ ?_
   ·rintro k s hk ⟨m,rfl,hm,he⟩
    have hx:=List.getElem?_eq_getElem hk
    have hdr:v.bF.drop k=v.bF[k]::v.bF.drop (k+1):=List.drop_eq_getElem_cons hk
    obtain⟨q1,q2⟩:=h3 v.bF[k] (by rw[hp];exact List.getElem_mem hk) m hm
    simp only[zK,Mo.den,ak,aj,aA,au,ay,ltt hx,gid hx,cond_true,Option.bind_some,q1]
    rw[hdr,wH] at he
    by_cases hc:f v.bF[k] m<lim
    ·rw[if_pos hc] at he
     rw[decide_eq_true hc]
     exact T.ret ⟨_,by rw[inc k (by omega)],q2 hc,he⟩
    ·rw[if_neg hc] at he
     rw[decide_eq_false hc]
     exact T.ret (show _=_ by rw[he])
   ·rintro s ⟨m,rfl,hm,he⟩
    rw[List.drop_length] at he
    have he:jP f lim v.bF n=m:=he
    simp only[zK,Mo.den,ak,aj,aA,au,ay,ltn,cond_false]
    exact T.ret (show _=_ by rw[he])
  obtain⟨r,h,hr⟩:=key
  rw[h]
  rcases r with r|r
  ·have hr:r=_:=hr
   subst hr;rfl
  ·have hr:r=_:=hr
   subst hr;rfl
 ·have e6:(v.aK==6)=false:=by simpa using h6
  by_cases h5:v.aK=5
  ·have e5:(v.aK==5)=true:=by simpa using h5
   have hp:parts v=v.bC.map aN.fValue:=by unfold parts;rw[if_neg h6,if_pos h5,List.nil_append]
   rw[e6,e5,hp]
   simp only[cond_true,cond_false]
   have key:Tot (afm R v 0 n b1) (fun r=>match r with|.inl o=>o=(((jP f lim (v.bC.map aN.fValue) n:Nat):Int),b1)|.inr o=>o=(((jP f lim (v.bC.map aN.fValue) n:Nat):Int),b1)):=by
    refine T.oh v.bC.length (by omega) (fun k s=>∃m:Nat,s=((k:Int),(m:Int),b1)∧I m∧jP f lim (v.bC.map aN.fValue) n=jP f lim ((v.bC.drop k).map aN.fValue) m) _ ⟨n,rfl,hn,rfl⟩ ?_ ?_
    ·rintro k s hk ⟨m,rfl,hm,he⟩
     have hx:=List.getElem?_eq_getElem hk
     have hdr:v.bC.drop k=v.bC[k]::v.bC.drop (k+1):=List.drop_eq_getElem_cons hk
     obtain⟨q1,q2⟩:=h3 v.bC[k].fValue (by rw[hp];exact List.mem_map.2 ⟨_,List.getElem_mem hk,rfl⟩) m hm
     simp only[zM,Mo.den,ak,aj,aA,au,ay,ltt hx,gid hx,cond_true,Option.bind_some,q1]
     rw[hdr,List.map_cons,wH] at he
     by_cases hc:f v.bC[k].fValue m<lim
     ·rw[if_pos hc] at he
      rw[decide_eq_true hc]
      exact T.ret ⟨_,by rw[inc k (by omega)],q2 hc,he⟩
     ·rw[if_neg hc] at he
      rw[decide_eq_false hc]
      exact T.ret (show _=_ by rw[he])
    ·rintro s ⟨m,rfl,hm,he⟩
     rw[List.drop_length,List.map_nil] at he
     have he:jP f lim (v.bC.map aN.fValue) n=m:=he
     simp only[zM,Mo.den,ak,aj,aA,au,ay,ltn,cond_false]
     exact T.ret (show _=_ by rw[he])
   obtain⟨r,h,hr⟩:=key
   rw[h]
   rcases r with r|r
   ·have hr:r=_:=hr
    subst hr;rfl
   ·have hr:r=_:=hr
    subst hr;rfl
  ·have e5:(v.aK==5)=false:=by simpa using h5
   have hp:parts v=[]:=by unfold parts;rw[if_neg h6,if_neg h5];rfl
   rw[e6,e5,hp]
   rfl

theorem ahI(R:II)(v:ah)(f:ah→Nat→Nat)(lim:Nat)(b1:Int)(I:Nat→Prop)(hb:aW v.lf1≤100000000)
 (h3:∀p∈parts v,∀n:Nat,I n→R.m3 p n b1=some (decide (f p n<lim),(f p n:Int),b1)∧(f p n<lim→I (f p n))) (n:Nat) (hn:I n):
 Mo.den (KD R v n b1)=some (((jP f lim (parts v) n:Nat):Int),b1):=by
 have hl:=fV v.bF
 have hd:=gG v.bC
 rw[dA] at hb
 unfold KD
 simp only[Mo.den,ak,aj,aA,au,ay]
 by_cases h6:v.aK=6
 ·have e6:(v.aK==6)=true:=by simpa using h6
  have hp:parts v=v.bF:=by unfold parts;rw[if_pos h6,if_neg (by omega),List.append_nil]
  rw[e6,hp]
  simp only[cond_true]
  have key:Tot (afp R v 0 n b1) (fun r=>match r with|.inl o=>o=(((jP f lim v.bF n:Nat):Int),b1)|.inr o=>o=(((jP f lim v.bF n:Nat):Int),b1)):=by
   refine T.oh v.bF.length (by omega) (fun k s=>∃m:Nat,s=((k:Int),(m:Int),b1)∧I m∧jP f lim v.bF n=jP f lim (v.bF.drop k) m) _ ⟨n,rfl,hn,rfl⟩ ?_ ?_
   ·rintro k s hk ⟨m,rfl,hm,he⟩
    have hx:=List.getElem?_eq_getElem hk
    have hdr:v.bF.drop k=v.bF[k]::v.bF.drop (k+1):=List.drop_eq_getElem_cons hk
    obtain⟨q1,q2⟩:=h3 v.bF[k] (by rw[hp];exact List.getElem_mem hk) m hm
    simp only[zN,Mo.den,ak,aj,aA,au,ay,ltt hx,gid hx,cond_true,Option.bind_some,q1]
    rw[hdr,wH] at he
    by_cases hc:f v.bF[k] m<lim
    ·rw[if_pos hc] at he
     rw[decide_eq_true hc]
     exact T.ret ⟨_,by rw[inc k (by omega)],q2 hc,he⟩
    ·rw[if_neg hc] at he
     rw[decide_eq_false hc]
     exact T.ret (show _=_ by rw[he])
   ·rintro s ⟨m,rfl,hm,he⟩
    rw[List.drop_length] at he
    have he:jP f lim v.bF n=m:=he
    simp only[zN,Mo.den,ak,aj,aA,au,ay,ltn,cond_false]
    exact T.ret (show _=_ by rw[he])
  obtain⟨r,h,hr⟩:=key
  rw[h]
  rcases r with r|r
  ·have hr:r=_:=hr
   subst hr;rfl
  ·have hr:r=_:=hr
   subst hr;rfl
 ·have e6:(v.aK==6)=false:=by simpa using h6
  by_cases h5:v.aK=5
  ·have e5:(v.aK==5)=true:=by simpa using h5
   have hp:parts v=v.bC.map aN.fValue:=by unfold parts;rw[if_neg h6,if_pos h5,List.nil_append]
   rw[e6,e5,hp]
   simp only[cond_true,cond_false]
   have key:Tot (afq R v 0 n b1) (fun r=>match r with|.inl o=>o=(((jP f lim (v.bC.map aN.fValue) n:Nat):Int),b1)|.inr o=>o=(((jP f lim (v.bC.map aN.fValue) n:Nat):Int),b1)):=by
    refine T.oh v.bC.length (by omega) (fun k s=>∃m:Nat,s=((k:Int),(m:Int),b1)∧I m∧jP f lim (v.bC.map aN.fValue) n=jP f lim ((v.bC.drop k).map aN.fValue) m) _ ⟨n,rfl,hn,rfl⟩ ?_ ?_
    ·rintro k s hk ⟨m,rfl,hm,he⟩
     have hx:=List.getElem?_eq_getElem hk
     have hdr:v.bC.drop k=v.bC[k]::v.bC.drop (k+1):=List.drop_eq_getElem_cons hk
     obtain⟨q1,q2⟩:=h3 v.bC[k].fValue (by rw[hp];exact List.mem_map.2 ⟨_,List.getElem_mem hk,rfl⟩) m hm
     simp only[zO,Mo.den,ak,aj,aA,au,ay,ltt hx,gid hx,cond_true,Option.bind_some,q1]
     rw[hdr,List.map_cons,wH] at he
     by_cases hc:f v.bC[k].fValue m<lim
     ·rw[if_pos hc] at he
      rw[decide_eq_true hc]
      exact T.ret ⟨_,by rw[inc k (by omega)],q2 hc,he⟩
     ·rw[if_neg hc] at he
      rw[decide_eq_false hc]
      exact T.ret (show _=_ by rw[he])
    ·rintro s ⟨m,rfl,hm,he⟩
     rw[List.drop_length,List.map_nil] at he
     have he:jP f lim (v.bC.map aN.fValue) n=m:=he
     simp only[zO,Mo.den,ak,aj,aA,au,ay,ltn,cond_false]
     exact T.ret (show _=_ by rw[he])
   obtain⟨r,h,hr⟩:=key
   rw[h]
   rcases r with r|r
   ·have hr:r=_:=hr
    subst hr;rfl
   ·have hr:r=_:=hr
    subst hr;rfl
  ·have e5:(v.aK==5)=false:=by simpa using h5
   have hp:parts v=[]:=by unfold parts;rw[if_neg h6,if_neg h5];rfl
   rw[e6,e5,hp]
   rfl

theorem adT:∀(F:Nat) (v:ah) (most:Nat),3*aW v.lf1≤F→aW v.lf1≤100000000→1≤most→most≤2000→(oI F).m1 v most=some ((min v.cnt most:Nat):Int):=by
 intro F
 induction F using Nat.strongRecOn with
 |_ F ih=>
 intro v most hF hb h1 h2
 have hp:=dA v
 obtain⟨F,rfl⟩:∃G,F=G+3:=⟨F-3,by omega⟩
 show Mo.den (Vb (oI (F+2)) v most)=_
 unfold Vb
 simp only[Mo.den,ak,aj,aA,au,ay]
 by_cases hm:most=1
 ·subst hm
  have:=aeJ v
  rw[show min v.cnt 1=1 by omega]
  rfl
 ·rw[show((1:Int)==(most:Int))=false by rw[beq_eq_false_iff_ne];omega]
  have he:(oI (F+2)).m2 v 1 most=some (((min v.cnt most:Nat):Int),(most:Int)):=by
   show Mo.den (KC (oI (F+1)) v 1 most)=_
   have:=ahH (oI (F+1)) v (fun p n=>n+min p.cnt (most-n)) most most (fun n=>n<most) hb (fun p hq n hn=>?_) 1 (show 1<most by omega)
   ·rw[show((1:Int))=((1:Nat):Int) from rfl,this,TJ most _ 1 (by omega),←HY]
   ·refine⟨?_,fun h=>h⟩
    have hlt:=wG hq
    show Mo.den (Vd (oI F) p n most)=_
    unfold Vd
    have hsub:IntKind.wrap .i64 ((most:Int)-(n:Int))=((most-n:Nat):Int):=by rw[w64 (by omega) (by omega)];omega
    simp only[Mo.den,ak,aj,aA,au,ay,hsub,ih F (by omega) p (most-n) (by omega) (by omega) (by omega) (by omega),Option.bind_some]
    rw[w64 (by omega) (by omega),show(n:Int)+((min p.cnt (most-n):Nat):Int)=((n+min p.cnt (most-n):Nat):Int) by omega]
    congr 2
    rw[Bool.eq_iff_iff];simp only[decide_eq_true_iff];omega
  simp only[cond_false,he,Option.bind_some]
theorem ahJ(v:ah)(hb:aW v.lf1≤100000000):as5 v=some ((min v.cnt 1025:Nat):Int):=by
 simp only[as5,akx,Mo.den,ak,aj,aA,au,ay]
 have:avr v 1025=some ((min v.cnt 1025:Nat):Int):=adT FU v 1025 (by have:=iw;omega) hb (by omega) (by omega)
 rw[this];rfl
theorem adU:∀(F:Nat) (v:ah) (most:Nat),3*aW v.lf1≤F→aW v.lf1≤100000000→1≤most→most≤2000→(oJ F).m1 v most=some ((min v.dep most:Nat):Int):=by
 intro F
 induction F using Nat.strongRecOn with
 |_ F ih=>
 intro v most hF hb h1 h2
 have hp:=dA v
 obtain⟨F,rfl⟩:∃G,F=G+3:=⟨F-3,by omega⟩
 show Mo.den (Vf (oJ (F+2)) v most)=_
 unfold Vf
 simp only[Mo.den,ak,aj,aA,au,ay]
 have hpos:=aeK v
 by_cases hm:most=1
 ·subst hm
  rw[show min v.dep 1=1 by omega]
  rfl
 ·rw[show((most:Int)==(1:Int))=false by rw[beq_eq_false_iff_ne];omega]
  have he:(oJ (F+2)).m2 v 0 most=some (((min v.dep most-1:Nat):Int),(most:Int)):=by
   show Mo.den (KD (oJ (F+1)) v 0 most)=_
   have:=ahI (oJ (F+1)) v (fun p n=>max n (min p.dep (most-1))) (most-1) most (fun n=>n<most-1) hb (fun p hq n hn=>?_) 0 (show 0<most-1 by omega)
   ·rw[show((0:Int))=((0:Nat):Int) from rfl, this, TK most h1 _ 0 (by omega) (.inr (by omega))]
    have e:=H6 v
    rw[show min (max 0 (oO ((parts v).map ah.dep))) (most-1)=min v.dep most-1 by omega]
   ·refine⟨?_,fun h=>h⟩
    have hlt:=wG hq
    show Mo.den (Vg (oJ F) p n most)=_
    unfold Vg
    have hsub:IntKind.wrap .i64 ((most:Int)-1)=((most-1:Nat):Int):=by rw[w64 (by omega) (by omega)];omega
    simp only[Mo.den,ak,aj,aA,au,ay,hsub,ih F (by omega) p (most-1) (by omega) (by omega) (by omega) (by omega),Option.bind_some]
    rw[show(if((min p.dep (most-1):Nat):Int) > (n:Int) then((min p.dep (most-1):Nat):Int) else(n:Int))=((max n (min p.dep (most-1)):Nat):Int) by split<;>omega]
    congr 2
    rw[Bool.eq_iff_iff];simp only[decide_eq_true_iff];omega
  simp only[cond_false,he,Option.bind_some]
  rw[w64 (by omega) (by omega)]
  congr 1
  omega
theorem ahK(v:ah)(hb:aW v.lf1≤100000000):as6 v=some ((min v.dep 17:Nat):Int):=by
 simp only[as6,akB,Mo.den,ak,aj,aA,au,ay]
 have:avs v 17=some ((min v.dep 17:Nat):Int):=adU FU v 17 (by have:=iw;omega) hb (by omega) (by omega)
 rw[this];rfl
end Go.Proofs.YtbdcaeahocbkbaaGreatDoor
set_option linter.unusedSimpArgs false
set_option linter.unusedVariables false
namespace Go.Proofs.YtbdcaeahocbkbaaGreatDoor
open Go.RowKit
theorem size_nil{s:ByteArray}(h:s.size<1):s=⟨#[]⟩:=by
 cases s with
 |mk d=>
  have h:d.size<1:=h
  have:d=#[]:=Array.eq_empty_of_size_eq_zero (by omega)
  rw[this]
theorem W9{s:ByteArray}(h:¬s.size<1):¬s=⟨#[]⟩:=fun e=>h (by rw[e];exact Nat.zero_lt_one)


theorem AA(s:ByteArray):Q79 s=some (nameB s):=by
 have key:s.size≤32→Tot (DK s 0) (fun r=>match r with|.inl _=>s.data.toList.all (fun c=>rX c.toNat)=false|.inr _=>s.data.toList.all (fun c=>rX c.toNat)=true):=by
  intro h2
  refine T.oh s.size (by omega) (fun k v=>v=(k:Int)∧∀i (hi:i<s.size),i<k→rX s[i].toNat=true) _ ⟨rfl,fun i _ h=>absurd h (by omega)⟩ ?_ ?_
  ·rintro k v hk ⟨rfl,hv⟩
   have hc:rX s[k].toNat=(decide (33≤s[k].toNat)&&decide (s[k].toNat≤126)&&!(s[k].toNat==46)):=rfl
   have e46:((s[k].toNat:Int)==46)=(s[k].toNat==46):=by rw[Bool.eq_iff_iff];simp;omega
   simp only[pq,kF,kG,Mo.den,ak,aj,aA,au,ay,iLt hk,cond_true,oL s k hk,Option.bind_some]
   by_cases a1:s[k].toNat<33
   ·rw[decide_eq_true (show(s[k].toNat:Int)<33 by omega)]
    simp only[cond_true,Option.bind_some]
    exact T.ret (vK s _ k hk (by rw[hc,decide_eq_false (show ¬33≤s[k].toNat by omega)];rfl))
   rw[decide_eq_false (show ¬(s[k].toNat:Int)<33 by omega)];simp only[cond_false,Option.bind_some]
   by_cases a2:126<s[k].toNat
   ·rw[decide_eq_true (show(126:Int)<(s[k].toNat:Int) by omega)]
    simp only[cond_true,Option.bind_some]
    exact T.ret (vK s _ k hk (by rw[hc,decide_eq_false (show ¬s[k].toNat≤126 by omega),Bool.and_false];rfl))
   rw[decide_eq_false (show ¬(126:Int)<(s[k].toNat:Int) by omega),e46];simp only[cond_false,Option.bind_some]
   cases a3:s[k].toNat==46 with
   |true=>
    simp only[cond_true]
    exact T.ret (vK s _ k hk (by rw[hc,a3,Bool.not_true,Bool.and_false]))
   |false=>
    simp only[cond_false]
    refine T.ret ⟨inc k (by omega),fun i hi hl=>?_⟩
    rcases Nat.lt_succ_iff_lt_or_eq.1 hl with h3|rfl
    ·exact hv i hi h3
    ·rw[hc,a3,decide_eq_true (show 33≤s[i].toNat by omega),decide_eq_true (show s[i].toNat≤126 by omega)];rfl
  ·rintro v ⟨rfl,hv⟩
   simp only[pq,Mo.den,ak,aj,aA,au,ay,ltn,cond_false]
   exact T.ret (UM s _ fun i hi=>hv i hi hi)
 unfold Q79 YF kD kE
 simp only[Mo.den,ak,aj,aA,au,ay]
 by_cases h0:s.size<1
 ·rw[decide_eq_true (show(s.size:Int)<1 by omega)]
  rw[FW s (by omega)];rfl
 rw[decide_eq_false (show ¬(s.size:Int)<1 by omega)];simp only[cond_false]
 by_cases h1:32<s.size
 ·rw[decide_eq_true (show(32:Int)<(s.size:Int) by omega),FT s h1];rfl
 rw[decide_eq_false (show ¬(32:Int)<(s.size:Int) by omega)];simp only[Option.bind_some,cond_false]
 have hz:lS s 0=some s[0]:=oL s 0 (by omega)
 rw[hz,BU s (by omega) (by omega)]
 simp only[Option.bind_some]
 have e36:((s[0].toNat:Int)==36)=(s[0].toNat==36):=by rw[Bool.eq_iff_iff];simp;omega
 rw[e36]
 cases hq:s[0].toNat==36 with
 |true=>rfl
 |false=>
  obtain⟨r,h,hr⟩:=key (by omega)
  simp only[cond_false,Bool.not_false,Bool.true_and,h,Option.bind_some]
  rcases r with r|r
  ·have hr:_=false:=hr
   rw[hr];all_goals rfl
  ·have hr:_=true:=hr
   rw[hr];all_goals rfl

theorem qO(s:ByteArray):Q16 s=some (nameB s):=(show Q16 s=Q79 s by simp only[Q16,aqP,OG,kG,kF,kE,kD,Mo.den,ak,aj,aA,au,ay,Q79,YF,DK,pq,kG,kF,kE,kD,Mo.den,ak,aj,aA,au,ay]).trans (AA s)
theorem AB(s:ByteArray):apf s=some (nameB s):=(show apf s=Q79 s by simp only[apf,akZ,Lp,kG,kF,kE,kD,Mo.den,ak,aj,aA,au,ay,Q79,YF,DK,pq,kG,kF,kE,kD,Mo.den,ak,aj,aA,au,ay]).trans (AA s)
theorem TL(s:ByteArray):Q93 s=some (nameB s):=by
 rw[←AA s]
 have e:decide (s=(⟨#[]⟩:ByteArray))=decide ((s.size:Int)<1):=by
  by_cases h:s.size<1
  ·rw[decide_eq_true (size_nil h),decide_eq_true (by omega)]
  ·rw[decide_eq_false (W9 h),decide_eq_false (by omega)]
 simp only[Q93,aqQ,PV,PU,PS,YO,YN,Mo.den,ak,aj,aA,au,ay,Q79,YF,DK,pq,kG,kF,kE,kD,Mo.den,ak,aj,aA,au,ay,e]

theorem ahL(s:ByteArray):ate s=some (!nameB s):=by
 have key:s.size≤32→Tot (YP s 0) (fun r=>match r with|.inl _=>s.data.toList.all (fun c=>rX c.toNat)=false|.inr _=>s.data.toList.all (fun c=>rX c.toNat)=true):=by
  intro h2
  refine T.oh s.size (by omega) (fun k v=>v=(k:Int)∧∀i (hi:i<s.size),i<k→rX s[i].toNat=true) _ ⟨rfl,fun i _ h=>absurd h (by omega)⟩ ?_ ?_
  ·rintro k v hk ⟨rfl,hv⟩
   have hc:rX s[k].toNat=(decide (33≤s[k].toNat)&&decide (s[k].toNat≤126)&&!(s[k].toNat==46)):=rfl
   have e46:((s[k].toNat:Int)==46)=(s[k].toNat==46):=by rw[Bool.eq_iff_iff];simp;omega
   simp only[vP,kF,kG,Mo.den,ak,aj,aA,au,ay,iLt hk,cond_true,oL s k hk,Option.bind_some]
   by_cases a1:s[k].toNat<33
   ·rw[decide_eq_true (show(s[k].toNat:Int)<33 by omega)]
    simp only[cond_true,Option.bind_some]
    exact T.ret (vK s _ k hk (by rw[hc,decide_eq_false (show ¬33≤s[k].toNat by omega)];rfl))
   rw[decide_eq_false (show ¬(s[k].toNat:Int)<33 by omega)];simp only[cond_false,Option.bind_some]
   by_cases a2:126<s[k].toNat
   ·rw[decide_eq_true (show(126:Int)<(s[k].toNat:Int) by omega)]
    simp only[cond_true,Option.bind_some]
    exact T.ret (vK s _ k hk (by rw[hc,decide_eq_false (show ¬s[k].toNat≤126 by omega),Bool.and_false];rfl))
   rw[decide_eq_false (show ¬(126:Int)<(s[k].toNat:Int) by omega),e46];simp only[cond_false,Option.bind_some]
   cases a3:s[k].toNat==46 with
   |true=>
    simp only[cond_true]
    exact T.ret (vK s _ k hk (by rw[hc,a3,Bool.not_true,Bool.and_false]))
   |false=>
    simp only[cond_false]
    refine T.ret ⟨inc k (by omega),fun i hi hl=>?_⟩
    rcases Nat.lt_succ_iff_lt_or_eq.1 hl with h3|rfl
    ·exact hv i hi h3
    ·rw[hc,a3,decide_eq_true (show 33≤s[i].toNat by omega),decide_eq_true (show s[i].toNat≤126 by omega)];rfl
  ·rintro v ⟨rfl,hv⟩
   simp only[vP,Mo.den,ak,aj,aA,au,ay,ltn,cond_false]
   exact T.ret (UM s _ fun i hi=>hv i hi hi)
 unfold ate akK kD kE
 simp only[Mo.den,ak,aj,aA,au,ay]
 by_cases h0:s.size<1
 ·rw[decide_eq_true (show(s.size:Int)<1 by omega)]
  rw[FW s (by omega)];rfl
 rw[decide_eq_false (show ¬(s.size:Int)<1 by omega)];simp only[cond_false]
 by_cases h1:32<s.size
 ·rw[decide_eq_true (show(32:Int)<(s.size:Int) by omega),FT s h1];rfl
 rw[decide_eq_false (show ¬(32:Int)<(s.size:Int) by omega)];simp only[Option.bind_some,cond_false]
 have hz:lS s 0=some s[0]:=oL s 0 (by omega)
 rw[hz,BU s (by omega) (by omega)]
 simp only[Option.bind_some]
 have e36:((s[0].toNat:Int)==36)=(s[0].toNat==36):=by rw[Bool.eq_iff_iff];simp;omega
 rw[e36]
 cases hq:s[0].toNat==36 with
 |true=>rfl
 |false=>
  obtain⟨r,h,hr⟩:=key (by omega)
  simp only[cond_false,Bool.not_false,Bool.true_and,h,Option.bind_some]
  rcases r with r|r
  ·have hr:_=false:=hr
   rw[hr];all_goals rfl
  ·have hr:_=true:=hr
   rw[hr];all_goals rfl


def hasB(n:ByteArray)(l:List ByteArray):Bool:=l.any fun m=>decide (n=m)
mutual
def ah.snd:ah→Bool
 |.mk k i s l d=>(FX k i s l.length d.length&&JR k i s)&&(ah.jT l&&aN.jT [] d)
def ah.jT:List ah→Bool
 |[]=>true
 |x::r=>x.snd&&ah.jT r
def aN.jT:List ByteArray→List aN→Bool
 |_,[]=>true
 |seen,.mk n x::r=>(nameB n&&!hasB n seen)&&(x.snd&&aN.jT (n::seen) r)
end
theorem MS:∀l:List ah,ah.jT l=l.all ah.snd
 |[]=>by unfold ah.jT;rfl
 |x::r=>by unfold ah.jT;rw[MS r];rfl
def pJ(l:List ByteArray):List (ByteArray×Bool):=l.map fun n=>(n,true)
theorem uT(n:ByteArray):∀l:List ByteArray,xZ (pJ l) n false=hasB n l
 |[]=>rfl
 |x::r=>by
  show(if n=x then true else xZ (pJ r) n false)=(decide (n=x)||hasB n r)
  rw[uT n r]
  by_cases h:n=x
  ·rw[if_pos h,decide_eq_true h];rfl
  ·rw[if_neg h,decide_eq_false h];rfl
theorem MV(seen:List ByteArray)(n:ByteArray)(x:ah)(r:List aN):aN.jT seen (.mk n x::r)=((nameB n&&!hasB n seen)&&(x.snd&&aN.jT (n::seen) r)):=by rw[aN.jT]
theorem TM(seen:List ByteArray):aN.jT seen []=true:=by rw[aN.jT]
theorem adV(v:ah):v.snd=((FX v.aK v.je v.fText v.bF.length v.bC.length&&JR v.aK v.je v.fText)&&(ah.jT v.bF&&aN.jT [] v.bC)):=by
 cases v with
 |mk k i s l d=>rw[ah.snd];rfl
theorem aaD(R:qc)(l:List aN)(hl:l.length≤100000000)(h1:∀x∈l,R.m1 x.fValue=some x.fValue.snd):Mo.den (afv R l)=some (aN.jT [] l):=by
 unfold afv
 simp only[Mo.den,ak,aj,aA,au,ay]
 have key:Tot (afu R l 0 []) (fun r=>match r with|.inl _=>aN.jT [] l=false|.inr _=>aN.jT [] l=true):=by
  refine T.oh l.length (by omega) (fun k s=>∃m:List ByteArray,m.length=k∧s=((k:Int),pJ m)∧aN.jT [] l=aN.jT m (l.drop k)) _ ⟨[],rfl,rfl,rfl⟩ ?_ ?_
  ·rintro k s hk ⟨m,hm,rfl,he⟩
   have hx:=List.getElem?_eq_getElem hk
   have hdr:l.drop k=l[k]::l.drop (k+1):=List.drop_eq_getElem_cons hk
   have q1:=h1 l[k] (List.getElem_mem hk)
   rw[hdr] at he
   obtain⟨n,x⟩:∃n x,l[k]=aN.mk n x:=by cases l[k] with|mk n x=>exact⟨n,x,rfl⟩
   obtain⟨x,e⟩:=x
   rw[e] at q1 he
   rw[MV] at he
   unfold zU
   simp only[YI,YJ,Mo.den,ak,aj,aA,au,ay,ltt hx,gid hx,cond_true,Option.bind_some,e,aN.fName,aN.fValue,AA,uT]
   simp only[aN.fValue] at q1
   rw[q1]
   cases a:nameB n with
   |false=>rw[a] at he;exact T.ret (show _=false by rw[he];rfl)
   |true=>
    cases b:hasB n m with
    |true=>rw[a,b] at he;exact T.ret (show _=false by rw[he];rfl)
    |false=>
     cases c:x.snd with
     |false=>rw[a,b,c] at he;exact T.ret (show _=false by rw[he];rfl)
     |true=>
      rw[a,b,c] at he
      refine T.grd (by rw[pJ,List.length_map];unfold maxLen;omega) (T.ret ⟨n::m,by simp[hm],by rw[inc k (by omega)];rfl,by rw[he];rfl⟩)
  ·rintro s ⟨m,hm,rfl,he⟩
   rw[List.drop_length,TM] at he
   unfold zU
   simp only[Mo.den,ak,aj,aA,au,ay,ltn,cond_false]
   exact T.ret he
 obtain⟨r,h,hr⟩:=key
 rw[h]
 rcases r with r|r
 ·have hr:_=false:=hr
  rw[hr];all_goals rfl
 ·have hr:_=true:=hr
  rw[hr];all_goals rfl
theorem ahM(R:qc)(v:ah)(hl:v.bF.length≤100000000)(h1:∀x∈v.bF,R.m1 x=some x.snd):Tot (afs R v 0) (fun r=>match r with|.inl _=>ah.jT v.bF=false|.inr _=>ah.jT v.bF=true):=by
 rw[MS]
 refine T.oh v.bF.length (by omega) (fun k s=>s=(k:Int)∧(v.bF.take k).all ah.snd=true) _ ⟨rfl,by simp⟩ ?_ ?_
 ·rintro k s hk ⟨rfl,he⟩
  have hx:=List.getElem?_eq_getElem hk
  simp only[zQ,Mo.den,ak,aj,aA,au,ay,ltt hx,gid hx,cond_true,Option.bind_some,h1 _ (List.getElem_mem hk)]
  cases c:v.bF[k].snd with
  |false=>exact T.ret (WZ _ hx c)
  |true=>exact T.ret ⟨inc k (by omega),by rw[yQ _ hx,he,c];rfl⟩
 ·rintro s ⟨rfl,he⟩
  simp only[zQ,Mo.den,ak,aj,aA,au,ay,ltn,cond_false]
  rw[List.take_length] at he
  exact T.ret he
theorem adW:∀(F:Nat) (v:ah),2*aW v.lf1≤F→aW v.lf1≤100000000→(qR F).m1 v=some v.snd:=by
 intro F
 induction F using Nat.strongRecOn with
 |_ F ih=>
 intro v hF hb
 have hp:=dA v
 have hl:=fV v.bF
 have hd:=gG v.bC
 obtain⟨F,rfl⟩:∃G,F=G+2:=⟨F-2,by omega⟩
 show Mo.den (aft (qR (F+1)) v)=_
 have hL:=ahM (qR (F+1)) v (by omega) fun x hx=>ih (F+1) (by omega) x (by have:=jg hx;omega) (by have:=jg hx;omega)
 have hD:(qR (F+1)).m2 v.bC=some (aN.jT [] v.bC):=aaD (qR F) v.bC (by omega) fun x hx=>ih F (by omega) x.fValue (by have:=gB hx;rw[fP] at this;omega) (by have:=gB hx;rw[fP] at this;omega)
 obtain⟨r0,hL,hr0⟩:=hL
 clear ih hF hb hp hl hd
 rw[adV]
 unfold aft
 simp only[YG,YH,Pq,Pv,Px,Py,Pz,PD,PE,PG,PI,PK,PL,Mo.den,ak,aj,aA,au,ay,hL,hD,au7]
 clear hL hD
 generalize v.aK=k at *
 generalize v.je=i at *
 generalize v.fText=s at *
 generalize v.bF=l at *
 generalize v.bC=d at *
 unfold FX JR
 have ei:(i != 0)=!(i==0):=rfl
 have es:∀dd:Decidable (s=(⟨#[]⟩:ByteArray)),@decide _ dd=decide (s.size=0):=fun dd=>by
  by_cases h:s.size=0
  ·rw[decide_eq_true h,decide_eq_true (size_nil (by omega))]
  ·rw[decide_eq_false h,decide_eq_false (W9 (by omega))]
 have el:decide ((0:Int)<(l.length:Int))=!(l.length==0):=by
  cases l with
  |nil=>rfl
  |cons x r=>rw[decide_eq_true (show(0:Int)<((x::r).length:Int) by rw[List.length_cons];omega)];rfl
 have ed:decide ((0:Int)<(d.length:Int))=!(d.length==0):=by
  cases d with
  |nil=>rfl
  |cons x r=>rw[decide_eq_true (show(0:Int)<((x::r).length:Int) by rw[List.length_cons];omega)];rfl
 simp only[ei,es,el,ed]
 have e4:decide ((s.size:Int)≤4096)=decide (s.size≤4096):=by rw[Bool.eq_iff_iff];simp;omega
 have e12:((s.size:Int)==12)=decide (s.size=12):=by rw[Bool.eq_iff_iff];simp;omega
 simp only[e4,e12]
 have hl0:(l.length==0)=true→ah.jT l=true:=fun h=>by
  have:l=[]:=List.eq_nil_of_length_eq_zero (by simpa using h)
  rw[this];unfold ah.jT;rfl
 have hd0:(d.length==0)=true→aN.jT [] d=true:=fun h=>by
  have:d=[]:=List.eq_nil_of_length_eq_zero (by simpa using h)
  rw[this];unfold aN.jT;rfl
 clear ei es el ed e4 e12
 generalize ah.jT l=A at *
 generalize aN.jT [] d=B at *
 generalize (l.length==0)=nl at *
 generalize (d.length==0)=nd at *
 generalize wQ s=u at *
 generalize decide (s.size≤4096)=c1 at *
 generalize decide (s.size=12)=c2 at *
 generalize decide (s.size=0)=c3 at *
 have hk:k=1∨k=2∨k=3∨k=4∨k=5∨k=6∨k=7∨k=8∨k=9∨k=10∨k=11∨(k≠1∧k≠2∧k≠3∧k≠4∧k≠5∧k≠6∧k≠7∧k≠8∧k≠9∧k≠10∧k≠11):=by omega
 rcases hk with rfl|rfl|rfl|rfl|rfl|rfl|rfl|rfl|rfl|rfl|rfl|⟨n1,n2,n3,n4,n5,n6,n7,n8,n9,n10,n11⟩
 case inr.inr.inr.inr.inr.inr.inr.inr.inr.inr.inr=>
  have f:∀c:Int,k≠c→(k==c)=false:=fun c h=>by simpa using h
  simp only[bne,f _ n1,f _ n2,f _ n3,f _ n4,f _ n5,f _ n6,f _ n7,f _ n8,f _ n9,f _ n10,f _ n11]
  simp only[n1,n2,n3,n4,n5,n6,n7,n8,n9,n10,n11,or_self,if_false,decide_false]
  cases nl<;>cases nd<;>cases c3<;>cases (i==0)<;>rfl
 all_goals (rcases r0 with r0|r0<;>(have hr0:A=_:=hr0;subst hr0))
 all_goals simp(decide:=true) only[if_true,if_false]
 all_goals (cases nl<;>cases nd<;>cases c3<;>cases (i==0)<;>first|rfl|skip)
 all_goals (first|(cases B<;>first|rfl|(exact absurd (hl0 rfl) (by decide))|(exact absurd (hd0 rfl) (by decide))|skip)|skip)
 all_goals (cases u<;>cases c1<;>cases c2<;>first|rfl|(cases (i==1)<;>rfl)|(cases decide (0≤i)<;>rfl))
theorem ahN(v:ah)(hb:aW v.lf1≤100000000):Q26 v=some v.snd:=adW FU v (by have:=iw;omega) hb
def oP(v:ah):Bool:=decide (v.cnt≤1024)&&(decide (v.dep≤16)&&v.snd)
theorem mX(v:ah)(hb:aW v.lf1≤100000000):aoy v=some (oP v):=by
 simp only[aoy,akC,Mo.den,ak,aj,aA,au,ay,ahJ v hb,ahK v hb,ahN v hb,Option.bind_some,oP]
 rw[show decide (((min v.cnt 1025:Nat):Int)≤1024)=decide (v.cnt≤1024) by rw[Bool.eq_iff_iff];simp;omega,show decide (((min v.dep 17:Nat):Int)≤16)=decide (v.dep≤16) by rw[Bool.eq_iff_iff];simp;omega]
 cases decide (v.cnt≤1024)<;>cases decide (v.dep≤16)<;>rfl
end Go.Proofs.YtbdcaeahocbkbaaGreatDoor
set_option linter.unusedSimpArgs false
set_option linter.unusedVariables false
namespace Go.Proofs.YtbdcaeahocbkbaaGreatDoor
open Go.RowKit
end Go.Proofs.YtbdcaeahocbkbaaGreatDoor
set_option linter.unusedSimpArgs false
set_option linter.unusedVariables false
namespace Go.Proofs.YtbdcaeahocbkbaaGreatDoor
open Go.RowKit
theorem T.auL{α ρ:Type}{F:Int×List α→Option ((Int×List α)⊕ρ)}(Q:ρ→Prop)(step:∀(k:Nat) (m:List α),k≤100000000→m.length≤k→Tot (F ((k:Int),m)) (LP (fun v=>v.1=IntKind.wrap .i64 ((k:Int)+1)∧v.2.length≤k+1∧k<100000000) Q)):Tot (bQ F FU (0,[])) Q:=
 T.aqc (fun v=>v.1) (fun v=>(v.2.length:Int)≤v.1) Q rfl (Int.le_refl _) fun k s hk hs hP=>by
  obtain⟨i,m⟩:=s
  obtain rfl:i=(k:Int):=hs
  have hP:(m.length:Int)≤(k:Int):=hP
  refine T.mono (step k m hk (by omega)) ?_
  rintro(v|r) h
  ·refine⟨h.1,?_,h.2.2⟩
   have h1:=h.1
   have h2:=h.2.1
   show(v.2.length:Int)≤v.1
   rw[h1,inc k (by omega)];omega
  ·exact h
theorem jd(v:ah)(h:aW v.lf1≤100000000):Tot (aoy v) Any:=⟨_,mX v h,trivial⟩
theorem ES(a b:ByteArray):ar1 a b=some (BX a b):=rfl
theorem Xa(p:List ByteArray)(h:p.length≤100000000):atf p=some (!(p.all nameB)):=by
 have key:Tot (afy p 0) (fun r=>match r with|.inl k=>0≤k∧p.all nameB=false|.inr _=>p.all nameB=true):=by
  refine T.oh p.length (by omega) (fun k s=>s=(k:Int)∧(p.take k).all nameB=true) _ ⟨rfl,by simp⟩ ?_ ?_
  ·rintro k s hk ⟨rfl,hv⟩
   have hx:=List.getElem?_eq_getElem hk
   simp only[zV,Mo.den,ak,aj,aA,au,ay,ltt hx,gid hx,cond_true,Option.bind_some,ahL]
   cases hb:nameB p[k] with
   |false=>exact T.ret ⟨by omega,WZ _ hx hb⟩
   |true=>exact T.ret ⟨inc k (by omega),by rw[yQ _ hx,hv,hb];rfl⟩
  ·rintro s ⟨rfl,hv⟩
   simp only[zV,Mo.den,ak,aj,aA,au,ay,ltn,cond_false]
   exact T.ret (show p.all nameB=true by rw[List.take_length] at hv;exact hv)
 obtain⟨r,h1,hr⟩:=key
 simp only[atf,akM,avt,akL,Mo.den,ak,aj,aA,au,ay,h1,Option.bind_some]
 rcases r with r|r
 ·have hr:0≤r∧p.all nameB=false:=hr
  rw[hr.2]
  show some (decide (0≤r))=_
  rw[decide_eq_true hr.1];rfl
 ·have hr:p.all nameB=true:=hr
  rw[hr];rfl
theorem lC(p:List ByteArray):aoK p=some (sF p):=by
 unfold aoK akN PW PX vS sF
 simp only[Mo.den,ak,aj,aA,au,ay]
 by_cases h0:1≤p.length
 ·rw[decide_eq_true (show(1:Int)≤(p.length:Int) by omega), decide_eq_true h0]
  by_cases h1:p.length≤16
  ·rw[decide_eq_true (show(p.length:Int)≤16 by omega), decide_eq_true h1]
   simp only[cond_true,Option.bind_some,Xa p (by omega),Bool.not_not,Bool.true_and]
  ·rw[decide_eq_false (show ¬(p.length:Int)≤16 by omega),decide_eq_false h1];rfl
 ·rw[decide_eq_false (show ¬(1:Int)≤(p.length:Int) by omega),decide_eq_false h0];rfl
theorem MW(x:Int):0≤IntKind.wrap .u64 x∧IntKind.wrap .u64 x<18446744073709551616:=by
 rw[lU];omega
theorem avO{v:Int}(h:0≤v):gu .u64 v 7=((v.toNat/128:Nat):Int):=by
 obtain⟨a,rfl⟩:=Int.eq_ofNat_of_zero_le h
 rw[Int.toNat_natCast]
 show Int.fdiv (a:Int) (2^min (7:Int).toNat (IntKind.u64).bits)=_
 rw[show(2:Int)^min (7:Int).toNat (IntKind.u64).bits=((128:Nat):Int) from rfl,Int.fdiv_eq_ediv_of_nonneg _ (by omega)]
 omega
def grp(k:Nat)(v:Int):Prop:=0≤v∧v.toNat*128^k<18446744073709551616
theorem grp.next{k:Nat}{v:Int}(h:grp k v):grp (k+1) (gu .u64 v 7):=by
 rw[avO h.1]
 refine⟨by omega,?_⟩
 rw[Int.toNat_natCast,Nat.pow_succ,Nat.mul_comm (128^k) 128,←Nat.mul_assoc]
 exact Nat.lt_of_le_of_lt (Nat.mul_le_mul_right _ (Nat.div_mul_le_self _ _)) h.2
theorem grp.last{v:Int}(h:grp 10 v):decide ((128:Int)≤v)=false:=by
 have h1:=h.1
 have h2:=h.2
 refine decide_eq_false ?_
 have:(128:Nat)^10=1180591620717411303424:=by decide
 rw[this] at h2
 omega
theorem aqi(n:Int):∃u,akE n=some u∧grp 0 u:=by
 simp only[akE,acI,Mo.den,ak,aj,aA,au,ay]
 refine⟨_,rfl,?_⟩
 have h:∀a b:Int,0≤bZ .xor .u64 a b∧bZ .xor .u64 a b<18446744073709551616:=fun a b=>MW _
 have:=h (AU .u64 (IntKind.wrap .u64 n) 1) (IntKind.wrap .u64 (gu .i64 n 63))
 exact⟨this.1,by rw[Nat.pow_zero];omega⟩
theorem jC(n:Int):Tot (Q65 n) Any:=by
 obtain⟨u,hu,hg⟩:=aqi n
 unfold Q65 akG
 simp only[Mo.den,ak,aj,aA,au,ay,hu,Option.bind_some]
 refine T.bind (R:=Any) (T.oh 10 (by omega) (fun k s=>grp k s.2) _ hg ?_ ?_) fun _ _=>T.any
 ·rintro k ⟨c,v⟩ hk hv
  simp only[qU,Mo.den,ak,aj,aA,au,ay]
  exact T.ite (fun _=>T.ret hv.next) fun _=>T.ret trivial
 ·rintro⟨c,v⟩ hv
  have hv:grp 10 v:=hv
  simp only[qU,Mo.den,ak,aj,aA,au,ay,hv.last,cond_false]
  exact T.ret trivial
end Go.Proofs.YtbdcaeahocbkbaaGreatDoor
set_option linter.unusedSimpArgs false
set_option linter.unusedVariables false
namespace Go.Proofs.YtbdcaeahocbkbaaGreatDoor
open Go.RowKit
theorem uU(p_kind:Int):Tot (akk p_kind) Any:=by
 show MT (Kv p_kind) Any
 repeat' (first|exact MT.any|refine MT.say ?_|refine MT.ite (fun _=>?_) (fun _=>?_))
theorem jD(p_v:ah):Tot (Q12 p_v) Any:=by
 show MT (akl p_v) Any
 repeat' (first|exact MT.any|refine MT.say ?_|refine MT.ite (fun _=>?_) (fun _=>?_)|refine MT.lZ ?_ (fun _ _=>?_)|refine⟨(show MT _ Any from ?_)⟩)
theorem yR(p_s:aI):Tot (Q23 p_s) Any:=by
 show MT (akm p_s) Any
 repeat' (first|exact MT.any|refine MT.say ?_|refine MT.ite (fun _=>?_) (fun _=>?_)|refine MT.lZ ?_ (fun _ _=>?_)|exact⟨T.wk (jD _)⟩|refine⟨(show MT _ Any from ?_)⟩)
theorem AZ(p_d:cu):Tot (Q94 p_d) Any:=by
 show MT (akn p_d) Any
 repeat' (first|exact MT.any|refine MT.say ?_|refine MT.ite (fun _=>?_) (fun _=>?_)|refine MT.lZ ?_ (fun _ _=>?_)|exact⟨T.wk (yR _)⟩|refine⟨(show MT _ Any from ?_)⟩)
theorem CP(p_e:aT):Tot (Q11 p_e) Any:=by
 show MT (ako p_e) Any
 repeat' (first|exact MT.any|refine MT.say ?_|refine MT.ite (fun _=>?_) (fun _=>?_)|refine MT.lZ ?_ (fun _ _=>?_)|exact⟨T.wk (jD _)⟩|refine⟨(show MT _ Any from ?_)⟩)
theorem CQ(p_p:aP):Tot (Q20 p_p) Any:=by
 show MT (akp p_p) Any
 repeat' (first|exact MT.any|refine MT.say ?_|refine MT.ite (fun _=>?_) (fun _=>?_)|refine MT.lZ ?_ (fun _ _=>?_)|exact⟨T.wk (CP _)⟩|exact⟨T.wk (jD _)⟩|refine⟨(show MT _ Any from ?_)⟩)
theorem A8(p_x:aU):Tot (Q57 p_x) Any:=by
 show MT (akq p_x) Any
 repeat' (first|exact MT.any|refine MT.say ?_|refine MT.ite (fun _=>?_) (fun _=>?_)|refine MT.lZ ?_ (fun _ _=>?_)|exact⟨T.wk (CQ _)⟩|refine⟨(show MT _ Any from ?_)⟩)
theorem Ba(p_w:aH):Tot (Q29 p_w) Any:=by
 show MT (akr p_w) Any
 repeat' (first|exact MT.any|refine MT.say ?_|refine MT.ite (fun _=>?_) (fun _=>?_)|refine MT.lZ ?_ (fun _ _=>?_)|exact⟨T.wk (A8 _)⟩|exact⟨T.wk (AZ _)⟩|exact⟨T.wk (jD _)⟩|refine⟨(show MT _ Any from ?_)⟩)
theorem kW(p_w:aH):Tot (Q25 p_w) Any:=by
 show MT (aks p_w) Any
 refine MT.ask (R:=Any) ?_ ?_
 ·exact T.wk (uU p_w.aK)
 ·intro r3155 h3156 _
  refine MT.say (MT.ask (R:=Any) ?_ ?_)
  ·show MT (Kw p_w r3155) Any
   refine MT.ite (fun c3158=>?_) (fun c3158=>?_)
   ·(repeat refine MT.say ?_);exact MT.any
   ·(repeat refine MT.say ?_);exact MT.any
  ·intro r3160 h3161 _
   refine MT.say (MT.ask (R:=Any) ?_ ?_)
   ·show MT (Ky r3155 r3160) Any
    refine MT.ite (fun c3163=>?_) (fun c3163=>?_)
    ·(repeat refine MT.say ?_);exact MT.any
    ·(repeat refine MT.say ?_);exact MT.any
   ·intro r3165 h3166 _
    refine MT.say (MT.ask (R:=Any) ?_ ?_)
    ·show MT (Gt r3155 r3165) Any
     refine MT.ite (fun c3168=>?_) (fun c3168=>?_)
     ·(repeat refine MT.say ?_);exact MT.any
     ·(repeat refine MT.say ?_);exact MT.any
    ·intro r3170 h3171 _
     refine MT.say (MT.ask (R:=Any) ?_ ?_)
     ·show MT (Gu r3155 r3170) Any
      refine MT.ite (fun c3173=>?_) (fun c3173=>?_)
      ·(repeat refine MT.say ?_);exact MT.any
      ·(repeat refine MT.say ?_);exact MT.any
     ·intro r3175 h3176 _
      refine MT.say (MT.ask (R:=Any) ?_ ?_)
      ·show MT (Gv r3155 r3175) Any
       refine MT.ite (fun c3178=>?_) (fun c3178=>?_)
       ·(repeat refine MT.say ?_);exact MT.any
       ·(repeat refine MT.say ?_);exact MT.any
      ·intro r3180 h3181 _
       refine MT.say (MT.ask (R:=Any) ?_ ?_)
       ·show MT (Gw r3155 r3180) Any
        refine MT.ite (fun c3183=>?_) (fun c3183=>?_)
        ·(repeat refine MT.say ?_);exact MT.any
        ·(repeat refine MT.say ?_);exact MT.any
       ·intro r3185 h3186 _
        refine MT.say (MT.ask (R:=Any) ?_ ?_)
        ·show MT (Gx r3155 r3185) Any
         refine MT.ite (fun c3188=>?_) (fun c3188=>?_)
         ·(repeat refine MT.say ?_);exact MT.any
         ·(repeat refine MT.say ?_);exact MT.any
        ·intro r3190 h3191 _
         refine MT.say (MT.ask (R:=Any) ?_ ?_)
         ·show MT (Gy r3155 r3190) Any
          refine MT.ite (fun c3193=>?_) (fun c3193=>?_)
          ·(repeat refine MT.say ?_);exact MT.any
          ·(repeat refine MT.say ?_);exact MT.any
         ·intro r3195 h3196 _
          refine MT.say (MT.ask (R:=Any) ?_ ?_)
          ·show MT (Gz r3155 r3195) Any
           refine MT.ite (fun c3198=>?_) (fun c3198=>?_)
           ·(repeat refine MT.say ?_);exact MT.any
           ·(repeat refine MT.say ?_);exact MT.any
          ·intro r3200 h3201 _
           refine MT.say (MT.ask (R:=Any) ?_ ?_)
           ·show MT (GH r3155 r3200) Any
            refine MT.ite (fun c3203=>?_) (fun c3203=>?_)
            ·(repeat refine MT.say ?_);exact MT.any
            ·(repeat refine MT.say ?_);exact MT.any
           ·intro r3205 h3206 _
            refine MT.say (MT.ask (R:=Any) ?_ ?_)
            ·exact T.wk (Ba r3205)
            ·intro r3471 h3472 _
             (repeat refine MT.say ?_);exact MT.any
theorem yS(p_w:aH):Tot (as3 p_w) Any:=by
 show MT (acF p_w) Any
 repeat' (first|exact MT.any|refine MT.say ?_|refine MT.ite (fun _=>?_) (fun _=>?_)|refine MT.lZ ?_ (fun _ _=>?_)|refine⟨(show MT _ Any from ?_)⟩)
theorem xM(p_l:List Int)(h_p_l:bM (p_l.map lfI)≤100000000):Tot (Q48 p_l) Any:=by
 have:=jB p_l
 show MT (akt p_l) Any
 refine MT.say (MT.lD (R:=Any) ?_ ?_ ?_)
 ·refine T.cnt (fun _=>True) ?_
  intro k1 hk1
  show MT (uo p_l ((k1:Nat):Int)) _
  refine MT.ite (fun c3638=>?_) (fun c3638=>?_)
  ·have c3638':=of_decide_eq_true c3638
   refine MT.say (MT.ask (fC p_l ((k1:Nat):Int) (by omega) (by omega)) (fun x3639 _ hx2=>?_))
   refine MT.say (MT.ask (R:=fun b_=>(b_=true→True)∧(b_=false→¬((x3639:Int)<0)∧¬((8:Int)≤x3639)∧True)) ?_ ?_)
   ·show MT (Kz p_l ((k1:Nat):Int) x3639) _
    refine MT.ite (fun c3641=>?_) (fun c3641=>?_)
    ·have c3641':=of_decide_eq_true c3641
     (repeat refine MT.say ?_);exact MT.ret ⟨(fun _=>trivial),(fun h_=>by cases h_)⟩
    ·have c3641':=of_decide_eq_false c3641
     (repeat refine MT.say ?_);exact MT.ret ⟨(fun _=>trivial),(fun h_=>⟨(by first|assumption|omega),(of_decide_eq_false h_),trivial⟩)⟩
   ·intro r3643 h3644 f_r3643
    refine MT.say (MT.ask (R:=fun b_=>(b_=true→True)∧(b_=false→r3643=false∧True)) ?_ ?_)
    ·show MT (KA p_l r3643 ((k1:Nat):Int) x3639) _
     refine MT.ite (fun c3645=>?_) (fun c3645=>?_)
     ·(repeat refine MT.say ?_);exact MT.ret ⟨(fun _=>trivial),(fun h_=>by cases h_)⟩
     ·have q3:=f_r3643.2 (c3645)
      refine MT.say (MT.ite (fun c3646=>?_) (fun c3646=>?_))
      ·have c3646':=of_decide_eq_true c3646
       refine MT.say (MT.ask (fC p_l (IntKind.wrap .i64 (((k1:Nat):Int)-1)) (by rw[w64 (by omega) (by omega)];omega) (by rw[w64 (by omega) (by omega)];omega)) (fun x3647 _ hx4=>?_))
       (repeat refine MT.say ?_);exact MT.ret ⟨(fun _=>trivial),(fun h_=>⟨(by first|assumption|omega),trivial⟩)⟩
      ·have c3646':=of_decide_eq_false c3646
       (repeat refine MT.say ?_);exact MT.ret ⟨(fun h_=>by cases h_),(fun h_=>⟨(by first|assumption|omega),trivial⟩)⟩
    ·intro r3650 h3651 f_r3650
     refine MT.say (MT.ite (fun c3652=>?_) (fun c3652=>?_))
     ·(repeat refine MT.say ?_);exact MT.ret trivial
     ·have q5:=f_r3650.2 (c3652)
      have q6:=f_r3643.2 (q5.1)
      (repeat refine MT.say ?_);exact MT.ret ⟨rfl,by omega⟩
  ·have c3638':=of_decide_eq_false c3638
   (repeat refine MT.say ?_);exact MT.ret trivial
 ·intro o3655 h3654 _
  (repeat refine MT.say ?_);exact MT.any
 ·intro o3656 h3654 _
  (repeat refine MT.say ?_);exact MT.any
theorem wI(p_v:ah)(h_p_v:aW p_v.lf1≤100000000):Tot (Q97 p_v) Any:=by
 have:=dA p_v
 show MT (akD p_v) Any
 repeat' (first|exact MT.any|refine MT.say ?_|refine MT.ite (fun _=>?_) (fun _=>?_)|refine MT.lZ ?_ (fun _ _=>?_)|exact⟨T.wk (jd _ (by first|omega|decide))⟩|refine⟨(show MT _ Any from ?_)⟩)
theorem ET(p_x:Int):Tot (aoi p_x) Any:=by
 show MT (U5 p_x) Any
 repeat' (first|exact MT.any|refine MT.say ?_|refine MT.ite (fun _=>?_) (fun _=>?_))
theorem jZ(p_x:Int)(p_y:Int):Tot (aoz p_x p_y) Any:=by
 show MT (acG p_x p_y) Any
 repeat' (first|exact MT.any|refine MT.say ?_|refine MT.ite (fun _=>?_) (fun _=>?_)|refine MT.lZ ?_ (fun _ _=>?_)|exact⟨T.wk (ET _)⟩)
theorem rE(n_:Nat):∀(p_a:ah) (p_b:ah),aW p_a.lf1<n_→aW p_a.lf1≤100000000→aW p_b.lf1≤100000000→Tot ((jv n_).m1 p_a p_b) Any:=by
 induction n_ with
 |zero=>intro p_a p_b h;omega
 |succ n_ ih=>
  intro p_a p_b h_ h_p_a h_p_b
  have:=dA p_a
  have:=fV p_a.bF
  have:=gG p_a.bC
  have:=dA p_b
  have:=fV p_b.bF
  have:=gG p_b.bC
  show MT (KG (jv n_) p_a p_b) Any
  refine MT.ite (fun c4550=>?_) (fun c4550=>?_)
  ·have c4550':¬(p_a.aK=p_b.aK):=by simpa using c4550
   refine MT.say (MT.ask (R:=Any) ?_ ?_)
   ·exact T.wk (jZ p_a.aK p_b.aK )
   ·intro r4553 h4554 _
    (repeat refine MT.say ?_);exact MT.any
  ·have c4550':p_a.aK=p_b.aK:=by simpa using c4550
   refine MT.say (MT.ask (R:=Any) ?_ ?_)
   ·show MT (KE (jv n_) p_a p_b) Any
    refine MT.ite (fun c4753=>?_) (fun c4753=>?_)
    ·have c4753':p_a.aK=3:=by simpa using c4753
     (repeat refine MT.say ?_);exact MT.any
    ·have c4753':¬(p_a.aK=3):=by simpa using c4753
     refine MT.say (MT.ite (fun c4754=>?_) (fun c4754=>?_))
     ·have c4754':p_a.aK=9:=by simpa using c4754
      (repeat refine MT.say ?_);exact MT.any
     ·have c4754':¬(p_a.aK=9):=by simpa using c4754
      (repeat refine MT.say ?_);exact MT.any
   ·intro r4756 h4757 _
    refine MT.say (MT.ite (fun c4839=>?_) (fun c4839=>?_))
    ·refine MT.say (MT.ask (R:=Any) ?_ ?_)
     ·exact T.wk (jZ p_a.je p_b.je )
     ·intro r4842 h4843 _
      (repeat refine MT.say ?_);exact MT.any
    ·refine MT.say (MT.ask (R:=Any) ?_ ?_)
     ·show MT (KF (jv n_) p_a p_b) Any
      refine MT.ite (fun c4844=>?_) (fun c4844=>?_)
      ·have c4844':p_a.aK=4:=by simpa using c4844
       (repeat refine MT.say ?_);exact MT.any
      ·have c4844':¬(p_a.aK=4):=by simpa using c4844
       refine MT.say (MT.ite (fun c4845=>?_) (fun c4845=>?_))
       ·have c4845':p_a.aK=7:=by simpa using c4845
        (repeat refine MT.say ?_);exact MT.any
       ·have c4845':¬(p_a.aK=7):=by simpa using c4845
        (repeat refine MT.say ?_);exact MT.any
     ·intro r4847 h4848 _
      refine MT.say (MT.ite (fun c4922=>?_) (fun c4922=>?_))
      ·refine MT.say (MT.ask (R:=Any) ?_ ?_)
       ·exact T.wk (T.val (ES p_a.fText p_b.fText))
       ·intro r4925 h4926 _
        (repeat refine MT.say ?_);exact MT.any
      ·refine MT.say (MT.ite (fun c4997=>?_) (fun c4997=>?_))
       ·have c4997':p_a.aK=6:=by simpa using c4997
        refine MT.say (MT.lD (R:=Any) ?_ ?_ ?_)
        ·refine T.cnt (fun _=>True) ?_
         intro k7 hk7
         show MT (uq (jv n_) p_a p_b ((k7:Nat):Int)) _
         refine MT.ite (fun c5007=>?_) (fun c5007=>?_)
         ·have c5007':=of_decide_eq_true c5007
          refine MT.say (MT.ask (fC p_a.bF ((k7:Nat):Int) (by omega) (by omega)) (fun x5008 _ hx8=>?_))
          have:=jg hx8
          have:=dA x5008
          refine MT.say (MT.ask (fC p_b.bF ((k7:Nat):Int) (by omega) (by omega)) (fun x5010 _ hx9=>?_))
          have:=jg hx9
          have:=dA x5010
          refine MT.say (MT.ask (R:=Any) ?_ ?_)
          ·exact(ih x5008 x5010 (by omega) (by first|omega|(simp;done)|decide) (by first|omega|(simp;done)|decide))
          ·intro r5012 h5013 _
           refine MT.say (MT.ite (fun c5014=>?_) (fun c5014=>?_))
           ·have c5014':¬(r5012=0):=by simpa using c5014
            (repeat refine MT.say ?_);exact MT.ret trivial
           ·have c5014':r5012=0:=by simpa using c5014
            (repeat refine MT.say ?_);exact MT.ret ⟨rfl,by omega⟩
         ·have c5007':=of_decide_eq_false c5007
          (repeat refine MT.say ?_);exact MT.ret trivial
        ·intro o5020 h5019 _
         (repeat refine MT.say ?_);exact MT.any
        ·intro o5021 h5019 _
         refine MT.say (MT.ask (R:=Any) ?_ ?_)
         ·exact T.wk (jZ (p_a.bF.length:Int) (p_b.bF.length:Int) )
         ·intro r5024 h5025 _
          (repeat refine MT.say ?_);exact MT.any
       ·have c4997':¬(p_a.aK=6):=by simpa using c4997
        refine MT.say (MT.ite (fun c5069=>?_) (fun c5069=>?_))
        ·have c5069':p_a.aK=5:=by simpa using c5069
         refine MT.say (MT.lD (R:=Any) ?_ ?_ ?_)
         ·refine T.cnt (fun _=>True) ?_
          intro k10 hk10
          show MT (uw (jv n_) p_a p_b ((k10:Nat):Int)) _
          refine MT.ite (fun c5086=>?_) (fun c5086=>?_)
          ·have c5086':=of_decide_eq_true c5086
           refine MT.say (MT.ask (fC p_a.bC ((k10:Nat):Int) (by omega) (by omega)) (fun x5087 _ hx11=>?_))
           have:=gB hx11
           have:=fP x5087
           refine MT.say (MT.ask (fC p_b.bC ((k10:Nat):Int) (by omega) (by omega)) (fun x5089 _ hx12=>?_))
           have:=gB hx12
           have:=fP x5089
           refine MT.say (MT.ask (R:=Any) ?_ ?_)
           ·exact T.wk (T.val (ES x5087.fName x5089.fName))
           ·intro r5091 h5092 _
            refine MT.say (MT.ite (fun c5093=>?_) (fun c5093=>?_))
            ·have c5093':¬(r5091=0):=by simpa using c5093
             (repeat refine MT.say ?_);exact MT.ret trivial
            ·have c5093':r5091=0:=by simpa using c5093
             refine MT.say (MT.ask (fC p_a.bC ((k10:Nat):Int) (by omega) (by omega)) (fun x5094 _ hx13=>?_))
             have:=gB hx13
             have:=fP x5094
             have:=dA x5094.fValue
             refine MT.say (MT.ask (fC p_b.bC ((k10:Nat):Int) (by omega) (by omega)) (fun x5096 _ hx14=>?_))
             have:=gB hx14
             have:=fP x5096
             have:=dA x5096.fValue
             refine MT.say (MT.ask (R:=Any) ?_ ?_)
             ·exact(ih x5094.fValue x5096.fValue (by omega) (by first|omega|(simp;done)|decide) (by first|omega|(simp;done)|decide))
             ·intro r5098 h5099 _
              refine MT.say (MT.ite (fun c5100=>?_) (fun c5100=>?_))
              ·have c5100':¬(r5098=0):=by simpa using c5100
               (repeat refine MT.say ?_);exact MT.ret trivial
              ·have c5100':r5098=0:=by simpa using c5100
               (repeat refine MT.say ?_);exact MT.ret ⟨rfl,by omega⟩
          ·have c5086':=of_decide_eq_false c5086
           (repeat refine MT.say ?_);exact MT.ret trivial
         ·intro o5108 h5107 _
          (repeat refine MT.say ?_);exact MT.any
         ·intro o5109 h5107 _
          refine MT.say (MT.ask (R:=Any) ?_ ?_)
          ·exact T.wk (jZ (p_a.bC.length:Int) (p_b.bC.length:Int) )
          ·intro r5112 h5113 _
           (repeat refine MT.say ?_);exact MT.any
        ·have c5069':¬(p_a.aK=5):=by simpa using c5069
         (repeat refine MT.say ?_);exact MT.any
theorem sH(p_a:ah)(p_b:ah)(h_p_a:aW p_a.lf1≤100000000)(h_p_b:aW p_b.lf1≤100000000):Tot (Q37 p_a p_b) Any:=rE FU p_a p_b (by have:=iw;omega) h_p_a h_p_b
theorem IV(p_a:ah)(p_b:ah)(h_p_a:aW p_a.lf1≤100000000)(h_p_b:aW p_b.lf1≤100000000):Tot (aoB p_a p_b) Any:=by
 have:=dA p_a
 have:=dA p_b
 show MT (acH p_a p_b) Any
 repeat' (first|exact MT.any|refine MT.say ?_|refine MT.ite (fun _=>?_) (fun _=>?_)|refine MT.lZ ?_ (fun _ _=>?_)|exact⟨T.wk (sH _ _ (by first|omega|decide) (by first|omega|decide))⟩)
theorem EU(n_:Nat):∀(p_v:ah),aW p_v.lf1<n_→aW p_v.lf1≤100000000→Tot ((ny n_).m1 p_v) Any:=by
 induction n_ with
 |zero=>intro p_v h;omega
 |succ n_ ih=>
  intro p_v h_ h_p_v
  have:=dA p_v
  have:=fV p_v.bF
  have:=gG p_v.bC
  show MT (YM (ny n_) p_v) Any
  refine MT.ask (R:=Any) ?_ ?_
  ·show MT (GK (ny n_) p_v) Any
   refine MT.ask (R:=Any) ?_ ?_
   ·show MT (KJ (ny n_) p_v) Any
    refine MT.ite (fun c5241=>?_) (fun c5241=>?_)
    ·have c5241':p_v.aK=3:=by simpa using c5241
     (repeat refine MT.say ?_);exact MT.any
    ·have c5241':¬(p_v.aK=3):=by simpa using c5241
     (repeat refine MT.say ?_);exact MT.any
   ·intro r5243 h5244 _
    refine MT.say (MT.ite (fun c5245=>?_) (fun c5245=>?_))
    ·refine MT.say (MT.ask (R:=Any) ?_ ?_)
     ·exact T.wk (jC p_v.je )
     ·intro r5246 h5247 _
      (repeat refine MT.say ?_);exact MT.any
    ·refine MT.say (MT.ite (fun c5248=>?_) (fun c5248=>?_))
     ·have c5248':p_v.aK=9:=by simpa using c5248
      (repeat refine MT.say ?_);exact MT.any
     ·have c5248':¬(p_v.aK=9):=by simpa using c5248
      refine MT.say (MT.ask (R:=Any) ?_ ?_)
      ·show MT (KL (ny n_) p_v) Any
       refine MT.ite (fun c5249=>?_) (fun c5249=>?_)
       ·have c5249':p_v.aK=4:=by simpa using c5249
        (repeat refine MT.say ?_);exact MT.any
       ·have c5249':¬(p_v.aK=4):=by simpa using c5249
        (repeat refine MT.say ?_);exact MT.any
      ·intro r5251 h5252 _
       refine MT.say (MT.ite (fun c5253=>?_) (fun c5253=>?_))
       ·refine MT.say (MT.ask (R:=Any) ?_ ?_)
        ·exact T.wk (jC (p_v.fText.size:Int) )
        ·intro r5254 h5255 _
         (repeat refine MT.say ?_);exact MT.any
       ·refine MT.say (MT.ite (fun c5256=>?_) (fun c5256=>?_))
        ·have c5256':p_v.aK=8:=by simpa using c5256
         (repeat refine MT.say ?_);exact MT.any
        ·have c5256':¬(p_v.aK=8):=by simpa using c5256
         refine MT.say (MT.ite (fun c5257=>?_) (fun c5257=>?_))
         ·have c5257':p_v.aK=6:=by simpa using c5257
          refine MT.say (MT.ask (R:=Any) ?_ ?_)
          ·exact T.wk (jC (p_v.bF.length:Int) )
          ·intro r5258 h5259 _
           refine MT.say (MT.ask (R:=Any) ?_ ?_)
           ·refine T.auI (fun _=>True) ?_
            intro v5265 k15 hk15
            show MT (uy (ny n_) p_v (v5265,((k15:Nat):Int))) _
            refine MT.ite (fun c5267=>?_) (fun c5267=>?_)
            ·have c5267':=of_decide_eq_true c5267
             refine MT.say (MT.ask (fC p_v.bF ((k15:Nat):Int) (by omega) (by omega)) (fun x5268 _ hx16=>?_))
             have:=jg hx16
             have:=dA x5268
             refine MT.say (MT.ask (R:=Any) ?_ ?_)
             ·exact(ih x5268 (by omega) (by first|omega|(simp;done)|decide))
             ·intro r5270 h5271 _
              (repeat refine MT.say ?_);exact MT.ret ⟨rfl,by omega⟩
            ·have c5267':=of_decide_eq_false c5267
             (repeat refine MT.say ?_);exact MT.ret trivial
           ·intro r5273 h5274 _
            (repeat refine MT.say ?_);exact MT.any
         ·have c5257':¬(p_v.aK=6):=by simpa using c5257
          refine MT.say (MT.ite (fun c5275=>?_) (fun c5275=>?_))
          ·have c5275':p_v.aK=5:=by simpa using c5275
           refine MT.say (MT.ask (R:=Any) ?_ ?_)
           ·exact T.wk (jC (p_v.bC.length:Int) )
           ·intro r5276 h5277 _
            refine MT.say (MT.ask (R:=Any) ?_ ?_)
            ·refine T.auI (fun _=>True) ?_
             intro v5285 k17 hk17
             show MT (uz (ny n_) p_v (v5285,((k17:Nat):Int))) _
             refine MT.ite (fun c5287=>?_) (fun c5287=>?_)
             ·have c5287':=of_decide_eq_true c5287
              refine MT.say (MT.ask (fC p_v.bC ((k17:Nat):Int) (by omega) (by omega)) (fun x5288 _ hx18=>?_))
              have:=gB hx18
              have:=fP x5288
              have:=dA x5288.fValue
              refine MT.say (MT.ask (R:=Any) ?_ ?_)
              ·exact T.wk (jC (x5288.fName.size:Int) )
              ·intro r5290 h5291 _
               refine MT.say (MT.ask (R:=Any) ?_ ?_)
               ·exact(ih x5288.fValue (by omega) (by first|omega|(simp;done)|decide))
               ·intro r5292 h5293 _
                (repeat refine MT.say ?_);exact MT.ret ⟨rfl,by omega⟩
             ·have c5287':=of_decide_eq_false c5287
              (repeat refine MT.say ?_);exact MT.ret trivial
            ·intro r5295 h5296 _
             (repeat refine MT.say ?_);exact MT.any
          ·have c5275':¬(p_v.aK=5):=by simpa using c5275
           (repeat refine MT.say ?_);exact MT.any
  ·intro r5303 h5304 _
   (repeat refine MT.say ?_);exact MT.any
theorem H7(p_v:ah)(h_p_v:aW p_v.lf1≤100000000):Tot (Q34 p_v) Any:=EU FU p_v (by have:=iw;omega) h_p_v
theorem H8(p_v:ah)(h_p_v:aW p_v.lf1≤100000000):Tot (akH p_v) Any:=by
 have:=dA p_v
 show MT (acJ p_v) Any
 repeat' (first|exact MT.any|refine MT.say ?_|refine MT.ite (fun _=>?_) (fun _=>?_)|refine MT.lZ ?_ (fun _ _=>?_)|exact⟨T.wk (H7 _ (by first|omega|decide))⟩|exact⟨T.wk (jd _ (by first|omega|decide))⟩)
theorem nT(p_doc:ah)(p_key:ah)(h_p_doc:aW p_doc.lf1≤100000000)(h_p_key:aW p_key.lf1≤100000000):Tot (Q84 p_doc p_key) Any:=by
 have:=dA p_doc
 have:=gG p_doc.bC
 have:=dA p_key
 show MT (akI p_doc p_key) Any
 refine MT.ask (R:=fun b_=>(b_=true→True)∧(b_=false→p_doc.aK=5∧True)) ?_ ?_
 ·show MT (KN p_doc p_key) _
  refine MT.ite (fun c4511=>?_) (fun c4511=>?_)
  ·have c4511':¬(p_doc.aK=5):=by simpa using c4511
   (repeat refine MT.say ?_);exact MT.ret ⟨(fun _=>trivial),(fun h_=>by cases h_)⟩
  ·have c4511':p_doc.aK=5:=by simpa using c4511
   refine MT.say (MT.ask (R:=Any) ?_ ?_)
   ·exact T.wk (jd p_doc (by first|omega|(simp;done)|decide))
   ·intro r4512 h4513 _
    (repeat refine MT.say ?_);exact MT.ret ⟨(fun _=>trivial),(fun h_=>⟨(by first|assumption|omega),trivial⟩)⟩
 ·intro r4515 h4516 f_r4515
  refine MT.say (MT.ask (R:=fun b_=>(b_=true→True)∧(b_=false→r4515=false∧¬((p_doc.bC.length:Int)=0)∧True)) ?_ ?_)
  ·show MT (KO p_doc p_key r4515) _
   refine MT.ite (fun c4517=>?_) (fun c4517=>?_)
   ·(repeat refine MT.say ?_);exact MT.ret ⟨(fun _=>trivial),(fun h_=>by cases h_)⟩
   ·have q19:=f_r4515.2 (c4517)
    (repeat refine MT.say ?_);exact MT.ret ⟨(fun _=>trivial),(fun h_=>⟨(by first|assumption|omega),(by simpa using h_),trivial⟩)⟩
  ·intro r4519 h4520 f_r4519
   refine MT.say (MT.ite (fun c4522=>?_) (fun c4522=>?_))
   ·(repeat refine MT.say ?_);exact MT.any
   ·have q20:=f_r4519.2 (c4522)
    have q21:=f_r4515.2 (q20.1)
    refine MT.say (MT.ask (R:=Any) ?_ ?_)
    ·show MT (GL p_doc p_key) Any
     refine MT.ask (fC p_doc.bC 0 (by omega) (by omega)) (fun x5118 _ hx22=>?_)
     have:=gB hx22
     have:=fP x5118
     refine MT.say (MT.ite (fun c5120=>?_) (fun c5120=>?_))
     ·(repeat refine MT.say ?_);exact MT.any
     ·refine MT.say (MT.ask (fC p_doc.bC 0 (by omega) (by omega)) (fun x5121 _ hx23=>?_))
      have:=gB hx23
      have:=fP x5121
      have:=dA x5121.fValue
      refine MT.say (MT.ask (R:=Any) ?_ ?_)
      ·exact T.wk (IV x5121.fValue p_key (by first|omega|(simp;done)|decide) (by first|omega|(simp;done)|decide))
      ·intro r5123 h5124 _
       (repeat refine MT.say ?_);exact MT.any
    ·intro r5128 h5129 _
     refine MT.say (MT.ite (fun c5131=>?_) (fun c5131=>?_))
     ·(repeat refine MT.say ?_);exact MT.any
     ·refine MT.say (MT.ask (R:=Any) ?_ ?_)
      ·exact T.wk (H8 p_doc (by first|omega|(simp;done)|decide))
      ·intro r5309 h5310 _
       refine MT.say (MT.ite (fun c5312=>?_) (fun c5312=>?_))
       ·have c5312':¬(r5309.2=0):=by simpa using c5312
        (repeat refine MT.say ?_);exact MT.any
       ·have c5312':r5309.2=0:=by simpa using c5312
        refine MT.say (MT.ite (fun c5314=>?_) (fun c5314=>?_))
        ·have c5314':=of_decide_eq_true c5314
         (repeat refine MT.say ?_);exact MT.any
        ·have c5314':=of_decide_eq_false c5314
         (repeat refine MT.say ?_);exact MT.any
theorem Bc(p_w:aH)(h_p_w:aW p_w.lf1≤100000000):Tot (atc p_w) Any:=by
 have:=jl p_w
 have:=dA p_w.jh
 have:=dA p_w.bC
 have:=dA p_w.eX
 show MT (acK p_w) Any
 repeat' (first|exact MT.any|refine MT.say ?_|refine MT.ite (fun _=>?_) (fun _=>?_)|refine MT.lZ ?_ (fun _ _=>?_)|refine MT.aro ?_ (fun _ _=>?_) (fun _ _=>?_)|exact⟨T.wk (wI _ (by first|omega|decide))⟩|exact⟨T.wk (nT _ _ (by first|omega|decide) (by first|omega|decide))⟩|exact⟨T.wk (jD _)⟩|refine⟨(show MT _ Any from ?_)⟩)
theorem uV(p_s1:List ByteArray)(p_s2:List ByteArray)(h_p_s1:bM (p_s1.map lfS)≤100000000)(h_p_s2:bM (p_s2.map lfS)≤100000000):Tot (aoM p_s1 p_s2) Any:=by
 have:=fB p_s1
 have:=fB p_s2
 show MT (acL p_s1 p_s2) Any
 refine MT.say (MT.ite (fun c5719=>?_) (fun c5719=>?_))
 ·have c5719':¬((p_s1.length:Int)=(p_s2.length:Int)):=by simpa using c5719
  (repeat refine MT.say ?_);exact MT.any
 ·have c5719':(p_s1.length:Int)=(p_s2.length:Int):=by simpa using c5719
  refine MT.say (MT.lD (R:=Any) ?_ ?_ ?_)
  ·refine T.cnt (fun _=>True) ?_
   intro k24 hk24
   show MT (uD p_s1 p_s2 ((k24:Nat):Int)) _
   refine MT.ite (fun c5755=>?_) (fun c5755=>?_)
   ·have c5755':=of_decide_eq_true c5755
    refine MT.say (MT.ask (fC p_s1 ((k24:Nat):Int) (by omega) (by omega)) (fun x5756 _ hx25=>?_))
    have:=Jq hx25
    refine MT.say (MT.ask (fC p_s2 ((k24:Nat):Int) (by omega) (by omega)) (fun x5758 _ hx26=>?_))
    have:=Jq hx26
    refine MT.say (MT.ite (fun c5760=>?_) (fun c5760=>?_))
    ·(repeat refine MT.say ?_);exact MT.ret trivial
    ·(repeat refine MT.say ?_);exact MT.ret ⟨rfl,by omega⟩
   ·have c5755':=of_decide_eq_false c5755
    (repeat refine MT.say ?_);exact MT.ret trivial
  ·intro o5763 h5762 _
   (repeat refine MT.say ?_);exact MT.any
  ·intro o5764 h5762 _
   (repeat refine MT.say ?_);exact MT.any
theorem IW(p_l:List bf)(h_p_l:bM (p_l.map bf.lf)≤100000000):Tot (Q96 p_l) Any:=by
 have:=jO p_l
 show MT (akO p_l) Any
 refine MT.say (MT.ite (fun c5697=>?_) (fun c5697=>?_))
 ·have c5697':=of_decide_eq_true c5697
  (repeat refine MT.say ?_);exact MT.any
 ·have c5697':=of_decide_eq_false c5697
  refine MT.say (MT.lD (R:=Any) ?_ ?_ ?_)
  ·refine T.cnt (fun _=>True) ?_
   intro k27 hk27
   have:=nN bf.lf p_l (((k27:Nat):Int).toNat)
   have:=jO (p_l.take ((k27:Nat):Int).toNat)
   show MT (yt p_l ((k27:Nat):Int)) _
   refine MT.ite (fun c5882=>?_) (fun c5882=>?_)
   ·have c5882':=of_decide_eq_true c5882
    refine MT.say (MT.ask (fC p_l ((k27:Nat):Int) (by omega) (by omega)) (fun x5883 _ hx28=>?_))
    have:=qN hx28
    have:=lV x5883
    have:=fB x5883.cZ
    refine MT.say (MT.ask (R:=Any) ?_ ?_)
    ·exact T.wk (T.val (lC x5883.cZ))
    ·intro r5885 h5886 _
     refine MT.say (MT.ite (fun c5887=>?_) (fun c5887=>?_))
     ·(repeat refine MT.say ?_);exact MT.ret trivial
     ·refine MT.say (MT.grd (by omega) (fun _=>?_))
      refine MT.say (MT.lD (R:=Any) ?_ ?_ ?_)
      ·refine T.cnt (fun _=>True) ?_
       intro k29 hk29
       have:=nN bf.lf p_l (((k27:Nat):Int).toNat)
       have:=jO (p_l.take ((k27:Nat):Int).toNat)
       show MT (yj p_l ((k27:Nat):Int) x5883 ((k29:Nat):Int)) _
       refine MT.ite (fun c5896=>?_) (fun c5896=>?_)
       ·have c5896':=of_decide_eq_true c5896
        refine MT.say (MT.ask (fC (p_l.take ((k27:Nat):Int).toNat) ((k29:Nat):Int) (by omega) (by omega)) (fun x5897 _ hx30=>?_))
        have:=nN bf.lf p_l (((k27:Nat):Int).toNat)
        have:=qN hx30
        have:=lV x5897
        have:=fB x5897.cZ
        refine MT.say (MT.ask (R:=Any) ?_ ?_)
        ·exact T.wk (uV x5897.cZ x5883.cZ (by first|omega|(simp;done)|decide) (by first|omega|(simp;done)|decide))
        ·intro r5899 h5900 _
         refine MT.say (MT.ite (fun c5901=>?_) (fun c5901=>?_))
         ·(repeat refine MT.say ?_);exact MT.ret trivial
         ·(repeat refine MT.say ?_);exact MT.ret ⟨rfl,by omega⟩
       ·have c5896':=of_decide_eq_false c5896
        (repeat refine MT.say ?_);exact MT.ret trivial
      ·intro o5904 h5903 _
       (repeat refine MT.say ?_);exact MT.ret trivial
      ·intro o5905 h5903 _
       (repeat refine MT.say ?_);exact MT.ret ⟨rfl,by omega⟩
   ·have c5882':=of_decide_eq_false c5882
    (repeat refine MT.say ?_);exact MT.ret trivial
  ·intro o5909 h5908 _
   (repeat refine MT.say ?_);exact MT.any
  ·intro o5910 h5908 _
   (repeat refine MT.say ?_);exact MT.any
theorem Bd(n_:Nat):∀(p_p:aP) (p_level:Int) (p_b0:Int),aW p_p.lf1<n_→aW p_p.lf1≤100000000→Tot ((qV n_).m1 p_p p_level p_b0) Any:=by
 induction n_ with
 |zero=>intro p_p p_level p_b0 h;omega
 |succ n_ ih=>
  intro p_p p_level p_b0 h_ h_p_p
  have:=gy p_p
  have:=kJ p_p.bJ
  show MT (KP (qV n_) p_p p_level p_b0) Any
  refine MT.ask (R:=fun b_=>(b_=true→True)∧(b_=false→¬((16:Int)<p_level)∧¬(p_b0=256)∧True)) ?_ ?_
  ·show MT (DN (qV n_) p_b0 p_level p_p) _
   refine MT.ite (fun c5936=>?_) (fun c5936=>?_)
   ·have c5936':=of_decide_eq_true c5936
    (repeat refine MT.say ?_);exact MT.ret ⟨(fun _=>trivial),(fun h_=>by cases h_)⟩
   ·have c5936':=of_decide_eq_false c5936
    (repeat refine MT.say ?_);exact MT.ret ⟨(fun _=>trivial),(fun h_=>⟨(by first|assumption|omega),(by simpa using h_),trivial⟩)⟩
  ·intro r5938 h5939 f_r5938
   refine MT.say (MT.ite (fun c5941=>?_) (fun c5941=>?_))
   ·(repeat refine MT.say ?_);exact MT.any
   ·have q31:=f_r5938.2 (c5941)
    refine MT.say (MT.lD (R:=Any) ?_ ?_ ?_)
    ·refine T.NZ (fun _=>True) ?_
     intro k32 v5980 hk32
     show MT (yu (qV n_) p_level p_p (((k32:Nat):Int),v5980)) _
     refine MT.ite (fun c5981=>?_) (fun c5981=>?_)
     ·have c5981':=of_decide_eq_true c5981
      refine MT.say (MT.ask (fC p_p.bJ ((k32:Nat):Int) (by omega) (by omega)) (fun x5982 _ hx33=>?_))
      have:=nK hx33
      have:=gy x5982
      refine MT.say (MT.ask (R:=Any) ?_ ?_)
      ·exact(ih x5982 (IntKind.wrap .i64 (p_level+1)) v5980 (by omega) (by first|omega|(simp;done)|decide))
      ·intro r5984 h5985 _
       refine MT.say (MT.ite (fun c5986=>?_) (fun c5986=>?_))
       ·(repeat refine MT.say ?_);exact MT.ret trivial
       ·(repeat refine MT.say ?_);exact MT.ret ⟨rfl,by omega⟩
     ·have c5981':=of_decide_eq_false c5981
      (repeat refine MT.say ?_);exact MT.ret trivial
    ·intro o5991 h5990 _
     (repeat refine MT.say ?_);exact MT.any
    ·intro o5992 h5990 _
     (repeat refine MT.say ?_);exact MT.any
theorem CS(p_p:aP)(p_level:Int)(p_b0:Int)(h_p_p:aW p_p.lf1≤100000000):Tot (Q69 p_p p_level p_b0) Any:=Bd FU p_p p_level p_b0 (by have:=iw;omega) h_p_p
theorem oZ(p_op:Int)(p_n:Int):Tot (akP p_op p_n) Any:=by
 show MT (acN p_op p_n) Any
 repeat' (first|exact MT.any|refine MT.say ?_|refine MT.ite (fun _=>?_) (fun _=>?_)|refine MT.lZ ?_ (fun _ _=>?_)|refine⟨(show MT _ Any from ?_)⟩)
theorem iU(p_op:Int):Tot (KQ p_op) Any:=by
 show MT (Vr p_op) Any
 repeat' (first|exact MT.any|refine MT.say ?_|refine MT.ite (fun _=>?_) (fun _=>?_))
theorem o7(p_p:aP)(h_p_p:aW p_p.lf1≤100000000):Tot (Q44 p_p) Any:=by
 have:=gy p_p
 show MT (akQ p_p) Any
 repeat' (first|exact MT.any|refine MT.say ?_|refine MT.ite (fun _=>?_) (fun _=>?_)|refine MT.lZ ?_ (fun _ _=>?_)|refine⟨(show MT _ Any from ?_)⟩)
theorem jU(p_op:Int):Tot (N8 p_op) Any:=by
 show MT (Vt p_op) Any
 repeat' (first|exact MT.any|refine MT.say ?_|refine MT.ite (fun _=>?_) (fun _=>?_))
theorem lF(p_op:Int):Tot (YQ p_op) Any:=by
 show MT (Vu p_op) Any
 repeat' (first|exact MT.any|refine MT.say ?_|refine MT.ite (fun _=>?_) (fun _=>?_))
theorem jQ(p_op:Int):Tot (YR p_op) Any:=by
 show MT (Vx p_op) Any
 repeat' (first|exact MT.any|refine MT.say ?_|refine MT.ite (fun _=>?_) (fun _=>?_)|refine MT.lZ ?_ (fun _ _=>?_)|exact⟨T.wk (lF _)⟩)
theorem qx(p_n:Int):Tot (Vy p_n) Any:=by
 show MT (KR p_n) Any
 repeat' (first|exact MT.any|refine MT.say ?_|refine MT.ite (fun _=>?_) (fun _=>?_))
theorem IX(p_p:dO)(h_p_p:aW p_p.lf1≤100000000):Tot (ahk p_p) Any:=by
 have:=CB p_p
 show MT (VA p_p) Any
 repeat' (first|exact MT.any|refine MT.say ?_|refine MT.ite (fun _=>?_) (fun _=>?_)|refine MT.lZ ?_ (fun _ _=>?_)|exact⟨T.wk (qx _)⟩)
theorem Oa(p_s:dP)(h_p_s:aW p_s.lf1≤100000000):Tot (aoR p_s) Any:=by
 have:=nR p_s
 have:=lX p_s.bK
 show MT (acO p_s) Any
 refine MT.say (MT.ask (R:=Any) ?_ ?_)
 ·show MT (GN p_s) Any
  refine MT.ite (fun c6326=>?_) (fun c6326=>?_)
  ·have c6326':p_s.aK=1:=by simpa using c6326
   refine MT.say (MT.ite (fun c6327=>?_) (fun c6327=>?_))
   ·have c6327':(p_s.bK.length:Int)=2:=by simpa using c6327
    (repeat refine MT.say ?_);exact MT.any
   ·have c6327':¬((p_s.bK.length:Int)=2):=by simpa using c6327
    (repeat refine MT.say ?_);exact MT.any
  ·have c6326':¬(p_s.aK=1):=by simpa using c6326
   refine MT.say (MT.ite (fun c6328=>?_) (fun c6328=>?_))
   ·have c6328':p_s.aK=2:=by simpa using c6328
    refine MT.say (MT.ite (fun c6329=>?_) (fun c6329=>?_))
    ·have c6329':(p_s.bK.length:Int)=1:=by simpa using c6329
     refine MT.say (MT.ask (R:=Any) ?_ ?_)
     ·exact T.wk (qx p_s.fR )
     ·intro r6330 h6331 _
      (repeat refine MT.say ?_);exact MT.any
    ·have c6329':¬((p_s.bK.length:Int)=1):=by simpa using c6329
     (repeat refine MT.say ?_);exact MT.any
   ·have c6328':¬(p_s.aK=2):=by simpa using c6328
    refine MT.say (MT.ite (fun c6332=>?_) (fun c6332=>?_))
    ·have c6332':p_s.aK=3:=by simpa using c6332
     refine MT.say (MT.ite (fun c6333=>?_) (fun c6333=>?_))
     ·have c6333':=of_decide_eq_true c6333
      refine MT.say (MT.ite (fun c6334=>?_) (fun c6334=>?_))
      ·have c6334':=of_decide_eq_true c6334
       (repeat refine MT.say ?_);exact MT.any
      ·have c6334':=of_decide_eq_false c6334
       (repeat refine MT.say ?_);exact MT.any
     ·have c6333':=of_decide_eq_false c6333
      (repeat refine MT.say ?_);exact MT.any
    ·have c6332':¬(p_s.aK=3):=by simpa using c6332
     (repeat refine MT.say ?_);exact MT.any
 ·intro r6336 h6337 _
  refine MT.say (MT.ite (fun c6339=>?_) (fun c6339=>?_))
  ·(repeat refine MT.say ?_);exact MT.any
  ·refine MT.say (MT.lD (R:=Any) ?_ ?_ ?_)
   ·refine T.cnt (fun _=>True) ?_
    intro k34 hk34
    show MT (uF p_s ((k34:Nat):Int)) _
    refine MT.ite (fun c6380=>?_) (fun c6380=>?_)
    ·have c6380':=of_decide_eq_true c6380
     refine MT.say (MT.ask (fC p_s.bK ((k34:Nat):Int) (by omega) (by omega)) (fun x6381 _ hx35=>?_))
     have:=CB x6381
     refine MT.say (MT.ask (R:=Any) ?_ ?_)
     ·exact T.wk (IX x6381 (by first|omega|(simp;done)|decide))
     ·intro r6383 h6384 _
      refine MT.say (MT.ite (fun c6385=>?_) (fun c6385=>?_))
      ·(repeat refine MT.say ?_);exact MT.ret trivial
      ·(repeat refine MT.say ?_);exact MT.ret ⟨rfl,by omega⟩
    ·have c6380':=of_decide_eq_false c6380
     (repeat refine MT.say ?_);exact MT.ret trivial
   ·intro o6388 h6387 _
    (repeat refine MT.say ?_);exact MT.any
   ·intro o6389 h6387 _
    (repeat refine MT.say ?_);exact MT.any
theorem qy(p_v:ah):Tot (aoT p_v) Any:=by
 show MT (acP p_v) Any
 repeat' (first|exact MT.any|refine MT.say ?_|refine MT.ite (fun _=>?_) (fun _=>?_)|refine MT.lZ ?_ (fun _ _=>?_)|refine⟨(show MT _ Any from ?_)⟩)
theorem Bf(p_op:Int):Tot (atm p_op) Any:=by
 show MT (acQ p_op) Any
 repeat' (first|exact MT.any|refine MT.say ?_|refine MT.ite (fun _=>?_) (fun _=>?_)|refine MT.lZ ?_ (fun _ _=>?_)|refine⟨(show MT _ Any from ?_)⟩)
theorem tY(p_e:aT):Tot (ahl p_e) Any:=by
 show MT (VE p_e) Any
 repeat' (first|exact MT.any|refine MT.say ?_|refine MT.ite (fun _=>?_) (fun _=>?_)|refine MT.lZ ?_ (fun _ _=>?_)|exact⟨T.wk (qy _)⟩|refine⟨(show MT _ Any from ?_)⟩)
theorem Bg(p_p:aP):Tot (Q19 p_p) Any:=by
 show MT (akR p_p) Any
 repeat' (first|exact MT.any|refine MT.say ?_|refine MT.ite (fun _=>?_) (fun _=>?_)|refine MT.lZ ?_ (fun _ _=>?_)|refine MT.aro ?_ (fun _ _=>?_) (fun _ _=>?_)|exact⟨T.wk (qy _)⟩|exact⟨T.wk (tY _)⟩|exact⟨T.wk (jU _)⟩|exact⟨T.wk (jQ _)⟩|exact⟨T.wk (iU _)⟩|exact⟨T.wk (Bf _)⟩|refine⟨(show MT _ Any from ?_)⟩)
theorem MX(p_op:Int):Tot (Q85 p_op) Any:=by
 show MT (akS p_op) Any
 repeat' (first|exact MT.any|refine MT.say ?_|refine MT.ite (fun _=>?_) (fun _=>?_)|refine MT.lZ ?_ (fun _ _=>?_)|refine⟨(show MT _ Any from ?_)⟩)
theorem H9(p_shape:Int)(p_n:Int):Tot (aoW p_shape p_n) Any:=by
 show MT (acR p_shape p_n) Any
 repeat' (first|exact MT.any|refine MT.say ?_|refine MT.ite (fun _=>?_) (fun _=>?_)|refine MT.lZ ?_ (fun _ _=>?_)|refine⟨(show MT _ Any from ?_)⟩)
theorem wZ(p_s:ByteArray)(h_p_s:p_s.size≤100000000):Tot (aoY p_s) Any:=by
 show MT (acS p_s) Any
 repeat' (first|exact MT.any|refine MT.say ?_|refine MT.ite (fun _=>?_) (fun _=>?_)|refine MT.lZ ?_ (fun _ _=>?_)|exact⟨T.wk (T.val (lC _))⟩)
theorem wJ(p_l:List ByteArray)(h_p_l:bM (p_l.map lfS)≤100000000):Tot (Q75 p_l) Any:=by
 have:=fB p_l
 show MT (akU p_l) Any
 refine MT.say (MT.lD (R:=Any) ?_ ?_ ?_)
 ·refine T.auL (fun _=>True) ?_
  intro k36 m6980 hk36 hmk36
  show MT (yw p_l (((k36:Nat):Int),m6980)) _
  refine MT.ite (fun c6981=>?_) (fun c6981=>?_)
  ·have c6981':=of_decide_eq_true c6981
   refine MT.say (MT.ask (fC p_l ((k36:Nat):Int) (by omega) (by omega)) (fun x6982 _ hx37=>?_))
   have:=Jq hx37
   refine MT.say (MT.ask (R:=Any) ?_ ?_)
   ·show MT (KU m6980 p_l ((k36:Nat):Int) x6982) Any
    refine MT.ask (R:=Any) ?_ ?_
    ·exact T.wk (wZ x6982 (by first|omega|(simp;done)|decide))
    ·intro r6984 h6985 _
     refine MT.say (MT.ite (fun c6986=>?_) (fun c6986=>?_))
     ·(repeat refine MT.say ?_);exact MT.any
     ·(repeat refine MT.say ?_);exact MT.any
   ·intro r6988 h6989 _
    refine MT.say (MT.ite (fun c6990=>?_) (fun c6990=>?_))
    ·(repeat refine MT.say ?_);exact MT.ret trivial
    ·refine MT.say (MT.grd (by unfold maxLen;omega) (fun _=>?_))
     (repeat refine MT.say ?_);exact MT.ret ⟨rfl,by first|omega|(simp only[List.length_cons];omega),by omega⟩
  ·have c6981':=of_decide_eq_false c6981
   (repeat refine MT.say ?_);exact MT.ret trivial
 ·intro o6994 h6993 _
  (repeat refine MT.say ?_);exact MT.any
 ·intro o6995 h6993 _
  (repeat refine MT.say ?_);exact MT.any
theorem IY(p_v:ah):Tot (aoZ p_v) Any:=by
 show MT (acT p_v) Any
 repeat' (first|exact MT.any|refine MT.say ?_|refine MT.ite (fun _=>?_) (fun _=>?_)|refine MT.lZ ?_ (fun _ _=>?_)|refine⟨(show MT _ Any from ?_)⟩)
theorem CU(p_e:aT)(h_p_e:aW p_e.lf1≤100000000):Tot (Q21 p_e) Any:=by
 have:=iY p_e
 have:=fB p_e.cZ
 have:=fB p_e.eH
 have:=dA p_e.fArg
 have:=mW p_e.bJ
 show MT (akV p_e) Any
 repeat' (first|exact MT.any|refine MT.say ?_|refine MT.ite (fun _=>?_) (fun _=>?_)|refine MT.lZ ?_ (fun _ _=>?_)|exact⟨T.wk (wJ _ (by first|omega|decide))⟩|exact⟨T.wk (H9 _ _)⟩|exact⟨T.wk (wZ _ (by first|omega|decide))⟩|exact⟨T.wk (IY _)⟩|exact⟨T.wk (MX _)⟩|exact⟨T.wk (T.val (lC _))⟩|exact⟨T.wk (jd _ (by first|omega|decide))⟩|refine⟨(show MT _ Any from ?_)⟩)
theorem IZ(n_:Nat):∀(p_e:aT) (p_level:Int) (p_b0:Int),aW p_e.lf1<n_→aW p_e.lf1≤100000000→Tot ((qW n_).m1 p_e p_level p_b0) Any:=by
 induction n_ with
 |zero=>intro p_e p_level p_b0 h;omega
 |succ n_ ih=>
  intro p_e p_level p_b0 h_ h_p_e
  have:=iY p_e
  have:=mW p_e.bJ
  show MT (Cb (qW n_) p_e p_level p_b0) Any
  refine MT.ask (R:=fun b_=>(b_=true→True)∧(b_=false→¬((16:Int)<p_level)∧¬(p_b0=256)∧True)) ?_ ?_
  ·show MT (Aa (qW n_) p_b0 p_e p_level) _
   refine MT.ite (fun c6613=>?_) (fun c6613=>?_)
   ·have c6613':=of_decide_eq_true c6613
    (repeat refine MT.say ?_);exact MT.ret ⟨(fun _=>trivial),(fun h_=>by cases h_)⟩
   ·have c6613':=of_decide_eq_false c6613
    (repeat refine MT.say ?_);exact MT.ret ⟨(fun _=>trivial),(fun h_=>⟨(by first|assumption|omega),(by simpa using h_),trivial⟩)⟩
  ·intro r6615 h6616 f_r6615
   refine MT.say (MT.ite (fun c6618=>?_) (fun c6618=>?_))
   ·(repeat refine MT.say ?_);exact MT.any
   ·have q38:=f_r6615.2 (c6618)
    refine MT.say (MT.ask (R:=Any) ?_ ?_)
    ·exact T.wk (CU p_e (by first|omega|(simp;done)|decide))
    ·intro r7105 h7106 _
     refine MT.say (MT.ite (fun c7108=>?_) (fun c7108=>?_))
     ·have c7108':¬(r7105=0):=by simpa using c7108
      (repeat refine MT.say ?_);exact MT.any
     ·have c7108':r7105=0:=by simpa using c7108
      refine MT.say (MT.lD (R:=Any) ?_ ?_ ?_)
      ·refine T.NZ (fun _=>True) ?_
       intro k39 v7148 hk39
       show MT (uG (qW n_) p_e p_level (((k39:Nat):Int),v7148)) _
       refine MT.ite (fun c7149=>?_) (fun c7149=>?_)
       ·have c7149':=of_decide_eq_true c7149
        refine MT.say (MT.ask (fC p_e.bJ ((k39:Nat):Int) (by omega) (by omega)) (fun x7150 _ hx40=>?_))
        have:=qh hx40
        have:=iY x7150
        refine MT.say (MT.ask (R:=Any) ?_ ?_)
        ·exact(ih x7150 (IntKind.wrap .i64 (p_level+1)) v7148 (by omega) (by first|omega|(simp;done)|decide))
        ·intro r7152 h7153 _
         refine MT.say (MT.ite (fun c7154=>?_) (fun c7154=>?_))
         ·have c7154':¬(r7152.1=0):=by simpa using c7154
          (repeat refine MT.say ?_);exact MT.ret trivial
         ·have c7154':r7152.1=0:=by simpa using c7154
          (repeat refine MT.say ?_);exact MT.ret ⟨rfl,by omega⟩
       ·have c7149':=of_decide_eq_false c7149
        (repeat refine MT.say ?_);exact MT.ret trivial
      ·intro o7160 h7159 _
       (repeat refine MT.say ?_);exact MT.any
      ·intro o7161 h7159 _
       (repeat refine MT.say ?_);exact MT.any
theorem MZ(p_e:aT)(p_level:Int)(p_b0:Int)(h_p_e:aW p_e.lf1≤100000000):Tot (atr p_e p_level p_b0) Any:=IZ FU p_e p_level p_b0 (by have:=iw;omega) h_p_e
theorem Na(p_e:aT)(h_p_e:aW p_e.lf1≤100000000):Tot (ao3 p_e) Any:=by
 have:=iY p_e
 show MT (acU p_e) Any
 repeat' (first|exact MT.any|refine MT.say ?_|refine MT.ite (fun _=>?_) (fun _=>?_)|refine MT.lZ ?_ (fun _ _=>?_)|exact⟨T.wk (MZ _ _ _ (by first|omega|decide))⟩)
theorem nX(p_p:aP)(p_inside:Bool)(h_p_p:aW p_p.lf1≤100000000):Tot (Q6 p_p p_inside) Any:=by
 have:=gy p_p
 have:=fB p_p.cZ
 have:=dA p_p.fArg
 have:=fV p_p.fArgs
 have:=nR p_p.eF
 have:=iY p_p.fExpr
 have:=kJ p_p.bJ
 show MT (att p_p p_inside) Any
 refine MT.ask (R:=fun b_=>(b_=true→True)∧(b_=false→¬((p_p.fOp:Int)<1)∧¬((24:Int)<p_p.fOp)∧True)) ?_ ?_
 ·show MT (VG p_inside p_p) _
  refine MT.ite (fun c6042=>?_) (fun c6042=>?_)
  ·have c6042':=of_decide_eq_true c6042
   (repeat refine MT.say ?_);exact MT.ret ⟨(fun _=>trivial),(fun h_=>by cases h_)⟩
  ·have c6042':=of_decide_eq_false c6042
   (repeat refine MT.say ?_);exact MT.ret ⟨(fun _=>trivial),(fun h_=>⟨(by first|assumption|omega),(of_decide_eq_false h_),trivial⟩)⟩
 ·intro r6044 h6045 f_r6044
  refine MT.say (MT.ask (R:=fun b_=>(b_=true→True)∧(b_=false→r6044=false∧True)) ?_ ?_)
  ·show MT (VH p_inside p_p r6044) _
   refine MT.ite (fun c6046=>?_) (fun c6046=>?_)
   ·(repeat refine MT.say ?_);exact MT.ret ⟨(fun _=>trivial),(fun h_=>by cases h_)⟩
   ·have q41:=f_r6044.2 (c6046)
    refine MT.say (MT.ask (R:=Any) ?_ ?_)
    ·exact T.wk (oZ p_p.fOp (p_p.bJ.length:Int) )
    ·intro r6047 h6048 _
     (repeat refine MT.say ?_);exact MT.ret ⟨(fun _=>trivial),(fun h_=>⟨(by first|assumption|omega),trivial⟩)⟩
  ·intro r6050 h6051 f_r6050
   refine MT.say (MT.ite (fun c6053=>?_) (fun c6053=>?_))
   ·(repeat refine MT.say ?_);exact MT.any
   ·have q42:=f_r6050.2 (c6053)
    have q43:=f_r6044.2 (q42.1)
    refine MT.say (MT.ask (R:=fun b_=>(b_=true→(p_p.fArgs.length:Int)=0∧True)∧(b_=false→True)) ?_ ?_)
    ·show MT (KW p_inside p_p) _
     refine MT.ask (R:=Any) ?_ ?_
     ·exact T.wk (iU p_p.fOp )
     ·intro r6177 h6178 _
      refine MT.say (MT.ite (fun c6179=>?_) (fun c6179=>?_))
      ·(repeat refine MT.say ?_);exact MT.ret ⟨(fun h_=>⟨(by simpa using h_),trivial⟩),(fun _=>trivial)⟩
      ·(repeat refine MT.say ?_);exact MT.ret ⟨(fun h_=>by cases h_),(fun _=>trivial)⟩
    ·intro r6181 h6182 f_r6181
     refine MT.say (MT.ask (R:=fun b_=>(b_=true→True)∧(b_=false→r6181=false∧True)) ?_ ?_)
     ·show MT (KX p_inside p_p r6181) _
      refine MT.ite (fun c6183=>?_) (fun c6183=>?_)
      ·have q44:=f_r6181.1 (c6183)
       (repeat refine MT.say ?_);exact MT.ret ⟨(fun _=>trivial),(fun h_=>by cases h_)⟩
      ·refine MT.say (MT.ask (R:=Any) ?_ ?_)
       ·exact T.wk (o7 p_p (by first|omega|(simp;done)|decide))
       ·intro r6184 h6185 _
        (repeat refine MT.say ?_);exact MT.ret ⟨(fun _=>trivial),(fun h_=>⟨(by first|assumption|omega),trivial⟩)⟩
     ·intro r6187 h6188 f_r6187
      refine MT.say (MT.ite (fun c6190=>?_) (fun c6190=>?_))
      ·(repeat refine MT.say ?_);exact MT.any
      ·have q45:=f_r6187.2 (c6190)
       refine MT.say (MT.ask (R:=Any) ?_ ?_)
       ·show MT (KY p_inside p_p) Any
        refine MT.ask (R:=Any) ?_ ?_
        ·exact T.wk (jU p_p.fOp )
        ·intro r6205 h6206 _
         refine MT.say (MT.ite (fun c6207=>?_) (fun c6207=>?_))
         ·refine MT.say (MT.ask (R:=Any) ?_ ?_)
          ·exact T.wk (T.val (lC p_p.cZ))
          ·intro r6208 h6209 _
           (repeat refine MT.say ?_);exact MT.any
         ·(repeat refine MT.say ?_);exact MT.any
       ·intro r6211 h6212 _
        refine MT.say (MT.ask (R:=fun b_=>(b_=true→r6211=true∧True)∧(b_=false→True)) ?_ ?_)
        ·show MT (KZ p_inside p_p r6211) _
         refine MT.ite (fun c6213=>?_) (fun c6213=>?_)
         ·refine MT.say (MT.ite (fun c6214=>?_) (fun c6214=>?_))
          ·(repeat refine MT.say ?_);exact MT.ret ⟨(fun h_=>⟨(by first|assumption|omega),trivial⟩),(fun h_=>by cases h_)⟩
          ·(repeat refine MT.say ?_);exact MT.ret ⟨(fun h_=>⟨(by first|assumption|omega),trivial⟩),(fun _=>trivial)⟩
         ·(repeat refine MT.say ?_);exact MT.ret ⟨(fun h_=>by cases h_),(fun _=>trivial)⟩
        ·intro r6216 h6217 f_r6216
         refine MT.say (MT.ite (fun c6219=>?_) (fun c6219=>?_))
         ·have q46:=f_r6216.1 (c6219)
          (repeat refine MT.say ?_);exact MT.any
         ·refine MT.say (MT.ask (R:=Any) ?_ ?_)
          ·show MT (La p_p) Any
           refine MT.ask (R:=Any) ?_ ?_
           ·exact T.wk (jQ p_p.fOp )
           ·intro r6243 h6244 _
            refine MT.say (MT.ite (fun c6245=>?_) (fun c6245=>?_))
            ·refine MT.say (MT.ask (R:=Any) ?_ ?_)
             ·exact T.wk (jd p_p.fArg (by first|omega|(simp;done)|decide))
             ·intro r6246 h6247 _
              (repeat refine MT.say ?_);exact MT.any
            ·(repeat refine MT.say ?_);exact MT.any
          ·intro r6249 h6250 _
           refine MT.say (MT.ask (R:=fun b_=>(b_=true→True)∧(b_=false→r6249=false∧True)) ?_ ?_)
           ·show MT (Lc p_p r6249) _
            refine MT.ite (fun c6251=>?_) (fun c6251=>?_)
            ·(repeat refine MT.say ?_);exact MT.ret ⟨(fun _=>trivial),(fun h_=>by cases h_)⟩
            ·refine MT.say (MT.ask (R:=Any) ?_ ?_)
             ·exact T.wk (lF p_p.fOp )
             ·intro r6252 h6253 _
              refine MT.say (MT.ite (fun c6254=>?_) (fun c6254=>?_))
              ·(repeat refine MT.say ?_);exact MT.ret ⟨(fun _=>trivial),(fun h_=>⟨(by first|assumption|omega),trivial⟩)⟩
              ·(repeat refine MT.say ?_);exact MT.ret ⟨(fun h_=>by cases h_),(fun h_=>⟨(by first|assumption|omega),trivial⟩)⟩
           ·intro r6256 h6257 f_r6256
            refine MT.say (MT.ite (fun c6259=>?_) (fun c6259=>?_))
            ·(repeat refine MT.say ?_);exact MT.any
            ·have q47:=f_r6256.2 (c6259)
             refine MT.say (MT.ask (R:=Any) ?_ ?_)
             ·exact T.wk (iU p_p.fOp )
             ·intro r6262 h6263 _
              refine MT.say (MT.lD (R:=Any) ?_ ?_ ?_)
              ·show MT (Ld p_p r6262) Any
               refine MT.ite (fun c6293=>?_) (fun c6293=>?_)
               ·refine MT.say (MT.lD (R:=Any) ?_ ?_ ?_)
                ·refine T.cnt (fun _=>True) ?_
                 intro k48 hk48
                 show MT (yx p_p ((k48:Nat):Int)) _
                 refine MT.ite (fun c6301=>?_) (fun c6301=>?_)
                 ·have c6301':=of_decide_eq_true c6301
                  refine MT.say (MT.ask (fC p_p.fArgs ((k48:Nat):Int) (by omega) (by omega)) (fun x6302 _ hx49=>?_))
                  have:=jg hx49
                  have:=dA x6302
                  refine MT.say (MT.ask (R:=Any) ?_ ?_)
                  ·exact T.wk (jd x6302 (by first|omega|(simp;done)|decide))
                  ·intro r6304 h6305 _
                   refine MT.say (MT.ite (fun c6306=>?_) (fun c6306=>?_))
                   ·(repeat refine MT.say ?_);exact MT.ret trivial
                   ·(repeat refine MT.say ?_);exact MT.ret ⟨rfl,by omega⟩
                 ·have c6301':=of_decide_eq_false c6301
                  (repeat refine MT.say ?_);exact MT.ret trivial
                ·intro o6309 h6308 _
                 (repeat refine MT.say ?_);exact MT.any
                ·intro o6310 h6308 _
                 (repeat refine MT.say ?_);exact MT.any
               ·(repeat refine MT.say ?_);exact MT.any
              ·intro o6313 h6312 _
               (repeat refine MT.say ?_);exact MT.any
              ·intro o6314 h6312 _
               refine MT.say (MT.lD (R:=Any) ?_ ?_ ?_)
               ·show MT (Lh p_p) Any
                refine MT.ite (fun c6395=>?_) (fun c6395=>?_)
                ·have c6395':p_p.fOp=18:=by simpa using c6395
                 refine MT.say (MT.ask (R:=Any) ?_ ?_)
                 ·exact T.wk (Oa p_p.eF (by first|omega|(simp;done)|decide))
                 ·intro r6396 h6397 _
                  refine MT.say (MT.ite (fun c6398=>?_) (fun c6398=>?_))
                  ·have c6398':¬(r6396=0):=by simpa using c6398
                   (repeat refine MT.say ?_);exact MT.any
                  ·have c6398':r6396=0:=by simpa using c6398
                   (repeat refine MT.say ?_);exact MT.any
                ·have c6395':¬(p_p.fOp=18):=by simpa using c6395
                 (repeat refine MT.say ?_);exact MT.any
               ·intro o6403 h6402 _
                (repeat refine MT.say ?_);exact MT.any
               ·intro o6404 h6402 _
                refine MT.say (MT.ask (R:=Any) ?_ ?_)
                ·exact T.wk (Bg p_p)
                ·intro r6607 h6608 _
                 refine MT.say (MT.ite (fun c6610=>?_) (fun c6610=>?_))
                 ·(repeat refine MT.say ?_);exact MT.any
                 ·refine MT.say (MT.ite (fun c7166=>?_) (fun c7166=>?_))
                  ·have c7166':p_p.fOp=24:=by simpa using c7166
                   refine MT.say (MT.ask (R:=Any) ?_ ?_)
                   ·exact T.wk (Na p_p.fExpr (by first|omega|(simp;done)|decide))
                   ·intro r7169 h7170 _
                    (repeat refine MT.say ?_);exact MT.any
                  ·have c7166':¬(p_p.fOp=24):=by simpa using c7166
                   (repeat refine MT.say ?_);exact MT.any
theorem yT(n_:Nat):∀(p_p:aP) (p_inside:Bool),aW p_p.lf1<n_→aW p_p.lf1≤100000000→Tot ((kH n_).m1 p_p p_inside) Any:=by
 induction n_ with
 |zero=>intro p_p p_inside h;omega
 |succ n_ ih=>
  intro p_p p_inside h_ h_p_p
  have:=gy p_p
  have:=kJ p_p.bJ
  show MT (YW (kH n_) p_p p_inside) Any
  refine MT.ask (R:=Any) ?_ ?_
  ·exact T.wk (nX p_p p_inside (by first|omega|(simp;done)|decide))
  ·intro r7173 h7174 _
   refine MT.say (MT.ite (fun c7176=>?_) (fun c7176=>?_))
   ·have c7176':¬(r7173=0):=by simpa using c7176
    (repeat refine MT.say ?_);exact MT.any
   ·have c7176':r7173=0:=by simpa using c7176
    refine MT.say (MT.lD (R:=Any) ?_ ?_ ?_)
    ·refine T.cnt (fun _=>True) ?_
     intro k50 hk50
     show MT (yA (kH n_) p_inside p_p ((k50:Nat):Int)) _
     refine MT.ite (fun c7249=>?_) (fun c7249=>?_)
     ·have c7249':=of_decide_eq_true c7249
      refine MT.say (MT.ask (fC p_p.bJ ((k50:Nat):Int) (by omega) (by omega)) (fun x7250 _ hx51=>?_))
      have:=nK hx51
      have:=gy x7250
      refine MT.say (MT.ask (R:=Any) ?_ ?_)
      ·show MT (Lj (kH n_) p_inside p_p ((k50:Nat):Int) x7250) Any
       refine MT.ite (fun c7252=>?_) (fun c7252=>?_)
       ·refine MT.say (MT.ask (R:=Any) ?_ ?_)
        ·exact(ih x7250 true (by omega) (by first|omega|(simp;done)|decide))
        ·intro r7253 h7254 _
         (repeat refine MT.say ?_);exact MT.any
       ·refine MT.say (MT.ask (R:=Any) ?_ ?_)
        ·exact(ih x7250 (p_p.fOp==15) (by omega) (by first|omega|(simp;done)|decide))
        ·intro r7255 h7256 _
         (repeat refine MT.say ?_);exact MT.any
      ·intro r7260 h7261 _
       refine MT.say (MT.ite (fun c7262=>?_) (fun c7262=>?_))
       ·have c7262':¬(r7260=0):=by simpa using c7262
        (repeat refine MT.say ?_);exact MT.ret trivial
       ·have c7262':r7260=0:=by simpa using c7262
        (repeat refine MT.say ?_);exact MT.ret ⟨rfl,by omega⟩
     ·have c7249':=of_decide_eq_false c7249
      (repeat refine MT.say ?_);exact MT.ret trivial
    ·intro o7267 h7266 _
     (repeat refine MT.say ?_);exact MT.any
    ·intro o7268 h7266 _
     (repeat refine MT.say ?_);exact MT.any
theorem Bh(p_p:aP)(p_inside:Bool)(h_p_p:aW p_p.lf1≤100000000):Tot (Q50 p_p p_inside) Any:=yT FU p_p p_inside (by have:=iw;omega) h_p_p
theorem Bj(p_p:aP)(h_p_p:aW p_p.lf1≤100000000):Tot (ao6 p_p) Any:=by
 have:=gy p_p
 show MT (acZ p_p) Any
 repeat' (first|exact MT.any|refine MT.say ?_|refine MT.ite (fun _=>?_) (fun _=>?_)|refine MT.lZ ?_ (fun _ _=>?_)|exact⟨T.wk (Bh _ _ (by first|omega|decide))⟩|exact⟨T.wk (CS _ _ _ (by first|omega|decide))⟩)
theorem qA(p_v:ah):Tot (ao8 p_v) Any:=by
 show MT (ac0 p_v) Any
 repeat' (first|exact MT.any|refine MT.say ?_|refine MT.ite (fun _=>?_) (fun _=>?_)|refine MT.lZ ?_ (fun _ _=>?_)|refine⟨(show MT _ Any from ?_)⟩)
theorem Bl(p_x:aT):Tot (ao9 p_x) Any:=by
 show MT (ac1 p_x) Any
 repeat' (first|exact MT.any|refine MT.say ?_|refine MT.ite (fun _=>?_) (fun _=>?_)|refine MT.lZ ?_ (fun _ _=>?_)|exact⟨T.wk (qA _)⟩|refine⟨(show MT _ Any from ?_)⟩)
theorem Bo(p_p:aP):Tot (apb p_p) Any:=by
 show MT (ac2 p_p) Any
 repeat' (first|exact MT.any|refine MT.say ?_|refine MT.ite (fun _=>?_) (fun _=>?_)|refine MT.lZ ?_ (fun _ _=>?_)|exact⟨T.wk (Bl _)⟩|exact⟨T.wk (qA _)⟩|refine⟨(show MT _ Any from ?_)⟩)
theorem kK(p_x:aU)(h_p_x:aW p_x.lf1≤100000000):Tot (YX p_x) Any:=by
 have:=iR p_x
 have:=jO p_x.gU
 have:=gy p_x.jr
 show MT (ac3 p_x) Any
 refine MT.say (MT.ask (R:=Any) ?_ ?_)
 ·exact T.wk (T.val (lC [p_x.fName]))
 ·intro r5685 h5686 _
  refine MT.say (MT.ite (fun c5688=>?_) (fun c5688=>?_))
  ·(repeat refine MT.say ?_);exact MT.any
  ·refine MT.say (MT.ask (R:=fun b_=>(b_=true→True)∧(b_=false→¬((p_x.aK:Int)<1)∧¬((3:Int)<p_x.aK)∧True)) ?_ ?_)
   ·show MT (GV p_x) _
    refine MT.ite (fun c5690=>?_) (fun c5690=>?_)
    ·have c5690':=of_decide_eq_true c5690
     (repeat refine MT.say ?_);exact MT.ret ⟨(fun _=>trivial),(fun h_=>by cases h_)⟩
    ·have c5690':=of_decide_eq_false c5690
     (repeat refine MT.say ?_);exact MT.ret ⟨(fun _=>trivial),(fun h_=>⟨(by first|assumption|omega),(of_decide_eq_false h_),trivial⟩)⟩
   ·intro r5692 h5693 f_r5692
    refine MT.say (MT.ite (fun c5695=>?_) (fun c5695=>?_))
    ·(repeat refine MT.say ?_);exact MT.any
    ·have q52:=f_r5692.2 (c5695)
     refine MT.say (MT.ask (R:=Any) ?_ ?_)
     ·exact T.wk (IW p_x.gU (by first|omega|(simp;done)|decide))
     ·intro r5913 h5914 _
      refine MT.say (MT.ite (fun c5916=>?_) (fun c5916=>?_))
      ·have c5916':¬(r5913=0):=by simpa using c5916
       (repeat refine MT.say ?_);exact MT.any
      ·have c5916':r5913=0:=by simpa using c5916
       refine MT.say (MT.ask (R:=fun b_=>(b_=true→True)∧(b_=false→¬((p_x.gU.length:Int)=0)∧True)) ?_ ?_)
       ·show MT (GX p_x) _
        refine MT.say (MT.ite (fun c5923=>?_) (fun c5923=>?_))
        ·have c5923':(p_x.gU.length:Int)=0:=by simpa using c5923
         (repeat refine MT.say ?_);exact MT.ret ⟨(fun _=>trivial),(fun h_=>by cases h_)⟩
        ·have c5923':¬((p_x.gU.length:Int)=0):=by simpa using c5923
         refine MT.say (MT.ite (fun c5924=>?_) (fun c5924=>?_))
         ·have c5924':¬(p_x.aK=1):=by simpa using c5924
          refine MT.say (MT.ite (fun c5925=>?_) (fun c5925=>?_))
          ·have c5925':=of_decide_eq_true c5925
           (repeat refine MT.say ?_);exact MT.ret ⟨(fun _=>trivial),(fun h_=>by cases h_)⟩
          ·have c5925':=of_decide_eq_false c5925
           refine MT.say (MT.ask (fC p_x.gU 0 (by omega) (by omega)) (fun x5926 _ hx53=>?_))
           have:=qN hx53
           have:=lV x5926
           refine MT.say (MT.ite (fun c5928=>?_) (fun c5928=>?_))
           ·(repeat refine MT.say ?_);exact MT.ret ⟨(fun _=>trivial),(fun h_=>by cases h_)⟩
           ·(repeat refine MT.say ?_);exact MT.ret ⟨(fun _=>trivial),(fun h_=>⟨(by first|assumption|omega),trivial⟩)⟩
         ·have c5924':p_x.aK=1:=by simpa using c5924
          (repeat refine MT.say ?_);exact MT.ret ⟨(fun h_=>by cases h_),(fun h_=>⟨(by first|assumption|omega),trivial⟩)⟩
       ·intro r5930 h5931 f_r5930
        refine MT.say (MT.ite (fun c5933=>?_) (fun c5933=>?_))
        ·(repeat refine MT.say ?_);exact MT.any
        ·have q54:=f_r5930.2 (c5933)
         refine MT.say (MT.ite (fun c7273=>?_) (fun c7273=>?_))
         ·refine MT.say (MT.ask (R:=Any) ?_ ?_)
          ·exact T.wk (Bj p_x.jr (by first|omega|(simp;done)|decide))
          ·intro r7276 h7277 _
           (repeat refine MT.say ?_);exact MT.any
         ·refine MT.say (MT.ask (R:=Any) ?_ ?_)
          ·exact T.wk (Bo p_x.jr)
          ·intro r7378 h7379 _
           refine MT.say (MT.ite (fun c7381=>?_) (fun c7381=>?_))
           ·(repeat refine MT.say ?_);exact MT.any
           ·(repeat refine MT.say ?_);exact MT.any
theorem Bq(p_x:aU)(p_b0:ByteArray)(h_p_x:aW p_x.lf1≤100000000)(h_p_b0:p_b0.size≤100000000):Tot (atv p_x p_b0) Any:=by
 have:=iR p_x
 show MT (ac4 p_x p_b0) Any
 repeat' (first|exact MT.any|refine MT.say ?_|refine MT.ite (fun _=>?_) (fun _=>?_))
theorem pK(p_s:List aU)(p_b0:ByteArray)(h_p_s:bM (p_s.map aU.lf)≤100000000)(h_p_b0:p_b0.size≤100000000):Tot (Q53 p_s p_b0) Any:=by
 have:=jc p_s
 show MT (akX p_s p_b0) Any
 refine MT.say (MT.lD (R:=Any) ?_ ?_ ?_)
 ·refine T.cnt (fun _=>True) ?_
  intro k55 hk55
  show MT (yB p_b0 p_s ((k55:Nat):Int)) _
  refine MT.ite (fun c7425=>?_) (fun c7425=>?_)
  ·have c7425':=of_decide_eq_true c7425
   refine MT.say (MT.ask (fC p_s ((k55:Nat):Int) (by omega) (by omega)) (fun x7426 _ hx56=>?_))
   have:=uO hx56
   have:=iR x7426
   refine MT.say (MT.ask (R:=Any) ?_ ?_)
   ·exact T.wk (Bq x7426 p_b0 (by first|omega|(simp;done)|decide) (by first|omega|(simp;done)|decide))
   ·intro r7428 h7429 _
    refine MT.say (MT.ite (fun c7430=>?_) (fun c7430=>?_))
    ·(repeat refine MT.say ?_);exact MT.ret trivial
    ·(repeat refine MT.say ?_);exact MT.ret ⟨rfl,by omega⟩
  ·have c7425':=of_decide_eq_false c7425
   (repeat refine MT.say ?_);exact MT.ret trivial
 ·intro o7434 h7433 _
  (repeat refine MT.say ?_);exact MT.any
 ·intro o7435 h7433 _
  (repeat refine MT.say ?_);exact MT.any
theorem EW(p_l:List aU)(p_name:ByteArray)(h_p_l:bM (p_l.map aU.lf)≤100000000)(h_p_name:p_name.size≤100000000):Tot (akY p_l p_name) Any:=by
 have:=jc p_l
 show MT (ac6 p_l p_name) Any
 repeat' (first|exact MT.any|refine MT.say ?_|refine MT.ite (fun _=>?_) (fun _=>?_)|refine MT.lZ ?_ (fun _ _=>?_)|exact⟨T.wk (pK _ _ (by first|omega|decide) (by first|omega|decide))⟩)
theorem uX(p_has:Bool)(p_v:ah)(h_p_v:aW p_v.lf1≤100000000):Tot (Q80 p_has p_v) Any:=by
 have:=dA p_v
 have:=fV p_v.bF
 have:=gG p_v.bC
 show MT (ak0 p_has p_v) Any
 repeat' (first|exact MT.any|refine MT.say ?_|refine MT.ite (fun _=>?_) (fun _=>?_)|refine MT.lZ ?_ (fun _ _=>?_)|exact⟨T.wk (jd _ (by first|omega|decide))⟩|refine⟨(show MT _ Any from ?_)⟩)
theorem qF(p_s:aI)(h_p_s:aW p_s.lf1≤100000000):Tot (Q8 p_s) Any:=by
 have:=fA p_s
 have:=dA p_s.rM
 have:=dA p_s.rO
 have:=fV p_s.iZ
 have:=fB p_s.eu
 have:=jL p_s.dD
 have:=jI p_s.eP
 show MT (atx p_s) Any
 refine MT.say (MT.lD (R:=Any) ?_ ?_ ?_)
 ·refine T.auL (fun _=>True) ?_
  intro k57 m7706 hk57 hmk57
  show MT (DW p_s (((k57:Nat):Int),m7706)) _
  refine MT.ite (fun c7707=>?_) (fun c7707=>?_)
  ·have c7707':=of_decide_eq_true c7707
   refine MT.say (MT.ask (fC p_s.eu ((k57:Nat):Int) (by omega) (by omega)) (fun x7708 _ hx58=>?_))
   have:=Jq hx58
   refine MT.say (MT.ask (R:=Any) ?_ ?_)
   ·show MT (VJ m7706 p_s ((k57:Nat):Int) x7708) Any
    refine MT.ask (R:=Any) ?_ ?_
    ·exact T.wk (T.val (AB x7708))
    ·intro r7710 h7711 _
     refine MT.say (MT.ite (fun c7712=>?_) (fun c7712=>?_))
     ·(repeat refine MT.say ?_);exact MT.any
     ·(repeat refine MT.say ?_);exact MT.any
   ·intro r7714 h7715 _
    refine MT.say (MT.ite (fun c7716=>?_) (fun c7716=>?_))
    ·(repeat refine MT.say ?_);exact MT.ret trivial
    ·refine MT.say (MT.grd (by unfold maxLen;omega) (fun _=>?_))
     (repeat refine MT.say ?_);exact MT.ret ⟨rfl,by first|omega|(simp only[List.length_cons];omega),by omega⟩
  ·have c7707':=of_decide_eq_false c7707
   (repeat refine MT.say ?_);exact MT.ret trivial
 ·intro o7720 h7719 _
  (repeat refine MT.say ?_);exact MT.any
 ·intro o7721 h7719 _
  refine MT.say (MT.lD (R:=Any) ?_ ?_ ?_)
  ·refine T.auL (fun _=>True) ?_
   intro k59 m7780 hk59 hmk59
   show MT (yC p_s (((k59:Nat):Int),m7780)) _
   refine MT.ite (fun c7781=>?_) (fun c7781=>?_)
   ·have c7781':=of_decide_eq_true c7781
    refine MT.say (MT.ask (fC p_s.dD ((k59:Nat):Int) (by omega) (by omega)) (fun x7782 _ hx60=>?_))
    have:=qj hx60
    have:=pz x7782
    refine MT.say (MT.ask (R:=Any) ?_ ?_)
    ·show MT (Lr m7780 p_s ((k59:Nat):Int) x7782) Any
     refine MT.ask (R:=Any) ?_ ?_
     ·exact T.wk (T.val (AB x7782.fName))
     ·intro r7784 h7785 _
      refine MT.say (MT.ite (fun c7786=>?_) (fun c7786=>?_))
      ·(repeat refine MT.say ?_);exact MT.any
      ·(repeat refine MT.say ?_);exact MT.any
    ·intro r7788 h7789 _
     refine MT.say (MT.ite (fun c7790=>?_) (fun c7790=>?_))
     ·(repeat refine MT.say ?_);exact MT.ret trivial
     ·refine MT.say (MT.grd (by unfold maxLen;omega) (fun _=>?_))
      (repeat refine MT.say ?_);exact MT.ret ⟨rfl,by first|omega|(simp only[List.length_cons];omega),by omega⟩
   ·have c7781':=of_decide_eq_false c7781
    (repeat refine MT.say ?_);exact MT.ret trivial
  ·intro o7794 h7793 _
   (repeat refine MT.say ?_);exact MT.any
  ·intro o7795 h7793 _
   refine MT.say (MT.ask (R:=fun b_=>(b_=true→True)∧(b_=false→(bZ .andNot .i64 p_s.jH 4094)=0∧¬((p_s.mG:Int)<0)∧True)) ?_ ?_)
   ·show MT (Ls p_s) _
    refine MT.ite (fun c7808=>?_) (fun c7808=>?_)
    ·have c7808':¬((bZ .andNot .i64 p_s.jH 4094)=0):=by simpa using c7808
     (repeat refine MT.say ?_);exact MT.ret ⟨(fun _=>trivial),(fun h_=>by cases h_)⟩
    ·have c7808':(bZ .andNot .i64 p_s.jH 4094)=0:=by simpa using c7808
     (repeat refine MT.say ?_);exact MT.ret ⟨(fun _=>trivial),(fun h_=>⟨(by first|assumption|omega),(of_decide_eq_false h_),trivial⟩)⟩
   ·intro r7810 h7811 f_r7810
    refine MT.say (MT.ask (R:=fun b_=>(b_=true→True)∧(b_=false→r7810=false∧¬((p_s.mJ:Int)<(-1))∧True)) ?_ ?_)
    ·show MT (Lu p_s r7810) _
     refine MT.ite (fun c7812=>?_) (fun c7812=>?_)
     ·(repeat refine MT.say ?_);exact MT.ret ⟨(fun _=>trivial),(fun h_=>by cases h_)⟩
     ·have q61:=f_r7810.2 (c7812)
      (repeat refine MT.say ?_);exact MT.ret ⟨(fun _=>trivial),(fun h_=>⟨(by first|assumption|omega),(of_decide_eq_false h_),trivial⟩)⟩
    ·intro r7814 h7815 f_r7814
     refine MT.say (MT.ask (R:=fun b_=>(b_=true→True)∧(b_=false→r7814=false∧¬((1:Int)<(p_s.eP.length:Int))∧True)) ?_ ?_)
     ·show MT (LC p_s r7814) _
      refine MT.ite (fun c7816=>?_) (fun c7816=>?_)
      ·(repeat refine MT.say ?_);exact MT.ret ⟨(fun _=>trivial),(fun h_=>by cases h_)⟩
      ·have q62:=f_r7814.2 (c7816)
       have q63:=f_r7810.2 (q62.1)
       (repeat refine MT.say ?_);exact MT.ret ⟨(fun _=>trivial),(fun h_=>⟨(by first|assumption|omega),(of_decide_eq_false h_),trivial⟩)⟩
     ·intro r7818 h7819 f_r7818
      refine MT.say (MT.ite (fun c7821=>?_) (fun c7821=>?_))
      ·(repeat refine MT.say ?_);exact MT.any
      ·have q64:=f_r7818.2 (c7821)
       have q65:=f_r7814.2 (q64.1)
       have q66:=f_r7810.2 (q65.1)
       refine MT.say (MT.ask (R:=Any) ?_ ?_)
       ·show MT (LD p_s) Any
        refine MT.ask (R:=Any) ?_ ?_
        ·exact T.wk (uX p_s.kU p_s.rM (by first|omega|(simp;done)|decide))
        ·intro r7855 h7856 _
         refine MT.say (MT.ite (fun c7857=>?_) (fun c7857=>?_))
         ·(repeat refine MT.say ?_);exact MT.any
         ·refine MT.say (MT.ask (R:=Any) ?_ ?_)
          ·exact T.wk (uX p_s.kV p_s.rO (by first|omega|(simp;done)|decide))
          ·intro r7858 h7859 _
           (repeat refine MT.say ?_);exact MT.any
       ·intro r7861 h7862 _
        refine MT.say (MT.ite (fun c7864=>?_) (fun c7864=>?_))
        ·(repeat refine MT.say ?_);exact MT.any
        ·refine MT.say (MT.lD (R:=Any) ?_ ?_ ?_)
         ·refine T.cnt (fun _=>True) ?_
          intro k67 hk67
          show MT (yD p_s ((k67:Nat):Int)) _
          refine MT.ite (fun c7900=>?_) (fun c7900=>?_)
          ·have c7900':=of_decide_eq_true c7900
           refine MT.say (MT.ask (fC p_s.iZ ((k67:Nat):Int) (by omega) (by omega)) (fun x7901 _ hx68=>?_))
           have:=jg hx68
           have:=dA x7901
           refine MT.say (MT.ask (R:=Any) ?_ ?_)
           ·exact T.wk (jd x7901 (by first|omega|(simp;done)|decide))
           ·intro r7903 h7904 _
            refine MT.say (MT.ite (fun c7905=>?_) (fun c7905=>?_))
            ·(repeat refine MT.say ?_);exact MT.ret trivial
            ·(repeat refine MT.say ?_);exact MT.ret ⟨rfl,by omega⟩
          ·have c7900':=of_decide_eq_false c7900
           (repeat refine MT.say ?_);exact MT.ret trivial
         ·intro o7908 h7907 _
          (repeat refine MT.say ?_);exact MT.any
         ·intro o7909 h7907 _
          (repeat refine MT.say ?_);exact MT.any
theorem EX(n_:Nat):∀(p_s:aI) (p_level:Int) (p_b0:Int),aW p_s.lf1<n_→aW p_s.lf1≤100000000→Tot ((oK n_).m1 p_s p_level p_b0) Any:=by
 induction n_ with
 |zero=>intro p_s p_level p_b0 h;omega
 |succ n_ ih=>
  intro p_s p_level p_b0 h_ h_p_s
  have:=fA p_s
  have:=jL p_s.dD
  have:=jI p_s.eP
  show MT (LG (oK n_) p_s p_level p_b0) Any
  refine MT.ask (R:=fun b_=>(b_=true→True)∧(b_=false→¬((16:Int)<p_level)∧¬(p_b0=64)∧True)) ?_ ?_
  ·show MT (DX (oK n_) p_b0 p_level p_s) _
   refine MT.ite (fun c7515=>?_) (fun c7515=>?_)
   ·have c7515':=of_decide_eq_true c7515
    (repeat refine MT.say ?_);exact MT.ret ⟨(fun _=>trivial),(fun h_=>by cases h_)⟩
   ·have c7515':=of_decide_eq_false c7515
    (repeat refine MT.say ?_);exact MT.ret ⟨(fun _=>trivial),(fun h_=>⟨(by first|assumption|omega),(by simpa using h_),trivial⟩)⟩
  ·intro r7517 h7518 f_r7517
   refine MT.say (MT.ite (fun c7520=>?_) (fun c7520=>?_))
   ·(repeat refine MT.say ?_);exact MT.any
   ·have q69:=f_r7517.2 (c7520)
    refine MT.say (MT.ask (R:=Any) ?_ ?_)
    ·exact T.wk (qF p_s (by first|omega|(simp;done)|decide))
    ·intro r7912 h7913 _
     refine MT.say (MT.ite (fun c7915=>?_) (fun c7915=>?_))
     ·have c7915':¬(r7912=0):=by simpa using c7915
      (repeat refine MT.say ?_);exact MT.any
     ·have c7915':r7912=0:=by simpa using c7915
      refine MT.say (MT.lD (R:=Any) ?_ ?_ ?_)
      ·refine T.NZ (fun _=>True) ?_
       intro k70 v7957 hk70
       show MT (yE (oK n_) p_level p_s (((k70:Nat):Int),v7957)) _
       refine MT.ite (fun c7958=>?_) (fun c7958=>?_)
       ·have c7958':=of_decide_eq_true c7958
        refine MT.say (MT.ask (fC p_s.dD ((k70:Nat):Int) (by omega) (by omega)) (fun x7959 _ hx71=>?_))
        have:=qj hx71
        have:=pz x7959
        have:=fA x7959.dW
        refine MT.say (MT.ask (R:=Any) ?_ ?_)
        ·exact(ih x7959.dW (IntKind.wrap .i64 (p_level+1)) v7957 (by omega) (by first|omega|(simp;done)|decide))
        ·intro r7961 h7962 _
         refine MT.say (MT.ite (fun c7963=>?_) (fun c7963=>?_))
         ·have c7963':¬(r7961.1=0):=by simpa using c7963
          (repeat refine MT.say ?_);exact MT.ret trivial
         ·have c7963':r7961.1=0:=by simpa using c7963
          (repeat refine MT.say ?_);exact MT.ret ⟨rfl,by omega⟩
       ·have c7958':=of_decide_eq_false c7958
        (repeat refine MT.say ?_);exact MT.ret trivial
      ·intro o7971 h7970 _
       (repeat refine MT.say ?_);exact MT.any
      ·intro o7972 h7970 _
       refine MT.say (MT.lD (R:=Any) ?_ ?_ ?_)
       ·refine T.NZ (fun _=>True) ?_
        intro k72 v8012 hk72
        show MT (uH (oK n_) p_level p_s (((k72:Nat):Int),v8012)) _
        refine MT.ite (fun c8013=>?_) (fun c8013=>?_)
        ·have c8013':=of_decide_eq_true c8013
         refine MT.say (MT.ask (fC p_s.eP ((k72:Nat):Int) (by omega) (by omega)) (fun x8014 _ hx73=>?_))
         have:=lY hx73
         have:=fA x8014
         refine MT.say (MT.ask (R:=Any) ?_ ?_)
         ·exact(ih x8014 (IntKind.wrap .i64 (p_level+1)) v8012 (by omega) (by first|omega|(simp;done)|decide))
         ·intro r8016 h8017 _
          refine MT.say (MT.ite (fun c8018=>?_) (fun c8018=>?_))
          ·have c8018':¬(r8016.1=0):=by simpa using c8018
           (repeat refine MT.say ?_);exact MT.ret trivial
          ·have c8018':r8016.1=0:=by simpa using c8018
           (repeat refine MT.say ?_);exact MT.ret ⟨rfl,by omega⟩
        ·have c8013':=of_decide_eq_false c8013
         (repeat refine MT.say ?_);exact MT.ret trivial
       ·intro o8024 h8023 _
        (repeat refine MT.say ?_);exact MT.any
       ·intro o8025 h8023 _
        (repeat refine MT.say ?_);exact MT.any
theorem Ia(p_s:aI)(p_level:Int)(p_b0:Int)(h_p_s:aW p_s.lf1≤100000000):Tot (Q45 p_s p_level p_b0) Any:=EX FU p_s p_level p_b0 (by have:=iw;omega) h_p_s
theorem Ib(p_s:aI)(h_p_s:aW p_s.lf1≤100000000):Tot (aph p_s) Any:=by
 have:=fA p_s
 show MT (ada p_s) Any
 repeat' (first|exact MT.any|refine MT.say ?_|refine MT.ite (fun _=>?_) (fun _=>?_)|refine MT.lZ ?_ (fun _ _=>?_)|exact⟨T.wk (Ia _ _ _ (by first|omega|decide))⟩)
theorem sJ(p_d:cu)(h_p_d:aW p_d.lf1≤100000000):Tot (Q61 p_d) Any:=by
 have:=jV p_d
 have:=jc p_d.bV
 have:=fA p_d.dW
 show MT (ak3 p_d) Any
 refine MT.ask (R:=Any) ?_ ?_
 ·exact T.wk (T.val (TL p_d.fName))
 ·intro r5483 h5484 _
  refine MT.say (MT.ite (fun c5486=>?_) (fun c5486=>?_))
  ·(repeat refine MT.say ?_);exact MT.any
  ·refine MT.say (MT.ite (fun c5488=>?_) (fun c5488=>?_))
   ·have c5488':=of_decide_eq_true c5488
    (repeat refine MT.say ?_);exact MT.any
   ·have c5488':=of_decide_eq_false c5488
    refine MT.say (MT.lD (R:=Any) ?_ ?_ ?_)
    ·refine T.cnt (fun _=>True) ?_
     intro k74 hk74
     have:=nN aU.lf p_d.bV (((k74:Nat):Int).toNat)
     have:=jc (p_d.bV.take ((k74:Nat):Int).toNat)
     show MT (yF p_d ((k74:Nat):Int)) _
     refine MT.ite (fun c7483=>?_) (fun c7483=>?_)
     ·have c7483':=of_decide_eq_true c7483
      refine MT.say (MT.ask (fC p_d.bV ((k74:Nat):Int) (by omega) (by omega)) (fun x7484 _ hx75=>?_))
      have:=uO hx75
      have:=iR x7484
      refine MT.say (MT.ask (R:=Any) ?_ ?_)
      ·exact T.wk (kK x7484 (by first|omega|(simp;done)|decide))
      ·intro r7486 h7487 _
       refine MT.say (MT.ite (fun c7488=>?_) (fun c7488=>?_))
       ·have c7488':¬(r7486=0):=by simpa using c7488
        (repeat refine MT.say ?_);exact MT.ret trivial
       ·have c7488':r7486=0:=by simpa using c7488
        refine MT.say (MT.grd (by omega) (fun _=>?_))
        refine MT.say (MT.ask (R:=Any) ?_ ?_)
        ·exact T.wk (EW (p_d.bV.take ((k74:Nat):Int).toNat) x7484.fName (Nat.le_trans (nN _ _ _) (by omega)) (by first|omega|(simp;done)|decide))
        ·intro r7490 h7491 _
         refine MT.say (MT.ite (fun c7492=>?_) (fun c7492=>?_))
         ·have c7492':=of_decide_eq_true c7492
          (repeat refine MT.say ?_);exact MT.ret trivial
         ·have c7492':=of_decide_eq_false c7492
          (repeat refine MT.say ?_);exact MT.ret ⟨rfl,by omega⟩
     ·have c7483':=of_decide_eq_false c7483
      (repeat refine MT.say ?_);exact MT.ret trivial
    ·intro o7498 h7497 _
     (repeat refine MT.say ?_);exact MT.any
    ·intro o7499 h7497 _
     refine MT.say (MT.ask (R:=fun b_=>(b_=true→True)∧(b_=false→¬((p_d.ou:Int)<0)∧¬((2:Int)<p_d.ou)∧True)) ?_ ?_)
     ·show MT (LJ p_d) _
      refine MT.ite (fun c7501=>?_) (fun c7501=>?_)
      ·have c7501':=of_decide_eq_true c7501
       (repeat refine MT.say ?_);exact MT.ret ⟨(fun _=>trivial),(fun h_=>by cases h_)⟩
      ·have c7501':=of_decide_eq_false c7501
       (repeat refine MT.say ?_);exact MT.ret ⟨(fun _=>trivial),(fun h_=>⟨(by first|assumption|omega),(of_decide_eq_false h_),trivial⟩)⟩
     ·intro r7503 h7504 f_r7503
      refine MT.say (MT.ite (fun c7506=>?_) (fun c7506=>?_))
      ·(repeat refine MT.say ?_);exact MT.any
      ·have q76:=f_r7503.2 (c7506)
       refine MT.say (MT.ask (R:=fun b_=>(b_=true→¬(p_d.jX=0)∧¬(p_d.jX=1)∧True)∧(b_=false→True)) ?_ ?_)
       ·show MT (GY p_d) _
        refine MT.ite (fun c7508=>?_) (fun c7508=>?_)
        ·have c7508':¬(p_d.jX=0):=by simpa using c7508
         (repeat refine MT.say ?_);exact MT.ret ⟨(fun h_=>⟨(by first|assumption|omega),(by simpa using h_),trivial⟩),(fun _=>trivial)⟩
        ·have c7508':p_d.jX=0:=by simpa using c7508
         (repeat refine MT.say ?_);exact MT.ret ⟨(fun h_=>by cases h_),(fun _=>trivial)⟩
       ·intro r7510 h7511 f_r7510
        refine MT.say (MT.ite (fun c7513=>?_) (fun c7513=>?_))
        ·have q77:=f_r7510.1 (c7513)
         (repeat refine MT.say ?_);exact MT.any
        ·refine MT.say (MT.ask (R:=Any) ?_ ?_)
         ·exact T.wk (Ib p_d.dW (by first|omega|(simp;done)|decide))
         ·intro r8028 h8029 _
          (repeat refine MT.say ?_);exact MT.any
theorem xO(n_:Nat):∀(p_w:aH) (p_least:Int) (p_greatest:Int),aW p_w.lf1<n_→aW p_w.lf1≤100000000→Tot ((jw n_).m1 p_w p_least p_greatest) Any:=by
 induction n_ with
 |zero=>intro p_w p_least p_greatest h;omega
 |succ n_ ih=>
  intro p_w p_least p_greatest h_ h_p_w
  have:=jl p_w
  have:=jV p_w.kM
  have:=iR p_w.bP
  have:=nS p_w.dh
  have:=jB p_w.dZ
  show MT (adb (jw n_) p_w p_least p_greatest) Any
  refine MT.ask (R:=Any) ?_ ?_
  ·exact T.wk (uU p_w.aK)
  ·intro r3146 h3147 _
   refine MT.say (MT.ask (R:=fun b_=>(b_=true→True)∧(b_=false→¬((p_w.aK:Int)<p_least)∧¬((p_greatest:Int)<p_w.aK)∧True)) ?_ ?_)
   ·show MT (VO (jw n_) p_greatest p_least p_w r3146) _
    refine MT.ite (fun c3483=>?_) (fun c3483=>?_)
    ·have c3483':=of_decide_eq_true c3483
     (repeat refine MT.say ?_);exact MT.ret ⟨(fun _=>trivial),(fun h_=>by cases h_)⟩
    ·have c3483':=of_decide_eq_false c3483
     (repeat refine MT.say ?_);exact MT.ret ⟨(fun _=>trivial),(fun h_=>⟨(by first|assumption|omega),(of_decide_eq_false h_),trivial⟩)⟩
   ·intro r3485 h3486 f_r3485
    refine MT.say (MT.ask (R:=fun b_=>(b_=true→True)∧(b_=false→r3485=false∧True)) ?_ ?_)
    ·show MT (VP (jw n_) p_greatest p_w r3146 r3485) _
     refine MT.ite (fun c3487=>?_) (fun c3487=>?_)
     ·(repeat refine MT.say ?_);exact MT.ret ⟨(fun _=>trivial),(fun h_=>by cases h_)⟩
     ·have q78:=f_r3485.2 (c3487)
      refine MT.say (MT.ask (R:=Any) ?_ ?_)
      ·exact T.wk (kW p_w)
      ·intro r3488 h3489 _
       (repeat refine MT.say ?_);exact MT.ret ⟨(fun _=>trivial),(fun h_=>⟨(by first|assumption|omega),trivial⟩)⟩
    ·intro r3491 h3492 f_r3491
     refine MT.say (MT.ask (R:=fun b_=>(b_=true→True)∧(b_=false→r3491=false∧True)) ?_ ?_)
     ·show MT (LK (jw n_) p_greatest p_w r3146 r3491) _
      refine MT.ite (fun c3493=>?_) (fun c3493=>?_)
      ·(repeat refine MT.say ?_);exact MT.ret ⟨(fun _=>trivial),(fun h_=>by cases h_)⟩
      ·have q79:=f_r3491.2 (c3493)
       have q80:=f_r3485.2 (q79.1)
       refine MT.say (MT.ite (fun c3494=>?_) (fun c3494=>?_))
       ·(repeat refine MT.say ?_);exact MT.ret ⟨(fun _=>trivial),(fun h_=>⟨(by first|assumption|omega),trivial⟩)⟩
       ·(repeat refine MT.say ?_);exact MT.ret ⟨(fun h_=>by cases h_),(fun h_=>⟨(by first|assumption|omega),trivial⟩)⟩
     ·intro r3496 h3497 f_r3496
      refine MT.say (MT.ite (fun c3499=>?_) (fun c3499=>?_))
      ·(repeat refine MT.say ?_);exact MT.any
      ·have q81:=f_r3496.2 (c3499)
       have q82:=f_r3491.2 (q81.1)
       have q83:=f_r3485.2 (q82.1)
       refine MT.say (MT.ite (fun c3501=>?_) (fun c3501=>?_))
       ·have c3501':=of_decide_eq_true c3501
        (repeat refine MT.say ?_);exact MT.any
       ·have c3501':=of_decide_eq_false c3501
        refine MT.say (MT.ask (R:=Any) ?_ ?_)
        ·show MT (LM (jw n_) p_greatest p_w r3146) Any
         refine MT.ite (fun c3522=>?_) (fun c3522=>?_)
         ·refine MT.say (MT.ask (R:=Any) ?_ ?_)
          ·exact T.wk (T.val (qO p_w.iO))
          ·intro r3523 h3524 _
           (repeat refine MT.say ?_);exact MT.any
         ·(repeat refine MT.say ?_);exact MT.any
        ·intro r3526 h3527 _
         refine MT.say (MT.ask (R:=fun b_=>(b_=true→True)∧(b_=false→r3526=false∧True)) ?_ ?_)
         ·show MT (LQ (jw n_) p_greatest p_w r3146 r3526) _
          refine MT.ite (fun c3528=>?_) (fun c3528=>?_)
          ·(repeat refine MT.say ?_);exact MT.ret ⟨(fun _=>trivial),(fun h_=>by cases h_)⟩
          ·refine MT.say (MT.ite (fun c3529=>?_) (fun c3529=>?_))
           ·refine MT.say (MT.ask (R:=Any) ?_ ?_)
            ·exact T.wk (T.val (qO p_w.oz))
            ·intro r3530 h3531 _
             (repeat refine MT.say ?_);exact MT.ret ⟨(fun _=>trivial),(fun h_=>⟨(by first|assumption|omega),trivial⟩)⟩
           ·(repeat refine MT.say ?_);exact MT.ret ⟨(fun h_=>by cases h_),(fun h_=>⟨(by first|assumption|omega),trivial⟩)⟩
         ·intro r3533 h3534 f_r3533
          refine MT.say (MT.ask (R:=fun b_=>(b_=true→True)∧(b_=false→r3533=false∧True)) ?_ ?_)
          ·show MT (LU (jw n_) p_greatest p_w r3146 r3533) _
           refine MT.ite (fun c3535=>?_) (fun c3535=>?_)
           ·(repeat refine MT.say ?_);exact MT.ret ⟨(fun _=>trivial),(fun h_=>by cases h_)⟩
           ·have q84:=f_r3533.2 (c3535)
            refine MT.say (MT.ite (fun c3536=>?_) (fun c3536=>?_))
            ·refine MT.say (MT.ask (R:=Any) ?_ ?_)
             ·exact T.wk (T.val (qO p_w.bP.fName))
             ·intro r3537 h3538 _
              (repeat refine MT.say ?_);exact MT.ret ⟨(fun _=>trivial),(fun h_=>⟨(by first|assumption|omega),trivial⟩)⟩
            ·(repeat refine MT.say ?_);exact MT.ret ⟨(fun h_=>by cases h_),(fun h_=>⟨(by first|assumption|omega),trivial⟩)⟩
          ·intro r3540 h3541 f_r3540
           refine MT.say (MT.ite (fun c3543=>?_) (fun c3543=>?_))
           ·(repeat refine MT.say ?_);exact MT.any
           ·have q85:=f_r3540.2 (c3543)
            have q86:=f_r3533.2 (q85.1)
            refine MT.say (MT.ask (R:=Any) ?_ ?_)
            ·show MT (LV (jw n_) p_greatest p_w r3146) Any
             refine MT.ite (fun c3662=>?_) (fun c3662=>?_)
             ·refine MT.say (MT.ask (R:=Any) ?_ ?_)
              ·exact T.wk (yS p_w)
              ·intro r3663 h3664 _
               (repeat refine MT.say ?_);exact MT.any
             ·(repeat refine MT.say ?_);exact MT.any
            ·intro r3666 h3667 _
             refine MT.say (MT.ask (R:=fun b_=>(b_=true→True)∧(b_=false→r3666=false∧True)) ?_ ?_)
             ·show MT (LW (jw n_) p_greatest p_w r3146 r3666) _
              refine MT.ite (fun c3668=>?_) (fun c3668=>?_)
              ·(repeat refine MT.say ?_);exact MT.ret ⟨(fun _=>trivial),(fun h_=>by cases h_)⟩
              ·refine MT.say (MT.ite (fun c3669=>?_) (fun c3669=>?_))
               ·refine MT.say (MT.ask (R:=Any) ?_ ?_)
                ·exact T.wk (xM p_w.dZ (by first|omega|(simp;done)|decide))
                ·intro r3670 h3671 _
                 (repeat refine MT.say ?_);exact MT.ret ⟨(fun _=>trivial),(fun h_=>⟨(by first|assumption|omega),trivial⟩)⟩
               ·(repeat refine MT.say ?_);exact MT.ret ⟨(fun h_=>by cases h_),(fun h_=>⟨(by first|assumption|omega),trivial⟩)⟩
             ·intro r3673 h3674 f_r3673
              refine MT.say (MT.ite (fun c3676=>?_) (fun c3676=>?_))
              ·(repeat refine MT.say ?_);exact MT.any
              ·have q87:=f_r3673.2 (c3676)
               refine MT.say (MT.lD (R:=Any) ?_ ?_ ?_)
               ·show MT (LX (jw n_) p_greatest p_w r3146) Any
                refine MT.ite (fun c5343=>?_) (fun c5343=>?_)
                ·refine MT.say (MT.ask (R:=Any) ?_ ?_)
                 ·exact T.wk (Bc p_w (by first|omega|(simp;done)|decide))
                 ·intro r5344 h5345 _
                  refine MT.say (MT.ite (fun c5346=>?_) (fun c5346=>?_))
                  ·have c5346':¬(r5344=0):=by simpa using c5346
                   (repeat refine MT.say ?_);exact MT.any
                  ·have c5346':r5344=0:=by simpa using c5346
                   (repeat refine MT.say ?_);exact MT.any
                ·(repeat refine MT.say ?_);exact MT.any
               ·intro o5351 h5350 _
                (repeat refine MT.say ?_);exact MT.any
               ·intro o5352 h5350 _
                refine MT.say (MT.lD (R:=Any) ?_ ?_ ?_)
                ·show MT (LY (jw n_) p_greatest p_w) Any
                 refine MT.ite (fun c8037=>?_) (fun c8037=>?_)
                 ·have c8037':p_w.aK=4:=by simpa using c8037
                  refine MT.say (MT.ask (R:=Any) ?_ ?_)
                  ·exact T.wk (sJ p_w.kM (by first|omega|(simp;done)|decide))
                  ·intro r8038 h8039 _
                   (repeat refine MT.say ?_);exact MT.any
                 ·have c8037':¬(p_w.aK=4):=by simpa using c8037
                  refine MT.say (MT.ite (fun c8040=>?_) (fun c8040=>?_))
                  ·have c8040':p_w.aK=6:=by simpa using c8040
                   refine MT.say (MT.ask (R:=Any) ?_ ?_)
                   ·exact T.wk (kK p_w.bP (by first|omega|(simp;done)|decide))
                   ·intro r8041 h8042 _
                    (repeat refine MT.say ?_);exact MT.any
                  ·have c8040':¬(p_w.aK=6):=by simpa using c8040
                   refine MT.say (MT.ite (fun c8043=>?_) (fun c8043=>?_))
                   ·have c8043':p_w.aK=8:=by simpa using c8043
                    (repeat refine MT.say ?_);exact MT.any
                   ·have c8043':¬(p_w.aK=8):=by simpa using c8043
                    refine MT.say (MT.ite (fun c8044=>?_) (fun c8044=>?_))
                    ·have c8044':p_w.aK=9:=by simpa using c8044
                     (repeat refine MT.say ?_);exact MT.any
                    ·have c8044':¬(p_w.aK=9):=by simpa using c8044
                     (repeat refine MT.say ?_);exact MT.any
                ·intro o8051 h8050 _
                 (repeat refine MT.say ?_);exact MT.any
                ·intro o8052 h8050 _
                 refine MT.say (MT.lD (R:=Any) ?_ ?_ ?_)
                 ·refine T.cnt (fun _=>True) ?_
                  intro k88 hk88
                  show MT (qX (jw n_) o8052 p_w ((k88:Nat):Int)) _
                  refine MT.ite (fun c8089=>?_) (fun c8089=>?_)
                  ·have c8089':=of_decide_eq_true c8089
                   refine MT.say (MT.ask (fC p_w.dh ((k88:Nat):Int) (by omega) (by omega)) (fun x8090 _ hx89=>?_))
                   have:=pG hx89
                   have:=jl x8090
                   refine MT.say (MT.ask (R:=Any) ?_ ?_)
                   ·exact(ih x8090 2 o8052 (by omega) (by first|omega|(simp;done)|decide))
                   ·intro r8092 h8093 _
                    refine MT.say (MT.ite (fun c8094=>?_) (fun c8094=>?_))
                    ·have c8094':¬(r8092=0):=by simpa using c8094
                     (repeat refine MT.say ?_);exact MT.ret trivial
                    ·have c8094':r8092=0:=by simpa using c8094
                     (repeat refine MT.say ?_);exact MT.ret ⟨rfl,by omega⟩
                  ·have c8089':=of_decide_eq_false c8089
                   (repeat refine MT.say ?_);exact MT.ret trivial
                 ·intro o8098 h8097 _
                  (repeat refine MT.say ?_);exact MT.any
                 ·intro o8099 h8097 _
                  (repeat refine MT.say ?_);exact MT.any
theorem yU(p_w:aH)(p_least:Int)(p_greatest:Int)(h_p_w:aW p_w.lf1≤100000000):Tot (Q4 p_w p_least p_greatest) Any:=xO FU p_w p_least p_greatest (by have:=iw;omega) h_p_w
theorem I4(p_e:aF)(h_p_e:aW p_e.lf1≤100000000):Tot (apk p_e) Any:=by
 have:=pF p_e
 have:=jl p_e.dL
 show MT (ade p_e) Any
 repeat' (first|exact MT.any|refine MT.say ?_|refine MT.ite (fun _=>?_) (fun _=>?_)|refine MT.lZ ?_ (fun _ _=>?_)|exact⟨T.wk (T.val (qO _))⟩|exact⟨T.wk (yU _ _ _ (by first|omega|decide))⟩|refine⟨(show MT _ Any from ?_)⟩)
end Go.Proofs.YtbdcaeahocbkbaaGreatDoor
set_option linter.unusedSimpArgs false
set_option linter.unusedVariables false
namespace Go.Proofs.YtbdcaeahocbkbaaGreatDoor
open Go.RowKit
theorem amr(s:ByteArray)(i n:Nat)(hs:s.size≤100000000)(hi:i≤s.size)(h1:n≤3):Q98 s (i:Int) (n:Int)=some (nO (rest s i) n):=by
 unfold Q98 aqY
 simp only[Mo.den,ak,aj,aA,au,ay]
 rw[w64 (by omega) (by omega)]
 by_cases h:s.size<i+n
 ·rw[decide_eq_true (show(s.size:Int)<(i:Int)+(n:Int) by omega)]
  show some false=some (nO (rest s i) n)
  unfold nO
  rw[yV,decide_eq_false (show ¬n≤s.size-i by omega)];rfl
 rw[decide_eq_false (show ¬(s.size:Int)<(i:Int)+(n:Int) by omega)]
 have key:Tot (alh (i:Int) (n:Int) s 0) (fun r=>match r with|.inl _=>nO (rest s i) n=false|.inr _=>nO (rest s i) n=true):=by
  have hT:nO (rest s i) n=((rest s i).take n).all fun c=>iV c.toNat:=by
   unfold nO;rw[yV,decide_eq_true (show n≤s.size-i by omega)];rfl
  rw[hT]
  refine T.oh n (by omega) (fun k v=>v=(k:Int)∧((rest s i).take k).all (fun c=>iV c.toNat)=true) _ ⟨rfl,rfl⟩ ?_ ?_
  ·rintro k v hk ⟨rfl,he⟩
   have hlt:i+k<s.size:=by omega
   have e:lS s (IntKind.wrap .i64 ((i:Int)+(k:Int)))=some s[i+k]:=by
    rw[w64 (by omega) (by omega),show(i:Int)+(k:Int)=((i+k:Nat):Int) by omega];exact oL s _ hlt
   have hg:=aaE s i k hlt
   have hc:iV s[i+k].toNat=(decide (128≤s[i+k].toNat)&&decide (s[i+k].toNat≤191)):=rfl
   simp only[D8,Y6,Mo.den,ak,aj,aA,au,ay,iLt hk,cond_true,e,Option.bind_some]
   have bad:iV s[i+k].toNat=false→((rest s i).take n).all (fun c=>iV c.toNat)=false:=fun h=>by
    rw[List.all_eq_false]
    have hm:(s[i+k])∈(rest s i).take n:=List.mem_of_getElem? (by rw[List.getElem?_take_of_lt hk];exact hg)
    exact⟨_,hm,by rw[h];exact Bool.false_ne_true⟩
   by_cases a1:s[i+k].toNat<128
   ·rw[decide_eq_true (show(s[i+k].toNat:Int)<128 by omega)]
    simp only[cond_true,Option.bind_some]
    exact T.ret (bad (by rw[hc,decide_eq_false (show ¬128≤s[i+k].toNat by omega)];rfl))
   rw[decide_eq_false (show ¬(s[i+k].toNat:Int)<128 by omega)];simp only[cond_false,Option.bind_some]
   by_cases a2:191<s[i+k].toNat
   ·rw[decide_eq_true (show(191:Int)<(s[i+k].toNat:Int) by omega)]
    simp only[cond_true]
    exact T.ret (bad (by rw[hc,decide_eq_false (show ¬s[i+k].toNat≤191 by omega),Bool.and_false]))
   rw[decide_eq_false (show ¬(191:Int)<(s[i+k].toNat:Int) by omega)];simp only[cond_false]
   refine T.ret ⟨inc k (by omega),?_⟩
   rw[yQ _ hg,he,hc,decide_eq_true (show 128≤s[i+k].toNat by omega),decide_eq_true (show s[i+k].toNat≤191 by omega)];rfl
  ·rintro v ⟨rfl,he⟩
   simp only[D8,Mo.den,ak,aj,aA,au,ay,ltn,cond_false]
   exact T.ret he
 obtain⟨r,h,hr⟩:=key
 simp only[cond_false,h,Option.bind_some]
 rcases r with r|r
 ·have hr:_=false:=hr
  rw[hr]
 ·have hr:_=true:=hr
  rw[hr]
theorem ams(b:UInt8)(s:ByteArray)(v:Int):V6 b s v=some (match rF b.toNat with|none=>.inr ()|some n=>.inl (n:Int)):=by
 unfold V6 Md afH afI Y7 rF
 simp only[Mo.den,ak,aj,aA,au,ay]
 generalize b.toNat=n
 by_cases a0:n<128
 ·rw[decide_eq_true (show(n:Int)<128 by omega),if_pos a0];rfl
 rw[decide_eq_false (show ¬(n:Int)<128 by omega),if_neg a0];simp only[cond_false]
 by_cases a1:n<194
 ·rw[decide_eq_false (show ¬(194:Int)≤n by omega),decide_eq_false (show ¬(224:Int)≤n by omega),decide_eq_false (show ¬(240:Int)≤n by omega),if_neg (by omega),if_neg (by omega),if_neg (by omega)];rfl
 rw[decide_eq_true (show(194:Int)≤n by omega)];simp only[cond_true,Option.bind_some]
 by_cases a2:n≤223
 ·rw[decide_eq_true (show(n:Int)≤223 by omega),if_pos (by omega)];rfl
 rw[decide_eq_false (show ¬(n:Int)≤223 by omega),decide_eq_true (show(224:Int)≤n by omega),if_neg (by omega)];simp only[cond_false,cond_true,Option.bind_some]
 by_cases a3:n≤239
 ·rw[decide_eq_true (show(n:Int)≤239 by omega),if_pos (by omega)];rfl
 rw[decide_eq_false (show ¬(n:Int)≤239 by omega),decide_eq_true (show(240:Int)≤n by omega),if_neg (by omega)];simp only[cond_false,cond_true,Option.bind_some]
 by_cases a4:n≤244
 ·rw[decide_eq_true (show(n:Int)≤244 by omega),if_pos (by omega)];rfl
 ·rw[decide_eq_false (show ¬(n:Int)≤244 by omega),if_neg (by omega)];rfl
theorem aqo{b n:Nat}(h:rF b=some n):n≤3∧(n=0→b<128):=by
 unfold rF at h
 repeat' split at h
 all_goals first|cases h|skip
 all_goals omega
theorem ahR(b1 b2 b3 b4 d1 d2 d3 d4:Bool){β:Type}(K:Bool→Option β):((bif b1 then some d1 else some false).bind fun r1=>(bif r1 then some true else bif b2 then some d2 else some false).bind fun r2=>(bif r2 then some true else bif b3 then some d3 else some false).bind fun r3=>(bif r3 then some true else bif b4 then some d4 else some false).bind fun r4=>K r4)=K ((b1&&d1)||(b2&&d2)||(b3&&d3)||(b4&&d4)):=by
 cases b1<;>cases d1<;>cases b2<;>cases d2<;>cases b3<;>cases d3<;>cases b4<;>rfl
theorem amu(s:ByteArray)(hs:s.size≤100000000):Q1 s=some (wQ s):=by
 have key:Tot (ali s 0) (fun r=>match r with|.inl _=>wQ s=false|.inr _=>wQ s=true):=by
  refine lT (T:=fun v_=>(uI s v_).den) (fun v:Int=>∃k:Nat,v=(k:Int)∧k≤s.size∧wQ s=Lib.validD (rest s k)) (fun v:Int=>s.size-v.toNat) _ ?_ FU 0 ⟨0,rfl,Nat.zero_le _,rfl⟩ (by have:=iw;omega)
  rintro v ⟨k,rfl,hk,he⟩
  have key:Tot (uI s (k:Int)).den (LP (fun v'=>∃k':Nat,v'=(k':Int)∧k<k'∧k'≤s.size∧wQ s=Lib.validD (rest s k')) (fun r=>match r with|.inl _=>wQ s=false|.inr _=>wQ s=true)):=by
   by_cases hlt:k<s.size
   ·simp only[uI,Mo.den,ak,aj,aA,au,ay,iLt hlt,cond_true,oL s k hlt,Option.bind_some,ams]
    cases hu:rF s[k].toNat with
    |none=>exact T.ret (show _=false from he.trans (amo s k hlt hu))
    |some n=>
     obtain⟨hn,hn0⟩:=aqo hu
     simp only[]
     rw[inc k (by omega),amr s (k+1) n hs (by omega) hn]
     simp only[Option.bind_some]
     cases ht:nO (rest s (k+1)) n with
     |false=>exact T.ret (show _=false from he.trans (amq s k n hlt hu ht))
     |true=>
      have hlen:=ahQ s (k+1) n ht
      have hodd:∃c:Nat,((rest s k).getD 1 0).toNat=c∧∀{β:Type} (K:Bool→Option β),((adk s[k] (n:Int) s (k:Int)).bind fun r1=>(adl s[k] (n:Int) s r1 (k:Int)).bind fun r2=>(adn s[k] (n:Int) s r2 (k:Int)).bind fun r3=>(ado s[k] (n:Int) s r3 (k:Int)).bind fun r4=>K r4)=K (rP s[k].toNat c):=by
       unfold adk Y9 adl Za adn Zb ado Zc
       simp only[Mo.den,ak,aj,aA,au,ay]
       rw[inc k (by omega)]
       have eb:∀a:Nat,((s[k].toNat:Int)==(a:Int))=(s[k].toNat==a):=fun a=>by rw[Bool.eq_iff_iff];simp;omega
       have e1:=eb 224
       have e2:=eb 237
       have e3:=eb 240
       have e4:=eb 244
       simp only[Int.cast_ofNat_Int] at e1 e2 e3 e4
       rw[e1,e2,e3,e4]
       by_cases h0:n=0
       ·have hb:=hn0 h0
        refine⟨_,rfl,fun K=>?_⟩
        rw[show(s[k].toNat==224)=false by rw[beq_eq_false_iff_ne];omega,show(s[k].toNat==237)=false by rw[beq_eq_false_iff_ne];omega,show(s[k].toNat==240)=false by rw[beq_eq_false_iff_ne];omega,show(s[k].toNat==244)=false by rw[beq_eq_false_iff_ne];omega,adX _ _ (by omega) (by omega) (by omega) (by omega)]
        rfl
       ·have h1:k+1<s.size:=by omega
        refine⟨s[k+1].toNat,by rw[uY s k 1 h1],fun K=>?_⟩
        rw[oL s (k+1) h1]
        simp only[Option.bind_some]
        rw[show decide ((s[k+1].toNat:Int)<160)=decide (s[k+1].toNat<160) by rw[decide_eq_decide];omega,show decide ((159:Int)<(s[k+1].toNat:Int))=decide (159<s[k+1].toNat) by rw[decide_eq_decide];omega,show decide ((s[k+1].toNat:Int)<144)=decide (s[k+1].toNat<144) by rw[decide_eq_decide];omega,show decide ((143:Int)<(s[k+1].toNat:Int))=decide (143<s[k+1].toNat) by rw[decide_eq_decide];omega,ahR]
        rfl
      obtain⟨c,hc,hch⟩:=hodd
      simp only[Bool.not_true,cond_false]
      rw[hch]
      cases ho:rP s[k].toNat c with
      |true=>exact T.ret (show _=false from he.trans (aqn s k n c hlt hu hc ho))
      |false=>exact T.ret ⟨k+n+1,by rw[w64 (x:=(k:Int)+(n:Int)) (by omega) (by omega),w64 (by omega) (by omega)];omega,by omega,by omega,he.trans (auM s k n c hlt hu ht hc ho)⟩
   ·simp only[uI,Mo.den,ak,aj,aA,au,ay,X6 hlt,cond_false]
    have:k=s.size:=by omega
    refine T.ret (show _=true from he.trans ?_)
    have hn:rest s k=[]:=List.eq_nil_of_length_eq_zero (by rw[yV];omega)
    rw[hn];rfl
  obtain⟨r,h2,h3⟩:=key
  rcases r with v'|r
  ·obtain⟨k',rfl,h4,h5,h6⟩:=h3
   exact .inl ⟨_,h2,⟨k',rfl,h5,h6⟩,by omega⟩
  ·exact .inr ⟨r,h2,h3⟩
 unfold Q1 avy
 simp only[Mo.den,ak,aj,aA,au,ay]
 obtain⟨r,h,hr⟩:=key
 rw[h]
 rcases r with r|r
 ·have hr:_=false:=hr
  rw[hr];rfl
 ·have hr:_=true:=hr
  rw[hr];rfl
theorem ahS(l:List Nat)(k:Nat):mg (l.take k)≤mg l:=by
 have h:=ER (l.take k) (l.drop k)
 rw[List.take_append_drop] at h
 omega
theorem pV{α β:Type}(f:α→β){l:List α}{k:Nat}{x:α}(h:l[k]?=some x):(l.take (k+1)).map f=(l.take k).map f++[f x]:=by
 have hk:=pI h
 rw[List.take_succ_eq_append_getElem hk,List.map_append]
 have:l[k]=x:=by rw[List.getElem?_eq_getElem hk] at h;injection h
 rw[this];rfl
theorem adY(n:Nat):∀(F:Nat) (v:ah),1≤n→n<F→n≤2000→aW v.lf1≤100000000→(Ci F).m1 v (n:Int)=some ((min v.cnt n:Nat):Int):=by
 induction n using Nat.strongRecOn with
 |_ n ih=>
  intro F v h1 hF hn hb
  obtain⟨F,rfl⟩:∃G,F=G+1:=⟨F-1,by omega⟩
  have hpl:=TG v
  have hcp:=HY v
  have key:Tot (ale (Ci F) (n:Int) (parts v) 1 0) (fun r=>r=((min v.cnt n:Nat):Int)):=by
   refine T.oh (parts v).length (by omega) (fun k s=>s.2=(k:Int)∧s.1=((min (1+mg (((parts v).take k).map ah.cnt)) n:Nat):Int)) _ ⟨rfl,by show(1:Int)=((min (1+0) n:Nat):Int);omega⟩ ?_ ?_
   ·rintro k ⟨a,i⟩ hk ⟨h3,h4⟩
    obtain rfl:i=(k:Int):=h3
    obtain rfl:a=((min (1+mg (((parts v).take k).map ah.cnt)) n:Nat):Int):=h4
    have hx:=List.getElem?_eq_getElem hk
    have hxb:=wG (iH hx)
    have hsx:mg (((parts v).take (k+1)).map ah.cnt)=mg (((parts v).take k).map ah.cnt)+(parts v)[k].cnt:=by
     rw[pV _ hx,ER];rfl
    have hst:mg (((parts v).take k).map ah.cnt)≤mg ((parts v).map ah.cnt):=by
     rw[List.map_take];exact ahS _ _
    unfold D7
    simp only[Mc,Mo.den,ak,aj,aA,au,ay,ltt hx,gid hx,cond_true,Option.bind_some]
    by_cases hlt:1+mg (((parts v).take k).map ah.cnt)<n
    ·rw[decide_eq_true (show((min (1+mg (((parts v).take k).map ah.cnt)) n:Nat):Int)<(n:Int) by omega), w64 (by omega) (by omega), show(n:Int)-((min (1+mg (((parts v).take k).map ah.cnt)) n:Nat):Int)=((n-(1+mg (((parts v).take k).map ah.cnt)):Nat):Int) by omega, ih _ (by omega) F _ (by omega) (by omega) (by omega) (by omega)]
     simp only[cond_true,Option.bind_some]
     refine T.ret ⟨inc k (by omega),?_⟩
     show IntKind.wrap .i64 (((min (1+mg (((parts v).take k).map ah.cnt)) n:Nat):Int)+((min (parts v)[k].cnt (n-(1+mg (((parts v).take k).map ah.cnt))):Nat):Int))=_
     rw[w64 (by omega) (by omega),hsx];omega
    ·rw[decide_eq_false (show ¬((min (1+mg (((parts v).take k).map ah.cnt)) n:Nat):Int)<(n:Int) by omega)]
     exact T.ret (show _=_ by rw[hcp];omega)
   ·rintro⟨a,i⟩ ⟨h3,h4⟩
    obtain rfl:i=((parts v).length:Int):=h3
    obtain rfl:a=_:=h4
    unfold D7
    simp only[Mc,Mo.den,ak,aj,aA,au,ay,ltn,cond_false,Option.bind_some]
    refine T.ret (show _=_ from ?_)
    rw[List.take_length,hcp]
  obtain⟨r,hr,rfl⟩:=key
  simp only[Ci,alf,Mo.den,ak,aj,aA,au,ay,TF v hb,Option.bind_some,hr]
theorem auN(a b n:Nat):(if((min b n:Nat):Int) > ((min a n:Nat):Int) then((min b n:Nat):Int) else((min a n:Nat):Int))=((min (max a b) n:Nat):Int):=by
 have h1:min (max a b) n=max (min a n) (min b n):=by
  rcases Nat.le_total a b with h|h<;>rcases Nat.le_total a n with h2|h2<;>rcases Nat.le_total b n with h3|h3<;>simp only[Nat.max_eq_left,Nat.max_eq_right,Nat.min_eq_left,Nat.min_eq_right,h,h2,h3]<;>omega
 rw[h1]
 generalize min a n=x
 generalize min b n=y
 by_cases h:(y:Int) > (x:Int)
 ·rw[if_pos h,Nat.max_eq_right (by omega)]
 ·rw[if_neg h,Nat.max_eq_left (by omega)]
theorem aaF(n:Nat):∀(F:Nat) (v:ah),1≤n→n<F→n≤2000→aW v.lf1≤100000000→(Ce F).m1 v (n:Int)=some ((min v.dep n:Nat):Int):=by
 induction n with
 |zero=>intro F v h;omega
 |succ n ih=>
  intro F v h1 hF hn hb
  obtain⟨F,rfl⟩:∃G,F=G+1:=⟨F-1,by omega⟩
  have hpl:=TG v
  have hcp:=H6 v
  simp only[Ce,alc,Y5,Mo.den,ak,aj,aA,au,ay,TF v hb,Option.bind_some]
  by_cases h2:n=0
  ·subst h2
   show some (1:Int)=_
   rw[hcp];congr 1;omega
  rw[decide_eq_false (show ¬((n+1:Nat):Int)<2 by omega)]
  simp only[cond_false,Option.bind_some]
  by_cases hp:parts v=[]
  ·rw[hp] at hcp ⊢
   show some (1:Int)=_
   rw[hcp,show min (1+oO (([]:List ah).map ah.dep)) (n+1)=1 by show min (1+0) (n+1)=1;omega];rfl
  have hlp:1≤(parts v).length:=by cases hq:parts v with|nil=>exact absurd hq hp|cons x r=>simp
  rw[show(((parts v).length:Int)==0)=false by rw[beq_eq_false_iff_ne];omega]
  simp only[cond_false]
  have key:Tot (alb (Ce F) ((n+1:Nat):Int) (parts v) 0 0) (fun r=>r=((min (oO ((parts v).map ah.dep)) n:Nat):Int)):=by
   refine T.oh (parts v).length (by omega) (fun k s=>s.2=(k:Int)∧s.1=((min (oO (((parts v).take k).map ah.dep)) n:Nat):Int)) _ ⟨rfl,by show(0:Int)=((min 0 n:Nat):Int);omega⟩ ?_ ?_
   ·rintro k ⟨a,i⟩ hk ⟨h3,h4⟩
    obtain rfl:i=(k:Int):=h3
    obtain rfl:a=((min (oO (((parts v).take k).map ah.dep)) n:Nat):Int):=h4
    have hx:=List.getElem?_eq_getElem hk
    have hxb:=wG (iH hx)
    have hsx:oO (((parts v).take (k+1)).map ah.dep)=max (oO (((parts v).take k).map ah.dep)) (parts v)[k].dep:=by
     rw[pV _ hx,MR];show max _ (max (parts v)[k].dep 0)=_;omega
    simp only[D6,Mo.den,ak,aj,aA,au,ay,ltt hx,gid hx,cond_true,Option.bind_some]
    rw[w64 (by omega) (by omega),show((n+1:Nat):Int)-1=(n:Int) by omega,ih F _ (by omega) (by omega) (by omega) (by omega)]
    simp only[Option.bind_some]
    refine T.ret ⟨inc k (by omega),?_⟩
    rw[hsx]
    exact auN _ _ _
   ·rintro⟨a,i⟩ ⟨h3,h4⟩
    obtain rfl:i=((parts v).length:Int):=h3
    obtain rfl:a=_:=h4
    simp only[D6,Mo.den,ak,aj,aA,au,ay,ltn,cond_false]
    refine T.ret (show _=_ from ?_)
    rw[List.take_length]
  obtain⟨r,hr,rfl⟩:=key
  rw[hr]
  simp only[Option.bind_some]
  rw[w64 (by omega) (by omega),hcp]
  congr 1;omega
theorem adZ(v:ah)(hb:aW v.lf1≤100000000):atI v=some ((min v.cnt 1025:Nat):Int):=by
 have h:=adY 1025 FU v (by omega) (by have:=iw;omega) (by omega) hb
 have h:Q68 v 1025=_:=h
 simp only[atI,alg,Mo.den,ak,aj,aA,au,ay,h,Option.bind_some]
theorem ad1(v:ah)(hb:aW v.lf1≤100000000):atG v=some ((min v.dep 17:Nat):Int):=by
 have h:=aaF 17 FU v (by omega) (by have:=iw;omega) (by omega) hb
 have h:Q70 v 17=_:=h
 simp only[atG,ald,Mo.den,ak,aj,aA,au,ay,h,Option.bind_some]
end Go.Proofs.YtbdcaeahocbkbaaGreatDoor
