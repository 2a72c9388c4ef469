/- Plain: the reference's Valid is the program's, on values. -/
import Derived.Test.YtbdcaeahocbkbaaGreatDoorQA5
import Derived.Test.YtbdcaeahocbkbaaGreatDoorQANumP
set_option linter.unusedSimpArgs false
set_option linter.unusedVariables false
namespace Go.Proofs.YtbdcaeahocbkbaaGreatDoor
open Go.RowKit
theorem aaG(R:og)(v:ah)(hl:v.bC.length≤100000000)(h1:∀x∈v.bC,R.m1 x.fValue true=some x.fValue.snd):Mo.den (afO R v true)=some (aN.jT [] v.bC):=by
 unfold afO
 simp only[Mo.den,ak,aj,aA,au,ay]
 have key:Tot (afN R true v 0) (fun r=>match r with|.inl _=>aN.jT [] v.bC=false|.inr _=>aN.jT [] v.bC=true):=by
  refine T.oh v.bC.length (by omega) (fun k s=>s=(k:Int)∧aN.jT [] v.bC=aN.jT ((v.bC.take k).map aN.fName).reverse (v.bC.drop k)) _ ⟨rfl,rfl⟩ ?_ ?_
  ·rintro k s hk ⟨rfl,he⟩
   have hx:=List.getElem?_eq_getElem hk
   have hdr:v.bC.drop k=v.bC[k]::v.bC.drop (k+1):=List.drop_eq_getElem_cons hk
   have q1:=h1 v.bC[k] (List.getElem_mem hk)
   have hm:((v.bC.take (k+1)).map aN.fName).reverse=v.bC[k].fName::((v.bC.take k).map aN.fName).reverse:=by
    rw[pV _ hx,List.reverse_append];rfl
   have hin:Tot (afM R true v (k:Int) v.bC[k] 0) (fun r=>match r with|.inl _=>hasB v.bC[k].fName ((v.bC.take k).map aN.fName).reverse=true|.inr _=>hasB v.bC[k].fName ((v.bC.take k).map aN.fName).reverse=false):=by
    have hB:hasB v.bC[k].fName ((v.bC.take k).map aN.fName).reverse=((v.bC.take k).map aN.fName).any (fun q=>decide (v.bC[k].fName=q)):=by unfold hasB;rw[List.any_reverse]
    rw[hB]
    refine T.oh k (by omega) (fun j w=>w=(j:Int)∧∀q∈v.bC.take j,¬q.fName=v.bC[k].fName) _ ⟨rfl,by simp⟩ ?_ ?_
    ·rintro j w hj ⟨rfl,hq⟩
     have hy:=List.getElem?_eq_getElem (show j<v.bC.length by omega)
     simp only[Af,Mo.den,ak,aj,aA,au,ay,iLt hj,gid hy,cond_true,Option.bind_some]
     by_cases e:v.bC[j].fName=v.bC[k].fName
     ·rw[decide_eq_true e]
      refine T.ret (show _=true from ?_)
      rw[List.any_eq_true]
      exact⟨_,List.mem_map.2 ⟨v.bC[j],List.mem_of_getElem? (by rw[List.getElem?_take_of_lt hj];exact hy),rfl⟩,decide_eq_true e.symm⟩
     ·rw[decide_eq_false e]
      refine T.ret ⟨inc j (by omega),fun q hm=>?_⟩
      rw[List.take_succ_eq_append_getElem (pI hy),List.mem_append] at hm
      rcases hm with hm|hm
      ·exact hq q hm
      ·rw[List.mem_singleton.1 hm];exact e
    ·rintro w ⟨rfl,hq⟩
     simp only[Af,Mo.den,ak,aj,aA,au,ay,ltn,cond_false]
     refine T.ret (show _=false from ?_)
     rw[List.any_eq_false]
     intro q hm
     obtain⟨y,hy,rfl⟩:=List.mem_map.1 hm
     rw[decide_eq_false fun e=>hq y hy e.symm];exact Bool.false_ne_true
   rw[hdr] at he
   have hf:aN.jT ((v.bC.take k).map aN.fName).reverse (v.bC[k]::v.bC.drop (k+1))=((nameB v.bC[k].fName&&!hasB v.bC[k].fName ((v.bC.take k).map aN.fName).reverse)&&(v.bC[k].fValue.snd&&aN.jT (v.bC[k].fName::((v.bC.take k).map aN.fName).reverse) (v.bC.drop (k+1)))):=by
    cases v.bC[k] with|mk n x=>rw[MV];simp only[aN.fName,aN.fValue]
   rw[hf,←hm] at he
   obtain⟨r,hin,hr⟩:=hin
   simp only[Ag,Zp,Zq,QI,Mo.den,ak,aj,aA,au,ay,ltt hx,gid hx,cond_true,Option.bind_some,rD,q1,hin]
   cases a:nameB v.bC[k].fName with
   |false=>rw[a] at he;exact T.ret (show _=false by rw[he];rfl)
   |true=>
    cases c:v.bC[k].fValue.snd with
    |false=>rw[a,c] at he;exact T.ret (show _=false by rw[he];simp)
    |true=>
     rw[a,c] at he
     rcases r with r|r
     ·have hr:_=true:=hr
      rw[hr] at he
      exact T.ret (show _=false by rw[he];rfl)
     ·have hr:_=false:=hr
      rw[hr] at he
      exact T.ret ⟨inc k (by omega),by rw[he];rfl⟩
  ·rintro s ⟨rfl,he⟩
   rw[List.drop_length,TM] at he
   simp only[Ag,Mo.den,ak,aj,aA,au,ay,ltn,cond_false]
   exact T.ret he
 obtain⟨r,h,hr⟩:=key
 rw[h]
 rcases r with r|r
 ·have hr:_=false:=hr
  rw[hr];all_goals rfl
 ·have hr:_=true:=hr
  rw[hr];all_goals rfl
theorem ad2(R:og)(v:ah)(hl:v.bF.length≤100000000)(h1:∀x∈v.bF,R.m1 x true=some x.snd):Tot (alj R true v 0) (fun r=>match r with|.inl _=>ah.jT v.bF=false|.inr _=>ah.jT v.bF=true):=by
 rw[MS]
 refine T.oh v.bF.length (by omega) (fun k s=>s=(k:Int)∧(v.bF.take k).all ah.snd=true) _ ⟨rfl,by simp⟩ ?_ ?_
 ·rintro k s hk ⟨rfl,he⟩
  have hx:=List.getElem?_eq_getElem hk
  simp only[Eb,Mo.den,ak,aj,aA,au,ay,ltt hx,gid hx,cond_true,Option.bind_some,h1 _ (List.getElem_mem hk)]
  cases c:v.bF[k].snd with
  |false=>exact T.ret (WZ _ hx c)
  |true=>exact T.ret ⟨inc k (by omega),by rw[yQ _ hx,he,c];rfl⟩
 ·rintro s ⟨rfl,he⟩
  simp only[Eb,Mo.den,ak,aj,aA,au,ay,ltn,cond_false]
  rw[List.take_length] at he
  exact T.ret he
theorem aaH:∀(F:Nat) (v:ah),2*aW v.lf1≤F→aW v.lf1≤100000000→(qY F).m1 v true=some v.snd:=by
 intro F
 induction F using Nat.strongRecOn with
 |_ F ih=>
 intro v hF hb
 have hp:=dA v
 have hl:=fV v.bF
 have hd:=gG v.bC
 obtain⟨F,rfl⟩:∃G,F=G+2:=⟨F-2,by omega⟩
 show Mo.den (apx (qY (F+1)) v true)=_
 have hL:=ad2 (qY (F+1)) v (by omega) fun x hx=>ih (F+1) (by omega) x (by have:=jg hx;omega) (by have:=jg hx;omega)
 have hD:(qY (F+1)).m2 v true=some (aN.jT [] v.bC):=aaG (qY F) v (by omega) fun x hx=>ih F (by omega) x.fValue (by have:=gB hx;rw[fP] at this;omega) (by have:=gB hx;rw[fP] at this;omega)
 have hU:=amu v.fText (by omega)
 obtain⟨r0,hL,hr0⟩:=hL
 clear ih hF hb hp hl hd
 rw[adV]
 unfold apx
 simp only[afK,afL,Zd,Ze,Zf,Zg,Zh,Zi,Zj,Zk,Zl,Zm,Zn,Zo,Mo.den,ak,aj,aA,au,ay,hL,hD,hU]
 clear hL hD hU
 generalize v.aK=k at *
 generalize v.je=i at *
 generalize v.fText=s at *
 generalize v.bF=l at *
 generalize v.bC=d at *
 unfold FX JR
 have ei:(i != 0)=!(i==0):=rfl
 have es:∀dd:Decidable (s=(⟨#[]⟩:ByteArray)),@decide _ dd=decide (s.size=0):=fun dd=>by
  by_cases h:s.size=0
  ·rw[decide_eq_true h,decide_eq_true (size_nil (by omega))]
  ·rw[decide_eq_false h,decide_eq_false (W9 (by omega))]
 have el:decide ((0:Int)<(l.length:Int))=!(l.length==0):=by
  cases l with
  |nil=>rfl
  |cons x r=>rw[decide_eq_true (show(0:Int)<((x::r).length:Int) by rw[List.length_cons];omega)];rfl
 have ed:decide ((0:Int)<(d.length:Int))=!(d.length==0):=by
  cases d with
  |nil=>rfl
  |cons x r=>rw[decide_eq_true (show(0:Int)<((x::r).length:Int) by rw[List.length_cons];omega)];rfl
 simp only[ei,es,el,ed]
 have e4:decide ((s.size:Int)≤4096)=decide (s.size≤4096):=by rw[Bool.eq_iff_iff];simp;omega
 have e12:((s.size:Int)==12)=decide (s.size=12):=by rw[Bool.eq_iff_iff];simp;omega
 simp only[e4,e12]
 have hl0:(l.length==0)=true→ah.jT l=true:=fun h=>by
  have:l=[]:=List.eq_nil_of_length_eq_zero (by simpa using h)
  rw[this];unfold ah.jT;rfl
 have hd0:(d.length==0)=true→aN.jT [] d=true:=fun h=>by
  have:d=[]:=List.eq_nil_of_length_eq_zero (by simpa using h)
  rw[this];unfold aN.jT;rfl
 clear ei es el ed e4 e12
 generalize ah.jT l=A at *
 generalize aN.jT [] d=B at *
 generalize (l.length==0)=nl at *
 generalize (d.length==0)=nd at *
 generalize wQ s=u at *
 generalize decide (s.size≤4096)=c1 at *
 generalize decide (s.size=12)=c2 at *
 generalize decide (s.size=0)=c3 at *
 have hk:k=1∨k=2∨k=3∨k=4∨k=5∨k=6∨k=7∨k=8∨k=9∨k=10∨k=11∨(k≠1∧k≠2∧k≠3∧k≠4∧k≠5∧k≠6∧k≠7∧k≠8∧k≠9∧k≠10∧k≠11):=by omega
 rcases hk with rfl|rfl|rfl|rfl|rfl|rfl|rfl|rfl|rfl|rfl|rfl|⟨n1,n2,n3,n4,n5,n6,n7,n8,n9,n10,n11⟩
 case inr.inr.inr.inr.inr.inr.inr.inr.inr.inr.inr=>
  have f:∀c:Int,k≠c→(k==c)=false:=fun c h=>by simpa using h
  simp only[bne,f _ n1,f _ n2,f _ n3,f _ n4,f _ n5,f _ n6,f _ n7,f _ n8,f _ n9,f _ n10,f _ n11]
  simp only[n1,n2,n3,n4,n5,n6,n7,n8,n9,n10,n11,or_self,if_false,decide_false]
  rcases(show k<1∨11<k by omega) with h|h
  ·rw[decide_eq_true h];cases nl<;>cases nd<;>cases c3<;>cases (i==0)<;>rfl
  ·rw[decide_eq_true h,decide_eq_false (show ¬k<1 by omega)];cases nl<;>cases nd<;>cases c3<;>cases (i==0)<;>rfl
 all_goals (rcases r0 with r0|r0<;>(have hr0:A=_:=hr0;subst hr0))
 all_goals simp(decide:=true) only[if_true,if_false]
 all_goals (cases nl<;>cases nd<;>cases c3<;>cases (i==0)<;>first|rfl|skip)
 all_goals (first|(cases B<;>first|rfl|(exact absurd (hl0 rfl) (by decide))|(exact absurd (hd0 rfl) (by decide))|skip)|skip)
 all_goals (cases u<;>cases c1<;>cases c2<;>first|rfl|(cases (i==1)<;>rfl)|(cases decide (0≤i)<;>rfl))
theorem ad3(v:ah)(hb:aW v.lf1≤100000000):Q5 v true=some v.snd:=aaH FU v (by have:=iw;omega) hb
theorem mD(v:ah)(hb:aW v.lf1≤100000000):atM v=some (oP v):=by
 simp only[atM,alk,Mo.den,ak,aj,aA,au,ay,adZ v hb,ad1 v hb,ad3 v hb,Option.bind_some,oP]
 rw[show decide (((min v.cnt 1025:Nat):Int)≤1024)=decide (v.cnt≤1024) by rw[Bool.eq_iff_iff];simp;omega,show decide (((min v.dep 17:Nat):Int)≤16)=decide (v.dep≤16) by rw[Bool.eq_iff_iff];simp;omega]
 cases decide (v.cnt≤1024)<;>cases decide (v.dep≤16)<;>rfl
end Go.Proofs.YtbdcaeahocbkbaaGreatDoor
set_option linter.unusedSimpArgs false
set_option linter.unusedVariables false
namespace Go.Proofs.YtbdcaeahocbkbaaGreatDoor
open Go.RowKit
def dF{ε:Type}(f:Nat→Option ε):Nat→Nat→Option ε
 |_,0=>none
 |k,n+1=>match f k with|some e=>some e|none=>dF f (k+1) n
def jK{ε:Type}:Option ε→ε⊕Unit
 |some e=>.inl e
 |none=>.inr ()
theorem EY{ε:Type}{f g:Nat→Option ε}:∀(n k:Nat),(∀i,k≤i→i<k+n→f i=g i)→dF f k n=dF g k n
 |0,_,_=>rfl
 |n+1,k,h=>by
  unfold dF
  rw[h k (Nat.le_refl _) (by omega),EY n (k+1) fun i h1 h2=>h i (by omega) (by omega)]
theorem aaI{ε:Type}{T:Int→Option (Int⊕(ε⊕Unit))}(f:Nat→Option ε)(n:Nat)(hn:n≤1000000000)(h:∀k:Nat,k<n→T (k:Int)=some (match f k with|some e=>.inr (.inl e)|none=>.inl (IntKind.wrap .i64 ((k:Int)+1))))(he:T (n:Int)=some (.inr (.inr ()))):
 ∀m k F,k+m=n→m<F→bQ T F (k:Int)=some (jK (dF f k m)):=by
 intro m
 induction m with
 |zero=>
  intro k F hk hF
  obtain⟨F,rfl⟩:∃G,F=G+1:=⟨F-1,by omega⟩
  obtain rfl:k=n:=by omega
  unfold bQ
  rw[he];rfl
 |succ m ih=>
  intro k F hk hF
  obtain⟨F,rfl⟩:∃G,F=G+1:=⟨F-1,by omega⟩
  unfold bQ dF
  rw[h k (by omega)]
  cases f k with
  |some e=>rfl
  |none=>
   show bQ T F (IntKind.wrap .i64 ((k:Int)+1))=_
   rw[inc k (by omega)]
   exact ih (k+1) F (by omega) (by omega)
theorem dV{ε:Type}{T:Int→Option (Int⊕(ε⊕Unit))}(f:Nat→Option ε)(n:Nat)(hn:n≤1000000000)(h:∀k:Nat,k<n→T (k:Int)=some (match f k with|some e=>.inr (.inl e)|none=>.inl (IntKind.wrap .i64 ((k:Int)+1))))(he:T (n:Int)=some (.inr (.inr ()))):
 bQ T FU 0=some (jK (dF f 0 n)):=aaI f n hn h he n 0 FU (by omega) (by have:=iw;omega)
def hit(b:Bool):Option Unit:=bif b then some () else none
def ad4(a b:List ByteArray)(k:Nat):Bool:=decide (a[k]?=b[k]?)
theorem TP(a b:List ByteArray)(hl:a.length=b.length):∀(n k:Nat),k+n=a.length→(dF (fun k=>hit (!ad4 a b k)) k n=none↔a.drop k=b.drop k)
 |0,k,h=>by
  rw[List.drop_eq_nil_of_le (by omega),List.drop_eq_nil_of_le (by omega)]
  exact⟨fun _=>rfl,fun _=>rfl⟩
 |n+1,k,h=>by
  have e1:a.drop k=a[k]::a.drop (k+1):=List.drop_eq_getElem_cons (by omega)
  have e2:b.drop k=b[k]::b.drop (k+1):=List.drop_eq_getElem_cons (by omega)
  have ih:=TP a b hl n (k+1) (by omega)
  rw[e1,e2]
  unfold dF
  have hk:ad4 a b k=decide (a[k]=b[k]):=by
   unfold ad4
   rw[List.getElem?_eq_getElem (by omega),List.getElem?_eq_getElem (by omega),decide_eq_decide]
   exact⟨fun e=>by injection e,fun e=>by rw[e]⟩
  rw[hk]
  by_cases h:a[k]=b[k]
  ·rw[decide_eq_true h,h]
   show dF (fun k=>hit (!ad4 a b k)) (k+1) n=none↔_
   rw[ih]
   exact⟨fun h=>by rw[h],fun h=>by injection h⟩
  ·rw[decide_eq_false h]
   constructor
   ·intro h;cases h
   ·intro e;injection e with e;exact absurd e h
theorem agq{T:Int→Option (Int⊕(Unit⊕Unit))}(a b:List ByteArray)(hl:a.length=b.length)(hn:a.length≤1000000000)(h:∀k:Nat,∀x y:ByteArray,a[k]?=some x→b[k]?=some y→T (k:Int)=some (bif !decide (x=y) then .inr (.inl ()) else .inl (IntKind.wrap .i64 ((k:Int)+1))))(he:T (a.length:Int)=some (.inr (.inr ()))):
 bQ T FU 0=some (jK (hit (!decide (a=b)))):=by
 rw[dV (fun k=>hit (!ad4 a b k)) a.length hn (fun k hk=>by
  have ha:=List.getElem?_eq_getElem hk
  have hb:=List.getElem?_eq_getElem (show k<b.length by omega)
  rw[h k _ _ ha hb]
  unfold ad4
  rw[ha,hb]
  by_cases e:a[k]=b[k]
  ·rw[decide_eq_true e,decide_eq_true (by rw[e])];rfl
  ·rw[decide_eq_false e,decide_eq_false (by intro q;injection q with q;exact e q)];rfl) he]
 have hk:=TP a b hl a.length 0 (by omega)
 rw[List.drop_zero,List.drop_zero] at hk
 by_cases e:a=b
 ·rw[hk.2 e,decide_eq_true e];rfl
 ·rw[decide_eq_false e]
  cases hf:dF (fun k=>hit (!ad4 a b k)) 0 a.length with
  |none=>exact absurd (hk.1 hf) e
  |some u=>rfl
theorem ad5(a b:List ByteArray)(hn:a.length≤1000000000):aoM a b=some (decide (a=b)):=by
 unfold aoM acL
 simp only[Mo.den,ak,aj,aA,au,ay]
 by_cases hl:a.length=b.length
 ·rw[show((a.length:Int) != (b.length:Int))=false by rw[hl];simp]
  simp only[cond_false]
  try unfold aoL
  rw[agq a b hl hn (fun k x y hx hy=>by simp only[uD,Mo.den,ak,aj,aA,au,ay,ltt hx,gid hx,gid hy,cond_true,Option.bind_some];cases decide (x=y)<;>rfl) (by simp only[uD,Mo.den,ak,aj,aA,au,ay,ltn,cond_false])]
  cases decide (a=b)<;>rfl
 ·rw[show((a.length:Int) != (b.length:Int))=true by simp;omega,decide_eq_false (fun e=>hl (by rw[e]))];rfl
theorem aaJ(a b:List ByteArray)(hn:a.length≤1000000000):Q99 a b=some (decide (a=b)):=by
 unfold Q99 aq5
 simp only[Mo.den,ak,aj,aA,au,ay]
 by_cases hl:a.length=b.length
 ·rw[show((a.length:Int) != (b.length:Int))=false by rw[hl];simp]
  simp only[cond_false]
  try unfold adE
  rw[agq a b hl hn (fun k x y hx hy=>by simp only[uJ,Mo.den,ak,aj,aA,au,ay,ltt hx,gid hx,gid hy,cond_true,Option.bind_some];cases decide (x=y)<;>rfl) (by simp only[uJ,Mo.den,ak,aj,aA,au,ay,ltn,cond_false])]
  cases decide (a=b)<;>rfl
 ·rw[show((a.length:Int) != (b.length:Int))=true by simp;omega,decide_eq_false (fun e=>hl (by rw[e]))];rfl
def pO(l:List bf)(p:List ByteArray)(k:Nat):Option Unit:=dF (fun j=>match l[j]? with|some y=>hit (decide (y.cZ=p))|none=>none) 0 k
def CV(l:List bf)(k:Nat):Option Int:=match l[k]? with|some x=>bif !sF x.cZ then some 10 else(match pO l x.cZ k with|some _=>some 12|none=>none)|none=>none
noncomputable def Js(l:List bf):Int:=bif decide (8<l.length) then 2 else match dF (CV l) 0 l.length with|some e=>e|none=>0
theorem aaK{l:List bf}{x:bf}(hb:bM (l.map bf.lf)≤100000000)(h:x∈l):x.cZ.length≤100000000:=by
 have h1:=iW bf.lf h
 have h2:=lV x
 have h3:=fB x.cZ
 have h4:aW (bf.lf x)=aW x.lf1:=rfl
 omega
theorem I5(l:List bf)(hb:bM (l.map bf.lf)≤100000000):Q96 l=some (Js l):=by
 have hl:=jO l
 unfold Q96 akO Js
 simp only[Mo.den,ak,aj,aA,au,ay]
 by_cases h8:8<l.length
 ·rw[decide_eq_true h8,decide_eq_true (show(8:Int)<(l.length:Int) by omega)];rfl
 rw[decide_eq_false h8,decide_eq_false (show ¬(8:Int)<(l.length:Int) by omega)]
 simp only[cond_false]
 try unfold atg
 rw[dV (CV l) l.length (by omega) (fun k hk=>by
  have hx:=List.getElem?_eq_getElem hk
  have hm:=iH hx
  have hg:(0:Int)≤0∧(0:Int)≤(k:Int)∧(k:Int)≤(l.length:Int):=by omega
  have hin:acM l (k:Int) l[k] 0=some (jK (pO l l[k].cZ k)):=by
   unfold acM pO
   have hn:(l.take (k:Int).toNat).length=k:=by rw[List.length_take,Int.toNat_natCast];omega
   refine dV _ k (by omega) (fun j hj=>?_) ?_
   ·have hy:=List.getElem?_eq_getElem (show j<l.length by omega)
    have hy2:(l.take (k:Int).toNat)[j]?=some l[j]:=by rw[Int.toNat_natCast,List.getElem?_take_of_lt hj];exact hy
    simp only[yj,Mo.den,ak,aj,aA,au,ay,hn,iLt hj,gid hy2,cond_true,Option.bind_some,ad5 _ _ (Nat.le_trans (aaK hb (iH hy)) (by omega)),hy]
    cases decide (l[j].cZ=l[k].cZ)<;>rfl
   ·simp only[yj,Mo.den,ak,aj,aA,au,ay,hn,ltn,cond_false]
  simp only[yt,Mo.den,ak,aj,aA,au,ay,ltt hx,gid hx,cond_true,Option.bind_some,lC,if_pos hg,hin,CV,hx]
  cases sF l[k].cZ with
  |false=>rfl
  |true=>cases pO l l[k].cZ k<;>rfl) (by simp only[yt,Mo.den,ak,aj,aA,au,ay,ltn,cond_false])]
 cases dF (CV l) 0 l.length<;>rfl
theorem Xb(l:List bf)(hb:bM (l.map bf.lf)≤100000000):Q60 l=some (Js l):=by
 have hl:=jO l
 unfold Q60 aq6 Js
 simp only[Mo.den,ak,aj,aA,au,ay]
 by_cases h8:8<l.length
 ·rw[decide_eq_true h8,decide_eq_true (show(8:Int)<(l.length:Int) by omega)];rfl
 rw[decide_eq_false h8,decide_eq_false (show ¬(8:Int)<(l.length:Int) by omega)]
 simp only[cond_false]
 try unfold at6
 rw[dV (CV l) l.length (by omega) (fun k hk=>by
  have hx:=List.getElem?_eq_getElem hk
  have hm:=iH hx
  have hin:adF l (k:Int) 0=some (jK (pO l l[k].cZ k)):=by
   unfold adF pO
   refine dV _ k (by omega) (fun j hj=>?_) ?_
   ·have hy:=List.getElem?_eq_getElem (show j<l.length by omega)
    have es:decide (l[k].cZ=l[j].cZ)=decide (l[j].cZ=l[k].cZ):=by rw[decide_eq_decide];exact⟨Eq.symm,Eq.symm⟩
    simp only[Es,Mo.den,ak,aj,aA,au,ay,iLt hj,gid hx,gid hy,cond_true,Option.bind_some,aaJ _ _ (Nat.le_trans (aaK hb hm) (by omega)),hy,es]
    cases decide (l[j].cZ=l[k].cZ)<;>rfl
   ·simp only[Es,Mo.den,ak,aj,aA,au,ay,ltn,cond_false]
  simp only[Et,Mo.den,ak,aj,aA,au,ay,ltt hx,gid hx,cond_true,Option.bind_some,EP,hin,CV,hx]
  cases sF l[k].cZ with
  |false=>rfl
  |true=>cases pO l l[k].cZ k<;>rfl) (by simp only[Et,Mo.den,ak,aj,aA,au,ay,ltn,cond_false])]
 cases dF (CV l) 0 l.length<;>rfl
end Go.Proofs.YtbdcaeahocbkbaaGreatDoor
set_option linter.unusedSimpArgs false
set_option linter.unusedVariables false
namespace Go.Proofs.YtbdcaeahocbkbaaGreatDoor
open Go.RowKit
theorem ahT(v:ah):aoZ v=some (jJ v):=by
 simp only[aoZ,acT,dG,lu,lq,nJ,nI,Mo.den,ak,aj,aA,au,ay,jJ]
 cases v.aK==0<;>cases v.je==0<;>cases decide (v.fText=⟨#[]⟩)<;>cases (v.bF.length:Int)==0<;>rfl
theorem Ic(v:ah):aoT v=some (jJ v):=by
 simp only[aoT,acP,dG,lu,lq,nJ,nI,Mo.den,ak,aj,aA,au,ay,jJ]
 cases v.aK==0<;>cases v.je==0<;>cases decide (v.fText=⟨#[]⟩)<;>cases (v.bF.length:Int)==0<;>rfl
theorem agr(v:ah):ao8 v=some (jJ v):=by
 simp only[ao8,ac0,dG,lu,lq,nJ,nI,Mo.den,ak,aj,aA,au,ay,jJ]
 cases v.aK==0<;>cases v.je==0<;>cases decide (v.fText=⟨#[]⟩)<;>cases (v.bF.length:Int)==0<;>rfl
theorem EZ(v:ah):Q12 v=some (jJ v):=by
 simp only[Q12,akl,dG,lu,lq,nJ,nI,Mo.den,ak,aj,aA,au,ay,jJ]
 cases v.aK==0<;>cases v.je==0<;>cases decide (v.fText=⟨#[]⟩)<;>cases (v.bF.length:Int)==0<;>rfl
theorem len0{α:Type}{l:List α}(h:((l.length:Int)==0)=true):l=[]:=by
 have h:(l.length:Int)=0:=eq_of_beq h
 exact List.eq_nil_of_length_eq_zero (by omega)
theorem Xc:∃G,FU=G+1:=⟨FU-1,by have:=iw;omega⟩
theorem nY{ε:Type}{T:Int→Option (Int⊕(ε⊕Unit))}(he:T 0=some (.inr (.inr ()))):bQ T FU 0=some (.inr ()):=dV (fun _=>none) 0 (by omega) (fun k hk=>by omega) he
theorem wL(v:ah):Q24 v (ah.mk 0 0 ⟨#[]⟩ [] [])=some (jJ v):=by
 unfold Q24
 obtain⟨G,hG⟩:=Xc
 rw[hG]
 show Mo.den (af6 (Cm G) v (ah.mk 0 0 ⟨#[]⟩ [] []))=_
 unfold af6 ZG ZH Ry Rz jJ
 simp only[Mo.den,ak,aj,aA,au,ay]
 have e1:(v.aK != (ah.mk 0 0 ⟨#[]⟩ [] []).aK)=!(v.aK==0):=rfl
 have e2:(v.je != (ah.mk 0 0 ⟨#[]⟩ [] []).je)=!(v.je==0):=rfl
 have e3:((v.bF.length:Int) != ((ah.mk 0 0 ⟨#[]⟩ [] []).bF.length:Int))=!((v.bF.length:Int)==0):=rfl
 have e4:((v.bC.length:Int) != ((ah.mk 0 0 ⟨#[]⟩ [] []).bC.length:Int))=!((v.bC.length:Int)==0):=rfl
 have e5:decide (v.fText=(ah.mk 0 0 ⟨#[]⟩ [] []).fText)=decide (v.fText=⟨#[]⟩):=rfl
 rw[e1,e2,e3,e4,e5]
 cases h1:v.aK==0<;>cases h2:v.je==0<;>cases h3:decide (v.fText=⟨#[]⟩)<;>cases h4:(v.bF.length:Int)==0<;>cases h5:(v.bC.length:Int)==0<;>first|rfl|skip
 have a1:=len0 h4
 have a2:=len0 h5
 have l1:af4 (Cm G) v (ah.mk 0 0 ⟨#[]⟩ [] []) 0=some (.inr ()):=nY (by simp only[Ho,Mo.den,ak,aj,aA,au,ay,a1];rfl)
 have l2:af5 (Cm G) v (ah.mk 0 0 ⟨#[]⟩ [] []) 0=some (.inr ()):=nY (by simp only[Hq,Mo.den,ak,aj,aA,au,ay,a2];rfl)
 simp only[Bool.not_true,cond_false,Option.bind_some,l1,l2];rfl
theorem Ip{ε:Type}{f:Nat→Option ε}:∀n k,dF f k n=none↔∀i,k≤i→i<k+n→f i=none
 |0,k=>⟨fun _ i h1 h2=>by omega,fun _=>rfl⟩
 |n+1,k=>by
  have ih:=Ip (f:=f) n (k+1)
  unfold dF
  cases hf:f k with
  |some e=>exact⟨fun h=>(by cases h),fun h=>(by rw[h k (Nat.le_refl _) (by omega)] at hf;cases hf)⟩
  |none=>
   show dF f (k+1) n=none↔_
   rw[ih]
   refine⟨fun h i h1 h2=>?_,fun h i h1 h2=>h i (by omega) (by omega)⟩
   rcases Nat.eq_or_lt_of_le h1 with rfl|h3
   ·exact hf
   ·exact h i h3 (by omega)
theorem amv{o:Option Unit}{b:Bool}(h:o=none↔b=false):o=hit b:=by
 cases b with
 |false=>exact h.2 rfl
 |true=>cases o with|none=>exact absurd (h.1 rfl) (by decide)|some u=>rfl
def again(l:List ByteArray)(x:ByteArray)(k:Nat):Option Unit:=dF (fun j=>match l[j]? with|some y=>hit (decide (y=x))|none=>none) 0 k
theorem amw(l:List ByteArray)(x:ByteArray)(k:Nat)(hk:k≤l.length):again l x k=hit (hasB x (l.take k).reverse):=by
 refine amv ?_
 unfold again hasB
 rw[Ip,List.any_reverse,List.any_eq_false]
 constructor
 ·intro h y hy
  obtain⟨i,hi⟩:=List.mem_iff_getElem?.1 hy
  have hi2:i<k:=by have:=pI hi;rw[List.length_take] at this;omega
  have hy2:l[i]?=some y:=by rw[List.getElem?_take_of_lt hi2] at hi;exact hi
  have h:=h i (Nat.zero_le _) (by omega)
  simp only[hy2] at h
  intro e
  have e:=of_decide_eq_true e
  rw[decide_eq_true e.symm] at h;cases h
 ·intro h i _ hi
  have hy:=List.getElem?_eq_getElem (show i<l.length by omega)
  simp only[hy]
  have hm:l[i]∈l.take k:=List.mem_of_getElem? (i:=i) (by rw[List.getElem?_take_of_lt (show i<k by omega)];exact hy)
  have:=h _ hm
  rw[decide_eq_false (fun e=>this (decide_eq_true e.symm))];rfl
def Nb(l:List ByteArray)(k:Nat):Option Unit:=match l[k]? with|some x=>bif !nameB x then some () else again l x k|none=>none
def ng:List ByteArray→List ByteArray→Bool
 |_,[]=>true
 |seen,n::r=>(nameB n&&!hasB n seen)&&ng (n::seen) r
theorem Xd(l:List ByteArray):∀(n k:Nat),k+n=l.length→dF (Nb l) k n=hit (!ng (l.take k).reverse (l.drop k))
 |0,k,h=>by rw[List.drop_eq_nil_of_le (by omega)];rfl
 |n+1,k,h=>by
  have hk:k<l.length:=by omega
  have hx:=List.getElem?_eq_getElem hk
  have hd:l.drop k=l[k]::l.drop (k+1):=List.drop_eq_getElem_cons hk
  have ht:(l.take (k+1)).reverse=l[k]::(l.take k).reverse:=by rw[List.take_succ_eq_append_getElem hk,List.reverse_append];rfl
  have ih:=Xd l n (k+1) (by omega)
  rw[ht] at ih
  unfold dF
  rw[hd,show Nb l k=bif !nameB l[k] then some () else again l l[k] k by unfold Nb;rw[hx],amw l _ k (by omega)]
  show _=hit (!((nameB l[k]&&!hasB l[k] (l.take k).reverse)&&ng (l[k]::(l.take k).reverse) (l.drop (k+1))))
  cases nameB l[k] with
  |false=>rfl
  |true=>
   cases hasB l[k] (l.take k).reverse with
   |true=>rfl
   |false=>exact ih
theorem ahU(l:List ByteArray)(hl:l.length≤100000000):Q42 l=some (ng [] l):=by
 unfold Q42 aq9
 simp only[Mo.den,ak,aj,aA,au,ay]
 try unfold aui
 rw[dV (Nb l) l.length (by omega) (fun k hk=>by
  have hx:=List.getElem?_eq_getElem hk
  have hin:Hg l (k:Int) 0=some (jK (again l l[k] k)):=by
   unfold Hg again
   refine dV _ k (by omega) (fun j hj=>?_) ?_
   ·have hy:=List.getElem?_eq_getElem (show j<l.length by omega)
    simp only[ru,Mo.den,ak,aj,aA,au,ay,iLt hj,gid hx,gid hy,cond_true,Option.bind_some,hy]
    cases decide (l[j]=l[k])<;>rfl
   ·simp only[ru,Mo.den,ak,aj,aA,au,ay,ltn,cond_false]
  simp only[Ey,Mo.den,ak,aj,aA,au,ay,ltt hx,gid hx,cond_true,Option.bind_some,rD,hin,Nb,hx]
  cases nameB l[k] with
  |false=>rfl
  |true=>cases again l l[k] k<;>rfl) (by simp only[Ey,Mo.den,ak,aj,aA,au,ay,ltn,cond_false])]
 rw[Xd l l.length 0 (by omega)]
 simp only[List.take_zero,List.reverse_nil,List.drop_zero]
 cases ng [] l<;>rfl
theorem BH(l:List ByteArray)(hl:l.length≤100000000):Q95 l=some (ng [] l):=by
 unfold Q95 ard
 simp only[Mo.den,ak,aj,aA,au,ay]
 try unfold auu
 rw[dV (Nb l) l.length (by omega) (fun k hk=>by
  have hx:=List.getElem?_eq_getElem hk
  have hin:Hg l (k:Int) 0=some (jK (again l l[k] k)):=by
   unfold Hg again
   refine dV _ k (by omega) (fun j hj=>?_) ?_
   ·have hy:=List.getElem?_eq_getElem (show j<l.length by omega)
    simp only[ru,Mo.den,ak,aj,aA,au,ay,iLt hj,gid hx,gid hy,cond_true,Option.bind_some,hy]
    cases decide (l[j]=l[k])<;>rfl
   ·simp only[ru,Mo.den,ak,aj,aA,au,ay,ltn,cond_false]
  simp only[EC,Mo.den,ak,aj,aA,au,ay,ltt hx,gid hx,cond_true,Option.bind_some,rD,hin,Nb,hx]
  cases nameB l[k] with
  |false=>rfl
  |true=>cases again l l[k] k<;>rfl) (by simp only[EC,Mo.den,ak,aj,aA,au,ay,ltn,cond_false])]
 rw[Xd l l.length 0 (by omega)]
 simp only[List.take_zero,List.reverse_nil,List.drop_zero]
 cases ng [] l<;>rfl
theorem Nc(s:ByteArray):aoY s=some (nameB s):=by
 simp only[aoY,acS,Mo.den,ak,aj,aA,au,ay,lC,Option.bind_some,sF,List.length_cons,List.length_nil,List.all_cons,List.all_nil,Bool.and_true];rfl
theorem Ie{Lo:Int×List (ByteArray×Bool)→Option ((Int×List (ByteArray×Bool))⊕(Unit⊕Unit))}(l:List ByteArray)(hl:l.length≤100000000)
 (h:∀(k:Nat) (x:ByteArray) (m:List ByteArray),l[k]?=some x→m.length≤k→Lo ((k:Int),pJ m)=some (bif nameB x&&!hasB x m then .inl (IntKind.wrap .i64 ((k:Int)+1),pJ (x::m)) else .inr (.inl ())))
 (he:∀m,Lo ((l.length:Int),m)=some (.inr (.inr ()))):bQ Lo FU (0,[])=some (bif ng [] l then .inr () else .inl ()):=by
 have key:Tot (bQ Lo FU (0,[])) (fun r=>r=bif ng [] l then .inr () else .inl ()):=by
  refine T.oh l.length (by omega) (fun k s=>∃m:List ByteArray,m.length=k∧s=((k:Int),pJ m)∧ng [] l=ng m (l.drop k)) _ ⟨[],rfl,rfl,rfl⟩ ?_ ?_
  ·rintro k s hk ⟨m,hm,rfl,hd⟩
   have hx:=List.getElem?_eq_getElem hk
   have hdr:l.drop k=l[k]::l.drop (k+1):=List.drop_eq_getElem_cons hk
   rw[hdr] at hd
   have hd:ng [] l=((nameB l[k]&&!hasB l[k] m)&&ng (l[k]::m) (l.drop (k+1))):=hd
   rw[h k l[k] m hx (by omega)]
   cases hb:nameB l[k]&&!hasB l[k] m with
   |false=>rw[hb] at hd;exact T.ret (show _=_ by rw[hd];rfl)
   |true=>rw[hb] at hd;exact T.ret ⟨l[k]::m,by simp[hm],by rw[inc k (by omega)],by rw[hd];rfl⟩
  ·rintro s ⟨m,hm,rfl,hd⟩
   rw[List.drop_length] at hd
   rw[he]
   exact T.ret (show _=_ by rw[hd];rfl)
 obtain⟨r,hr,rfl⟩:=key
 exact hr
theorem Xe(l:List ByteArray)(hl:l.length≤100000000):Q75 l=some (ng [] l):=by
 unfold Q75 akU
 simp only[Mo.den,ak,aj,aA,au,ay]
 try unfold ato
 rw[Ie l hl (fun k x m hx hm=>by
  have hlt:=pI hx
  have hg:(pJ m).length<maxLen:=by rw[pJ,List.length_map];unfold maxLen;omega
  unfold yw
  simp only[KU,Mo.den,ak,aj,aA,au,ay,ltt hx,gid hx,cond_true,Option.bind_some,Nc,uT,if_pos hg]
  cases nameB x<;>cases hasB x m<;>rfl) (fun m=>by unfold yw;simp only[Mo.den,ak,aj,aA,au,ay,ltn,cond_false])]
 cases ng [] l<;>rfl
end Go.Proofs.YtbdcaeahocbkbaaGreatDoor
set_option linter.unusedSimpArgs false
set_option linter.unusedVariables false
namespace Go.Proofs.YtbdcaeahocbkbaaGreatDoor
open Go.RowKit
theorem dH{α:Type}(b:Bool)(x y:α):(bif b then some x else some y)=some (bif b then x else y):=by cases b<;>rfl
theorem ge1(n:Nat):decide ((1:Int)≤(n:Int))=!((n:Int)==0):=by
 cases n with
 |zero=>rfl
 |succ n=>rw[decide_eq_true (by omega),show(((n+1:Nat):Int)==0)=false by rw[beq_eq_false_iff_ne];omega];rfl
theorem gt0(n:Nat):decide ((0:Int)<(n:Int))=!((n:Int)==0):=by
 rw[←ge1];rw[decide_eq_decide];omega
noncomputable def Nh(op:Int)(b0 b1 b2 b3 bm pv p0 nv dn vv mz ne n0 en:Bool):Int:=
 bif decide (op<1)||decide (37<op) then 11 else
 let k:=if op=1∨op=2∨op=3 then b0 else if op=18∨op=22∨op=23∨op=24∨op=26∨op=30∨op=31∨op=36 then b1 else if op=19∨op=25 then b3 else if op=4∨op=6∨op=16∨op=17∨op=21∨op=29∨op=37∨op=35 then true else if op=34 then !b0&&bm else b2
 let up:=decide (op=2)||decide (op=3)
 let un:=decide (op=3)||decide (op=32)||decide (op=33)
 bif !k then 11 else bif up&&!pv&&(decide (op=2)||!p0) then 10 else bif (un&&!nv)||(decide (op=34)&&!dn) then 9 else bif decide (op=1)&&!vv then 8
 else bif (!up&&!p0)||(!un&&!ne)||(!decide (op=34)&&!n0)||(!decide (op=1)&&!mz)||en then 4 else 0
theorem arq(op:Int)(h1:1≤op)(h2:op≤37):op=1∨op=2∨op=3∨op=4∨op=5∨op=6∨op=7∨op=8∨op=9∨op=10∨op=11∨op=12∨op=13∨op=14∨op=15∨op=16∨op=17∨op=18∨op=19∨op=20∨op=21∨op=22∨op=23∨op=24∨op=25∨op=26∨op=27∨op=28∨op=29∨op=30∨op=31∨op=32∨op=33∨op=34∨op=35∨op=36∨op=37:=by omega
noncomputable def BI(e:aT):Int:=Nh e.fOp ((e.bJ.length:Int)==0) ((e.bJ.length:Int)==1) ((e.bJ.length:Int)==2) ((e.bJ.length:Int)==3) ((e.bJ.length:Int)==(e.eH.length:Int)) (sF e.cZ) ((e.cZ.length:Int)==0) (nameB e.fName) (ng [] e.eH) (oP e.fArg) (jJ e.fArg) (decide (e.fName=⟨#[]⟩)) ((e.eH.length:Int)==0) (e.fN != 0)
theorem Xf(e:aT)(hb:aW e.lf1≤100000000):Q21 e=some (BI e):=by
 have hp:=iY e
 have hn:=fB e.eH
 unfold BI
 simp only[Q21,akV,Qv,Qu,Qs,Qr,Qq,Qp,Qo,Qn,Qm,Ql,Qk,Qj,YV,YU,Mo.den,ak,aj,aA,au,ay,Q85,akS,Qh,Qg,Qe,DV,DU,Mo.den,ak,aj,aA,au,ay,aoW,acR,Qi,Mo.den,ak,aj,aA,au,ay,lC,Nc,Xe e.eH (by omega),mX e.fArg (by omega),ahT,Option.bind_some,dH,gt0,ge1,bne]
 clear hp hn hb
 generalize e.fOp=op
 generalize ((e.bJ.length:Int)==0)=b0
 generalize ((e.bJ.length:Int)==1)=b1
 generalize ((e.bJ.length:Int)==2)=b2
 generalize ((e.bJ.length:Int)==3)=b3
 generalize ((e.bJ.length:Int)==(e.eH.length:Int))=bm
 generalize sF e.cZ=pv
 generalize ((e.cZ.length:Int)==0)=p0
 generalize nameB e.fName=nv
 generalize ng [] e.eH=dn
 generalize oP e.fArg=vv
 generalize jJ e.fArg=mz
 generalize decide (e.fName=⟨#[]⟩)=ne
 generalize ((e.eH.length:Int)==0)=n0
 generalize (e.fN==0)=en
 clear e
 by_cases h1:op<1
 ·unfold Nh;rw[decide_eq_true h1];rfl
 by_cases h2:37<op
 ·unfold Nh;rw[decide_eq_true h2,decide_eq_false h1];rfl
 rcases arq op (by omega) (by omega) with rfl|rfl|rfl|rfl|rfl|rfl|rfl|rfl|rfl|rfl|rfl|rfl|rfl|rfl|rfl|rfl|rfl|rfl|rfl|rfl|rfl|rfl|rfl|rfl|rfl|rfl|rfl|rfl|rfl|rfl|rfl|rfl|rfl|rfl|rfl|rfl|rfl
 all_goals simp(decide:=true) only[Nh,Int.reduceBEq,Int.reduceLT,Int.reduceLE,Int.reduceNeg,Int.reduceEq,decide_true,decide_false,cond_true,cond_false,if_true,if_false,Bool.not_true,Bool.not_false,Bool.false_or,Bool.true_or,Bool.or_false,Bool.or_true,Bool.and_true,Bool.true_and,Bool.false_and,Bool.and_false]
 all_goals first|rfl|skip
 all_goals first|clear b0|(cases b0<;>first|rfl|skip)
 all_goals first|clear b1|(cases b1<;>first|rfl|skip)
 all_goals first|clear b2|(cases b2<;>first|rfl|skip)
 all_goals first|clear b3|(cases b3<;>first|rfl|skip)
 all_goals first|clear bm|(cases bm<;>first|rfl|skip)
 all_goals first|clear pv|(cases pv<;>first|rfl|skip)
 all_goals first|clear p0|(cases p0<;>first|rfl|skip)
 all_goals first|clear nv|(cases nv<;>first|rfl|skip)
 all_goals first|clear dn|(cases dn<;>first|rfl|skip)
 all_goals first|clear vv|(cases vv<;>first|rfl|skip)
 all_goals first|clear ne|(cases ne<;>first|rfl|skip)
 all_goals first|clear n0|(cases n0<;>first|rfl|skip)
 all_goals first|clear mz|(cases mz<;>first|rfl|skip)
 all_goals first|clear en|(cases en<;>first|rfl|skip)
theorem Oc(e:aT)(hb:aW e.lf1≤100000000):Q10 e=some (BI e):=by
 have hp:=iY e
 have hn:=fB e.eH
 unfold BI
 simp only[Q10,ara,RX,RV,RU,RS,RQ,RP,RN,RJ,RI,RH,RG,RF,RD,ZJ,ZI,Mo.den,ak,aj,aA,au,ay,avG,alO,MI,MH,DV,DU,Mo.den,ak,aj,aA,au,ay,EP,rD,ahU e.eH (by omega),mD e.fArg (by omega),wL,Option.bind_some,dH,gt0,ge1,bne]
 clear hp hn hb
 generalize e.fOp=op
 generalize (e.bJ.length:Int)=kn
 generalize (e.eH.length:Int)=nn
 generalize sF e.cZ=pv
 generalize ((e.cZ.length:Int)==0)=p0
 generalize nameB e.fName=nv
 generalize ng [] e.eH=dn
 generalize oP e.fArg=vv
 generalize jJ e.fArg=mz
 generalize decide (e.fName=⟨#[]⟩)=ne
 generalize (e.fN==0)=en
 clear e
 by_cases h1:op<1
 ·unfold Nh;rw[decide_eq_true h1];rfl
 by_cases h2:37<op
 ·unfold Nh;rw[decide_eq_true h2,decide_eq_false h1];rfl
 rcases arq op (by omega) (by omega) with rfl|rfl|rfl|rfl|rfl|rfl|rfl|rfl|rfl|rfl|rfl|rfl|rfl|rfl|rfl|rfl|rfl|rfl|rfl|rfl|rfl|rfl|rfl|rfl|rfl|rfl|rfl|rfl|rfl|rfl|rfl|rfl|rfl|rfl|rfl|rfl|rfl
 all_goals simp(decide:=true) only[Nh,Int.reduceBEq,Int.reduceLT,Int.reduceLE,Int.reduceNeg,Int.reduceEq,decide_true,decide_false,cond_true,cond_false,if_true,if_false,Bool.not_true,Bool.not_false,Bool.false_or,Bool.true_or,Bool.or_false,Bool.or_true,Bool.and_true,Bool.true_and,Bool.false_and,Bool.and_false]
 all_goals first|rfl|skip
 all_goals generalize (kn==0)=b0
 all_goals generalize (kn==1)=b1
 all_goals generalize (kn==2)=b2
 all_goals generalize (kn==3)=b3
 all_goals generalize (kn==nn)=bm
 all_goals generalize (nn==0)=n0
 all_goals first|clear b0|(cases b0<;>first|rfl|skip)
 all_goals first|clear b1|(cases b1<;>first|rfl|skip)
 all_goals first|clear b2|(cases b2<;>first|rfl|skip)
 all_goals first|clear b3|(cases b3<;>first|rfl|skip)
 all_goals first|clear bm|(cases bm<;>first|rfl|skip)
 all_goals first|clear pv|(cases pv<;>first|rfl|skip)
 all_goals first|clear p0|(cases p0<;>first|rfl|skip)
 all_goals first|clear nv|(cases nv<;>first|rfl|skip)
 all_goals first|clear dn|(cases dn<;>first|rfl|skip)
 all_goals first|clear vv|(cases vv<;>first|rfl|skip)
 all_goals first|clear ne|(cases ne<;>first|rfl|skip)
 all_goals first|clear n0|(cases n0<;>first|rfl|skip)
 all_goals first|clear mz|(cases mz<;>first|rfl|skip)
 all_goals first|clear en|(cases en<;>first|rfl|skip)
end Go.Proofs.YtbdcaeahocbkbaaGreatDoor
set_option linter.unusedSimpArgs false
set_option linter.unusedVariables false
namespace Go.Proofs.YtbdcaeahocbkbaaGreatDoor
open Go.RowKit
def fJ{α:Type}(g:α→Nat→Int×Nat):List α→Nat→Int×Nat
 |[],n=>(0,n)
 |x::r,n=>bif (g x n).1 != 0 then g x n else fJ g r (g x n).2
theorem yX{α:Type}(g:α→Nat→Int×Nat)(lim:Nat):∀(l:List α) (n:Nat),(∀x∈l,∀n,n≤lim→(g x n).2≤lim)→n≤lim→(fJ g l n).2≤lim
 |[],n,_,h=>h
 |x::r,n,hg,h=>by
  have hx:=hg x (List.mem_cons_self ..) n h
  unfold fJ
  cases (g x n).1 != 0 with
  |true=>exact hx
  |false=>exact yX g lim r _ (fun y hy=>hg y (List.mem_cons_of_mem _ hy)) hx
theorem Nj{α:Type}(g:α→Nat→Int×Nat)(x:α)(r:List α)(n:Nat):fJ g (x::r) n=bif (g x n).1 != 0 then g x n else fJ g r (g x n).2:=rfl
theorem TQ{α:Type}(g:α→Nat→Int×Nat):∀(l m:List α) (n:Nat),fJ g (l++m) n=bif (fJ g l n).1 != 0 then fJ g l n else fJ g m (fJ g l n).2
 |[],m,n=>rfl
 |x::r,m,n=>by
  rw[List.cons_append,Nj,Nj]
  cases h:(g x n).1 != 0 with
  |true=>simp only[cond_true,h]
  |false=>simp only[cond_false];exact TQ g r m _
theorem AO{α ε:Type}(ex:Int×Nat→ε)(l:List α)(hl:l.length≤100000000)(g:α→Nat→Int×Nat)(lim:Nat){Lo:Int×Int→Option ((Int×Int)⊕(ε⊕Int))}(hg:∀x∈l,∀n,n≤lim→(g x n).2≤lim)
 (h:∀(k:Nat) (x:α) (n:Nat),l[k]?=some x→n≤lim→Lo ((k:Int),(n:Int))=some (bif (g x n).1 != 0 then .inr (.inl (ex (g x n))) else .inl (IntKind.wrap .i64 ((k:Int)+1),((g x n).2:Int))))
 (he:∀n:Int,Lo ((l.length:Int),n)=some (.inr (.inr n))) (n:Nat) (hn:n≤lim):bQ Lo FU (0,(n:Int))=some (bif (fJ g l n).1 != 0 then .inl (ex (fJ g l n)) else .inr ((fJ g l n).2:Int)):=by
 have key:Tot (bQ Lo FU (0,(n:Int))) (fun r=>r=bif (fJ g l n).1 != 0 then .inl (ex (fJ g l n)) else .inr ((fJ g l n).2:Int)):=by
  refine T.oh l.length (by omega) (fun k s=>∃m:Nat,m≤lim∧s=((k:Int),(m:Int))∧fJ g l n=fJ g (l.drop k) m) _ ⟨n,hn,rfl,rfl⟩ ?_ ?_
  ·rintro k s hk ⟨m,hm,rfl,hd⟩
   have hx:=List.getElem?_eq_getElem hk
   have hdr:l.drop k=l[k]::l.drop (k+1):=List.drop_eq_getElem_cons hk
   rw[hdr] at hd
   have hd:fJ g l n=bif (g l[k] m).1 != 0 then g l[k] m else fJ g (l.drop (k+1)) (g l[k] m).2:=hd
   rw[h k l[k] m hx hm]
   cases hb:(g l[k] m).1 != 0 with
   |true=>rw[hb] at hd;exact T.ret (show _=_ by rw[hd];simp only[cond_true,hb])
   |false=>rw[hb] at hd;exact T.ret ⟨(g l[k] m).2,hg _ (List.getElem_mem hk) _ hm,by rw[inc k (by omega)],by rw[hd];rfl⟩
  ·rintro s ⟨m,hm,rfl,hd⟩
   rw[List.drop_length] at hd
   rw[he]
   exact T.ret (show _=_ by rw[hd];rfl)
 obtain⟨r,hr,rfl⟩:=key
 exact hr
theorem Nk{α:Type}(l:List α)(hl:l.length≤100000000)(g:α→Nat→Int×Nat)(lim:Nat){Lo:Int×Int→Option ((Int×Int)⊕((Int×Int)⊕Int))}(hg:∀x∈l,∀n,n≤lim→(g x n).2≤lim)
 (h:∀(k:Nat) (x:α) (n:Nat),l[k]?=some x→n≤lim→∃r:Int,((g x n).1=0→r=((g x n).2:Int))∧Lo ((n:Int),(k:Int))=some (bif (g x n).1 != 0 then .inr (.inl (r,(g x n).1)) else .inl (r,IntKind.wrap .i64 ((k:Int)+1))))
 (he:∀n:Int,Lo (n,(l.length:Int))=some (.inr (.inr n))) (n:Nat) (hn:n≤lim):Tot (bQ Lo FU ((n:Int),0)) (fun o=>match o with|.inl p=>p.2=(fJ g l n).1∧¬(fJ g l n).1=0|.inr a=>(fJ g l n).1=0∧a=((fJ g l n).2:Int)):=by
 refine T.oh l.length (by omega) (fun k s=>∃m:Nat,m≤lim∧s=((m:Int),(k:Int))∧fJ g l n=fJ g (l.drop k) m) _ ⟨n,hn,rfl,rfl⟩ ?_ ?_
 ·rintro k s hk ⟨m,hm,rfl,hd⟩
  have hx:=List.getElem?_eq_getElem hk
  have hdr:l.drop k=l[k]::l.drop (k+1):=List.drop_eq_getElem_cons hk
  rw[hdr] at hd
  have hd:fJ g l n=bif (g l[k] m).1 != 0 then g l[k] m else fJ g (l.drop (k+1)) (g l[k] m).2:=hd
  obtain⟨r,hr,ht⟩:=h k l[k] m hx hm
  rw[ht]
  cases hb:(g l[k] m).1 != 0 with
  |true=>rw[hb] at hd;exact T.ret ⟨by rw[hd];rfl,by rw[hd];simpa using hb⟩
  |false=>
   rw[hb] at hd
   have h0:(g l[k] m).1=0:=by simpa using hb
   exact T.ret ⟨(g l[k] m).2,hg _ (List.getElem_mem hk) _ hm,by rw[inc k (by omega),hr h0],by rw[hd];rfl⟩
 ·rintro s ⟨m,hm,rfl,hd⟩
  rw[List.drop_length] at hd
  rw[he]
  exact T.ret ⟨by rw[hd];rfl,by rw[hd];rfl⟩
noncomputable def mF:Nat→aT→Nat→Int×Nat
 |0,_,n=>(2,n)
 |d+1,e,n=>bif n==256 then(2,n) else bif BI e != 0 then(BI e,n+1) else fJ (mF d) e.bJ (n+1)
theorem Nl:∀(d:Nat) (e:aT) (n:Nat),n≤256→(mF d e n).2≤256
 |0,e,n,h=>h
 |d+1,e,n,h=>by
  unfold mF
  cases hn:n==256 with
  |true=>exact h
  |false=>
   have:¬n=256:=by simpa using hn
   cases BI e != 0 with
   |true=>show n+1≤256;omega
   |false=>exact yX _ 256 _ _ (fun x _ m hm=>Nl d x m hm) (by omega)
theorem aaL(d:Nat):∀(F:Nat) (e:aT) (n:Nat),d≤16→d+1≤F→n≤256→aW e.lf1≤100000000→(qW F).m1 e (17-(d:Int)) (n:Int)=some ((mF d e n).1,((mF d e n).2:Int)):=by
 induction d with
 |zero=>
  intro F e n _ hF _ _
  obtain⟨F,rfl⟩:∃G,F=G+1:=⟨F-1,by omega⟩
  show Mo.den (Cb (qW F) e (17-((0:Nat):Int)) (n:Int))=_
  unfold Cb
  simp only[Mo.den,ak,aj,aA,au,ay,Aa]
  rw[decide_eq_true (show(16:Int)<17-((0:Nat):Int) by omega)];rfl
 |succ d ih=>
  intro F e n hd hF hn hb
  obtain⟨F,rfl⟩:∃G,F=G+1:=⟨F-1,by omega⟩
  have hp:=iY e
  have hk:=mW e.bJ
  show Mo.den (Cb (qW F) e (17-((d+1:Nat):Int)) (n:Int))=_
  unfold Cb mF
  simp only[Mo.den,ak,aj,aA,au,ay,Aa,Xf e hb]
  rw[decide_eq_false (show ¬(16:Int)<17-((d+1:Nat):Int) by omega),show((n:Int)==256)=(n==256) by rw[Bool.eq_iff_iff];simp;omega]
  simp only[cond_false,Option.bind_some]
  cases h1:n==256 with
  |true=>rfl
  |false=>
   have h1:¬n=256:=by simpa using h1
   rw[inc n (by omega)]
   simp only[cond_false]
   cases BI e != 0 with
   |true=>rfl
   |false=>
    simp only[cond_false]
    try unfold ao1
    rw[AO (fun p=>(p.1, (p.2:Int))) e.bJ (by omega) (mF d) 256 (fun x _ m hm=>Nl d x m hm) (fun k x m hx hm=>by
     have hxb:=qh (iH hx)
     have hlt:=pI hx
     have ihx:=ih F x m (by omega) (by omega) hm (by omega)
     simp only[uG,Mo.den,ak,aj,aA,au,ay,ltt hx,gid hx,cond_true,Option.bind_some]
     rw[w64 (x:=17-((d+1:Nat):Int)+1) (by omega) (by omega),show 17-((d+1:Nat):Int)+1=17-(d:Int) by omega,ihx]
     simp only[Option.bind_some]
     cases (mF d x m).1 != 0<;>rfl) (fun m=>by simp only[uG,Mo.den,ak,aj,aA,au,ay,ltn,cond_false]) (n+1) (by omega)]
    simp only[Option.bind_some]
    cases h3:(fJ (mF d) e.bJ (n+1)).1 != 0 with
    |true=>rfl
    |false=>
     have h3:(fJ (mF d) e.bJ (n+1)).1=0:=by simpa using h3
     simp only[cond_false]
     rw[h3]
theorem ahV(e:aT)(hb:aW e.lf1≤100000000):ao3 e=some (mF 16 e 0).1:=by
 have h:=aaL 16 FU e 0 (by omega) (by have:=iw;omega) (by omega) hb
 have h:atr e 1 0=_:=h
 simp only[ao3,acU,Mo.den,ak,aj,aA,au,ay,h,Option.bind_some]
theorem Xg(d:Nat):∀(F:Nat) (e:aT) (n:Nat),d≤16→d+1≤F→n≤256→aW e.lf1≤100000000→∃r:Int,((mF d e n).1=0→r=((mF d e n).2:Int))∧(vX F).m1 e (((n+1:Nat):Int)) (17-(d:Int))=some (r,(mF d e n).1):=by
 induction d with
 |zero=>
  intro F e n _ hF _ _
  obtain⟨F,rfl⟩:∃G,F=G+1:=⟨F-1,by omega⟩
  refine⟨((n+1:Nat):Int),fun h=>(by cases h),?_⟩
  show Mo.den (RY (vX F) e ((n+1:Nat):Int) (17-((0:Nat):Int)))=_
  unfold RY
  simp only[Mo.den,ak,aj,aA,au,ay,MJ]
  rw[decide_eq_true (show(16:Int)<17-((0:Nat):Int) by omega)];rfl
 |succ d ih=>
  intro F e n hd hF hn hb
  obtain⟨F,rfl⟩:∃G,F=G+1:=⟨F-1,by omega⟩
  have hp:=iY e
  have hk:=mW e.bJ
  show ∃r:Int,_∧Mo.den (RY (vX F) e ((n+1:Nat):Int) (17-((d+1:Nat):Int)))=_
  unfold RY mF
  simp only[Mo.den,ak,aj,aA,au,ay,MJ,Oc e hb]
  rw[decide_eq_false (show ¬(16:Int)<17-((d+1:Nat):Int) by omega),show decide ((256:Int)<((n+1:Nat):Int))=(n==256) by rw[Bool.eq_iff_iff];simp;omega]
  simp only[cond_false,Option.bind_some]
  cases h1:n==256 with
  |true=>exact⟨_,fun h=>(by cases h),rfl⟩
  |false=>
   have h1:¬n=256:=by simpa using h1
   simp only[cond_false]
   cases h2:BI e != 0 with
   |true=>exact⟨_,fun h=>(by have h:BI e=0:=h;rw[h] at h2;cases h2),rfl⟩
   |false=>
    simp only[cond_false]
    obtain⟨o, ho, hpost⟩:=Nk (Lo:=fun v_=>(yJ (vX F) e (17-((d+1:Nat):Int)) v_).den) e.bJ (by omega) (mF d) 256 (fun x _ m hm=>Nl d x m hm) (fun k x m hx hm=>by
     have hxb:=qh (iH hx)
     have hlt:=pI hx
     obtain⟨r,hr,hrun⟩:=ih F x m (by omega) (by omega) hm (by omega)
     refine⟨r,hr,?_⟩
     simp only[yJ,Mo.den,ak,aj,aA,au,ay,ltt hx,gid hx,cond_true,Option.bind_some]
     rw[w64 (x:=17-((d+1:Nat):Int)+1) (by omega) (by omega),show 17-((d+1:Nat):Int)+1=17-(d:Int) by omega,inc m (by omega),hrun]
     simp only[Option.bind_some]
     cases (mF d x m).1 != 0<;>rfl) (fun m=>by simp only[yJ,Mo.den,ak,aj,aA,au,ay,ltn,cond_false]) (n+1) (by omega)
    have ho:alP (vX F) e (17-((d+1:Nat):Int)) ((n+1:Nat):Int) 0=some o:=ho
    rw[ho]
    simp only[Option.bind_some]
    rcases o with p|a
    ·obtain⟨p1,p2⟩:=p
     obtain⟨hp1,hp2⟩:=hpost
     have hp1:p2=_:=hp1
     subst hp1
     exact⟨p1,fun h=>absurd h hp2,rfl⟩
    ·obtain⟨h5,h6⟩:=hpost
     subst h6
     exact⟨_,fun _=>rfl,by rw[h5]⟩
theorem ad6(e:aT)(hb:aW e.lf1≤100000000):aum e=some (mF 16 e 0).1:=by
 obtain⟨r,_,h⟩:=Xg 16 FU e 0 (by omega) (by have:=iw;omega) (by omega) hb
 have h:Q49 e 1 1=_:=h
 simp only[aum,alQ,Mo.den,ak,aj,aA,au,ay,h,Option.bind_some]
end Go.Proofs.YtbdcaeahocbkbaaGreatDoor
set_option linter.unusedSimpArgs false
set_option linter.unusedVariables false
namespace Go.Proofs.YtbdcaeahocbkbaaGreatDoor
open Go.RowKit
theorem ad7(p:aP):aub p=akP p.fOp (p.bJ.length:Int):=by
 simp only[aub,alI,QZ,QY,Mo.den,ak,aj,aA,au,ay,akP,acN,PZ,PY,Mo.den,ak,aj,aA,au,ay,gt0,ge1]
theorem amx(p:aP):auc p=Q44 p:=by simp only[auc,alJ,dG,zX,zW,DT,DR,Mo.den,ak,aj,aA,au,ay,Q44,akQ,dG,zX,zW,DT,DR,Mo.den,ak,aj,aA,au,ay]
theorem TR(op:Int):N8 op=N8 op:=by simp only[N8,Vt,Mo.den,ak,aj,aA,au,ay,N8,Vt,Mo.den,ak,aj,aA,au,ay]
theorem sO(op:Int):KQ op=KQ op:=by simp only[KQ,Vr,Mo.den,ak,aj,aA,au,ay,KQ,Vr,Mo.den,ak,aj,aA,au,ay]
theorem Np(op:Int):YQ op=YQ op:=by simp only[YQ,Vu,Mo.den,ak,aj,aA,au,ay,YQ,Vu,Mo.den,ak,aj,aA,au,ay]
theorem Nq(op:Int):aud op=YR op:=by
 simp only[aud,alK,YR,Vx,Mo.den,ak,aj,aA,au,ay,Np]
theorem aaM(n:Int):Vy n=Vy n:=by
 simp only[Vy,KR,Mo.den,ak,aj,aA,au,ay,Vy,KR,Mo.den,ak,aj,aA,au,ay]
theorem ad8(p:dO):aue p=ahk p:=by
 simp only[aue,alL,Mo.den,ak,aj,aA,au,ay,ahk,VA,Mo.den,ak,aj,aA,au,ay,aaM]
def CW(n:Int):Bool:=decide (0≤n)&&decide (n<65536)
theorem Ig(n:Int):Vy n=some (CW n):=by
 simp only[Vy,KR,Mo.den,ak,aj,aA,au,ay,CW]
 cases decide ((0:Int)≤n)<;>rfl
def Nr(p:dO):Bool:=CW p.fX&&CW p.fY
theorem TS(p:dO):ahk p=some (Nr p):=by
 simp only[ahk,VA,Mo.den,ak,aj,aA,au,ay,Ig,Option.bind_some,Nr]
 cases CW p.fX<;>rfl
def wM(l:List dO)(k:Nat):Option Unit:=match l[k]? with|some x=>hit (!Nr x)|none=>none
noncomputable def E5(s:dP):Bool:=
 bif s.aK==1 then((s.bK.length:Int)==2&&s.fR==0) else bif s.aK==2 then((s.bK.length:Int)==1&&CW s.fR) else bif s.aK==3 then(decide ((3:Int)≤(s.bK.length:Int))&&decide ((s.bK.length:Int)≤64)&&s.fR==0) else false
noncomputable def tZ(s:dP):Int:=bif E5 s&&(dF (wM s.bK) 0 s.bK.length).isNone then 0 else 18
theorem aqp(s:dP)(hb:aW s.lf1≤100000000):aoR s=some (tZ s):=by
 have hp:=nR s
 have hl:=lX s.bK
 have hL:VD s 0=some (jK (dF (wM s.bK) 0 s.bK.length)):=by
  try unfold VD
  refine dV _ s.bK.length (by omega) (fun k hk=>?_) (by simp only[uF,Mo.den,ak,aj,aA,au,ay,ltn,cond_false])
  have hx:=List.getElem?_eq_getElem hk
  simp only[uF,Mo.den,ak,aj,aA,au,ay,ltt hx,gid hx,cond_true,Option.bind_some,TS,wM,hx]
  cases Nr s.bK[k]<;>rfl
 have hJ:VB s=some (E5 s):=by
  simp only[VB,GN,Mo.den,ak,aj,aA,au,ay,Ig,Option.bind_some,dH,E5]
  cases s.aK==1<;>cases s.aK==2<;>cases s.aK==3<;>cases (s.bK.length:Int)==2<;>cases (s.bK.length:Int)==1<;>cases decide ((3:Int)≤(s.bK.length:Int))<;>cases decide ((s.bK.length:Int)≤64)<;>rfl
 unfold aoR acO tZ
 simp only[Mo.den,ak,aj,aA,au,ay,hL,hJ,Option.bind_some]
 cases E5 s<;>cases dF (wM s.bK) 0 s.bK.length<;>rfl
theorem amy(s:dP)(hb:aW s.lf1≤100000000):Q43 s=some (tZ s):=by
 have hp:=nR s
 have hl:=lX s.bK
 have hL:adH s 0=some (jK (dF (wM s.bK) 0 s.bK.length)):=by
  try unfold adH
  refine dV _ s.bK.length (by omega) (fun k hk=>?_) (by simp only[Ew,Mo.den,ak,aj,aA,au,ay,ltn,cond_false])
  have hx:=List.getElem?_eq_getElem hk
  simp only[Ew,Mo.den,ak,aj,aA,au,ay,ltt hx,gid hx,cond_true,Option.bind_some,ad8,TS,wM,hx]
  cases Nr s.bK[k]<;>rfl
 unfold Q43 aq7 ZC Rf Rh Ri tZ E5
 simp only[Mo.den,ak,aj,aA,au,ay,hL,aaM,Ig,Option.bind_some,dH]
 have e64:decide ((64:Int)<(s.bK.length:Int))=!decide ((s.bK.length:Int)≤64):=by
  by_cases h:(s.bK.length:Int)≤64
  ·rw[decide_eq_true h,decide_eq_false (by omega)];rfl
  ·rw[decide_eq_false h,decide_eq_true (by omega)];rfl
 rw[e64]
 have i2:((s.bK.length:Int)==2)=true→decide ((s.bK.length:Int)≤64)=true:=fun h=>decide_eq_true (by have h:(s.bK.length:Int)=2:=eq_of_beq h;omega)
 have i1:((s.bK.length:Int)==1)=true→decide ((s.bK.length:Int)≤64)=true:=fun h=>decide_eq_true (by have h:(s.bK.length:Int)=1:=eq_of_beq h;omega)
 have k1:(s.aK==1)=true→(s.aK==2)=false∧(s.aK==3)=false:=fun h=>by
  have h:s.aK=1:=eq_of_beq h
  rw[h];exact⟨rfl,rfl⟩
 have k2:(s.aK==2)=true→(s.aK==3)=false:=fun h=>by
  have h:s.aK=2:=eq_of_beq h
  rw[h];rfl
 clear hL e64 hp hl hb
 generalize (s.aK==1)=a at *
 generalize (s.aK==2)=b at *
 generalize (s.aK==3)=c at *
 generalize ((s.bK.length:Int)==2)=d at *
 generalize ((s.bK.length:Int)==1)=e at *
 generalize decide ((s.bK.length:Int)≤64)=f at *
 generalize decide ((3:Int)≤(s.bK.length:Int))=g at *
 generalize (s.fR==0)=h at *
 generalize CW s.fR=i at *
 generalize dF (wM s.bK) 0 s.bK.length=o at *
 cases f with
 |false=>
  cases d with
  |true=>cases i2 rfl
  |false=>
   cases e with
   |true=>cases i1 rfl
   |false=>cases o<;>cases a<;>cases b<;>cases c<;>cases g<;>cases h<;>cases i<;>first|rfl|(exact absurd (k1 rfl).1 (by decide))|(exact absurd (k1 rfl).2 (by decide))|(exact absurd (k2 rfl) (by decide))
 |true=>cases o<;>cases a<;>cases b<;>cases c<;>cases d<;>cases e<;>cases g<;>cases h<;>cases i<;>first|rfl|(exact absurd (k1 rfl).1 (by decide))|(exact absurd (k1 rfl).2 (by decide))|(exact absurd (k2 rfl) (by decide))
noncomputable def rG:Nat→aP→Nat→Int×Nat
 |0,_,n=>(1,n)
 |d+1,p,n=>bif n==256 then(1,n) else fJ (rG d) p.bJ (n+1)
theorem E8:∀(d:Nat) (p:aP) (n:Nat),n≤256→(rG d p n).2≤256
 |0,p,n,h=>h
 |d+1,p,n,h=>by
  unfold rG
  cases hn:n==256 with
  |true=>exact h
  |false=>
   have:¬n=256:=by simpa using hn
   exact yX _ 256 _ _ (fun x _ m hm=>E8 d x m hm) (by omega)
theorem amA(d:Nat):∀(F:Nat) (p:aP) (n:Nat),d≤16→d+1≤F→n≤256→aW p.lf1≤100000000→(qV F).m1 p (17-(d:Int)) (n:Int)=some (!((rG d p n).1 != 0),((rG d p n).2:Int)):=by
 induction d with
 |zero=>
  intro F p n _ hF _ _
  obtain⟨F,rfl⟩:∃G,F=G+1:=⟨F-1,by omega⟩
  show Mo.den (KP (qV F) p (17-((0:Nat):Int)) (n:Int))=_
  unfold KP
  simp only[Mo.den,ak,aj,aA,au,ay,DN]
  rw[decide_eq_true (show(16:Int)<17-((0:Nat):Int) by omega)];rfl
 |succ d ih=>
  intro F p n hd hF hn hb
  obtain⟨F,rfl⟩:∃G,F=G+1:=⟨F-1,by omega⟩
  have hp:=gy p
  have hk:=kJ p.bJ
  show Mo.den (KP (qV F) p (17-((d+1:Nat):Int)) (n:Int))=_
  unfold KP rG
  simp only[Mo.den,ak,aj,aA,au,ay,DN]
  rw[decide_eq_false (show ¬(16:Int)<17-((d+1:Nat):Int) by omega),show((n:Int)==256)=(n==256) by rw[Bool.eq_iff_iff];simp;omega]
  simp only[cond_false,Option.bind_some]
  cases h1:n==256 with
  |true=>rfl
  |false=>
   have h1:¬n=256:=by simpa using h1
   rw[inc n (by omega)]
   simp only[cond_false]
   try unfold ati
   rw[AO (fun p=>(p.2:Int)) p.bJ (by omega) (rG d) 256 (fun x _ m hm=>E8 d x m hm) (fun k x m hx hm=>by
    have hxb:=nK (iH hx)
    have hlt:=pI hx
    have ihx:=ih F x m (by omega) (by omega) hm (by omega)
    unfold yu
    simp only[Mo.den,ak,aj,aA,au,ay,ltt hx,gid hx,cond_true,Option.bind_some]
    rw[w64 (x:=17-((d+1:Nat):Int)+1) (by omega) (by omega),show 17-((d+1:Nat):Int)+1=17-(d:Int) by omega,ihx]
    simp only[Option.bind_some]
    cases (rG d x m).1 != 0<;>rfl) (fun m=>by unfold yu;simp only[Mo.den,ak,aj,aA,au,ay,ltn,cond_false]) (n+1) (by omega)]
   simp only[Option.bind_some]
   cases h3:(fJ (rG d) p.bJ (n+1)).1 != 0<;>rfl
structure awz {α:Type} (g:α→Nat→Int×Nat) (l:List α) (n k:Nat) (s:Int×Int):Prop where
 i:s.2=(k:Int)
 h:(∃m:Nat,m≤256∧s.1=256-(m:Int)∧fJ g l n=fJ g (l.drop k) m)∨(s.1 = -1∧((fJ g l n).1 != 0)=true)
theorem ad9{α:Type}(l:List α)(hl:l.length≤100000000)(g:α→Nat→Int×Nat){Lo:Int×Int→Option ((Int×Int)⊕Int)}(hg:∀x∈l,∀n,n≤256→(g x n).2≤256)
 (h:∀(k:Nat) (x:α) (m:Nat),l[k]?=some x→m≤256→Lo (256-(m:Int),(k:Int))=some (.inl (bif (g x m).1 != 0 then -1 else 256-((g x m).2:Int),IntKind.wrap .i64 ((k:Int)+1))))
 (h2:∀(k:Nat) (x:α),l[k]?=some x→Lo (-1,(k:Int))=some (.inr (-1))) (he:∀a:Int,Lo (a,(l.length:Int))=some (.inr a)) (n:Nat) (hn:n≤256):
 bQ Lo FU (256-(n:Int),0)=some (bif (fJ g l n).1 != 0 then -1 else 256-((fJ g l n).2:Int)):=by
 have key:Tot (bQ Lo FU (256-(n:Int),0)) (fun r=>r=bif (fJ g l n).1 != 0 then -1 else 256-((fJ g l n).2:Int)):=by
  refine T.oh l.length (by omega) (awz g l n) _ ⟨rfl,.inl ⟨n,hn,rfl,by rw[List.drop_zero]⟩⟩ ?_ ?_
  ·rintro k ⟨a,i⟩ hk ⟨h3,h4⟩
   obtain rfl:i=(k:Int):=h3
   have hx:=List.getElem?_eq_getElem hk
   have hdr:l.drop k=l[k]::l.drop (k+1):=List.drop_eq_getElem_cons hk
   have hgx:=hg _ (List.getElem_mem hk)
   rcases h4 with⟨m,hm,h5,hd5⟩|⟨h5,h6⟩
   ·have h5:a=256-(m:Int):=h5
    rw[hdr] at hd5
    have hd5:fJ g l n=bif (g l[k] m).1 != 0 then g l[k] m else fJ g (l.drop (k+1)) (g l[k] m).2:=hd5
    rw[h5,h k l[k] m hx hm]
    refine T.ret ⟨inc k (by omega),?_⟩
    cases hc:(g l[k] m).1 != 0 with
    |true=>rw[hc] at hd5;exact .inr ⟨rfl,by rw[hd5];exact hc⟩
    |false=>rw[hc] at hd5;exact .inl ⟨(g l[k] m).2,hgx m hm,rfl,hd5⟩
   ·have h5:a = -1:=h5
    rw[h5,h2 k l[k] hx]
    exact T.ret (show _=_ by rw[h6];rfl)
  ·rintro⟨a,i⟩ ⟨h3,h4⟩
   obtain rfl:i=(l.length:Int):=h3
   rw[he]
   refine T.ret (show _=_ from ?_)
   rcases h4 with⟨m,hm,h5,hd5⟩|⟨h5,h6⟩
   ·rw[List.drop_length] at hd5
    rw[hd5];exact h5
   ·rw[h6];exact h5
 obtain⟨r,hr,rfl⟩:=key
 exact hr
theorem aea(d:Nat):∀(F:Nat) (p:aP) (n:Nat),d≤16→d+1≤F→n≤256→aW p.lf1≤100000000→(Hf F).m1 p (d:Int) (256-(n:Int))=some (bif (rG d p n).1 != 0 then -1 else 256-((rG d p n).2:Int)):=by
 induction d with
 |zero=>
  intro F p n _ hF _ _
  obtain⟨F,rfl⟩:∃G,F=G+1:=⟨F-1,by omega⟩
  rfl
 |succ d ih=>
  intro F p n hd hF hn hb
  obtain⟨F,rfl⟩:∃G,F=G+1:=⟨F-1,by omega⟩
  have hp:=gy p
  have hk:=kJ p.bJ
  show Mo.den (afY (Hf F) p ((d+1:Nat):Int) (256-(n:Int)))=_
  unfold afY rG
  simp only[Mo.den,ak,aj,aA,au,ay,ZB]
  rw[show(((d+1:Nat):Int)==0)=false by rw[beq_eq_false_iff_ne];omega,show decide (256-(n:Int)≤0)=(n==256) by rw[Bool.eq_iff_iff];simp;omega]
  simp only[cond_false,Option.bind_some]
  cases h1:n==256 with
  |true=>rfl
  |false=>
   have h1:¬n=256:=by simpa using h1
   simp only[cond_false]
   rw[w64 (x:=256-(n:Int)-1) (by omega) (by omega),show 256-(n:Int)-1=256-((n+1:Nat):Int) by omega]
   try unfold apM
   rw[ad9 p.bJ (by omega) (rG d) (fun x _ m hm=>E8 d x m hm) (fun k x m hx hm=>by
    have hxb:=nK (iH hx)
    unfold uK
    simp only[Eu,Mo.den,ak,aj,aA,au,ay,ltt hx,gid hx,cond_true,Option.bind_some]
    rw[decide_eq_true (show(0:Int)≤256-(m:Int) by omega),w64 (x:=((d+1:Nat):Int)-1) (by omega) (by omega),show((d+1:Nat):Int)-1=(d:Int) by omega,ih F _ m (by omega) (by omega) hm (by omega)]
    simp only[cond_true,Option.bind_some]) (fun k x hx=>by
    unfold uK
    simp only[Eu,Mo.den,ak,aj,aA,au,ay,ltt hx,cond_true,Option.bind_some]
    rfl) (fun a=>by unfold uK;simp only[Eu,Mo.den,ak,aj,aA,au,ay,ltn,cond_false,Option.bind_some]) (n+1) (by omega),Option.bind_some]
noncomputable def kZ(p:aP)(ins:Bool):Int:=(Q6 p ins).getD 0
theorem TU(p:aP)(ins:Bool)(hb:aW p.lf1≤100000000):Q6 p ins=some (kZ p ins):=by
 obtain⟨r,hr,_⟩:=nX p ins hb
 unfold kZ
 rw[hr];rfl
end Go.Proofs.YtbdcaeahocbkbaaGreatDoor
set_option linter.unusedSimpArgs false
set_option linter.unusedVariables false
namespace Go.Proofs.YtbdcaeahocbkbaaGreatDoor
open Go.RowKit
def BJ(l:List ah)(k:Nat):Option Unit:=match l[k]? with|some x=>hit (!oP x)|none=>none
theorem ahW(p:aP)(hb:aW p.lf1≤100000000):acV p 0=some (jK (dF (BJ p.fArgs) 0 p.fArgs.length)):=by
 have hp:=gy p
 have hl:=fV p.fArgs
 try unfold acV
 refine dV _ p.fArgs.length (by omega) (fun k hk=>?_) (by simp only[yx,Mo.den,ak,aj,aA,au,ay,ltn,cond_false])
 have hx:=List.getElem?_eq_getElem hk
 have hm:=jg (iH hx)
 simp only[yx,Mo.den,ak,aj,aA,au,ay,ltt hx,gid hx,cond_true,Option.bind_some,mX _ (show aW p.fArgs[k].lf1≤100000000 by omega),BJ,hx]
 cases oP p.fArgs[k]<;>rfl
theorem aeb(R:uM)(p:aP)(ins u:Bool)(hu:KQ p.fOp=some u)(hb:aW p.lf1≤100000000):adI R ins p 0=some (jK (bif u then dF (BJ p.fArgs) 0 p.fArgs.length else none)):=by
 have hp:=gy p
 have hl:=fV p.fArgs
 try unfold adI
 cases u with
 |true=>
  refine dV _ p.fArgs.length (by omega) (fun k hk=>?_) (by simp only[yK,Ez,Mo.den,ak,aj,aA,au,ay,ltn,cond_false,Option.bind_some])
  have hx:=List.getElem?_eq_getElem hk
  have hm:=jg (iH hx)
  simp only[yK,Ez,Mo.den,ak,aj,aA,au,ay,ltt hx,gid hx,cond_true,Option.bind_some,sO,hu,mD _ (show aW p.fArgs[k].lf1≤100000000 by omega),BJ,hx]
  cases oP p.fArgs[k]<;>rfl
 |false=>
  refine nY ?_
  simp only[yK,Ez,Mo.den,ak,aj,aA,au,ay,sO,hu,Option.bind_some,dH]
  cases decide ((0:Int)<(p.fArgs.length:Int))<;>rfl
theorem ahX(e:aT):aug e=ahl e:=by
 simp only[aug,alN,dG,mV,mQ,MG,mP,oH,oG,Mo.den,ak,aj,aA,au,ay,ahl,VE,dG,mV,mQ,BZ,mP,oH,oG,Mo.den,ak,aj,aA,au,ay,sG,Ic]
def CX(e:aT):Bool:=e.fOp==0&&(e.cZ.length:Int)==0&&decide (e.fName=⟨#[]⟩)&&(e.eH.length:Int)==0&&jJ e.fArg&&e.fN==0&&(e.bJ.length:Int)==0
theorem Ns(e:aT):ahl e=some (CX e):=by
 simp only[ahl,VE,dG,mV,mQ,BZ,mP,oH,oG,Mo.den,ak,aj,aA,au,ay,Ic,Option.bind_some,dH,CX]
 cases e.fOp==0<;>cases (e.cZ.length:Int)==0<;>cases decide (e.fName=⟨#[]⟩)<;>cases (e.eH.length:Int)==0<;>cases jJ e.fArg<;>cases e.fN==0<;>rfl
theorem li1(c:Bool):(bif c then(Sum.inl ():Unit⊕Unit) else Sum.inr ())=bif !c then Sum.inr () else Sum.inl ():=by cases c<;>rfl
theorem li2(c g:Bool):(bif c then(Sum.inl ():Unit⊕Unit) else bif g then Sum.inr () else Sum.inl ())=bif !c&&g then Sum.inr () else Sum.inl ():=by cases c<;>cases g<;>rfl
theorem Xh(x y:Bool):(bif x then true else y)=(x||y):=by cases x<;>rfl
theorem nZ(x y:Bool):(bif x then y else false)=(x&&y):=by cases x<;>rfl
theorem Xi(x y:Bool):(bif x then false else y)=(!x&&y):=by cases x<;>rfl
def uf(a b c:Bool)(p:aP):Bool:=(a||(p.cZ.length:Int)==0)&&((b||jJ p.fArg)&&((c||(p.fArgs.length:Int)==0)&&((p.fOp==10||(p.fOp==11||(p.fOp==12||(p.fOp==13||p.fN==0))))&&((p.fOp==12||p.fM==0)&&((p.fOp==18||(p.eF.aK==0&&((p.eF.bK.length:Int)==0&&p.eF.fR==0)))&&(p.fOp==24||CX p.fExpr))))))
theorem TV(p:aP){a b c:Bool}(ha:N8 p.fOp=some a)(hb:YR p.fOp=some b)(hc:KQ p.fOp=some c):Q19 p=some (uf a b c p):=by
 have hJ:Jk p=some (bif uf a b c p then .inr () else .inl ()):=by
  simp only[YS,YT,P7,P8,P9,Qa,Qb,Qc,Jk,GU,atm,acQ,vS,KT,P6,P5,Mo.den,ak,aj,aA,au,ay,ha,hb,hc,Ic,Ns,Option.bind_some,dH,gt0,bne,li1,li2,Xh,nZ,Xi,Bool.not_or,Bool.not_and,Bool.not_not,Bool.and_assoc,Bool.or_assoc,uf]
 unfold Q19 akR
 simp only[Mo.den,ak,aj,aA,au,ay,hJ,Option.bind_some]
 cases uf a b c p<;>rfl
theorem amB(p:aP):Q27 p=Q19 p:=by
 obtain⟨a,ha⟩:∃a,N8 p.fOp=some a:=(jU p.fOp).imp fun _ h=>h.1
 obtain⟨b,hb⟩:∃a,YR p.fOp=some a:=(jQ p.fOp).imp fun _ h=>h.1
 obtain⟨c,hc⟩:∃a,KQ p.fOp=some a:=(iU p.fOp).imp fun _ h=>h.1
 rw[TV p ha hb hc]
 simp only[Q27,aq8,dG,Rx,Rw,Ru,Rt,Rq,Ro,Rn,Rl,ZF,ZE,Mo.den,ak,aj,aA,au,ay,avF,alM,dG,Rk,Rj,Mo.den,ak,aj,aA,au,ay,TR,Nq,sO,ha,hb,hc,sG,ahX,Ns,Option.bind_some,dH,gt0,bne,Xh,nZ,Xi,Bool.not_or,Bool.not_and,Bool.not_not,Bool.and_assoc,Bool.or_assoc,uf]
theorem yY{α β ρ:Type}(m:Option (α⊕β))(k1:α→Option ρ)(k2:β→Option ρ):UL m (fun a _=>k1 a) (fun b _=>k2 b)=m.bind (Sum.elim k1 k2):=by rcases m with _|_|_<;>rfl
theorem ahY(R:uM)(p:aP)(ins:Bool)(hb:aW p.lf1≤100000000):Mo.den (apW R p ins)=bif kZ p ins != 0 then some (kZ p ins) else(vY R ins p 0).bind (Sum.elim some fun _=>some 0):=by
 have hN:=TU p ins hb
 have hp:=gy p
 obtain⟨a,ha⟩:∃a,N8 p.fOp=some a:=(jU p.fOp).imp fun _ h=>h.1
 obtain⟨b,hb'⟩:∃a,YR p.fOp=some a:=(jQ p.fOp).imp fun _ h=>h.1
 obtain⟨c,hc⟩:∃a,KQ p.fOp=some a:=(iU p.fOp).imp fun _ h=>h.1
 obtain⟨tx,htx⟩:∃a,YQ p.fOp=some a:=(lF p.fOp).imp fun _ h=>h.1
 obtain⟨hk,hhk⟩:∃a,akP p.fOp (p.bJ.length:Int)=some a:=(oZ p.fOp _).imp fun _ h=>h.1
 obtain⟨rg,hrg⟩:∃a,Q44 p=some a:=(o7 p hb).imp fun _ h=>h.1
 have hcl:=TV p ha hb' hc
 have hL:=ahW p hb
 have hLR:=aeb R p ins c hc hb
 unfold Q6 att at hN
 unfold apW
 simp only[Mo.den,ak,yY,au,ay,VG,VH,KW,KX,KY,KZ,La,Lc,Ld,Lh,hhk,hrg,ha,hb',hc,htx,hcl,hL,lC,mX p.fArg (by omega),aqp p.eF (by omega),ahV p.fExpr (by omega),Option.bind_some,dH,gt0,bne,Xh,nZ,Xi] at hN
 simp only[Mo.den,ak,yY,au,ay,af7,af8,ZK,ZL,ZM,ZN,ZO,ZP,ad7,amx,TR,sO,Np,Nq,amB,hhk,hrg,ha,hb',hc,htx,hcl,hLR,EP,mD p.fArg (by omega),amy p.eF (by omega),ad6 p.fExpr (by omega),Option.bind_some,dH,gt0,bne,Xh,nZ,Xi]
 have htb:tx=true→b=true:=fun h=>by
  rw[h] at htx
  unfold YR Vx at hb'
  simp only[Mo.den,ak,aj,aA,au,ay,htx,Option.bind_some,dH] at hb'
  have e:=Option.some.inj hb'
  rw[←e]
  cases decide (2≤p.fOp)<;>cases decide (p.fOp≤7)<;>rfl
 have h24:hk=true→p.fOp=24→p.bJ=[]:=fun h h2=>by
  rw[h2,h] at hhk
  have e:=Option.some.inj (show some ((p.bJ.length:Int)==0)=some true from hhk)
  exact len0 e
 have hKN:p.bJ=[]→vY R ins p 0=some (.inr ()):=fun h=>nY (by simp only[yL,Mo.den,ak,aj,aA,au,ay,h];rfl)
 clear ha hb' hc htx hhk hrg hcl hL hLR hp hb
 have e4:(bif ins then !(p.cZ.length:Int)==0 else true)=(!ins||!(p.cZ.length:Int)==0):=by cases ins<;>rfl
 have e8:(b&&(!oP p.fArg||tx&&!p.fArg.aK==4))=(b&&!oP p.fArg||tx&&!p.fArg.aK==4):=by
  cases tx with
  |true=>rw[htb rfl];simp
  |false=>simp
 rw[e4,e8]
 clear e4 e8 htb
 cases c1:(decide (p.fOp<1)||decide (24<p.fOp)||!hk) with
 |true=>
  rw[c1] at hN
  rw[←Option.some.inj (show some (11:Int)=some (kZ p ins) from hN)];rfl
 |false=>
  have hk1:hk=true:=by
   cases hk with
   |true=>rfl
   |false=>rw[Bool.or_eq_false_iff] at c1;cases c1.2
  rw[c1] at hN
  simp only[cond_false,Bool.false_or] at hN ⊢
  generalize (c&&(p.fArgs.length:Int)==0||!rg)=c2 at *
  generalize (a&&!sF p.cZ&&(!ins||!(p.cZ.length:Int)==0))=c3 at *
  generalize (b&&!oP p.fArg||tx&&!p.fArg.aK==4)=c5 at *
  cases c2 with
  |true=>rw[←Option.some.inj (show some (11:Int)=some (kZ p ins) from hN)];rfl
  |false=>
   cases c3 with
   |true=>rw[←Option.some.inj (show some (10:Int)=some (kZ p ins) from hN)];rfl
   |false=>
    cases c5 with
    |true=>rw[←Option.some.inj (show some (8:Int)=some (kZ p ins) from hN)];rfl
    |false=>
     simp only[cond_false] at hN ⊢
     have rest:Sum.elim some (fun _=>some (bif !uf a b c p then 4 else bif p.fOp==24 then(mF 16 p.fExpr 0).1 else 0)) (bif p.fOp==18 then bif !tZ p.eF==0 then(Sum.inl (tZ p.eF):Int⊕Unit) else Sum.inr () else Sum.inr ())=some (kZ p ins)→
      Sum.elim some (fun _=>bif !uf a b c p then some 4 else bif p.fOp==24 then some (mF 16 p.fExpr 0).1 else(vY R ins p 0).bind (Sum.elim some fun _=>some 0)) (bif p.fOp==18 then bif !tZ p.eF==0 then(Sum.inl (tZ p.eF):Int⊕Unit) else Sum.inr () else Sum.inr ())=bif !kZ p ins==0 then some (kZ p ins) else(vY R ins p 0).bind (Sum.elim some fun _=>some 0):=by
      intro hN
      have tail:some (bif !uf a b c p then 4 else bif p.fOp==24 then(mF 16 p.fExpr 0).1 else 0)=some (kZ p ins)→(bif !uf a b c p then some 4 else bif p.fOp==24 then some (mF 16 p.fExpr 0).1 else(vY R ins p 0).bind (Sum.elim some fun _=>some 0))=bif !kZ p ins==0 then some (kZ p ins) else(vY R ins p 0).bind (Sum.elim some fun _=>some 0):=by
       intro hN
       cases hc:uf a b c p with
       |false=>rw[hc] at hN;rw[←Option.some.inj (show some (4:Int)=some (kZ p ins) from hN)];rfl
       |true=>
        rw[hc] at hN
        cases ho:p.fOp==24 with
        |false=>rw[ho] at hN;rw[←Option.some.inj (show some (0:Int)=some (kZ p ins) from hN)];rfl
        |true=>
         rw[ho] at hN
         have e:=Option.some.inj (show some (mF 16 p.fExpr 0).1=some (kZ p ins) from hN)
         rw[hKN (h24 hk1 (eq_of_beq ho)),e]
         simp only[Bool.not_true,cond_false,cond_true,Option.bind_some]
         cases h0:kZ p ins==0 with
         |false=>rfl
         |true=>rw[eq_of_beq h0];rfl
      cases h18:p.fOp==18 with
      |false=>rw[h18] at hN;exact tail hN
      |true=>
       rw[h18] at hN
       cases hs:tZ p.eF==0 with
       |true=>rw[hs] at hN;exact tail hN
       |false=>
        rw[hs] at hN
        have e:=Option.some.inj (show some (tZ p.eF)=some (kZ p ins) from hN)
        rw[←e,hs];rfl
     cases c with
     |false=>
      simp only[cond_false,Option.bind_some,Sum.elim_inr] at hN
      exact rest hN
     |true=>
      cases hf:dF (BJ p.fArgs) 0 p.fArgs.length with
      |some u=>rw[hf] at hN;rw[←Option.some.inj (show some (8:Int)=some (kZ p ins) from hN)];rfl
      |none=>
       rw[hf] at hN
       simp only[cond_true,Option.bind_some,jK,Sum.elim_inr] at hN
       exact rest hN
theorem amC(n:Nat):∀(F G:Nat) (p:aP) (ins:Bool),aW p.lf1<n→n≤F→n≤G→aW p.lf1≤100000000→(qC G).m1 p ins=(kH F).m1 p ins∧∃c,(kH F).m1 p ins=some c:=by
 induction n with
 |zero=>intro F G p ins h;omega
 |succ n ih=>
  intro F G p ins hlt hF hG hb
  obtain⟨F,rfl⟩:∃K,F=K+1:=⟨F-1,by omega⟩
  obtain⟨G,rfl⟩:∃K,G=K+1:=⟨G-1,by omega⟩
  have hp:=gy p
  have hl:=kJ p.bJ
  have hkid:∀k (hk:k<p.bJ.length) b,(qC G).m1 p.bJ[k] b=(kH F).m1 p.bJ[k] b∧∃c,(kH F).m1 p.bJ[k] b=some c:=fun k hk b=>by
   have hm:=nK (List.getElem_mem hk)
   exact ih F G _ b (by omega) (by omega) (by omega) (by omega)
  let ins2:Bool:=bif ins then true else p.fOp==15
  let f:Nat→Option Int:=fun k=>match p.bJ[k]? with
   |some x=>bif ((kH F).m1 x ins2).getD 0 != 0 then some (((kH F).m1 x ins2).getD 0) else none
   |none=>none
  have h1:acY (kH F) ins p 0=some (jK (dF f 0 p.bJ.length)):=by
   try unfold acY
   refine dV f p.bJ.length (by omega) (fun k hk=>?_) (by simp only[yA,Mo.den,ak,aj,aA,au,ay,ltn,cond_false])
   have hx:=List.getElem?_eq_getElem hk
   obtain⟨_,c,hc⟩:=hkid k hk ins2
   have hJ:acX (kH F) ins p (k:Int) p.bJ[k]=some c:=by
    unfold acX Lj
    simp only[Mo.den,ak,aj,aA,au,ay]
    cases ins with
    |true=>simp only[cond_true];rw[show(kH F).m1 p.bJ[k] true=some c from hc];rfl
    |false=>simp only[cond_false];rw[show(kH F).m1 p.bJ[k] (p.fOp==15)=some c from hc];rfl
   simp only[yA,Mo.den,ak,aj,aA,au,ay,ltt hx,gid hx,cond_true,Option.bind_some,hJ,f,hx,hc,Option.getD_some]
   cases c != 0<;>rfl
  have h2:vY (qC G) ins p 0=some (jK (dF f 0 p.bJ.length)):=by
   try unfold vY
   refine dV f p.bJ.length (by omega) (fun k hk=>?_) (by simp only[yL,Mo.den,ak,aj,aA,au,ay,ltn,cond_false])
   have hx:=List.getElem?_eq_getElem hk
   obtain⟨he,c,hc⟩:=hkid k hk ins2
   have hc2:=he.trans hc
   have hJ:adJ (qC G) ins p (k:Int)=some c:=by
    unfold adJ ZQ
    simp only[Mo.den,ak,aj,aA,au,ay,gid hx,Option.bind_some]
    cases ins with
    |true=>simp only[cond_true];rw[show(qC G).m1 p.bJ[k] true=some c from hc2];rfl
    |false=>simp only[cond_false];rw[show(qC G).m1 p.bJ[k] (p.fOp==15)=some c from hc2];rfl
   simp only[yL,Mo.den,ak,aj,aA,au,ay,ltt hx,cond_true,Option.bind_some,hJ,f,hx,hc,Option.getD_some]
   cases c != 0<;>rfl
  have e1:(kH (F+1)).m1 p ins=bif kZ p ins != 0 then some (kZ p ins) else Sum.elim some (fun _=>some 0) (jK (dF f 0 p.bJ.length)):=by
   show Mo.den (YW (kH F) p ins)=_
   unfold YW
   simp only[Mo.den,ak,yY,au,ay,TU p ins hb,h1,Option.bind_some]
  have e2:(qC (G+1)).m1 p ins=bif kZ p ins != 0 then some (kZ p ins) else Sum.elim some (fun _=>some 0) (jK (dF f 0 p.bJ.length)):=by
   have h:=ahY (qC G) p ins hb
   rw[h2] at h
   exact h
  refine⟨by rw[e1,e2],?_⟩
  rw[e1]
  cases kZ p ins != 0 with
  |true=>exact⟨_,rfl⟩
  |false=>cases dF f 0 p.bJ.length<;>exact⟨_,rfl⟩
theorem amD(p:aP)(hb:aW p.lf1≤100000000):auo p=ao6 p:=by
 have h1:=amA 16 FU p 0 (by omega) (by have:=iw;omega) (by omega) hb
 have h1:Q69 p 1 0=_:=h1
 have h2:=aea 16 FU p 0 (by omega) (by have:=iw;omega) (by omega) hb
 have h2:Q46 p 16 256=_:=h2
 have h3:=(amC (aW p.lf1+1) FU FU p false (by omega) (by have:=iw;omega) (by have:=iw;omega) hb).1
 have h3:Q2 p false=Q50 p false:=h3
 have hle:=E8 16 p 0 (by omega)
 unfold auo alR ao6 acZ
 simp only[Mo.den,ak,aj,aA,au,ay,h1,h2,h3,Option.bind_some]
 cases (rG 16 p 0).1 != 0 with
 |true=>rfl
 |false=>simp only[cond_false,Bool.not_false,Bool.not_true];rw[decide_eq_false (show ¬256-((rG 16 p 0).2:Int)<0 by omega)];rfl
end Go.Proofs.YtbdcaeahocbkbaaGreatDoor
set_option linter.unusedSimpArgs false
set_option linter.unusedVariables false
namespace Go.Proofs.YtbdcaeahocbkbaaGreatDoor
open Go.RowKit
def Fa(a b:Int):Int:=bif decide (a<b) then -1 else bif decide (b<a) then 1 else 0
theorem Nu(a b:Int):apK a b=some (Fa a b):=by
 simp only[apK,alF,Mo.den,ak,aj,aA,au,ay,dH,Fa]
theorem aaN(a b:Int):aoz a b=some (Fa a b):=by
 simp only[aoz,acG,Mo.den,ak,aj,aA,au,ay,aoi,U5,Mo.den,ak,aj,aA,au,ay,bne_self_eq_false,Option.bind_some,cond_false,dH,Fa]
def TW(a b:ByteArray)(k:Nat):Option Int:=match a[k]?,b[k]? with
 |some x,some y=>bif (x.toNat:Int) != (y.toNat:Int) then some (Fa x.toNat y.toNat) else none
 |_,_=>none
theorem TY(a b:ByteArray):∀(n k:Nat),k+n=min a.size b.size→abx (a.data.toList.drop k) (b.data.toList.drop k)=match dF (TW a b) k n with|some e=>e|none=>Fa (a.size:Int) (b.size:Int)
 |0,k,h=>by
  show abx _ _=Fa (a.size:Int) (b.size:Int)
  have ha:a.data.toList.length=a.size:=Array.length_toList
  have hb:b.data.toList.length=b.size:=Array.length_toList
  unfold Fa
  rcases Nat.lt_trichotomy a.size b.size with h1|h1|h1
  ·rw[decide_eq_true (by omega),List.drop_eq_nil_of_le (by omega),List.drop_eq_getElem_cons (by omega)];rfl
  ·rw[decide_eq_false (by omega),decide_eq_false (by omega),List.drop_eq_nil_of_le (by omega),List.drop_eq_nil_of_le (by omega)];rfl
  ·rw[decide_eq_false (by omega),decide_eq_true (by omega),(List.drop_eq_nil_of_le (by omega):b.data.toList.drop k=[]),List.drop_eq_getElem_cons (by omega)];rfl
 |n+1,k,h=>by
  have ha:a.data.toList.length=a.size:=Array.length_toList
  have hb:b.data.toList.length=b.size:=Array.length_toList
  have ih:=TY a b n (k+1) (by omega)
  have e1:a.data.toList.drop k=a[k]::a.data.toList.drop (k+1):=List.drop_eq_getElem_cons (by omega)
  have e2:b.data.toList.drop k=b[k]::b.data.toList.drop (k+1):=List.drop_eq_getElem_cons (by omega)
  rw[e1,e2]
  have hf:TW a b k=bif (a[k].toNat:Int) != (b[k].toNat:Int) then some (Fa a[k].toNat b[k].toNat) else none:=by
   unfold TW
   rw[show a[k]?=some a[k] from getElem?_pos a k (by omega),show b[k]?=some b[k] from getElem?_pos b k (by omega)]
  unfold dF
  rw[hf]
  show(if a[k]<b[k] then -1 else if b[k]<a[k] then 1 else abx (a.data.toList.drop (k+1)) (b.data.toList.drop (k+1)))=_
  have hlt:∀x y:UInt8,x<y↔x.toNat<y.toNat:=fun x y=>UInt8.lt_iff_toNat_lt
  by_cases h1:a[k].toNat<b[k].toNat
  ·rw[if_pos ((hlt _ _).2 h1), show((a[k].toNat:Int) != (b[k].toNat:Int))=true by rw[bne_iff_ne];omega]
   show _=Fa _ _
   unfold Fa;rw[decide_eq_true (by omega)];rfl
  ·rw[if_neg (fun e=>h1 ((hlt _ _).1 e))]
   by_cases h2:b[k].toNat<a[k].toNat
   ·rw[if_pos ((hlt _ _).2 h2), show((a[k].toNat:Int) != (b[k].toNat:Int))=true by rw[bne_iff_ne];omega]
    show _=Fa _ _
    unfold Fa;rw[decide_eq_false (by omega),decide_eq_true (by omega)];rfl
   ·rw[if_neg (fun e=>h2 ((hlt _ _).1 e)), show((a[k].toNat:Int) != (b[k].toNat:Int))=false by rw[bne_eq_false_iff_eq];omega]
    exact ih
theorem amE(x:UInt8):IntKind.wrap .i64 (x.toNat:Int)=(x.toNat:Int):=by
 have:=x.toNat_lt
 rw[w64 (by omega) (by omega)]
theorem Ua(a b:ByteArray)(ha:a.size≤100000000)(hb:b.size≤100000000):Q64 a b=some (BX a b):=by
 have hL:adC a b 0=some (jK (dF (TW a b) 0 (min a.size b.size))):=by
  try unfold adC
  refine dV _ (min a.size b.size) (by omega) (fun k hk=>?_) ?_
  ·have h1:k<a.size:=by omega
   have h2:k<b.size:=by omega
   simp only[Ep,MF,Mo.den,ak,aj,aA,au,ay,iLt h1,iLt h2,cond_true,Option.bind_some,oL a k h1,oL b k h2,amE,Nu]
   unfold TW
   rw[show a[k]?=some a[k] from getElem?_pos a k h1,show b[k]?=some b[k] from getElem?_pos b k h2]
   simp only
   cases (a[k].toNat:Int) != (b[k].toNat:Int)<;>rfl
  ·simp only[Ep,MF,Mo.den,ak,aj,aA,au,ay]
   have:(decide (((min a.size b.size:Nat):Int)<(a.size:Int))&&decide (((min a.size b.size:Nat):Int)<(b.size:Int)))=false:=by
    rw[Bool.eq_false_iff];simp;omega
   rw[dH,nZ,this];rfl
 have hc:=TY a b (min a.size b.size) 0 (by omega)
 rw[List.drop_zero,List.drop_zero] at hc
 unfold Q64 aq4 BX
 simp only[Mo.den,ak,aj,aA,au,ay,hL,Nu,Option.bind_some]
 rw[hc]
 cases dF (TW a b) 0 (min a.size b.size)<;>rfl
theorem aqr(a b:Nat):(if(b:Int)<(a:Int) then(b:Int) else(a:Int))=((min a b:Nat):Int):=by
 by_cases h:b<a
 ·rw[if_pos (by omega),Nat.min_eq_right (by omega)]
 ·rw[if_neg (by omega),Nat.min_eq_left (by omega)]
theorem aec(n:Nat):∀(F G:Nat) (a b:ah),aW a.lf1<n→n≤F→n≤G→aW a.lf1≤100000000→aW b.lf1≤100000000→(qZ G).m1 a b=(jv F).m1 a b∧∃c,(jv F).m1 a b=some c:=by
 induction n with
 |zero=>intro F G a b h;omega
 |succ n ih=>
  intro F G a b hlt hF hG ha hb
  obtain⟨F,rfl⟩:∃K,F=K+1:=⟨F-1,by omega⟩
  obtain⟨G,rfl⟩:∃K,G=K+1:=⟨G-1,by omega⟩
  have pa:=dA a
  have pb:=dA b
  have la:=fV a.bF
  have lda:=gG a.bC
  let fl:Nat→Option Int:=fun k=>match a.bF[k]?,b.bF[k]? with
   |some x,some y=>bif ((jv F).m1 x y).getD 0 != 0 then some (((jv F).m1 x y).getD 0) else none
   |_,_=>none
  let fd:Nat→Option Int:=fun k=>match a.bC[k]?,b.bC[k]? with
   |some x,some y=>bif BX x.fName y.fName != 0 then some (BX x.fName y.fName) else bif ((jv F).m1 x.fValue y.fValue).getD 0 != 0 then some (((jv F).m1 x.fValue y.fValue).getD 0) else none
   |_,_=>none
  have kidL:∀{k:Nat} {x y:ah},a.bF[k]?=some x→b.bF[k]?=some y→(qZ G).m1 x y=(jv F).m1 x y∧∃c,(jv F).m1 x y=some c:=fun {k x y} hx hy=>by
   have h1:=jg (iH hx)
   have h2:=jg (iH hy)
   exact ih F G x y (by omega) (by omega) (by omega) (by omega) (by omega)
  have kidD:∀{k:Nat} {x y:aN},a.bC[k]?=some x→b.bC[k]?=some y→((qZ G).m1 x.fValue y.fValue=(jv F).m1 x.fValue y.fValue∧∃c,(jv F).m1 x.fValue y.fValue=some c)∧x.fName.size≤100000000∧y.fName.size≤100000000:=fun {k x y} hx hy=>by
   have h1:=gB (iH hx)
   have h2:=gB (iH hy)
   rw[fP] at h1 h2
   exact⟨ih F G x.fValue y.fValue (by omega) (by omega) (by omega) (by omega) (by omega),by omega,by omega⟩
  have L1:Vl (jv F) a b 0=some (jK (dF fl 0 (min a.bF.length b.bF.length))):=by
   try unfold Vl
   refine dV fl (min a.bF.length b.bF.length) (by omega) (fun k hk=>?_) (by simp only[uq,Mo.den,ak,aj,aA,au,ay,aqr,ltn,cond_false])
   obtain⟨x,hx⟩:∃x,a.bF[k]?=some x:=⟨_,List.getElem?_eq_getElem (by omega)⟩
   obtain⟨y,hy⟩:∃y,b.bF[k]?=some y:=⟨_,List.getElem?_eq_getElem (by omega)⟩
   obtain⟨_,c,hc⟩:=kidL hx hy
   simp only[uq,Mo.den,ak,aj,aA,au,ay,aqr,iLt hk,gid hx,gid hy,cond_true,Option.bind_some,hc,fl,hx,hy,Option.getD_some]
   cases c != 0<;>rfl
  have L2:Wu (qZ G) a b 0=some (jK (dF fl 0 (min a.bF.length b.bF.length))):=by
   try unfold Wu
   refine dV fl (min a.bF.length b.bF.length) (by omega) (fun k hk=>?_) ?_
   ·obtain⟨x, hx⟩:∃x, a.bF[k]?=some x:=⟨_, List.getElem?_eq_getElem (by omega)⟩
    obtain⟨y,hy⟩:∃y,b.bF[k]?=some y:=⟨_,List.getElem?_eq_getElem (by omega)⟩
    obtain⟨he,c,hc⟩:=kidL hx hy
    have hc2:=he.trans hc
    simp only[Am,G9,Mo.den,ak,aj,aA,au,ay,ltt hx,ltt hy,gid hx,gid hy,cond_true,Option.bind_some,hc2,hc,fl,hx,hy,Option.getD_some]
    cases c != 0<;>rfl
   ·have:(decide (((min a.bF.length b.bF.length:Nat):Int)<(a.bF.length:Int))&&decide (((min a.bF.length b.bF.length:Nat):Int)<(b.bF.length:Int)))=false:=by
     rw[Bool.eq_false_iff];simp;omega
    simp only[Am,G9,Mo.den,ak,aj,aA,au,ay,dH,nZ,this,Option.bind_some,cond_false]
  have L3:Vm (jv F) a b 0=some (jK (dF fd 0 (min a.bC.length b.bC.length))):=by
   try unfold Vm
   refine dV fd (min a.bC.length b.bC.length) (by omega) (fun k hk=>?_) (by simp only[uw,Mo.den,ak,aj,aA,au,ay,aqr,ltn,cond_false])
   obtain⟨x,hx⟩:∃x,a.bC[k]?=some x:=⟨_,List.getElem?_eq_getElem (by omega)⟩
   obtain⟨y,hy⟩:∃y,b.bC[k]?=some y:=⟨_,List.getElem?_eq_getElem (by omega)⟩
   obtain⟨⟨_,c,hc⟩,_,_⟩:=kidD hx hy
   simp only[uw,Mo.den,ak,aj,aA,au,ay,aqr,iLt hk,gid hx,gid hy,cond_true,Option.bind_some,ES,hc,fd,hx,hy,Option.getD_some]
   cases BX x.fName y.fName != 0<;>cases c != 0<;>rfl
  have L4:Wv (qZ G) a b 0=some (jK (dF fd 0 (min a.bC.length b.bC.length))):=by
   try unfold Wv
   refine dV fd (min a.bC.length b.bC.length) (by omega) (fun k hk=>?_) ?_
   ·obtain⟨x, hx⟩:∃x, a.bC[k]?=some x:=⟨_, List.getElem?_eq_getElem (by omega)⟩
    obtain⟨y,hy⟩:∃y,b.bC[k]?=some y:=⟨_,List.getElem?_eq_getElem (by omega)⟩
    obtain⟨⟨he,c,hc⟩,s1,s2⟩:=kidD hx hy
    have hc2:=he.trans hc
    simp only[Aq,He,QW,Mo.den,ak,aj,aA,au,ay,ltt hx,ltt hy,gid hx,gid hy,cond_true,Option.bind_some,Ua _ _ s1 s2,hc2,hc,fd,hx,hy,Option.getD_some,dH]
    cases h0:BX x.fName y.fName==0 with
    |true=>
     have:(BX x.fName y.fName != 0)=false:=by rw[bne,h0];rfl
     rw[this]
     simp only[cond_true,cond_false]
     cases c != 0<;>rfl
    |false=>
     have:(BX x.fName y.fName != 0)=true:=by rw[bne,h0];rfl
     simp only[cond_false,this,cond_true]
   ·have:(decide (((min a.bC.length b.bC.length:Nat):Int)<(a.bC.length:Int))&&decide (((min a.bC.length b.bC.length:Nat):Int)<(b.bC.length:Int)))=false:=by
     rw[Bool.eq_false_iff];simp;omega
    simp only[Aq,He,Mo.den,ak,aj,aA,au,ay,dH,nZ,this,Option.bind_some,cond_false]
  have e1:(qZ (G+1)).m1 a b=(jv (F+1)).m1 a b:=by
   show Mo.den (afW (qZ G) a b)=Mo.den (KG (jv F) a b)
   unfold afW KG
   simp only[Mo.den,ak,aj,aA,au,ay,Zz,ZA,KE,KF,Nu,aaN,ES,Ua a.fText b.fText (by omega) (by omega),L1,L2,L3,L4,Option.bind_some]
  refine⟨e1,?_⟩
  obtain⟨c,hc,_⟩:=rE (F+1) a b (by omega) ha hb
  exact⟨c,hc⟩
theorem aed(a b:ah)(ha:aW a.lf1≤100000000)(hb:aW b.lf1≤100000000):Q13 a b=Q37 a b:=(aec (aW a.lf1+1) FU FU a b (by omega) (by have:=iw;omega) (by have:=iw;omega) ha hb).1
end Go.Proofs.YtbdcaeahocbkbaaGreatDoor
set_option linter.unusedSimpArgs false
set_option linter.unusedVariables false
namespace Go.Proofs.YtbdcaeahocbkbaaGreatDoor
open Go.RowKit
theorem amF(e:aT):ao9 e=some (CX e):=by
 simp only[ao9,ac1,dG,mV,mQ,Ll,mP,oH,oG,Mo.den,ak,aj,aA,au,ay,agr,Option.bind_some,dH,CX]
 cases e.fOp==0<;>cases (e.cZ.length:Int)==0<;>cases decide (e.fName=⟨#[]⟩)<;>cases (e.eH.length:Int)==0<;>cases jJ e.fArg<;>cases e.fN==0<;>rfl
theorem ags(p:List ByteArray)(hl:p.length≤100000000):aup p []=some ((p.length:Int)==0):=by
 simp only[aup,alT,avI,alS,Mo.den,ak,aj,aA,au,ay]
 cases p with
 |nil=>
  have h:adE [] [] 0=some (.inr ()):=nY (by simp only[uJ,Mo.den,ak,aj,aA,au,ay];rfl)
  rw[h];rfl
 |cons x r=>
  rw[show(((x::r).length:Int)==(([]:List ByteArray).length:Int))=false by rw[beq_eq_false_iff_ne];simp only[List.length_cons,List.length_nil];omega]
  simp only[cond_false]
  rw[show(((x::r).length:Int)==0)=false by rw[beq_eq_false_iff_ne,List.length_cons];omega]
theorem aaO(e:aT)(hb:aW e.lf1≤100000000):Q30 e aT.z=some (CX e):=by
 have hp:=iY e
 have l1:=fB e.cZ
 have l2:=fB e.eH
 unfold Q30
 obtain⟨G,hG⟩:=Xc
 rw[hG]
 show Mo.den (agb (Ht G) e aT.z)=_
 unfold agb ZR ZT RZ Si Sj Sm CX
 have z1:aT.z.cZ=[]:=rfl
 have z2:aT.z.eH=[]:=rfl
 have z3:aT.z.fArg=ah.mk 0 0 ⟨#[]⟩ [] []:=rfl
 simp only[Mo.den,ak,aj,aA,au,ay,z1,z2,z3,ags _ (show e.cZ.length≤100000000 by omega),ags _ (show e.eH.length≤100000000 by omega),wL,Option.bind_some,dH]
 have e1:(e.fOp != aT.z.fOp)=!(e.fOp==0):=rfl
 have e2:(e.fN != aT.z.fN)=!(e.fN==0):=rfl
 have e3:((e.bJ.length:Int) != (aT.z.bJ.length:Int))=!((e.bJ.length:Int)==0):=rfl
 have e5:decide (e.fName=aT.z.fName)=decide (e.fName=⟨#[]⟩):=rfl
 rw[e1,e2,e3,e5]
 cases h1:e.fOp==0<;>cases h2:(e.cZ.length:Int)==0<;>cases h3:decide (e.fName=⟨#[]⟩)<;>cases h4:(e.eH.length:Int)==0<;>cases h5:jJ e.fArg<;>cases h6:e.fN==0<;>cases h7:(e.bJ.length:Int)==0<;>first|rfl|skip
 have a1:=len0 h7
 have l3:aga (Ht G) e aT.z 0=some (.inr ()):=nY (by simp only[Hr,Mo.den,ak,aj,aA,au,ay,a1];rfl)
 rw[l3];rfl
theorem aaP(p:aP)(hb:aW p.lf1≤100000000):Q32 p=apb p:=by
 have hp:=gy p
 simp only[Q32,arb,dG,SG,SE,SC,SB,SA,Sz,Sv,Sr,ZU,um,Mo.den,ak,aj,aA,au,ay,apb,ac2,dG,zJ,Lm,zH,zG,zF,zC,zB,zA,Qw,um,Mo.den,ak,aj,aA,au,ay,agr,wL,amF,aaO p.fExpr (by omega)]
theorem aaQ(x:aU)(hb:aW x.lf1≤100000000):aus x=YX x:=by
 have hp:=iR x
 have hn:aoK [x.fName]=some (nameB x.fName):=by
  rw[lC];simp only[sF,List.length_cons,List.length_nil,List.all_cons,List.all_nil,Bool.and_true];rfl
 simp only[aus,alU,SK,SH,Mo.den,ak,aj,aA,au,ay,YX,ac3,GX,GV,Mo.den,ak,aj,aA,au,ay,hn,rD,I5 x.gU (by omega),Xb x.gU (by omega),amD x.jr (by omega),aaP x.jr (by omega)]
theorem aaR(s:aI)(hb:aW s.lf1≤100000000):adK s 0 []=some (s.dD.map bH.fName):=by
 have hp:=fA s
 have hl:=jL s.dD
 have key:Tot (adK s 0 []) (fun r=>r=s.dD.map bH.fName):=by
  refine T.oh s.dD.length (by omega) (fun k v=>v=((k:Int),(s.dD.take k).map bH.fName)) _ rfl ?_ ?_
  ·rintro k v hk rfl
   have hx:=List.getElem?_eq_getElem hk
   simp only[ED,Mo.den,ak,aj,aA,au,ay,ltt hx,gid hx,cond_true,Option.bind_some]
   refine T.grd (by rw[List.length_map,List.length_take,List.length_cons,List.length_nil];omega) (T.ret (show _=_ from ?_))
   rw[inc k (by omega),pV _ hx]
  ·rintro v rfl
   simp only[ED,Mo.den,ak,aj,aA,au,ay,ltn,cond_false]
   exact T.ret (show _=_ by rw[List.take_length])
 obtain⟨r,hr,rfl⟩:=key
 exact hr
theorem amG(n:Int)(h : -9223372036854775808≤n∧n≤9223372036854775807):(bZ .andNot .i64 n 4094 != 0)=(decide (n<0)||Int.tmod n 2==1||decide (4096≤n)):=by
 obtain⟨h1,h2⟩:=h
 show(IntKind.wrap .i64 (BitVec.ofInt 64 n &&& ~~~BitVec.ofInt 64 4094).toNat != 0)=_
 have hm: ~~~BitVec.ofInt 64 4094=BitVec.ofNat 64 18446744073709547521:=by decide
 rw[hm]
 have hw:∀x:BitVec 64,(IntKind.wrap .i64 (x.toNat:Int) != 0)=(x != 0#64):=by
  intro x
  have hx:=x.isLt
  rw[IntKind.wrap_i64]
  rw[Bool.eq_iff_iff]
  simp only[bne_iff_ne,ne_eq]
  constructor
  ·intro h e;apply h;rw[e];decide
  ·intro h e;apply h;apply BitVec.eq_of_toNat_eq;simp only[BitVec.toNat_ofNat];omega
 rw[hw]
 by_cases hn:n<0
 ·rw[decide_eq_true hn]
  simp only[Bool.true_or]
  have:(BitVec.ofInt 64 n &&& BitVec.ofNat 64 18446744073709547521)≠0#64:=by
   intro e
   have e2:=congrArg (fun x:BitVec 64=>x.getLsbD 63) e
   simp only[BitVec.getLsbD_and,BitVec.getLsbD_zero] at e2
   have e3:(BitVec.ofNat 64 18446744073709547521).getLsbD 63=true:=by decide
   have e4:(BitVec.ofInt 64 n).getLsbD 63=true:=by
    have:(BitVec.ofInt 64 n).msb=true:=by
     rw[BitVec.msb_eq_toInt,BitVec.toInt_ofInt,decide_eq_true_eq]
     rw[Int.bmod_def];split<;>omega
    rw[BitVec.msb_eq_getLsbD_last] at this;exact this
   rw[e3,e4] at e2;cases e2
  simpa using this
 ·rw[decide_eq_false hn]
  obtain⟨k,rfl⟩:=Int.eq_ofNat_of_zero_le (show 0≤n by omega)
  have e1:(Int.tmod (k:Int) 2==1)=(k%2==1):=by
   rw[Bool.eq_iff_iff];simp only[beq_iff_eq];rw[Int.tmod_eq_emod_of_nonneg (by omega)];omega
  rw[e1]
  have e2:BitVec.ofInt 64 (k:Int)=BitVec.ofNat 64 k:=by apply BitVec.eq_of_toNat_eq;rw[BitVec.toNat_ofInt,BitVec.toNat_ofNat];omega
  rw[e2]
  have hv:(BitVec.ofNat 64 k &&& BitVec.ofNat 64 18446744073709547521).toNat=k &&& 18446744073709547521:=by
   rw[BitVec.toNat_and,BitVec.toNat_ofNat,BitVec.toNat_ofNat,Nat.mod_eq_of_lt (by omega),Nat.mod_eq_of_lt (by omega)]
  have hz:(BitVec.ofNat 64 k &&& BitVec.ofNat 64 18446744073709547521 != 0#64)=!(k &&& 18446744073709547521==0):=by
   rw[Bool.eq_iff_iff]
   simp only[bne_iff_ne,ne_eq,Bool.not_eq_true',beq_eq_false_iff_ne]
   constructor
   ·intro h e;apply h;apply BitVec.eq_of_toNat_eq;rw[hv,e];rfl
   ·intro h e;apply h;rw[←hv,e];rfl
  rw[hz]
  have hs:(k &&& 18446744073709547521=0)↔(k%2=0∧k<4096):=by
   constructor
   ·intro h0
    have hb:∀i,(k &&& 18446744073709547521).testBit i=false:=fun i=>by rw[h0];exact Nat.zero_testBit i
    constructor
    ·have:=hb 0
     rw[Nat.testBit_and] at this
     have h3:Nat.testBit 18446744073709547521 0=true:=by decide
     rw[h3,Bool.and_true,Nat.testBit_zero] at this
     simpa using this
    ·apply Nat.lt_of_not_le
     intro hk
     obtain⟨i,hi,ht⟩:=Nat.exists_ge_and_testBit_of_ge_two_pow (n:=12) hk
     have:=hb i
     rw[Nat.testBit_and,ht,Bool.true_and] at this
     have hi2:i<64:=by
      apply Nat.lt_of_not_le
      intro h64
      rw[Nat.testBit_lt_two_pow (show k<2^i from Nat.lt_of_lt_of_le (show k<2^64 by omega) (Nat.pow_le_pow_right (by omega) h64))] at ht
      cases ht
     have hall:∀j:Fin 64,12≤j.val→Nat.testBit 18446744073709547521 j.val=true:=by decide
     rw[hall ⟨i,hi2⟩ hi] at this;cases this
   ·rintro⟨hk0,hk⟩
    apply Nat.eq_of_testBit_eq
    intro i
    rw[Nat.zero_testBit,Nat.testBit_and]
    by_cases hi:i<12
    ·by_cases hi0:i=0
     ·subst hi0
      rw[Nat.testBit_zero,hk0];rfl
     ·have hall:∀j:Fin 12, j.val≠0→Nat.testBit 18446744073709547521 j.val=false:=by decide
      rw[hall ⟨i,hi⟩ hi0,Bool.and_false]
    ·rw[Nat.testBit_lt_two_pow (show k<2^i from Nat.lt_of_lt_of_le hk (Nat.pow_le_pow_right (n:=2) (by omega) (show 12≤i by omega)))];rfl
  rw[Bool.eq_iff_iff]
  simp only[Bool.not_eq_true',beq_eq_false_iff_ne,ne_eq,hs,Bool.or_eq_true,beq_iff_eq,decide_eq_true_eq,Bool.false_eq_true,false_or]
  omega
theorem Ub(has:Bool)(v:ah)(hb:aW v.lf1≤100000000):Q80 has v=some (bif has then oP v else jJ v):=by
 simp only[Q80,ak0,Ac,Qy,Qx,Y0,YZ,Mo.den,ak,aj,aA,au,ay,mX v hb,Option.bind_some,dH,jJ]
 cases has<;>cases v.aK==0<;>cases v.je==0<;>cases decide (v.fText=⟨#[]⟩)<;>cases (v.bF.length:Int)==0<;>rfl
theorem Fb(has:Bool)(v:ah)(hb:aW v.lf1≤100000000):auv has v=some (!(bif has then oP v else jJ v)):=by
 simp only[auv,alX,Ac,SN,SL,Mo.den,ak,aj,aA,au,ay,mD v hb,wL,Option.bind_some,dH]
 cases has<;>cases oP v<;>rfl
noncomputable def Xj(s:aI):Int:=(Q8 s).getD 0
theorem aaS(s:aI)(hb:aW s.lf1≤100000000):Q8 s=some (Xj s):=by
 obtain⟨r,hr,_⟩:=qF s hb
 unfold Xj
 rw[hr];rfl
theorem Uc{s:aI}(hb:aW s.lf1≤100000000):(s.dD.map bH.fName).length≤100000000:=by
 have hp:=fA s
 have hl:=jL s.dD
 rw[List.length_map];omega
theorem aee(s:aI)(hb:aW s.lf1≤100000000)(hk : -9223372036854775808≤s.jH∧s.jH≤9223372036854775807):Q18 s=some (Xj s):=by
 rw[←aaS s hb]
 have hp:=fA s
 have hreq:=fB s.eu
 have henum:=fV s.iZ
 have hpl:=jL s.dD
 have h1:ak2 s 0 []=some (bif ng [] s.eu then .inr () else .inl ()):=by
  try unfold ak2
  exact Ie s.eu (by omega) (fun k x m hx hm=>by
   have hlt:=pI hx
   have hg:(pJ m).length<maxLen:=by rw[pJ,List.length_map];unfold maxLen;omega
   unfold DW
   simp only[VJ,Mo.den,ak,aj,aA,au,ay,ltt hx,gid hx,cond_true,Option.bind_some,AB,uT,if_pos hg]
   cases nameB x<;>cases hasB x m<;>rfl) (fun m=>by unfold DW;simp only[Mo.den,ak,aj,aA,au,ay,ltn,cond_false])
 have h2:ac7 s 0 []=some (bif ng [] (s.dD.map bH.fName) then .inr () else .inl ()):=by
  try unfold ac7
  refine Ie (s.dD.map bH.fName) (Uc hb) (fun k x m hx hm=>?_) (fun m=>?_)
  ·rw[List.getElem?_map] at hx
   obtain⟨y,hy,rfl⟩:=Option.map_eq_some_iff.1 hx
   have hlt:=pI hy
   have hg:(pJ m).length<maxLen:=by rw[pJ,List.length_map];unfold maxLen;omega
   unfold yC
   simp only[Lr,Mo.den,ak,aj,aA,au,ay,ltt hy,gid hy,cond_true,Option.bind_some,AB,uT,if_pos hg]
   cases nameB y.fName<;>cases hasB y.fName m<;>rfl
  ·rw[List.length_map]
   unfold yC
   simp only[Mo.den,ak,aj,aA,au,ay,ltn,cond_false]
 have h3:ac8 s 0=some (jK (dF (BJ s.iZ) 0 s.iZ.length)):=by
  try unfold ac8
  refine dV _ s.iZ.length (by omega) (fun k hk=>?_) (by simp only[yD,Mo.den,ak,aj,aA,au,ay,ltn,cond_false])
  have hx:=List.getElem?_eq_getElem hk
  have hm:=jg (iH hx)
  simp only[yD,Mo.den,ak,aj,aA,au,ay,ltt hx,gid hx,cond_true,Option.bind_some,mX _ (show aW s.iZ[k].lf1≤100000000 by omega),BJ,hx]
  cases oP s.iZ[k]<;>rfl
 have h4:WL s 0=some (jK (dF (BJ s.iZ) 0 s.iZ.length)):=by
  try unfold WL
  refine dV _ s.iZ.length (by omega) (fun k hk=>?_) (by simp only[Au,Mo.den,ak,aj,aA,au,ay,ltn,cond_false])
  have hx:=List.getElem?_eq_getElem hk
  have hm:=jg (iH hx)
  simp only[Au,Mo.den,ak,aj,aA,au,ay,ltt hx,gid hx,cond_true,Option.bind_some,mD _ (show aW s.iZ[k].lf1≤100000000 by omega),BJ,hx]
  cases oP s.iZ[k]<;>rfl
 have hkind:=amG s.jH hk
 unfold Q18 arf Q8 atx
 simp only[Mo.den,ak,aj,aA,au,ay,aaR s hb,h1,h2,h3,h4,ZV,SQ,SS,SV,SX,SY,S9,Ls,Lu,LC,LD,Option.bind_some,BH s.eu (by omega),BH (s.dD.map bH.fName) (Uc hb),Ub s.kU s.rM (by omega),Ub s.kV s.rO (by omega),Fb s.kU s.rM (by omega),Fb s.kV s.rO (by omega),hkind,dH]
 clear h1 h2 h3 h4 hkind hk hp hreq henum hpl
 generalize ng [] s.eu=a1
 generalize ng [] (s.dD.map bH.fName)=a2
 generalize (bif s.kU then oP s.rM else jJ s.rM)=a3
 generalize (bif s.kV then oP s.rO else jJ s.rO)=a4
 generalize dF (BJ s.iZ) 0 s.iZ.length=a5
 generalize decide (s.jH<0)=b1
 generalize (Int.tmod s.jH 2==1)=b2
 generalize decide ((4096:Int)≤s.jH)=b3
 generalize decide (s.mG<0)=b4
 generalize decide (s.mJ < -1)=b5
 generalize decide ((1:Int)<(s.eP.length:Int))=b6
 cases a1<;>cases a2<;>rfl
end Go.Proofs.YtbdcaeahocbkbaaGreatDoor
set_option linter.unusedSimpArgs false
set_option linter.unusedVariables false
namespace Go.Proofs.YtbdcaeahocbkbaaGreatDoor
mutual
def Bv:Lf→Prop
 |.int k n=>(Lit.int k n).wf=true
 |.str s=>s.size≤maxLen
 |.bool _=>True
 |.rows _ l=>l.length≤maxLen∧Iq l
def jm:List Lf→Prop
 |[]=>True
 |x::r=>Bv x∧jm r
def Iq:List (List Lf)→Prop
 |[]=>True
 |r::q=>jm r∧Iq q
end
mutual
theorem LRp.fit {I:Gh}:∀(x:Lf) (v:Value),LRp I x v→Bv x
 |.int k n,v,h=>by unfold Bv;exact h.int.2
 |.str s,v,h=>by unfold Bv;exact h.str.2
 |.bool b,v,h=>by unfold Bv;trivial
 |.rows n l,v,h=>by
  unfold LRp at h
  unfold Bv
  obtain⟨a,c,h1,h2,h3,h4⟩:=h
  refine⟨Nat.le_trans h2 h3,?_⟩
  cases l with
  |nil=>unfold Iq;trivial
  |cons r q=>
   obtain⟨b,off,e,hr⟩:=h4 (by simp)
   exact RRp.fit b n off (r::q) hr
theorem RRp.fit {I:Gh} (b n:Nat):∀(o:Nat) (l:List (List Lf)),RRp I b n o l→Iq l
 |_,[],_=>by unfold Iq;trivial
 |o,r::q,hl=>by
  unfold RRp at hl
  unfold Iq
  exact⟨CRp.fit b o r hl.2.1,RRp.fit b n (o+n) q hl.2.2⟩
theorem CRp.fit {I:Gh} (b:Nat):∀(o:Nat) (r:List Lf),CRp I b o r→jm r
 |_,[],_=>by unfold jm;trivial
 |o,x::r,hl=>by
  unfold CRp at hl
  unfold jm
  obtain⟨⟨v,h1,h2⟩,h3⟩:=hl
  exact⟨LRp.fit x v h2,CRp.fit b (o+1) r h3⟩
end
theorem dU.fit{I:Gh}:∀(r:List Lf) (cs:List Value),dU I r cs→jm r
 |[],_,_=>by unfold jm;trivial
 |x::r,_,h=>by
  obtain⟨c,q,e,h1,h2⟩:=h
  unfold jm
  exact⟨h1.fit,dU.fit r q h2⟩
theorem amH:jm []:=by unfold jm;trivial
theorem pR{x:Lf}{r:List Lf}:jm (x::r)↔Bv x∧jm r:=by rw[jm]
theorem oQ{l m:List Lf}:jm (l++m)↔jm l∧jm m:=by
 induction l with
 |nil=>exact⟨fun h=>⟨amH,h⟩,fun h=>h.2⟩
 |cons x r ih=>rw[List.cons_append,pR,pR,ih];exact⟨fun⟨a,b,c⟩=>⟨⟨a,b⟩,c⟩,fun⟨⟨a,b⟩,c⟩=>⟨a,b,c⟩⟩
theorem ahZ{l:List (List Lf)}(h:Iq l):∀r∈l,jm r:=by
 induction l with
 |nil=>intro r hr;cases hr
 |cons x q ih=>
  rw[Iq] at h
  intro r hr
  rcases List.mem_cons.1 hr with rfl|hr
  ·exact h.1
  ·exact ih h.2 r hr
theorem yZ{α:Type}{n:Nat}{lf:α→List Lf}{l:List α}(h:Bv (.rows n (l.map lf))){x:α}(hx:x∈l):jm (lf x):=by
 rw[Bv] at h
 exact ahZ h.2 _ (List.mem_map_of_mem hx)
theorem agt{n:Int}(h:Bv (.int .i64 n)) : -9223372036854775808≤n∧n≤9223372036854775807:=by
 rw[Bv] at h
 exact bounds_i64 h
theorem Nv{s:aI}(h:jm s.lf1):(-9223372036854775808≤s.jH∧s.jH≤9223372036854775807)∧(∀p∈s.dD,jm p.dW.lf1)∧∀x∈s.eP,jm x.lf1:=by
 unfold aI.lf1 at h
 simp only[oQ,pR] at h
 obtain⟨⟨a1,_⟩,_,_,_,_,_,_,_,a2,_,a3,_⟩:=h
 refine⟨agt a1,fun p hp=>?_,fun x hx=>?_⟩
 ·have h2:=yZ a2 hp
  rw[bH.aX] at h2
  unfold bH.lf1 at h2
  exact(oQ.1 h2).2
 ·have h2:=yZ a3 hx
  rw[aI.aX] at h2;exact h2
theorem ah0{w:aH}(h:jm w.lf1):jm w.kM.dW.lf1∧∀x∈w.dh,jm x.lf1:=by
 unfold aH.lf1 cu.lf1 at h
 simp only[oQ,pR] at h
 obtain⟨_,_,_,_,⟨_,a1,_⟩,_,_,_,a2,_⟩:=h
 refine⟨a1,fun x hx=>?_⟩
 have h2:=yZ a2 hx
 rw[aH.aX] at h2;exact h2
theorem ah1{e:aF}(h:jm e.lf1):jm e.dL.lf1:=by
 unfold aF.lf1 at h
 exact(oQ.1 h).2
end Go.Proofs.YtbdcaeahocbkbaaGreatDoor
set_option linter.unusedSimpArgs false
set_option linter.unusedVariables false
namespace Go.Proofs.YtbdcaeahocbkbaaGreatDoor
open Go.RowKit
def Fe(s:aI):List aI:=s.dD.map bH.dW++s.eP
noncomputable def nU:Nat→aI→Nat→Int×Nat
 |0,_,n=>(2,n)
 |d+1,s,n=>bif n==64 then(2,n) else bif Xj s != 0 then(Xj s,n+1) else fJ (nU d) (Fe s) (n+1)
theorem Fg:∀(d:Nat) (s:aI) (n:Nat),n≤64→(nU d s n).2≤64
 |0,s,n,h=>h
 |d+1,s,n,h=>by
  unfold nU
  cases hn:n==64 with
  |true=>exact h
  |false=>
   have:¬n=64:=by simpa using hn
   cases Xj s != 0 with
   |true=>show n+1≤64;omega
   |false=>exact yX _ 64 _ _ (fun x _ m hm=>Fg d x m hm) (by omega)
theorem Ud{p:bH}{l:List bH}(h:p∈l):aW p.dW.lf1≤bM (l.map bH.lf):=by
 have h1:=qj h
 have h2:=pz p
 omega
theorem amI{s x:aI}(h:x∈Fe s):aW x.lf1<aW s.lf1:=by
 have hp:=fA s
 unfold Fe at h
 rcases List.mem_append.1 h with h|h
 ·obtain⟨p,hm,rfl⟩:=List.mem_map.1 h
  have:=Ud hm
  omega
 ·have:=lY h
  omega
theorem amJ{s x:aI}(hf:jm s.lf1)(h:x∈Fe s):jm x.lf1:=by
 obtain⟨_,h1,h2⟩:=Nv hf
 unfold Fe at h
 rcases List.mem_append.1 h with h|h
 ·obtain⟨p,hm,rfl⟩:=List.mem_map.1 h
  exact h1 p hm
 ·exact h2 x h
theorem amK{s:aI}:(Fe s).length≤aW s.lf1:=by
 have hp:=fA s
 have h1:=jL s.dD
 have h2:=jI s.eP
 unfold Fe
 rw[List.length_append,List.length_map];omega
theorem aef(d:Nat):∀(F:Nat) (s:aI) (n:Nat),d≤16→d+1≤F→n≤64→aW s.lf1≤100000000→(oK F).m1 s (17-(d:Int)) (n:Int)=some ((nU d s n).1,((nU d s n).2:Int)):=by
 induction d with
 |zero=>
  intro F s n _ hF _ _
  obtain⟨F,rfl⟩:∃G,F=G+1:=⟨F-1,by omega⟩
  show Mo.den (LG (oK F) s (17-((0:Nat):Int)) (n:Int))=_
  unfold LG
  simp only[Mo.den,ak,aj,aA,au,ay,DX]
  rw[decide_eq_true (show(16:Int)<17-((0:Nat):Int) by omega)];rfl
 |succ d ih=>
  intro F s n hd hF hn hb
  obtain⟨F,rfl⟩:∃G,F=G+1:=⟨F-1,by omega⟩
  have hp:=fA s
  have hk1:=jL s.dD
  have hk2:=jI s.eP
  show Mo.den (LG (oK F) s (17-((d+1:Nat):Int)) (n:Int))=_
  unfold LG nU
  simp only[Mo.den,ak,aj,aA,au,ay,DX,aaS s hb]
  rw[decide_eq_false (show ¬(16:Int)<17-((d+1:Nat):Int) by omega),show((n:Int)==64)=(n==64) by rw[Bool.eq_iff_iff];simp;omega]
  simp only[cond_false,Option.bind_some]
  cases h1:n==64 with
  |true=>rfl
  |false=>
   have h1:¬n=64:=by simpa using h1
   rw[inc n (by omega)]
   simp only[cond_false]
   cases Xj s != 0 with
   |true=>rfl
   |false=>
    simp only[cond_false]
    have hl:17-((d+1:Nat):Int)+1=17-(d:Int):=by omega
    have hA:ac9 (oK F) (17-((d+1:Nat):Int)) s 0 ((n+1:Nat):Int)=some (bif (fJ (nU d) (s.dD.map bH.dW) (n+1)).1 != 0 then .inl ((fJ (nU d) (s.dD.map bH.dW) (n+1)).1,((fJ (nU d) (s.dD.map bH.dW) (n+1)).2:Int)) else .inr ((fJ (nU d) (s.dD.map bH.dW) (n+1)).2:Int)):=by
     try unfold ac9
     refine AO (fun p=>(p.1,(p.2:Int))) (s.dD.map bH.dW) (by rw[List.length_map];omega) (nU d) 64 (fun x _ m hm=>Fg d x m hm) (fun k x m hx hm=>?_) (fun m=>by rw[List.length_map];simp only[yE,Mo.den,ak,aj,aA,au,ay,ltn,cond_false]) (n+1) (by omega)
     rw[List.getElem?_map] at hx
     obtain⟨y,hy,rfl⟩:=Option.map_eq_some_iff.1 hx
     have hxb:=Ud (iH hy)
     have ihx:=ih F y.dW m (by omega) (by omega) hm (by omega)
     simp only[yE,Mo.den,ak,aj,aA,au,ay,ltt hy,gid hy,cond_true,Option.bind_some]
     rw[w64 (x:=17-((d+1:Nat):Int)+1) (by omega) (by omega),hl,ihx]
     simp only[Option.bind_some]
     cases (nU d y.dW m).1 != 0<;>rfl
    have hB:∀q:Nat,q≤64→VL (oK F) (17-((d+1:Nat):Int)) s 0 (q:Int)=some (bif (fJ (nU d) s.eP q).1 != 0 then .inl ((fJ (nU d) s.eP q).1,((fJ (nU d) s.eP q).2:Int)) else .inr ((fJ (nU d) s.eP q).2:Int)):=fun q hq=>by
     try unfold VL
     refine AO (fun p=>(p.1,(p.2:Int))) s.eP (by omega) (nU d) 64 (fun x _ m hm=>Fg d x m hm) (fun k x m hx hm=>?_) (fun m=>by simp only[uH,Mo.den,ak,aj,aA,au,ay,ltn,cond_false]) q hq
     have hxb:=lY (iH hx)
     have ihx:=ih F x m (by omega) (by omega) hm (by omega)
     simp only[uH,Mo.den,ak,aj,aA,au,ay,ltt hx,gid hx,cond_true,Option.bind_some]
     rw[w64 (x:=17-((d+1:Nat):Int)+1) (by omega) (by omega),hl,ihx]
     simp only[Option.bind_some]
     cases (nU d x m).1 != 0<;>rfl
    unfold Fe
    rw[hA,TQ]
    simp only[Option.bind_some]
    cases h3:(fJ (nU d) (s.dD.map bH.dW) (n+1)).1 != 0 with
    |true=>rfl
    |false=>
     simp only[cond_false]
     rw[hB _ (yX _ 64 _ _ (fun x _ m hm=>Fg d x m hm) (by omega))]
     simp only[Option.bind_some]
     cases h4:(fJ (nU d) s.eP (fJ (nU d) (s.dD.map bH.dW) (n+1)).2).1 != 0 with
     |true=>rfl
     |false=>
      have h4:(fJ (nU d) s.eP (fJ (nU d) (s.dD.map bH.dW) (n+1)).2).1=0:=by simpa using h4
      simp only[cond_false]
      rw[h4]
theorem amL(s:aI)(hb:aW s.lf1≤100000000):aph s=some (nU 16 s 0).1:=by
 have h:=aef 16 FU s 0 (by omega) (by have:=iw;omega) (by omega) hb
 have h:Q45 s 1 0=_:=h
 simp only[aph,ada,Mo.den,ak,aj,aA,au,ay,h,Option.bind_some]
theorem aaT(d:Nat):∀(F:Nat) (s:aI) (n:Nat),d≤16→d+1≤F→n≤64→aW s.lf1≤100000000→jm s.lf1→∃r:Int,((nU d s n).1=0→r=((nU d s n).2:Int))∧(tN F).m1 s (((n+1:Nat):Int)) (17-(d:Int))=some (r,(nU d s n).1):=by
 induction d with
 |zero=>
  intro F s n _ hF _ _ _
  obtain⟨F,rfl⟩:∃G,F=G+1:=⟨F-1,by omega⟩
  refine⟨((n+1:Nat):Int),fun h=>(by cases h),?_⟩
  show Mo.den (Tc (tN F) s ((n+1:Nat):Int) (17-((0:Nat):Int)))=_
  unfold Tc
  simp only[Mo.den,ak,aj,aA,au,ay,ML]
  rw[decide_eq_true (show(16:Int)<17-((0:Nat):Int) by omega)];rfl
 |succ d ih=>
  intro F s n hd hF hn hb hf
  obtain⟨F,rfl⟩:∃G,F=G+1:=⟨F-1,by omega⟩
  have hp:=fA s
  have hk1:=jL s.dD
  have hk2:=jI s.eP
  show ∃r:Int,_∧Mo.den (Tc (tN F) s ((n+1:Nat):Int) (17-((d+1:Nat):Int)))=_
  unfold Tc nU
  simp only[Mo.den,ak,aj,aA,au,ay,ML,aee s hb (Nv hf).1]
  rw[decide_eq_false (show ¬(16:Int)<17-((d+1:Nat):Int) by omega),show decide ((64:Int)<((n+1:Nat):Int))=(n==64) by rw[Bool.eq_iff_iff];simp;omega]
  simp only[cond_false,Option.bind_some]
  cases h1:n==64 with
  |true=>exact⟨_,fun h=>(by cases h),rfl⟩
  |false=>
   have h1:¬n=64:=by simpa using h1
   simp only[cond_false]
   cases h2:Xj s != 0 with
   |true=>exact⟨_,fun h=>(by have h:Xj s=0:=h;rw[h] at h2;cases h2),rfl⟩
   |false=>
    simp only[cond_false]
    have hlen:((s.dD.length:Int)+(s.eP.length:Int))=((Fe s).length:Int):=by unfold Fe;rw[List.length_append,List.length_map];omega
    have hkl:=amK (s:=s)
    obtain⟨o, ho, hpost⟩:=Nk (Lo:=fun v_=>(uN (tN F) (17-((d+1:Nat):Int)) s v_).den) (Fe s) (by omega) (nU d) 64 (fun x _ m hm=>Fg d x m hm) (fun k x m hx hm=>by
     have hlt:=pI hx
     have hxm:=iH hx
     have hxb:=amI hxm
     obtain⟨r,hr,hrun⟩:=ih F x m (by omega) (by omega) hm (by omega) (amJ hf hxm)
     refine⟨r,hr,?_⟩
     have hJ:adL (tN F) (17-((d+1:Nat):Int)) s (m:Int) (k:Int)=some x:=by
      unfold adL ZX
      simp only[Mo.den,ak,aj,aA,au,ay]
      unfold Fe at hx
      by_cases hk:k<s.dD.length
      ·rw[List.getElem?_append_left (by rw[List.length_map];exact hk), List.getElem?_map] at hx
       obtain⟨y,hy,rfl⟩:=Option.map_eq_some_iff.1 hx
       rw[iLt hk]
       simp only[cond_true,gid hy,Option.bind_some]
      ·rw[List.getElem?_append_right (by rw[List.length_map];omega), List.length_map] at hx
       rw[X6 hk,w64 (by omega) (by omega),show(k:Int)-(s.dD.length:Int)=((k-s.dD.length:Nat):Int) by omega]
       simp only[cond_false,gid hx,Option.bind_some]
     simp only[uN,Mo.den,ak,aj,aA,au,ay,hJ]
     rw[hlen,w64 (x:=((Fe s).length:Int)) (by omega) (by omega),ltt hx,w64 (x:=17-((d+1:Nat):Int)+1) (by omega) (by omega),show 17-((d+1:Nat):Int)+1=17-(d:Int) by omega,inc m (by omega)]
     simp only[cond_true,Option.bind_some,hrun]
     cases (nU d x m).1 != 0<;>rfl) (fun m=>by
      simp only[uN,Mo.den,ak,aj,aA,au,ay]
      rw[hlen,w64 (x:=((Fe s).length:Int)) (by omega) (by omega),ltn];rfl) (n+1) (by omega)
    have ho:agf (tN F) (17-((d+1:Nat):Int)) s ((n+1:Nat):Int) 0=some o:=ho
    rw[ho]
    simp only[Option.bind_some]
    rcases o with p|a
    ·obtain⟨p1,p2⟩:=p
     obtain⟨hp1,hp2⟩:=hpost
     have hp1:p2=_:=hp1
     subst hp1
     exact⟨p1,fun h=>absurd h hp2,rfl⟩
    ·obtain⟨h5,h6⟩:=hpost
     subst h6
     exact⟨_,fun _=>rfl,by rw[h5]⟩
theorem ah2(s:aI)(hb:aW s.lf1≤100000000)(hf:jm s.lf1):auz s=some (nU 16 s 0).1:=by
 obtain⟨r,_,h⟩:=aaT 16 FU s 0 (by omega) (by have:=iw;omega) (by omega) hb hf
 have h:Q39 s 1 1=_:=h
 simp only[auz,alY,Mo.den,ak,aj,aA,au,ay,h,Option.bind_some]
def gZ(l:List aU)(n:ByteArray)(k:Nat):Option Int:=match l[k]? with|some x=>bif decide (x.fName=n) then some (k:Int) else none|none=>none
theorem amM(l:List aU)(n:ByteArray)(hl:l.length≤100000000):akY l n=some (match dF (gZ l n) 0 l.length with|some e=>e|none=>-1):=by
 have hL:ac5 n l 0=some (jK (dF (gZ l n) 0 l.length)):=by
  try unfold ac5
  refine dV _ l.length (by omega) (fun k hk=>?_) (by simp only[yB,Mo.den,ak,aj,aA,au,ay,ltn,cond_false])
  have hx:=List.getElem?_eq_getElem hk
  simp only[yB,atv,ac4,Mo.den,ak,aj,aA,au,ay,ltt hx,gid hx,cond_true,Option.bind_some,gZ,hx]
  cases decide (l[k].fName=n)<;>rfl
 simp only[akY,ac6,Mo.den,ak,aj,aA,au,ay,Q53,akX,hL,Option.bind_some]
 cases dF (gZ l n) 0 l.length<;>rfl
theorem avP(l:List aU)(n:ByteArray)(hl:l.length≤100000000):aut l n=some (match dF (gZ l n) 0 l.length with|some e=>e|none=>-1):=by
 have hL:WJ l n 0=some (jK (dF (gZ l n) 0 l.length)):=by
  try unfold WJ
  refine dV _ l.length (by omega) (fun k hk=>?_) (by simp only[Ar,Mo.den,ak,aj,aA,au,ay,ltn,cond_false])
  have hx:=List.getElem?_eq_getElem hk
  simp only[Ar,Mo.den,ak,aj,aA,au,ay,ltt hx,gid hx,cond_true,Option.bind_some,gZ,hx]
  cases decide (l[k].fName=n)<;>rfl
 simp only[aut,alV,Mo.den,ak,aj,aA,au,ay,hL,Option.bind_some]
 cases dF (gZ l n) 0 l.length<;>rfl
theorem Nw{ε:Type}(f:Nat→Option ε):∀(a b k:Nat),dF f k (a+b)=match dF f k a with|some e=>some e|none=>dF f (k+a) b
 |0,b,k=>by rw[Nat.zero_add];rfl
 |a+1,b,k=>by
  rw[show a+1+b=(a+b)+1 by omega]
  show(match f k with|some e=>some e|none=>dF f (k+1) (a+b))=match (match f k with|some e=>some e|none=>dF f (k+1) a) with|some e=>some e|none=>dF f (k+(a+1)) b
  cases f k with
  |some e=>rfl
  |none=>
   simp only
   rw[Nw f a b (k+1),show k+1+a=k+(a+1) by omega]
theorem aaU(l:List aU)(n:ByteArray)(k:Nat)(hk:k≤l.length):dF (gZ (l.take k) n) 0 (l.take k).length=dF (gZ l n) 0 k:=by
 rw[List.length_take,Nat.min_eq_left hk]
 refine EY k 0 fun i _ hi=>?_
 unfold gZ
 rw[List.getElem?_take_of_lt (by omega)]
theorem Ny{l:List aU}{n:ByteArray}:∀(m k:Nat) (e:Int),dF (gZ l n) k m=some e→(k:Int)≤e∧e<(k:Int)+(m:Int)
 |0,k,e,h=>by cases h
 |m+1,k,e,h=>by
  unfold dF at h
  cases hf:gZ l n k with
  |some e'=>
   rw[hf] at h
   injection h with h
   subst h
   unfold gZ at hf
   split at hf
   ·rename_i x hx
    cases hd:decide (x.fName=n) with
    |true=>rw[hd] at hf;injection hf with hf;omega
    |false=>rw[hd] at hf;cases hf
   ·cases hf
  |none=>
   rw[hf] at h
   have:=Ny m (k+1) e h
   omega
theorem auO{l:List aU}{k:Nat}{x:aU}(hx:l[k]?=some x):((match dF (gZ l x.fName) 0 l.length with|some e=>e|none=>(-1:Int)) != (k:Int))=decide ((0:Int)≤match dF (gZ l x.fName) 0 k with|some e=>e|none=>-1):=by
 have hk:=pI hx
 have hs:dF (gZ l x.fName) 0 l.length=match dF (gZ l x.fName) 0 k with|some e=>some e|none=>some (k:Int):=by
  have h1:=Nw (gZ l x.fName) k (l.length-k) 0
  rw[show k+(l.length-k)=l.length by omega] at h1
  rw[h1]
  cases dF (gZ l x.fName) 0 k with
  |some e=>rfl
  |none=>
   simp only
   obtain⟨m,hm⟩:∃m,l.length-k=m+1:=⟨l.length-k-1,by omega⟩
   rw[hm,Nat.zero_add]
   unfold dF
   have:gZ l x.fName k=some (k:Int):=by unfold gZ;rw[hx];simp
   rw[this]
 rw[hs]
 cases hf:dF (gZ l x.fName) 0 k with
 |some e=>
  have:=Ny _ _ _ hf
  simp only
  rw[decide_eq_true (by omega),bne_iff_ne];omega
 |none=>simp
noncomputable def ixE(l:List aU)(k:Nat):Option Int:=match l[k]? with
 |some x=>bif (YX x).getD 0 != 0 then some ((YX x).getD 0) else bif decide ((0:Int)≤match dF (gZ l x.fName) 0 k with|some e=>e|none=>-1) then some 16 else none
 |none=>none
theorem amN{l:List aU}{k:Nat}{x:aU}{c:Int}(hx:l[k]?=some x)(hc:YX x=some c):ixE l k=bif c != 0 then some c else bif decide ((0:Int)≤match dF (gZ l x.fName) 0 k with|some e=>e|none=>-1) then some 16 else none:=by
 unfold ixE;rw[hx];simp only[hc,Option.getD_some]
theorem amO(d:cu)(hb:aW d.lf1≤100000000):LH d 0=some (jK (dF (ixE d.bV) 0 d.bV.length)):=by
 have hp:=jV d
 have hl:=jc d.bV
 try unfold LH
 refine dV _ d.bV.length (by omega) (fun k hk=>?_) (by simp only[yF,Mo.den,ak,aj,aA,au,ay,ltn,cond_false])
 obtain⟨x,hx⟩:∃x,d.bV[k]?=some x:=⟨_,List.getElem?_eq_getElem hk⟩
 have hm:=iW aU.lf (iH hx)
 rw[aU.aX] at hm
 obtain⟨c,hc,_⟩:=kK x (by omega)
 have hg:(0:Int)≤0∧(0:Int)≤(k:Int)∧(k:Int)≤(d.bV.length:Int):=by omega
 have hn:=amM (d.bV.take k) x.fName (by rw[List.length_take];omega)
 rw[aaU _ _ _ (by omega)] at hn
 rw[amN hx hc]
 simp only[yF,Mo.den,ak,aj,aA,au,ay,ltt hx,gid hx,cond_true,Option.bind_some,hc,if_pos hg,Int.toNat_natCast,hn]
 generalize decide ((0:Int)≤match dF (gZ d.bV x.fName) 0 k with|some e=>e|none=>-1)=q
 cases c != 0<;>cases q<;>rfl
theorem ah3(d:cu)(hb:aW d.lf1≤100000000):WO d 0=some (jK (dF (ixE d.bV) 0 d.bV.length)):=by
 have hp:=jV d
 have hl:=jc d.bV
 try unfold WO
 refine dV _ d.bV.length (by omega) (fun k hk=>?_) (by simp only[EF,Mo.den,ak,aj,aA,au,ay,ltn,cond_false])
 obtain⟨x,hx⟩:∃x,d.bV[k]?=some x:=⟨_,List.getElem?_eq_getElem hk⟩
 have hm:=iW aU.lf (iH hx)
 rw[aU.aX] at hm
 obtain⟨c,hc,_⟩:=kK x (by omega)
 have hd:=auO hx
 rw[amN hx hc]
 simp only[EF,Mo.den,ak,aj,aA,au,ay,ltt hx,gid hx,cond_true,Option.bind_some,aaQ x (by omega),hc,avP d.bV _ (by omega),hd]
 generalize decide ((0:Int)≤match dF (gZ d.bV x.fName) 0 k with|some e=>e|none=>-1)=q
 cases c != 0<;>cases q<;>rfl
theorem amP(d:cu)(hb:aW d.lf1≤100000000)(hf:jm d.dW.lf1):Q56 d=Q61 d:=by
 have hp:=jV d
 have hl:=jc d.bV
 have hL:WO d 0=LH d 0:=(ah3 d hb).trans (amO d hb).symm
 unfold Q56 arh Q61 ak3
 simp only[Mo.den,ak,aj,aA,au,ay,rD,TL,hL,ZY,Td,LJ,GY,amL d.dW (by omega),ah2 d.dW (by omega) hf,Option.bind_some,dH]
 cases nameB d.fName with
 |false=>rfl
 |true=>
  cases decide ((16:Int)<(d.bV.length:Int)) with
  |true=>rfl
  |false=>
   simp only[Bool.not_true,cond_false]
   cases LH d 0 with
   |none=>rfl
   |some o=>
    rcases o with e|u
    ·rfl
    ·cases decide (d.ou<0)<;>cases decide ((2:Int)<d.ou)<;>cases (d.jX != 0)<;>cases (d.jX != 1)<;>rfl
end Go.Proofs.YtbdcaeahocbkbaaGreatDoor
set_option linter.unusedSimpArgs false
set_option linter.unusedVariables false
namespace Go.Proofs.YtbdcaeahocbkbaaGreatDoor
open Go.RowKit
end Go.Proofs.YtbdcaeahocbkbaaGreatDoor
set_option linter.unusedSimpArgs false
set_option linter.unusedVariables false
namespace Go.Proofs.YtbdcaeahocbkbaaGreatDoor
open Go.RowKit
theorem Nz{x:Int}(h1:0≤x)(h2:x<18446744073709551616):IntKind.wrap .u64 x=x:=by rw[lU];omega
theorem Xk(a b:Nat)(ha:a<18446744073709551616)(hb:b<18446744073709551616):bZ .xor .u64 (a:Int) (b:Int)=((a^^^ b:Nat):Int):=by
 show IntKind.wrap .u64 (BitVec.ofInt 64 (a:Int)^^^ BitVec.ofInt 64 (b:Int)).toNat=_
 have e1:BitVec.ofInt 64 (a:Int)=BitVec.ofNat 64 a:=by apply BitVec.eq_of_toNat_eq;rw[BitVec.toNat_ofInt,BitVec.toNat_ofNat];omega
 have e2:BitVec.ofInt 64 (b:Int)=BitVec.ofNat 64 b:=by apply BitVec.eq_of_toNat_eq;rw[BitVec.toNat_ofInt,BitVec.toNat_ofNat];omega
 rw[e1,e2,BitVec.toNat_xor,BitVec.toNat_ofNat,BitVec.toNat_ofNat,Nat.mod_eq_of_lt ha,Nat.mod_eq_of_lt hb]
 have hx:a^^^ b<2^64:=Nat.xor_lt_two_pow ha hb
 exact Nz (by omega) (by omega)
theorem avQ(n:Int):AU .u64 n 1=IntKind.wrap .u64 (n*2):=rfl
theorem aeg(n:Int)(h:I64 n):akE n=some ((zz n:Nat):Int):=by
 unfold I64 at h
 unfold akE acI
 simp only[Mo.den,ak,aj,aA,au,ay]
 congr 1
 rw[avQ]
 have hs:gu .i64 n 63=Int.fdiv n 9223372036854775808:=rfl
 rw[hs]
 by_cases h0:0≤n
 ·obtain⟨m,rfl⟩:=Int.eq_ofNat_of_zero_le h0
  rw[Nz (x:=(m:Int)) (by omega) (by omega),Nz (x:=(m:Int)*2) (by omega) (by omega),Int.fdiv_eq_ediv_of_nonneg _ (by omega),show(m:Int)/9223372036854775808=((0:Nat):Int) by omega,Nz (x:=((0:Nat):Int)) (by omega) (by omega),show(m:Int)*2=((m*2:Nat):Int) by omega,Xk _ _ (by omega) (by omega)]
  simp only[Nat.xor_zero,zz]
  rw[if_pos (by omega)];omega
 ·have e1:IntKind.wrap .u64 n=n+18446744073709551616:=by rw[lU];omega
  have e2:IntKind.wrap .u64 ((n+18446744073709551616)*2)=((2*n+18446744073709551616).toNat:Int):=by rw[lU];omega
  have e3:IntKind.wrap .u64 (Int.fdiv n 9223372036854775808)=((18446744073709551615:Nat):Int):=by
   rw[Int.fdiv_eq_ediv_of_nonneg _ (by omega),lU];omega
  rw[e1,e2,e3,Xk _ _ (by omega) (by omega),Nat.xor_comm,aeP _ (by omega)]
  unfold zz
  rw[if_neg h0];omega
theorem amQ(n:Int)(h:I64 n):VY n=some ((zz n:Nat):Int):=by
 unfold I64 at h
 unfold VY L6
 simp only[Mo.den,ak,aj,aA,au,ay]
 rw[avQ]
 have hm:(IntKind.max .u64)=((18446744073709551615:Nat):Int):=rfl
 by_cases h0:n<0
 ·rw[decide_eq_true h0]
  simp only[cond_true]
  congr 1
  have e1:IntKind.wrap .u64 n=n+18446744073709551616:=by rw[lU];omega
  have e2:IntKind.wrap .u64 ((n+18446744073709551616)*2)=((2*n+18446744073709551616).toNat:Int):=by rw[lU];omega
  rw[e1,e2,hm,Xk _ _ (by omega) (by omega),aeP _ (by omega)]
  unfold zz
  rw[if_neg (by omega)];omega
 ·rw[decide_eq_false h0]
  simp only[cond_false]
  congr 1
  rw[Nz (x:=n) (by omega) (by omega),Nz (x:=n*2) (by omega) (by omega)]
  unfold zz
  rw[if_pos (by omega)];omega
def dM(u:Nat):List Int:=(vM u).map fun b=>(b.toNat:Int)
theorem AP{u:Nat}(h:u<128):dM u=[(u:Int)]:=by
 unfold dM;rw[Jd h];simp only[List.map_cons,List.map_nil,aiY u h]
theorem AQ{u:Nat}(h:¬u<128):dM u=((u%128+128:Nat):Int)::dM (u/128):=by
 unfold dM;rw[UR h];simp only[List.map_cons]
 congr 1
 rw[UInt8.toNat_ofNat'];omega
theorem avR(u:Nat):bZ .or .u8 (IntKind.wrap .u8 (u:Int)) 128=((u%128+128:Nat):Int):=by
 have h:∀x:Fin 256,bZ .or .u8 (x.1:Int) 128=((x.1%128+128:Nat):Int):=by decide +kernel
 have h:=h ⟨u%256,by omega⟩
 simp only at h
 have e:IntKind.wrap .u8 (u:Int)=((u%256:Nat):Int):=by rw[IntKind.wrap_u8];omega
 rw[e,h];omega
theorem awC{u:Nat}(h:u<256):IntKind.wrap .u8 (u:Int)=(u:Int):=by rw[IntKind.wrap_u8];omega
theorem auP(a b:List Int):strOfNums (a++b)=strOfNums a++strOfNums b:=by
 apply ByteArray.ext
 apply Array.ext'
 rw[ByteArray.data_append,Array.toList_append,strOfNums_data,strOfNums_data,strOfNums_data,List.map_append]
theorem aqs(u:Nat):IntKind.wrap .u64 (Int.tdiv (u:Int) 128)=IntKind.wrap .u64 ((u/128:Nat):Int):=by
 rw[Int.tdiv_eq_ediv_of_nonneg (by omega)];rfl
theorem aqt(u:Nat):Int.tmod (u:Int) 128=((u%128:Nat):Int):=by
 rw[Int.tmod_eq_emod_of_nonneg (by omega)];rfl
theorem ah4(u0:Nat)(hu:u0<18446744073709551616):Tot (VZ (u0:Int) ⟨#[]⟩ 0) (fun r=>∃u:Nat,r.1=(u:Int)∧u<128∧r.2++strOfNums [(u:Int)]=strOfNums (dM u0)):=by
 have h10:(dM u0).length≤10:=by unfold dM;rw[List.length_map];exact Je u0 hu
 refine T.oh 10 (by omega) (fun k v=>∃u:Nat,v.1=(u:Int)∧u<18446744073709551616∧v.2.2=(k:Int)∧v.2.1.size=k∧v.2.1++strOfNums (dM u)=strOfNums (dM u0)) _ ⟨u0,rfl,hu,rfl,rfl,(ByteArray.empty_append:ByteArray.empty++strOfNums (dM u0)=_)⟩ ?_ ?_
 ·rintro k ⟨v,s,i⟩ hk ⟨u,hv,hlt,hi,hs,he⟩
  obtain rfl:v=(u:Int):=hv
  obtain rfl:i=(k:Int):=hi
  have hs:s.size=k:=hs
  have he:s++strOfNums (dM u)=strOfNums (dM u0):=he
  unfold Ad
  simp only[L8,Mo.den,ak,aj,aA,au,ay]
  rw[decide_eq_true (show(k:Int)<10 by omega)]
  simp only[cond_true,Option.bind_some]
  by_cases h:u<128
  ·rw[decide_eq_false (show ¬(128:Int)≤(u:Int) by omega)]
   exact T.ret ⟨u,rfl,h,by rw[←he,AP h]⟩
  ·have hz:(strOfNums [((u%128%128+128:Nat):Int)]).size=1:=strOfNums_size _
   rw[decide_eq_true (show(128:Int)≤(u:Int) by omega),aqt,avR,aqs,Nz (by omega) (by omega)]
   simp only[cond_true]
   refine T.grd (by rw[hz];omega) (T.ret ⟨u/128,rfl,by omega,inc k (by omega),?_,?_⟩)
   ·show(s++strOfNums [((u%128%128+128:Nat):Int)]).size=k+1
    rw[ByteArray.size_append,hz,hs]
   ·show(s++strOfNums [((u%128%128+128:Nat):Int)])++strOfNums (dM (u/128))=_
    rw[ByteArray.append_assoc,←auP,←he,AQ h,show u%128%128=u%128 by omega];rfl
 ·rintro⟨v,s,i⟩ ⟨u,hv,hlt,hi,hs,he⟩
  obtain rfl:v=(u:Int):=hv
  obtain rfl:i=((10:Nat):Int):=hi
  have hs:s.size=10:=hs
  have he:s++strOfNums (dM u)=strOfNums (dM u0):=he
  have hc:=congrArg ByteArray.size he
  rw[ByteArray.size_append,strOfNums_size,strOfNums_size,hs] at hc
  have hp:1≤(dM u).length:=by unfold dM;rw[List.length_map];exact aiX u
  omega
theorem uZ(n:Int)(h:I64 n):Q31 n=some (strOfNums (dM (zz n))):=by
 have hz:zz n<18446744073709551616:=aiW n h
 obtain⟨r,hr,u,h1,h2,h3⟩:=ah4 (zz n) hz
 have hs:=congrArg ByteArray.size h3
 have h10:(dM (zz n)).length≤10:=by unfold dM;rw[List.length_map];exact Je (zz n) hz
 rw[ByteArray.size_append,strOfNums_size,strOfNums_size] at hs
 unfold Q31 ak9
 simp only[Mo.den,ak,aj,aA,au,ay,amQ n h,Option.bind_some,hr,h1,awC (show u<256 by omega)]
 rw[strOfNums_size,if_pos (by omega),h3]
theorem rH(n:Int)(h:I64 n):Q65 n=some ((dM (zz n)).length:Int):=by
 have hz:zz n<18446744073709551616:=aiW n h
 have h10:(dM (zz n)).length≤10:=by unfold dM;rw[List.length_map];exact Je (zz n) hz
 have key:Tot (akF 1 ((zz n:Nat):Int)) (fun r=>r=((dM (zz n)).length:Int)):=by
  refine lT (T:=fun v_=>(qU v_).den) (fun v=>∃u k:Nat,v=((k:Int),(u:Int))∧k+(dM u).length=(dM (zz n)).length+1) (fun v=>(dM v.2.toNat).length) _ ?_ FU (1,((zz n:Nat):Int)) ⟨zz n,1,rfl,by omega⟩ (by have:=iw;show(dM ((zz n:Nat):Int).toNat).length<FU;rw[Int.toNat_natCast];omega)
  rintro _ ⟨u,k,rfl,he⟩
  by_cases h:u<128
  ·refine .inr ⟨(k:Int),?_,?_⟩
   ·simp only[qU,Mo.den,ak,aj,aA,au,ay]
    rw[decide_eq_false (show ¬(128:Int)≤(u:Int) by omega)];rfl
   ·rw[AP h,List.length_cons,List.length_nil] at he
    show(k:Int)=_
    omega
  ·rw[AQ h,List.length_cons] at he
   refine .inl ⟨(((k+1:Nat):Int),((u/128:Nat):Int)),?_,⟨u/128,k+1,rfl,by omega⟩,?_⟩
   ·simp only[qU,Mo.den,ak,aj,aA,au,ay]
    rw[decide_eq_true (show(128:Int)≤(u:Int) by omega),avO (by omega),Int.toNat_natCast,inc k (by omega)];rfl
   ·show(dM ((u/128:Nat):Int).toNat).length<(dM ((u:Nat):Int).toNat).length
    rw[Int.toNat_natCast,Int.toNat_natCast,AQ h,List.length_cons];omega
 obtain⟨r,hr,rfl⟩:=key
 unfold Q65 akG
 simp only[Mo.den,ak,aj,aA,au,ay,aeg n h,Option.bind_some,hr]
end Go.Proofs.YtbdcaeahocbkbaaGreatDoor
set_option linter.unusedSimpArgs false
set_option linter.unusedVariables false
namespace Go.Proofs.YtbdcaeahocbkbaaGreatDoor
open Go.RowKit
def zlf:Lf→Bool
 |.int _ n=>n==0
 |.str s=>decide (s=⟨#[]⟩)
 |.bool b=>!b
 |.rows _ l=>(l.length:Int)==0
theorem agu(n:Int)(h:I64 n):EM n=strOfNums (dM (zz n)):=by
 have h1:=agl n
 rw[uZ n h] at h1
 exact(Option.some.inj h1).symm
def zs(k:Nat):List UInt8:=List.replicate k 0
theorem aaV(l:List Int):(strOfNums l).data.toList=l.map fun n=>UInt8.ofNat n.toNat:=strOfNums_data l
theorem vg(a b:ByteArray):(a++b).data.toList=a.data.toList++b.data.toList:=by rw[ByteArray.data_append,Array.toList_append]
theorem NC{n:Int}(h:I64 n){r t:List UInt8}(e:(EM n).data.toList++r=0::t):n=0∧r=t:=by
 rw[agu n h,aaV] at e
 by_cases hz:zz n<128
 ·rw[AP hz] at e
  simp only[List.map_cons,List.map_nil,List.cons_append,List.nil_append] at e
  injection e with e1 e2
  have e1:=congrArg UInt8.toNat e1
  rw[UInt8.toNat_ofNat',Int.toNat_natCast] at e1
  have e1:zz n%256=0:=e1
  refine⟨?_,e2⟩
  have hz0:zz n=0:=by omega
  have:=anp n
  rw[hz0] at this
  exact this.symm
 ·rw[AQ hz] at e
  simp only[List.map_cons,List.cons_append] at e
  injection e with e1 e2
  have e1:=congrArg UInt8.toNat e1
  rw[UInt8.toNat_ofNat',Int.toNat_natCast] at e1
  have e1:(zz n%128+128)%256=0:=e1
  omega
theorem aeh:(EM 0).data.toList=[0]:=by
 rw[agu 0 (by unfold I64;omega),aaV,show zz 0=0 from rfl,AP (by omega)];rfl
theorem aaW{n:Nat}(h:n≤maxLen):I64 (n:Int):=by unfold maxLen at h;unfold I64;omega
theorem amR{x:Lf}(h:zlf x=true):(wrF x).data.toList=[0]:=by
 cases x with
 |int k n=>unfold zlf at h;rw[eq_of_beq h];unfold wrF;exact aeh
 |str s=>
  unfold zlf at h
  have h:=of_decide_eq_true h
  unfold wrF
  rw[h,vg]
  show(EM 0).data.toList++[]=[0]
  rw[aeh];rfl
 |bool b=>unfold zlf at h;cases b with|true=>cases h|false=>unfold wrF;rfl
 |rows n l=>
  unfold zlf at h
  have hl:=len0 h
  unfold wrF
  rw[hl,vg]
  show(EM 0).data.toList++(wrQ []).data.toList=[0]
  rw[aeh,wrQ];rfl
theorem agv{k:IntKind}{n:Int}(hk:k=.i64)(h:Bv (.int k n)):I64 n:=by
 subst hk
 have:=agt h
 unfold I64;omega
def allI:List Lf→Bool
 |[]=>true
 |.int k _::r=>decide (k=.i64)&&allI r
 |_::r=>allI r
theorem amS{x:Lf}(hf:Bv x)(hk:∀k n,x=.int k n→k=.i64){r t:List UInt8}(e:(wrF x).data.toList++r=0::t):zlf x=true∧r=t:=by
 cases x with
 |int k n=>
  unfold wrF at e
  obtain⟨h1,h2⟩:=NC (agv (hk k n rfl) hf) e
  exact⟨by unfold zlf;rw[h1];rfl,h2⟩
 |str s=>
  unfold wrF at e
  rw[vg,List.append_assoc] at e
  unfold Bv at hf
  obtain⟨h1,h2⟩:=NC (aaW hf) e
  have hs:s=⟨#[]⟩:=size_nil (by omega)
  refine⟨by show decide (s=⟨#[]⟩)=true;exact decide_eq_true hs,?_⟩
  rw[hs] at h2;exact h2
 |bool b=>
  cases b with
  |true=>unfold wrF at e;injection e with e1 _;cases e1
  |false=>unfold wrF at e;injection e with _ e2;exact⟨rfl,e2⟩
 |rows n l=>
  unfold wrF at e
  rw[vg,List.append_assoc] at e
  unfold Bv at hf
  obtain⟨h1,h2⟩:=NC (aaW hf.1) e
  have hl:l=[]:=List.eq_nil_of_length_eq_zero (by omega)
  refine⟨by unfold zlf;rw[hl];rfl,?_⟩
  rw[hl,wrQ] at h2;exact h2
theorem ND:∀l:List Lf,l.all zlf=true→(wrL l).data.toList=zs l.length
 |[],_=>by unfold wrL;rfl
 |x::r,h=>by
  rw[List.all_cons,Bool.and_eq_true] at h
  unfold wrL
  rw[vg,amR h.1,ND r h.2];rfl
theorem aaX:∀l:List Lf,jm l→allI l=true→(wrL l).data.toList=zs l.length→l.all zlf=true
 |[],_,_,_=>rfl
 |x::r,hf,hi,h=>by
  rw[pR] at hf
  unfold wrL at h
  rw[vg] at h
  have hi2:allI r=true∧∀k n,x=.int k n→k=.i64:=by
   cases x with
   |int k n=>
    unfold allI at hi
    rw[Bool.and_eq_true] at hi
    exact⟨hi.2,fun k' n' e=>by injection e with e1 _;subst e1;exact of_decide_eq_true hi.1⟩
   |str s=>unfold allI at hi;exact⟨hi,fun k' n' e=>by cases e⟩
   |bool b=>unfold allI at hi;exact⟨hi,fun k' n' e=>by cases e⟩
   |rows n l=>unfold allI at hi;exact⟨hi,fun k' n' e=>by cases e⟩
  obtain⟨h1,h2⟩:=amS hf.1 hi2.2 (show(wrF x).data.toList++(wrL r).data.toList=0::zs r.length from h)
  rw[List.all_cons,h1,aaX r hf.2 hi2.1 h2];rfl
theorem Ue{l z:List Lf}(hf:jm l)(hi:allI l=true)(hz:z.all zlf=true)(hl:l.length=z.length):decide (wrL l=wrL z)=l.all zlf:=by
 have h1:=ND z hz
 by_cases h:l.all zlf=true
 ·rw[h,decide_eq_true]
  apply ByteArray.ext
  apply Array.ext'
  rw[ND l h,h1,hl]
 ·rw[show l.all zlf=false by simpa using h, decide_eq_false]
  intro e
  rw[←e,←hl] at h1
  exact h (aaX l hf hi h1)
theorem vk:∀(l m:List Lf),allI (l++m)=(allI l&&allI m)
 |[],m=>rfl
 |x::r,m=>by
  rw[List.cons_append]
  cases x<;>simp only[allI,vk r m,Bool.and_assoc]
theorem NG(v:ah):allI v.lf1=true:=rfl
theorem aaY(s:aI):allI s.lf1=true:=by
 unfold aI.lf1;simp only[vk,NG];rfl
theorem ah5(s:aT):allI s.lf1=true:=by
 unfold aT.lf1;simp only[vk,NG];rfl
theorem ah6(s:aP):allI s.lf1=true:=by
 unfold aP.lf1 dP.lf1;simp only[vk,NG,ah5];rfl
theorem aei(s:aU):allI s.lf1=true:=by
 unfold aU.lf1;simp only[vk,ah6];rfl
theorem aej(s:cu):allI s.lf1=true:=by
 unfold cu.lf1;simp only[vk,aaY];rfl
theorem aaZ(d:cu)(hb:aW d.lf1≤100000000)(hf:jm d.lf1):atT d=some (d.lf1.all zlf):=by
 have h1:=CG d.lf1
 have h2:=MN d hb ⟨⟨#[]⟩,false,true⟩ rfl (by show 0+_≤_;omega)
 have hz:aW (cu.mk ⟨#[]⟩ [] aI.z 0 0).lf1=25:=by kernel_rfl
 have h3:=CG (cu.mk ⟨#[]⟩ [] aI.z 0 0).lf1
 have h4:=MN (cu.mk ⟨#[]⟩ [] aI.z 0 0) (by omega) ⟨⟨#[]⟩,false,true⟩ rfl (by show 0+_≤_;omega)
 have hc:=Ue (z:=(cu.mk ⟨#[]⟩ [] aI.z 0 0).lf1) hf (aej d) (by kernel_rfl) (by unfold cu.lf1 aI.lf1 ah.lf1;rfl)
 have e:∀x:ByteArray,(⟨#[]⟩:ByteArray)++x=x:=fun x=>ByteArray.empty_append
 simp only[atT,aly,QJ,Mo.den,ak,aj,aA,au,ay,h2,h4,Option.bind_some,e,hc,dH,gt0]
 unfold cu.lf1
 simp only[List.cons_append,List.nil_append,List.all_cons,zlf,List.length_map]
 cases decide (d.fName=⟨#[]⟩)<;>cases (d.bV.length:Int)==0<;>rfl
theorem Ir(d:aU)(hb:aW d.lf1≤100000000)(hf:jm d.lf1):atU d=some (d.lf1.all zlf):=by
 have h1:=CG d.lf1
 have h2:=EO d hb ⟨⟨#[]⟩,false,true⟩ rfl (by show 0+_≤_;omega)
 have hz:aW aU.z.lf1=31:=by kernel_rfl
 have h3:=CG aU.z.lf1
 have h4:=EO aU.z (by omega) ⟨⟨#[]⟩,false,true⟩ rfl (by show 0+_≤_;omega)
 have hc:=Ue (z:=aU.z.lf1) hf (aei d) (by kernel_rfl) (by unfold aU.lf1 aP.lf1 aT.lf1 dP.lf1 ah.lf1;rfl)
 have e:∀x:ByteArray,(⟨#[]⟩:ByteArray)++x=x:=fun x=>ByteArray.empty_append
 simp only[atU,alz,Mo.den,ak,aj,aA,au,ay,h2,h4,Option.bind_some,e,hc]
theorem amT(v:ah):v.lf1.all zlf=jJ v:=by
 unfold ah.lf1 jJ
 simp only[List.all_cons,List.all_nil,zlf,List.length_map,Bool.and_true,Bool.and_assoc]
theorem NH(s:aI):Q23 s=some (s.lf1.all zlf):=by
 unfold aI.lf1
 simp only[Q23,akm,dG,OV,OU,OT,OQ,OO,OM,OL,OJ,OI,OH,Yx,Yw,Mo.den,ak,aj,aA,au,ay,EZ,Option.bind_some,dH,nZ,List.all_append,List.all_cons,List.all_nil,amT,zlf,List.length_map,Bool.and_true,Bool.and_assoc]
theorem Oe(d:cu):Q94 d=some (d.lf1.all zlf):=by
 unfold cu.lf1
 simp only[Q94,akn,dG,OX,OW,Yz,Yy,Mo.den,ak,aj,aA,au,ay,NH,Option.bind_some,dH,nZ,List.all_append,List.all_cons,List.all_nil,zlf,List.length_map,Bool.and_true,Bool.and_assoc]
theorem Xl(s:aT):Q11 s=some (s.lf1.all zlf):=by
 unfold aT.lf1
 simp only[Q11,ako,dG,mV,mQ,OY,mP,oH,oG,Mo.den,ak,aj,aA,au,ay,EZ,Option.bind_some,dH,nZ,List.all_append,List.all_cons,List.all_nil,amT,zlf,List.length_map,Bool.and_true,Bool.and_assoc]
theorem Xm(s:aP):Q20 s=some (s.lf1.all zlf):=by
 unfold aP.lf1 dP.lf1
 simp only[Q20,akp,dG,zJ,OZ,zH,zG,zF,zC,zB,zA,YA,um,Mo.den,ak,aj,aA,au,ay,EZ,Xl,Option.bind_some,dH,nZ,List.all_append,List.all_cons,List.all_nil,amT,zlf,List.length_map,Bool.and_true,Bool.and_assoc]
theorem Og(x:aU):Q57 x=some (x.lf1.all zlf):=by
 unfold aU.lf1
 simp only[Q57,akq,dG,O6,O5,O4,O1,YC,YB,Mo.den,ak,aj,aA,au,ay,Xm,Option.bind_some,dH,nZ,List.all_append,List.all_cons,List.all_nil,zlf,List.length_map,Bool.and_true,Bool.and_assoc]
end Go.Proofs.YtbdcaeahocbkbaaGreatDoor
set_option linter.unusedSimpArgs false
set_option linter.unusedVariables false
namespace Go.Proofs.YtbdcaeahocbkbaaGreatDoor
open Go.RowKit
theorem ah7{v:ah}(h:jm v.lf1):I64 v.je∧(∀x∈v.bF,jm x.lf1)∧∀f∈v.bC,jm f.fValue.lf1:=by
 unfold ah.lf1 at h
 simp only[pR] at h
 obtain⟨_,a2,_,a4,a5,_⟩:=h
 refine⟨agv rfl a2,fun x hx=>?_,fun f hf=>?_⟩
 ·have h2:=yZ a4 hx
  rw[ah.aX] at h2;exact h2
 ·have h2:=yZ a5 hf
  rw[aN.aX] at h2
  unfold aN.lf1 at h2
  exact(oQ.1 h2).2
theorem Uf{T1:ByteArray×Int→Option ((ByteArray×Int)⊕ByteArray)}{T2:Int×Int→Option ((Int×Int)⊕Int)}(n:Nat)(hn:n≤100000000)(B:Nat→Nat)
 (h:∀(k:Nat) (acc:ByteArray),k<n→acc.size+B k≤2000000000→∃s:ByteArray,s.size+B (k+1)≤B k∧T1 (acc,(k:Int))=some (.inl (acc++s,IntKind.wrap .i64 ((k:Int)+1)))∧T2 ((acc.size:Int),(k:Int))=some (.inl (((acc++s).size:Int),IntKind.wrap .i64 ((k:Int)+1))))
 (e1:∀acc,T1 (acc,(n:Int))=some (.inr acc)) (e2:∀z,T2 (z,(n:Int))=some (.inr z)):
 ∀m k F acc,k+m=n→m<F→acc.size+B k≤2000000000→∃r:ByteArray,r.size≤acc.size+B k∧bQ T1 F (acc,(k:Int))=some r∧bQ T2 F ((acc.size:Int),(k:Int))=some (r.size:Int):=by
 intro m
 induction m with
 |zero=>
  intro k F acc hk hF hb
  obtain⟨F,rfl⟩:∃G,F=G+1:=⟨F-1,by omega⟩
  obtain rfl:k=n:=by omega
  refine⟨acc,by omega,?_,?_⟩
  ·unfold bQ;rw[e1];rfl
  ·unfold bQ;rw[e2];rfl
 |succ m ih=>
  intro k F acc hk hF hb
  obtain⟨F,rfl⟩:∃G,F=G+1:=⟨F-1,by omega⟩
  obtain⟨s,hs,h1,h2⟩:=h k acc (by omega) hb
  have hsz:(acc++s).size=acc.size+s.size:=ByteArray.size_append
  obtain⟨r,hr,g1,g2⟩:=ih (k+1) F (acc++s) (by omega) (by omega) (by omega)
  refine⟨r,by omega,?_,?_⟩
  ·unfold bQ
   rw[h1]
   simp only[Option.bind_some]
   rw[inc k (by omega)];exact g1
  ·unfold bQ
   rw[h2]
   simp only[Option.bind_some]
   rw[inc k (by omega)];exact g2
theorem drop_cons'{α:Type}(f:α→List Lf){l:List α}{k:Nat}{x:α}(h:l[k]?=some x):bM ((l.drop k).map f)=aW (f x)+bM ((l.drop (k+1)).map f):=by
 have hk:=pI h
 have hx:l[k]=x:=by rw[List.getElem?_eq_getElem hk] at h;exact Option.some.inj h
 rw[List.drop_eq_getElem_cons hk,hx,List.map_cons];rfl
theorem Jt{n:Nat}(h:n≤4000000000000):I64 (n:Int):=by unfold I64;omega
theorem sn1(x:Int):(strOfNums [x]).size=1:=strOfNums_size _
theorem vw{n:Int}(h:I64 n):(dM (zz n)).length≤10:=by unfold dM;rw[List.length_map];exact Je (zz n) (aiW n h)
theorem ah8(n:Nat):∀(F G:Nat) (v:ah),aW v.lf1<n→n≤F→n≤G→aW v.lf1≤100000000→jm v.lf1→∃s:ByteArray,s.size≤12*aW v.lf1∧(vW F).m1 v=some s∧(ny G).m1 v=some (s.size:Int):=by
 induction n with
 |zero=>intro F G v h;omega
 |succ n ih=>
  intro F G v hlt hF hG hb hf
  obtain⟨F,rfl⟩:∃K,F=K+1:=⟨F-1,by omega⟩
  obtain⟨G,rfl⟩:∃K,G=K+1:=⟨G-1,by omega⟩
  have hp:=dA v
  have hl:=fV v.bF
  have hd:=gG v.bC
  obtain⟨f1,f2,f3⟩:=ah7 hf
  have iT:=Jt (n:=v.fText.size) (by omega)
  have iL:=Jt (n:=v.bF.length) (by omega)
  have iD:=Jt (n:=v.bC.length) (by omega)
  have bI:=vw f1
  have bT:=vw iT
  have bL:=vw iL
  have bD:=vw iD
  have hL:∀acc:ByteArray,acc.size≤1000→∃r:ByteArray,r.size≤acc.size+12*bM (v.bF.map ah.lf)∧afP (vW F) v acc 0=some r∧afw (ny G) v (acc.size:Int) 0=some (r.size:Int):=fun acc ha=>by
   refine Uf v.bF.length (by omega) (fun k=>12*bM ((v.bF.drop k).map ah.lf)) (fun k acc hk hacc=>?_) (fun acc=>by simp only[Ah,Mo.den,ak,aj,aA,au,ay,ltn,cond_false]) (fun z=>by simp only[uy,Mo.den,ak,aj,aA,au,ay,ltn,cond_false]) v.bF.length 0 FU acc (by omega) (by have:=iw;omega) (by rw[List.drop_zero];omega)
   obtain⟨x,hx⟩:∃x,v.bF[k]?=some x:=⟨_,List.getElem?_eq_getElem hk⟩
   have hm:=jg (iH hx)
   have hdr:=drop_cons' ah.lf hx
   rw[ah.aX] at hdr
   obtain⟨s,hs,h1,h2⟩:=ih F G x (by omega) (by omega) (by omega) (by omega) (f2 x (iH hx))
   have hacc:acc.size+12*bM ((v.bF.drop k).map ah.lf)≤2000000000:=hacc
   have hsz:(acc++s).size=acc.size+s.size:=ByteArray.size_append
   refine⟨s,by show s.size+12*bM ((v.bF.drop (k+1)).map ah.lf)≤12*bM ((v.bF.drop k).map ah.lf);omega,?_,?_⟩
   ·simp only[Ah,Mo.den,ak,aj,aA,au,ay,ltt hx,gid hx,cond_true,Option.bind_some,h1]
    rw[if_pos (by omega)]
   ·simp only[uy,Mo.den,ak,aj,aA,au,ay,ltt hx,gid hx,cond_true,Option.bind_some,h2]
    rw[hsz,w64 (by omega) (by omega)];rfl
  have hD:∀acc:ByteArray,acc.size≤1000→∃r:ByteArray,r.size≤acc.size+12*bM (v.bC.map aN.lf)∧afQ (vW F) v acc 0=some r∧afx (ny G) v (acc.size:Int) 0=some (r.size:Int):=fun acc ha=>by
   refine Uf v.bC.length (by omega) (fun k=>12*bM ((v.bC.drop k).map aN.lf)) (fun k acc hk hacc=>?_) (fun acc=>by simp only[Ai,Mo.den,ak,aj,aA,au,ay,ltn,cond_false]) (fun z=>by simp only[uz,Mo.den,ak,aj,aA,au,ay,ltn,cond_false]) v.bC.length 0 FU acc (by omega) (by have:=iw;omega) (by rw[List.drop_zero];omega)
   obtain⟨x,hx⟩:∃x,v.bC[k]?=some x:=⟨_,List.getElem?_eq_getElem hk⟩
   have hm:=gB (iH hx)
   have hdr:=drop_cons' aN.lf hx
   rw[aN.aX,fP] at hdr
   rw[fP] at hm
   have iN:=Jt (n:=x.fName.size) (by omega)
   have bN:=vw iN
   obtain⟨s,hs,h1,h2⟩:=ih F G x.fValue (by omega) (by omega) (by omega) (by omega) (f3 x (iH hx))
   have hacc:acc.size+12*bM ((v.bC.drop k).map aN.lf)≤2000000000:=hacc
   have hnz:(strOfNums (dM (zz (x.fName.size:Int)))).size=(dM (zz (x.fName.size:Int))).length:=strOfNums_size _
   have z1:(acc++strOfNums (dM (zz (x.fName.size:Int)))).size=acc.size+(dM (zz (x.fName.size:Int))).length:=by rw[ByteArray.size_append,hnz]
   have z2:(acc++strOfNums (dM (zz (x.fName.size:Int)))++x.fName).size=acc.size+(dM (zz (x.fName.size:Int))).length+x.fName.size:=by rw[ByteArray.size_append,z1]
   have hsz:(acc++(strOfNums (dM (zz (x.fName.size:Int)))++x.fName++s)).size=acc.size+((dM (zz (x.fName.size:Int))).length+x.fName.size+s.size):=by rw[ByteArray.size_append,ByteArray.size_append,ByteArray.size_append,hnz]
   refine⟨strOfNums (dM (zz (x.fName.size:Int)))++x.fName++s,?_,?_,?_⟩
   ·show _+12*bM ((v.bC.drop (k+1)).map aN.lf)≤12*bM ((v.bC.drop k).map aN.lf)
    rw[ByteArray.size_append,ByteArray.size_append,hnz];omega
   ·simp only[Ai,Mo.den,ak,aj,aA,au,ay,ltt hx,gid hx,cond_true,Option.bind_some,h1,uZ _ iN]
    rw[hnz,if_pos (by omega),z1,if_pos (by omega),z2,if_pos (by omega)]
    simp only[ByteArray.append_assoc]
   ·simp only[uz,Mo.den,ak,aj,aA,au,ay,ltt hx,gid hx,cond_true,Option.bind_some,h2,rH _ iN]
    rw[hsz,w64 (x:=((dM (zz (x.fName.size:Int))).length:Int)+(x.fName.size:Int)) (by omega) (by omega),w64 (x:=((dM (zz (x.fName.size:Int))).length:Int)+(x.fName.size:Int)+(s.size:Int)) (by omega) (by omega),w64 (by omega) (by omega)];rfl
  have key:∃s:ByteArray,s.size≤12*aW v.lf1∧Jm (vW F) v=some s∧Vp (ny G) v=some (s.size:Int):=by
   have zI:(strOfNums (dM (zz v.je))).size=(dM (zz v.je)).length:=strOfNums_size _
   have zT:(strOfNums (dM (zz (v.fText.size:Int)))).size=(dM (zz (v.fText.size:Int))).length:=strOfNums_size _
   have zL:(strOfNums (dM (zz (v.bF.length:Int)))).size=(dM (zz (v.bF.length:Int))).length:=strOfNums_size _
   have zD:(strOfNums (dM (zz (v.bC.length:Int)))).size=(dM (zz (v.bC.length:Int))).length:=strOfNums_size _
   unfold Jm G5 Vp GK
   simp only[Mo.den,ak,aj,aA,au,ay,Zr,Zt,KJ,KL,dH,Option.bind_some,uZ _ f1,uZ _ iT,uZ _ iL,uZ _ iD,rH _ f1,rH _ iT,rH _ iL,rH _ iD]
   generalize (bif v.aK==3 then v.aK==3 else v.aK==10)=q1
   generalize (bif v.aK==4 then v.aK==4 else v.aK==7)=q2
   cases q1 with
   |true=>
    simp only[cond_true]
    have z:(strOfNums [IntKind.wrap .u8 v.aK]++strOfNums (dM (zz v.je))).size=1+(dM (zz v.je)).length:=by rw[ByteArray.size_append,sn1,zI]
    refine⟨_,?_,by rw[sn1,zI,if_pos (by omega)],by rw[z,w64 (by omega) (by omega)];rfl⟩
    rw[z];omega
   |false=>
   simp only[cond_false]
   cases v.aK==9 with
   |true=>
    simp only[cond_true]
    refine⟨strOfNums [IntKind.wrap .u8 v.aK]++strOfNums [IntKind.wrap .u8 v.je],?_,by rw[sn1,sn1,if_pos (by omega)],by rw[ByteArray.size_append,sn1,sn1];rfl⟩
    rw[ByteArray.size_append,sn1,sn1];omega
   |false=>
   simp only[cond_false]
   cases q2 with
   |true=>
    simp only[cond_true]
    have z0:(strOfNums [IntKind.wrap .u8 v.aK]++strOfNums (dM (zz (v.fText.size:Int)))).size=1+(dM (zz (v.fText.size:Int))).length:=by rw[ByteArray.size_append,sn1,zT]
    have z:(strOfNums [IntKind.wrap .u8 v.aK]++strOfNums (dM (zz (v.fText.size:Int)))++v.fText).size=1+(dM (zz (v.fText.size:Int))).length+v.fText.size:=by rw[ByteArray.size_append,z0]
    refine⟨_,?_,by rw[sn1,zT,if_pos (by omega),z0,if_pos (by omega)],by rw[z,w64 (x:=((dM (zz (v.fText.size:Int))).length:Int)+(v.fText.size:Int)) (by omega) (by omega),w64 (by omega) (by omega)];congr 1;omega⟩
    rw[z];omega
   |false=>
   simp only[cond_false]
   cases v.aK==8 with
   |true=>
    simp only[cond_true]
    have z:(strOfNums [IntKind.wrap .u8 v.aK]++v.fText).size=1+v.fText.size:=by rw[ByteArray.size_append,sn1]
    refine⟨_,?_,by rw[sn1,if_pos (by omega)],by rw[z,w64 (by omega) (by omega)];rfl⟩
    rw[z];omega
   |false=>
   simp only[cond_false]
   cases v.aK==6 with
   |true=>
    simp only[cond_true]
    have z:(strOfNums [IntKind.wrap .u8 v.aK]++strOfNums (dM (zz (v.bF.length:Int)))).size=1+(dM (zz (v.bF.length:Int))).length:=by rw[ByteArray.size_append,sn1,zL]
    obtain⟨r,hr,g1,g2⟩:=hL _ (show(strOfNums [IntKind.wrap .u8 v.aK]++strOfNums (dM (zz (v.bF.length:Int)))).size≤1000 by omega)
    rw[z] at g2
    refine⟨r,by omega,by rw[sn1,zL,if_pos (by omega),g1];rfl,?_⟩
    rw[w64 (by omega) (by omega),show(1:Int)+((dM (zz (v.bF.length:Int))).length:Int)=((1+(dM (zz (v.bF.length:Int))).length:Nat):Int) by omega,g2];rfl
   |false=>
   simp only[cond_false]
   cases v.aK==5 with
   |true=>
    simp only[cond_true]
    have z:(strOfNums [IntKind.wrap .u8 v.aK]++strOfNums (dM (zz (v.bC.length:Int)))).size=1+(dM (zz (v.bC.length:Int))).length:=by rw[ByteArray.size_append,sn1,zD]
    obtain⟨r,hr,g1,g2⟩:=hD _ (show(strOfNums [IntKind.wrap .u8 v.aK]++strOfNums (dM (zz (v.bC.length:Int)))).size≤1000 by omega)
    rw[z] at g2
    refine⟨r,by omega,by rw[sn1,zD,if_pos (by omega),g1];rfl,?_⟩
    rw[w64 (by omega) (by omega),show(1:Int)+((dM (zz (v.bC.length:Int))).length:Int)=((1+(dM (zz (v.bC.length:Int))).length:Nat):Int) by omega,g2];rfl
   |false=>
    simp only[cond_false]
    exact⟨_,by rw[sn1];omega,rfl,by rw[sn1];rfl⟩
  obtain⟨s,hs,g1,g2⟩:=key
  refine⟨s,hs,?_,?_⟩
  ·show Mo.den (afR (vW F) v)=_
   unfold afR
   simp only[Mo.den,ak,aj,aA,au,ay,g1,Option.bind_some]
  ·show Mo.den (YM (ny G) v)=_
   unfold YM
   simp only[Mo.den,ak,aj,aA,au,ay,g2,Option.bind_some]
theorem ah9(v:ah)(hb:aW v.lf1≤100000000)(hf:jm v.lf1):atY v=akH v∧∃c,akH v=some c∧(oP v=true→c.2=0):=by
 obtain⟨s,_,h1,h2⟩:=ah8 (aW v.lf1+1) FU FU v (by omega) (by have:=iw;omega) (by have:=iw;omega) hb hf
 have h1:Q17 v=some s:=h1
 have h2:Q34 v=some (s.size:Int):=h2
 simp only[atY,alD,Mo.den,ak,aj,aA,au,ay,avC,alm,Mo.den,ak,aj,aA,au,ay,akH,acJ,Mo.den,ak,aj,aA,au,ay,mD v hb,mX v hb,h1,h2,Option.bind_some]
 cases oP v with
 |false=>exact⟨rfl,_,rfl,fun h=>by cases h⟩
 |true=>exact⟨rfl,_,rfl,fun _=>rfl⟩
end Go.Proofs.YtbdcaeahocbkbaaGreatDoor
set_option linter.unusedSimpArgs false
set_option linter.unusedVariables false
namespace Go.Proofs.YtbdcaeahocbkbaaGreatDoor
open Go.RowKit
def zS(s:ByteArray):Bool:=decide (s=⟨#[]⟩)
theorem Ug{w:aH}(h:jm w.lf1):jm w.kM.lf1∧jm w.bP.lf1:=by
 unfold aH.lf1 at h
 simp only[oQ] at h
 exact⟨h.2.2.2.2.1,h.2.2.2.2.2.1⟩
theorem amU{x:aU}(h:jm x.lf1):jm (aU.Ox x ⟨#[]⟩).lf1:=by
 unfold aU.lf1 at h ⊢
 simp only[oQ,pR] at h ⊢
 obtain⟨⟨_,h2⟩,h3⟩:=h
 refine⟨⟨?_,h2⟩,h3⟩
 unfold Bv
 exact Nat.zero_le _
theorem Oh(w:aH):Q29 w=some (w.aK==0&&(zS w.iO&&(jJ w.jh&&(jJ w.bC&&(jJ w.eX&&(w.kM.lf1.all zlf&&(w.bP.lf1.all zlf&&(zS w.oz&&(w.dQ==0&&((w.dh.length:Int)==0&&((w.dZ.length:Int)==0&&!w.iK))))))))))):=by
 simp only[Q29,akr,dG,Pn,Pm,Pj,Ph,Pg,Pe,O9,O8,O7,YE,YD,Mo.den,ak,aj,aA,au,ay,EZ,Oe,Og,Option.bind_some,dH,nZ,Bool.and_assoc,zS]
theorem aa0(x:aU):aW (aU.Ox x ⟨#[]⟩).lf1≤aW x.lf1:=by
 rw[iR,iR]
 show 6+0+bM (x.gU.map bf.lf)+aW x.jr.lf1≤_
 omega
theorem ars:jJ (ah.mk 0 0 ⟨#[]⟩ [] [])=true:=rfl
theorem nil0{α:Type}:((([]:List α).length:Int)==0)=true:=rfl
theorem avS:decide ((⟨#[]⟩:ByteArray)=⟨#[]⟩)=true:=decide_eq_true rfl
theorem agw(k:Int):k=2∨k=3∨k=4∨k=5∨k=6∨k=7∨k=8∨k=9∨k=10∨k=11∨k=12∨(k<2∨12<k):=by omega
theorem NI:(cu.mk ⟨#[]⟩ [] aI.z 0 0).lf1.all zlf=true:=by unfold cu.lf1 aI.lf1 ah.lf1;rfl
theorem NJ:aU.z.lf1.all zlf=true:=by unfold aU.lf1 aP.lf1 aT.lf1 dP.lf1 ah.lf1;rfl
theorem Xn(w:aH)(hb:aW w.lf1≤100000000)(hf:jm w.lf1):Q15 w=Q25 w:=by
 have hp:=jl w
 have hfi:=Ug hf
 have hns:=aaZ w.kM (by omega) hfi.1
 have hni:=Ir w.bP (by omega) hfi.2
 have hnn:=Ir (aU.Ox w.bP ⟨#[]⟩) (by have:=aa0 w.bP;omega) (amU hfi.2)
 clear hp hfi hf hb
 cases w with
 |mk k sp key doc bef df ix tx st ws sh sil=>
 simp only[aH.kM,aH.bP] at hns hni hnn
 simp only[Q15,alB,QS,G8,G7,G6,QO,QN,QM,QL,QK,Zv,Zu,Mo.den,ak,aj,aA,au,ay,apq,VU,Mo.den,ak,aj,aA,au,ay,apn,VT,Mo.den,ak,aj,aA,au,ay,apr,VW,Mo.den,ak,aj,aA,au,ay,alA,Me,Mo.den,ak,aj,aA,au,ay,apH,Wq,Mo.den,ak,aj,aA,au,ay,Q25,aks,GH,Gz,Gy,Gx,Gw,Gv,Gu,Gt,Ky,Kw,Mo.den,ak,aj,aA,au,ay,akk,Kv,Mo.den,ak,aj,aA,au,ay,Oh,hns,hni,hnn,sG,Option.bind_some,aH.aK,aH.iO,aH.jh,aH.bC,aH.eX,aH.kM,aH.bP,aH.oz,aH.dQ,aH.dh,aH.dZ,aH.iK]
 rcases agw k with rfl|rfl|rfl|rfl|rfl|rfl|rfl|rfl|rfl|rfl|rfl|hk
 case inr.inr.inr.inr.inr.inr.inr.inr.inr.inr.inr=>
  have hne:∀c:Int,2≤c→c≤12→(k==c)=false:=fun c h1 h2=>by rw[beq_eq_false_iff_ne];omega
  have d1:(decide (2≤k)&&decide (k≤7))=false:=by
   rcases hk with h|h
   ·rw[decide_eq_false (by omega)];rfl
   ·rw[decide_eq_false (show ¬k≤7 by omega),Bool.and_false]
  have d2:(decide (9≤k)&&decide (k≤12))=false:=by
   rcases hk with h|h
   ·rw[decide_eq_false (by omega)];rfl
   ·rw[decide_eq_false (show ¬k≤12 by omega),Bool.and_false]
  simp only[Mo.den,ak,aj,aA,au,ay,hns,hni,hnn,Option.bind_some,cond_true,cond_false,aH.aK,aH.iO,aH.jh,aH.bC,aH.eX,aH.kM,aH.bP,aH.oz,aH.dQ,aH.dh,aH.dZ,aH.iK,aH.nG,aH.abn,aH.arO,aH.arP,aH.UF,aH.arQ,aH.tH,aH.arR,aH.abo,aH.UG,aH.UH,aH.UJ,aQ.z,aQ.vJ,aQ.agT,aQ.aiK,aQ.aiL,aQ.JM,aQ.qP,aQ.XZ,aQ.FN,aQ.zu,aQ.Dv,dH,nZ,NI,NJ,Int.reduceBEq,Int.reduceLE,Int.reduceBNe,decide_true,decide_false,bne,Bool.not_true,Bool.not_false,hne 2 (by omega) (by omega),hne 3 (by omega) (by omega),hne 4 (by omega) (by omega),hne 5 (by omega) (by omega),hne 6 (by omega) (by omega),hne 7 (by omega) (by omega),hne 8 (by omega) (by omega),hne 9 (by omega) (by omega),hne 10 (by omega) (by omega),hne 11 (by omega) (by omega),hne 12 (by omega) (by omega),d1,d2,Bool.false_and,Bool.and_false,Bool.true_and,Bool.and_true,cond_true,cond_false,zS,ars,avS,beq_self_eq_true]
  congr 1
  ac_rfl
 all_goals (simp(decide:=true) only[Mo.den,ak,aj,aA,au,ay,hns,hni,hnn,Option.bind_some,cond_true,cond_false,aH.aK,aH.iO,aH.jh,aH.bC,aH.eX,aH.kM,aH.bP,aH.oz,aH.dQ,aH.dh,aH.dZ,aH.iK,aH.nG,aH.abn,aH.arO,aH.arP,aH.UF,aH.arQ,aH.tH,aH.arR,aH.abo,aH.UG,aH.UH,aH.UJ,aQ.z,aQ.vJ,aQ.agT,aQ.aiK,aQ.aiL,aQ.JM,aQ.qP,aQ.XZ,aQ.FN,aQ.zu,aQ.Dv,dH,nZ,NI,NJ,Int.reduceBEq,Int.reduceLE,Int.reduceBNe,decide_true,decide_false,bne,Bool.not_true,Bool.not_false])
 all_goals (simp only[Bool.false_and,Bool.and_false,Bool.true_and,Bool.and_true,cond_true,cond_false,zS,ars,avS,nil0,beq_self_eq_true,Bool.and_true])
 all_goals (congr 1;ac_rfl)
end Go.Proofs.YtbdcaeahocbkbaaGreatDoor
set_option linter.unusedSimpArgs false
set_option linter.unusedVariables false
namespace Go.Proofs.YtbdcaeahocbkbaaGreatDoor
open Go.RowKit
theorem aek{v:ah}(h:oP v=true)(hk:¬v.aK=5):v.bC=[]:=by
 unfold oP at h
 rw[Bool.and_eq_true,Bool.and_eq_true] at h
 have hs:=h.2.2
 rw[adV] at hs
 simp only[Bool.and_eq_true] at hs
 have hh:=hs.1.1
 unfold FX at hh
 simp only[Bool.and_eq_true,Bool.or_eq_true,beq_iff_eq] at hh
 rcases hh.2 with h5|h0
 ·exact absurd h5 hk
 ·exact List.eq_nil_of_length_eq_zero h0
theorem Uh(d k:ah)(hd:aW d.lf1≤100000000)(hk:aW k.lf1≤100000000)(hf:jm d.lf1)(hi:¬k.aK=6∧¬k.aK=1∧¬k.aK=11):adD d k=Q84 d k:=by
 obtain⟨hL,⟨n,e⟩,hc,hce⟩:=ah9 d hd hf
 have hp:=dA d
 unfold adD alH Q84 akI
 simp only[Mo.den,ak,aj,aA,au,ay,QX,KN,KO,GL,avE,alE,Mo.den,ak,aj,aA,au,ay,avD,alC,MC,MB,QV,QU,Mo.den,ak,aj,aA,au,ay,hL,hc,mX d hd,mD d hd,Option.bind_some,dH]
 cases hv:oP d with
 |false=>cases d.aK != 5<;>rfl
 |true=>
  by_cases h5:¬d.aK=5
  ·have hn:=aek hv h5
   rw[show(d.aK != 5)=true from bne_iff_ne.2 h5,hn];rfl
  rw[show(d.aK != 5)=false by rw[Classical.not_not.1 h5];rfl]
  cases hD:d.bC with
  |nil=>rfl
  |cons f r=>
   have hm:f∈d.bC:=by rw[hD];exact List.mem_cons_self ..
   have hbf:=gB hm
   rw[fP] at hbf
   have hcmp:=aed f.fValue k (by omega) hk
   obtain⟨c,hcc,_⟩:=sH f.fValue k (by omega) hk
   have hg:fQ (f::r) 0=some f:=rfl
   have hl:(((f::r).length:Int)==0)=false:=by rw[beq_eq_false_iff_ne,List.length_cons];omega
   have he:e=0:=hce hv
   subst he
   simp only[hg,hl,hcmp,hcc,aoB,acH,Mo.den,ak,aj,aA,au,ay,Option.bind_some,dH,Bool.not_true,cond_true,cond_false,bne_self_eq_false]
   cases hname:decide (f.fName=(⟨#[95,105,100]⟩:ByteArray)) with
   |false=>rfl
   |true=>
    simp only[Bool.not_true,cond_false]
    by_cases hid:f.fValue.aK=6∨f.fValue.aK=1∨f.fValue.aK=11
    ·have hne:(f.fValue.aK != k.aK)=true:=by rw[bne_iff_ne];omega
     have hc0:(c==0)=false:=by
      rw[beq_eq_false_iff_ne]
      intro h0
      subst h0
      unfold Q37 at hcc
      obtain⟨G,hG⟩:=Xc
      rw[hG] at hcc
      have hcc:Mo.den (KG (jv G) f.fValue k)=some 0:=hcc
      unfold KG at hcc
      simp only[Mo.den,ak,aj,aA,au,ay,hne,cond_true,aaN,Option.bind_some] at hcc
      have hcc:=Option.some.inj hcc
      unfold Fa at hcc
      have hk2:¬f.fValue.aK=k.aK:=bne_iff_ne.1 hne
      rcases Int.lt_or_gt_of_ne hk2 with h1|h1
      ·rw[decide_eq_true h1] at hcc;cases hcc
      ·rw[decide_eq_false (by omega),decide_eq_true h1] at hcc;cases hcc
     rw[hc0]
     have hq:(bif bif f.fValue.aK==6 then true else f.fValue.aK==1 then true else f.fValue.aK==11)=true:=by
      rcases hid with h|h|h
      ·rw[h];rfl
      ·rw[h];rfl
      ·rw[h];rfl
     rw[hq];rfl
    ·have hq:(bif bif f.fValue.aK==6 then true else f.fValue.aK==1 then true else f.fValue.aK==11)=false:=by
      rw[show(f.fValue.aK==6)=false by rw[beq_eq_false_iff_ne];omega,show(f.fValue.aK==1)=false by rw[beq_eq_false_iff_ne];omega,show(f.fValue.aK==11)=false by rw[beq_eq_false_iff_ne];omega];rfl
     rw[hq]
     simp only[cond_false,Bool.not_true,bne]
     cases c==0 with
     |true=>cases decide ((16384:Int)<n)<;>rfl
     |false=>cases decide ((16384:Int)<n)<;>rfl
end Go.Proofs.YtbdcaeahocbkbaaGreatDoor
set_option linter.unusedSimpArgs false
set_option linter.unusedVariables false
namespace Go.Proofs.YtbdcaeahocbkbaaGreatDoor
open Go.RowKit
theorem aia(v:ah)(hb:aW v.lf1≤100000000):Q97 v=some (!(v.aK==6)&&(!(v.aK==1)&&(!(v.aK==11)&&oP v))):=by
 simp only[Q97,akD,dG,PN,YL,YK,Mo.den,ak,aj,aA,au,ay,mX v hb,Option.bind_some,dH,nZ,bne,Bool.and_assoc]
theorem ael(v:ah)(hb:aW v.lf1≤100000000):Q76 v=some (!(v.aK==6)&&(!(v.aK==1)&&(!(v.aK==11)&&oP v))):=by
 simp only[Q76,aq3,dG,QT,Zy,Zx,Mo.den,ak,aj,aA,au,ay,mD v hb,Option.bind_some,dH,nZ,bne,Bool.and_assoc]
 congr 1
 ac_rfl
def CY(l:List Int)(k:Nat):Option Unit:=match l[k]? with
 |some x=>hit (bif decide (x<0) then true else bif decide (8≤x) then true else bif decide (0<k) then decide (x≤l.getD (k-1) 0) else false)
 |none=>none
noncomputable def Fh(l:List Int):Bool:=(dF (CY l) 0 l.length).isNone&&decide ((0:Int)<(l.length:Int))
theorem agx{l:List Int}{k:Nat}(hk:k<l.length)(h0:0<k)(hl:l.length≤100000000):fQ l (IntKind.wrap .i64 ((k:Int)-1))=some (l.getD (k-1) 0):=by
 rw[w64 (by omega) (by omega),show(k:Int)-1=((k-1:Nat):Int) by omega,yc,List.getD_eq_getElem?_getD,List.getElem?_eq_getElem (show k-1<l.length by omega)];rfl
theorem aem(l:List Int)(hl:l.length≤100000000):Q48 l=some (Fh l):=by
 have hL:U9 l 0=some (jK (dF (CY l) 0 l.length)):=by
  try unfold U9
  refine dV _ l.length (by omega) (fun k hk=>?_) (by simp only[uo,Mo.den,ak,aj,aA,au,ay,ltn,cond_false])
  have hx:=List.getElem?_eq_getElem hk
  have hd:decide ((0:Int)<(k:Int))=decide (0<k):=by rw[decide_eq_decide];omega
  simp only[uo,Kz,KA,Mo.den,ak,aj,aA,au,ay,ltt hx,gid hx,cond_true,Option.bind_some,dH,hd,CY,hx]
  by_cases h0:0<k
  ·rw[agx hk h0 hl,decide_eq_true h0]
   simp only[Option.bind_some,cond_true,dH]
   cases decide (l[k]<0)<;>cases decide (8≤l[k])<;>cases decide (l[k]≤l.getD (k-1) 0)<;>rfl
  ·rw[decide_eq_false h0]
   simp only[cond_false,dH,Option.bind_some]
   cases decide (l[k]<0)<;>cases decide (8≤l[k])<;>rfl
 unfold Q48 akt Fh
 simp only[Mo.den,ak,aj,aA,au,ay,hL,Option.bind_some]
 cases dF (CY l) 0 l.length<;>rfl
theorem aa1(l:List Int)(hl:l.length≤100000000):Q78 l=some (Fh l):=by
 have hL:adB l 0=some (jK (dF (CY l) 0 l.length)):=by
  try unfold adB
  refine dV _ l.length (by omega) (fun k hk=>?_) (by simp only[Eo,Mo.den,ak,aj,aA,au,ay,ltn,cond_false])
  have hx:=List.getElem?_eq_getElem hk
  have hd:decide ((0:Int)<(k:Int))=decide (0<k):=by rw[decide_eq_decide];omega
  simp only[Eo,Zw,Mo.den,ak,aj,aA,au,ay,ltt hx,gid hx,cond_true,Option.bind_some,dH,hd,CY,hx]
  by_cases h0:0<k
  ·rw[agx hk h0 hl,decide_eq_true h0]
   simp only[Option.bind_some,cond_true,dH]
   cases decide (l[k]<0)<;>cases decide (8≤l[k])<;>cases decide (l[k]≤l.getD (k-1) 0)<;>rfl
  ·rw[decide_eq_false h0]
   simp only[cond_false,dH,Option.bind_some]
   cases decide (l[k]<0)<;>cases decide (8≤l[k])<;>rfl
 unfold Q78 aq2 Fh
 simp only[Mo.den,ak,aj,aA,au,ay,hL,Option.bind_some]
 cases dF (CY l) 0 l.length<;>rfl
theorem CZ(w:aH)(h:Q15 w=some true):(¬w.aK=10→¬w.aK=12→w.dQ=0)∧(¬w.aK=8→¬w.aK=9→w.dh=[]):=by
 unfold Q15 alB at h
 simp only[Mo.den,ak,aj,aA,au,ay] at h
 obtain⟨ix,_,h⟩:=iF h
 obtain⟨a1,_,h⟩:=iF h
 obtain⟨a2,_,h⟩:=iF h
 obtain⟨a3,_,h⟩:=iF h
 obtain⟨a4,_,h⟩:=iF h
 obtain⟨a5,_,h⟩:=iF h
 obtain⟨a6,_,h⟩:=iF h
 obtain⟨a7,h7,h⟩:=iF h
 obtain⟨a8,h8,h⟩:=iF h
 obtain⟨a9,h9,h⟩:=iF h
 obtain⟨_,_,h⟩:=iF h
 have e9:a9=true:=Option.some.inj h
 unfold G8 at h9
 unfold G7 at h8
 unfold G6 at h7
 simp only[Mo.den,ak,aj,aA,au,ay,alA,Me,Mo.den,ak,aj,aA,au,ay,dH,Option.bind_some] at h9 h8 h7
 have h9:=Option.some.inj h9
 have h8:=Option.some.inj h8
 have h7:=Option.some.inj h7
 rw[e9] at h9
 cases e8:a8 with
 |false=>rw[e8] at h9;cases h9
 |true=>
  rw[e8] at h8
  cases e7:a7 with
  |false=>rw[e7] at h8;cases h8
  |true=>
   rw[e7] at h8 h7
   simp only[cond_true] at h8
   refine⟨fun k1 k2=>?_,fun k1 k2=>?_⟩
   ·cases e6:a6 with
    |false=>rw[e6] at h7;cases h7
    |true=>
     rw[e6,show(w.aK==10)=false from beq_eq_false_iff_ne.2 k1,show(w.aK==12)=false from beq_eq_false_iff_ne.2 k2] at h7
     exact eq_of_beq h7
   ·rw[show(w.aK==8)=false from beq_eq_false_iff_ne.2 k1,show(w.aK==9)=false from beq_eq_false_iff_ne.2 k2] at h8
    exact len0 h8
theorem agy(R:yG)(w:aH)(lo hi:Int)(hb:aW w.lf1≤100000000)(hf:jm w.lf1)(h1:1≤lo)(h12:hi≤12):
 ∃o,Q3 w lo hi=some o∧Mo.den (adb R w lo hi)=bif o != 0 then some o else bif w.aK==4||w.aK==6 then some 0 else(vT R (bif w.aK==8 then 7 else bif w.aK==9 then 3 else hi) w 0).bind (Sum.elim some fun _=>some 0):=by
 have hp:=jl w
 have hfi:=Ug hf
 have hfd:jm w.bC.lf1∧jm w.eX.lf1:=by
  unfold aH.lf1 at hf
  simp only[oQ] at hf
  exact⟨hf.2.2.1,hf.2.2.2.1⟩
 have hsh:=jB w.dZ
 have hue:=Xn w hb hf
 have hem:=CZ w
 obtain⟨u,hu,_⟩:=kW w
 rw[hu] at hue
 rw[hue] at hem
 have hcat:∃c,Q61 w.kM=some c:=(sJ w.kM (by omega)).imp fun _ h=>h.1
 obtain⟨cat,hcat⟩:=hcat
 have hRcat:=(amP w.kM (by omega) (by have:=hfi.1;unfold cu.lf1 at this;simp only[oQ] at this;exact this.2.1)).trans hcat
 obtain⟨ixv,hix⟩:∃c,YX w.bP=some c:=(kK w.bP (by omega)).imp fun _ h=>h.1
 have hRix:=(aaQ w.bP (by omega)).trans hix
 obtain⟨d1,hd1⟩:∃c,Q84 w.bC w.jh=some c:=(nT w.bC w.jh (by omega) (by omega)).imp fun _ h=>h.1
 obtain⟨d2,hd2⟩:∃c,Q84 w.eX w.jh=some c:=(nT w.eX w.jh (by omega) (by omega)).imp fun _ h=>h.1
 have hq1:(!(w.jh.aK==6)&&(!(w.jh.aK==1)&&(!(w.jh.aK==11)&&oP w.jh)))=true→adD w.bC w.jh=some d1∧adD w.eX w.jh=some d2:=fun h=>by
  simp only[Bool.and_eq_true,Bool.not_eq_true',beq_eq_false_iff_ne] at h
  exact⟨(Uh w.bC w.jh (by omega) (by omega) hfd.1 ⟨h.1,h.2.1,h.2.2.1⟩).trans hd1,(Uh w.eX w.jh (by omega) (by omega) hfd.2 ⟨h.1,h.2.1,h.2.2.1⟩).trans hd2⟩
 have hv1:=aia w.jh (by omega)
 have hv2:=ael w.jh (by omega)
 have hs1:=aem w.dZ (by omega)
 have hs2:=aa1 w.dZ (by omega)
 clear hp hfi hfd hsh hb hf
 unfold Q3 ap3 adb
 simp only[Mo.den,ak,yY,au,ay,VO,VP,LK,LM,LQ,LU,LV,LW,LX,LY,Jo,Jp,EG,Z4,Z5,Z7,Z8,Z9,aac,aad,aae,aaf,aag,aah,aai,aaj,aak,hu,hue,hcat,hRcat,hix,hRix,atc,acK,PO,Mo.den,ak,aj,aA,au,ay,hd1,hd2,hv1,hv2,hs1,hs2,qO,TB,EZ,sG,as3,acF,Po,Mo.den,ak,aj,aA,au,ay,Option.bind_some,dH,nZ,Xh]
 generalize (!(w.jh.aK==6)&&(!(w.jh.aK==1)&&(!(w.jh.aK==11)&&oP w.jh)))=idk at *
 generalize hk:w.aK=k at *
 generalize adD w.bC w.jh=S1 at *
 generalize adD w.eX w.jh=S2 at *
 generalize vT R=L at *
 have hst:¬k=10→¬k=12→u=true→decide (w.dQ<0)=false∧decide (1099511627776<w.dQ)=false:=fun a b c=>by
  subst c
  rw[(hem rfl).1 a b];exact⟨rfl,rfl⟩
 have n1:decide (1≤w.dQ)=!decide (w.dQ<1):=by rw[Bool.eq_iff_iff];simp
 have n0:decide (0≤w.dQ)=!decide (w.dQ<0):=by rw[Bool.eq_iff_iff];simp
 have nM:decide (w.dQ≤1099511627776)=!decide (1099511627776<w.dQ):=by rw[Bool.eq_iff_iff];simp
 have n10:decide (w.dQ<1)=false→decide (w.dQ<0)=false:=fun h=>by
  have:=of_decide_eq_false h
  exact decide_eq_false (by omega)
 clear hem hs1 hs2 hv1 hv2 hd1 hd2 hix hRix hcat hRcat hue hu
 rcases agw k with rfl|rfl|rfl|rfl|rfl|rfl|rfl|rfl|rfl|rfl|rfl|hk2
 case inr.inr.inr.inr.inr.inr.inr.inr.inr.inr.inr=>
  have hne:∀c:Int,2≤c→c≤12→(k==c)=false:=fun c h1 h2=>by rw[beq_eq_false_iff_ne];omega
  have d1':(decide (2≤k)&&decide (k≤7))=false:=by
   rcases hk2 with h|h
   ·rw[decide_eq_false (by omega)];rfl
   ·rw[decide_eq_false (show ¬k≤7 by omega),Bool.and_false]
  have d2':(decide (9≤k)&&decide (k≤12))=false:=by
   rcases hk2 with h|h
   ·rw[decide_eq_false (by omega)];rfl
   ·rw[decide_eq_false (show ¬k≤12 by omega),Bool.and_false]
  have hst:=hst (by omega) (by omega)
  simp only[akk,Kv,Mo.den,ak,aj,aA,au,ay,apq,VU,Mo.den,ak,aj,aA,au,ay,apn,VT,Mo.den,ak,aj,aA,au,ay,apr,VW,Mo.den,ak,aj,aA,au,ay,alA,Me,Mo.den,ak,aj,aA,au,ay,apH,Wq,Mo.den,ak,aj,aA,au,ay,aQ.z,aQ.vJ,aQ.agT,aQ.aiK,aQ.aiL,aQ.JM,aQ.qP,aQ.XZ,aQ.FN,aQ.zu,aQ.Dv,Option.bind_some,dH,nZ,Xh,Int.reduceBEq,Int.reduceLE,Int.reduceLT,Int.reduceBNe,decide_true,decide_false,bne,Bool.not_true,Bool.not_false,cond_true,cond_false,Bool.or_false,Bool.false_or,Bool.true_or,Bool.or_true,Bool.true_and,Bool.false_and,Bool.and_true,Bool.and_false,Sum.elim_inl,Sum.elim_inr,hne 2 (by omega) (by omega),hne 3 (by omega) (by omega),hne 4 (by omega) (by omega),hne 5 (by omega) (by omega),hne 6 (by omega) (by omega),hne 7 (by omega) (by omega),hne 8 (by omega) (by omega),hne 9 (by omega) (by omega),hne 10 (by omega) (by omega),hne 11 (by omega) (by omega),hne 12 (by omega) (by omega),d1',d2']
  generalize decide (w.dQ<0)=s0 at *
  generalize decide (1099511627776<w.dQ)=sM at *
  generalize decide (256<(w.dh.length:Int))=B at *
  generalize decide (k<lo)=A1 at *
  generalize decide (hi<k)=A2 at *
  cases u<;>cases A1<;>cases A2<;>cases B<;>cases s0<;>cases sM<;>first|exact⟨_,rfl,rfl⟩|(exact absurd (hst rfl).1 (by decide))|(exact absurd (hst rfl).2 (by decide))
 all_goals simp(decide:=true) only[akk,Kv,Mo.den,ak,aj,aA,au,ay,apq,VU,Mo.den,ak,aj,aA,au,ay,apn,VT,Mo.den,ak,aj,aA,au,ay,apr,VW,Mo.den,ak,aj,aA,au,ay,alA,Me,Mo.den,ak,aj,aA,au,ay,apH,Wq,Mo.den,ak,aj,aA,au,ay,aQ.z,aQ.vJ,aQ.agT,aQ.aiK,aQ.aiL,aQ.JM,aQ.qP,aQ.XZ,aQ.FN,aQ.zu,aQ.Dv,Option.bind_some,dH,nZ,Xh,Int.reduceBEq,Int.reduceLE,Int.reduceLT,Int.reduceBNe,decide_true,decide_false,bne,Bool.not_true,Bool.not_false,cond_true,cond_false,Bool.or_false,Bool.false_or,Bool.true_or,Bool.or_true,Bool.true_and,Bool.false_and,Bool.and_true,Bool.and_false,Sum.elim_inl,Sum.elim_inr,n1,n0,nM]
 all_goals generalize decide (w.dQ<0)=s0 at *
 all_goals generalize decide (w.dQ<1)=s1 at *
 all_goals generalize decide (1099511627776<w.dQ)=sM at *
 all_goals generalize decide (256<(w.dh.length:Int))=B at *
 all_goals generalize ((w.dh.length:Int)==0)=z at *
 all_goals generalize nameB w.iO=ns at *
 all_goals generalize nameB w.oz=nt at *
 all_goals generalize nameB w.bP.fName=ni at *
 all_goals generalize Fh w.dZ=sb at *
 all_goals generalize jJ w.eX=mb at *
 ·have hst:=hst (by decide) (by decide)
  generalize (decide (2<lo)||decide (hi<2))=A at *
  cases u with
  |false=>cases A<;>exact⟨_,rfl,rfl⟩
  |true=>
   obtain⟨rfl,rfl⟩:=hst rfl
   cases A with
   |true=>exact⟨_,rfl,rfl⟩
   |false=>
   cases B with
   |true=>exact⟨_,rfl,rfl⟩
   |false=>
   cases ns with
   |false=>exact⟨_,rfl,rfl⟩
   |true=>
   cases idk with
   |false=>exact⟨_,rfl,rfl⟩
   |true=>
    obtain⟨rfl,rfl⟩:=hq1 rfl
    simp only[Option.bind_some,cond_true,cond_false,Bool.not_true,Bool.not_false,Bool.or_false,Sum.elim_inr]
    cases e1:d1==0 with
    |false=>exact⟨d1,rfl,by rw[e1];simp only[Bool.not_false,cond_true,Sum.elim_inl,Option.bind_some,e1]⟩
    |true=>
     simp only[Bool.not_true,cond_false,Sum.elim_inr,Option.bind_some]
     cases mb with
     |true=>exact⟨0,rfl,rfl⟩
     |false=>
      simp only[Bool.not_false,cond_true,cond_false,Option.bind_some]
      cases e2:d2==0 with
      |false=>exact⟨d2,rfl,by rw[e2];rfl⟩
      |true=>exact⟨0,rfl,rfl⟩
 ·have hst:=hst (by decide) (by decide)
  generalize (decide (3<lo)||decide (hi<3))=A at *
  cases u with
  |false=>cases A<;>exact⟨_,rfl,rfl⟩
  |true=>
   obtain⟨rfl,rfl⟩:=hst rfl
   cases A with
   |true=>exact⟨_,rfl,rfl⟩
   |false=>
   cases B with
   |true=>exact⟨_,rfl,rfl⟩
   |false=>
   cases ns with
   |false=>exact⟨_,rfl,rfl⟩
   |true=>
   cases idk with
   |false=>exact⟨_,rfl,rfl⟩
   |true=>
    obtain⟨_,rfl⟩:=hq1 rfl
    cases mb with
    |true=>exact⟨0,rfl,rfl⟩
    |false=>
     simp only[Option.bind_some,cond_true,cond_false,Bool.not_true,Bool.not_false,Bool.or_false]
     cases e2:d2==0 with
     |false=>exact⟨d2,rfl,by rw[e2];rfl⟩
     |true=>exact⟨0,rfl,rfl⟩
 ·have hst:=hst (by decide) (by decide)
  generalize (decide (4<lo)||decide (hi<4))=A at *
  cases u<;>cases A<;>cases B<;>cases s0<;>cases sM<;>first|exact⟨_,rfl,rfl⟩|(exact absurd (hst rfl).1 (by decide))|(exact absurd (hst rfl).2 (by decide))|(refine⟨_,rfl,?_⟩;show some cat=some (bif !(cat==0) then cat else 0);cases e:cat==0 with|true=>rw[eq_of_beq e];rfl|false=>rfl)
 ·have hst:=hst (by decide) (by decide)
  generalize (decide (5<lo)||decide (hi<5))=A at *
  cases u<;>cases A<;>cases B<;>cases ns<;>cases s0<;>cases sM<;>first|exact⟨_,rfl,rfl⟩|(exact absurd (hst rfl).1 (by decide))|(exact absurd (hst rfl).2 (by decide))
 ·have hst:=hst (by decide) (by decide)
  generalize (decide (6<lo)||decide (hi<6))=A at *
  cases u<;>cases A<;>cases B<;>cases ns<;>cases s0<;>cases sM<;>first|exact⟨_,rfl,rfl⟩|(exact absurd (hst rfl).1 (by decide))|(exact absurd (hst rfl).2 (by decide))|(refine⟨_,rfl,?_⟩;show some ixv=some (bif !(ixv==0) then ixv else 0);cases e:ixv==0 with|true=>rw[eq_of_beq e];rfl|false=>rfl)
 ·have hst:=hst (by decide) (by decide)
  generalize (decide (7<lo)||decide (hi<7))=A at *
  cases u<;>cases A<;>cases B<;>cases ns<;>cases ni<;>cases s0<;>cases sM<;>first|exact⟨_,rfl,rfl⟩|(exact absurd (hst rfl).1 (by decide))|(exact absurd (hst rfl).2 (by decide))
 ·have hst:=hst (by decide) (by decide)
  generalize (decide (8<lo)||decide (hi<8))=A at *
  cases u<;>cases A<;>cases B<;>cases z<;>cases s0<;>cases sM<;>first|exact⟨_,rfl,rfl⟩|(exact absurd (hst rfl).1 (by decide))|(exact absurd (hst rfl).2 (by decide))
 ·have hst:=hst (by decide) (by decide)
  generalize (decide (9<lo)||decide (hi<9))=A at *
  cases u<;>cases A<;>cases B<;>cases z<;>cases nt<;>cases s0<;>cases sM<;>first|exact⟨_,rfl,rfl⟩|(exact absurd (hst rfl).1 (by decide))|(exact absurd (hst rfl).2 (by decide))
 ·generalize (decide (10<lo)||decide (hi<10))=A at *
  cases u<;>cases A<;>cases B<;>cases nt<;>cases s1<;>cases s0<;>cases sM<;>first|exact⟨_,rfl,rfl⟩|(exact absurd (n10 rfl) (by decide))
 ·have hst:=hst (by decide) (by decide)
  generalize (decide (11<lo)||decide (hi<11))=A at *
  cases u<;>cases A<;>cases B<;>cases nt<;>cases s0<;>cases sM<;>first|exact⟨_,rfl,rfl⟩|(exact absurd (hst rfl).1 (by decide))|(exact absurd (hst rfl).2 (by decide))
 ·generalize (decide (12<lo)||decide (hi<12))=A at *
  cases u<;>cases A<;>cases B<;>cases nt<;>cases s0<;>cases sM<;>cases sb<;>exact⟨_,rfl,rfl⟩
theorem aqu(R:yG)(w:aH)(hi:Int)(hb:aW w.lf1≤100000000)(hf:jm w.lf1)(h7:hi≤7):∃o,Q3 w 2 hi=some o∧Mo.den (adb R w 2 hi)=some o:=by
 obtain⟨o,h1,h2⟩:=agy R w 2 hi hb hf (by omega) (by omega)
 refine⟨o,h1,?_⟩
 rw[h2]
 cases ho:o != 0 with
 |true=>rfl
 |false=>
  have h0:o=0:=by simpa using ho
  subst h0
  have hu:=Xn w hb hf
  obtain⟨u,hu2,_⟩:=kW w
  rw[hu2] at hu
  have hem:=CZ w
  rw[hu] at hem
  have hacc:u=true∧2≤w.aK∧w.aK≤hi:=by
   unfold Q3 ap3 at h1
   simp only[Mo.den,ak,aj,aA,au,ay,Jo,Jp,hu,dH,Xh,Option.bind_some] at h1
   obtain⟨z,hz,h1⟩:=iF h1
   obtain⟨_,_,h1⟩:=iF h1
   cases hz2:z with
   |true=>rw[hz2] at h1;cases h1
   |false=>
    rw[hz2] at hz
    unfold EG at hz
    simp only[Mo.den,ak,aj,aA,au,ay] at hz
    cases hq:decide (w.aK<2)||decide (hi<w.aK)||!u with
    |true=>rw[hq] at hz;cases hz
    |false=>
     simp only[Bool.or_eq_false_iff,decide_eq_false_iff_not,Bool.not_eq_false'] at hq
     exact⟨hq.2,by omega,by omega⟩
  obtain⟨rfl,k2,k7⟩:=hacc
  have hw:=(hem rfl).2 (by omega) (by omega)
  have hL:∀g,vT R g w 0=some (.inr ()):=fun g=>nY (by simp only[qX,Mo.den,ak,aj,aA,au,ay,hw];rfl)
  rw[hL]
  cases w.aK==4||w.aK==6<;>rfl
theorem amV(e:aF)(hb:aW e.lf1≤100000000)(hf:jm e.lf1):Q28 e=apk e:=by
 have hbe:=pF e
 have hbw:=jl e.dL
 have hlw:=nS e.dL.dh
 have hfw:=ah1 hf
 obtain⟨G,hG⟩:∃G,FU=G+2:=⟨FU-2,by have:=iw;omega⟩
 obtain⟨o,h1,h2⟩:=agy (jw (G+1)) e.dL 1 12 (by omega) hfw (by omega) (by omega)
 have hV:Q4 e.dL 1 12=Mo.den (adb (jw (G+1)) e.dL 1 12):=by
  unfold Q4
  rw[hG];rfl
 have hV:=hV.trans h2
 let hi2:Int:=bif e.dL.aK==9 then 3 else 7
 let f:Nat→Option Int:=fun k=>match e.dL.dh[k]? with
  |some x=>bif (Q3 x 2 hi2).getD 0 != 0 then some ((Q3 x 2 hi2).getD 0) else none
  |none=>none
 have hi7:hi2≤7:=by
  show(bif e.dL.aK==9 then(3:Int) else 7)≤7
  cases e.dL.aK==9
  ·exact Int.le_refl _
  ·show(3:Int)≤7;decide
 have kid:∀{k:Nat} {x:aH},e.dL.dh[k]?=some x→∃c,Q3 x 2 hi2=some c∧(jw (G+1)).m1 x 2 hi2=some c:=fun {k x} hx=>by
  have hm:=pG (iH hx)
  exact aqu (jw G) x hi2 (by omega) ((ah0 hfw).2 x (iH hx)) hi7
 have LP:vT (jw (G+1)) hi2 e.dL 0=some (jK (dF f 0 e.dL.dh.length)):=by
  try unfold vT
  refine dV f e.dL.dh.length (by omega) (fun k hk=>?_) (by simp only[qX,Mo.den,ak,aj,aA,au,ay,ltn,cond_false])
  obtain⟨x,hx⟩:∃x,e.dL.dh[k]?=some x:=⟨_,List.getElem?_eq_getElem hk⟩
  obtain⟨c,c1,c2⟩:=kid hx
  simp only[qX,Mo.den,ak,aj,aA,au,ay,ltt hx,gid hx,cond_true,Option.bind_some,c2,c1,f,hx,Option.getD_some]
  cases c != 0<;>rfl
 have LR:WR e hi2 0=some (jK (dF f 0 e.dL.dh.length)):=by
  try unfold WR
  refine dV f e.dL.dh.length (by omega) (fun k hk=>?_) (by simp only[Aw,Mo.den,ak,aj,aA,au,ay,ltn,cond_false])
  obtain⟨x,hx⟩:∃x,e.dL.dh[k]?=some x:=⟨_,List.getElem?_eq_getElem hk⟩
  obtain⟨c,c1,c2⟩:=kid hx
  simp only[Aw,Mo.den,ak,aj,aA,au,ay,ltt hx,gid hx,cond_true,Option.bind_some,c1,f,hx,Option.getD_some]
  cases c != 0<;>rfl
 have hnil:(o != 0)=false→¬e.dL.aK=8→¬e.dL.aK=9→e.dL.dh=[]:=fun ho k8 k9=>by
  have h0:o=0:=by simpa using ho
  subst h0
  have hu:=Xn e.dL (by omega) hfw
  obtain⟨u,hu2,_⟩:=kW e.dL
  rw[hu2] at hu
  have hem:=CZ e.dL
  rw[hu] at hem
  have hacc:u=true:=by
   unfold Q3 ap3 at h1
   simp only[Mo.den,ak,aj,aA,au,ay,Jo,Jp,hu,dH,Xh,Option.bind_some] at h1
   obtain⟨z,hz,h1⟩:=iF h1
   obtain⟨_,_,h1⟩:=iF h1
   cases hz2:z with
   |true=>rw[hz2] at h1;cases h1
   |false=>
    rw[hz2] at hz
    unfold EG at hz
    simp only[Mo.den,ak,aj,aA,au,ay] at hz
    cases u with
    |true=>rfl
    |false=>rw[Bool.not_false,Bool.or_true] at hz;cases hz
  exact(hem (by rw[hacc])).2 k8 k9
 unfold Q28 arj apk ade
 have hJ:WQ e=some hi2:=by
  unfold WQ Tj
  simp only[Mo.den,ak,aj,aA,au,ay]
  show _=some (bif e.dL.aK==9 then(3:Int) else 7)
  cases e.dL.aK==9<;>rfl
 simp only[Mo.den,ak,yY,au,ay,aal,aam,Tf,Ti,Qz,QA,LZ,qO,TB,Option.bind_some,dH,h1,hV,hJ,LR]
 have tail:(bif o != 0 then some o else Sum.elim some (fun _=>some 0) (jK (dF f 0 e.dL.dh.length)))=(bif o != 0 then some o else bif e.dL.aK==4||e.dL.aK==6 then some 0 else(vT (jw (G+1)) (bif e.dL.aK==8 then 7 else bif e.dL.aK==9 then 3 else 12) e.dL 0).bind (Sum.elim some fun _=>some 0)):=by
  cases ho:o != 0 with
  |true=>rfl
  |false=>
   simp only[cond_false]
   by_cases k8:e.dL.aK=8
   ·rw[show(e.dL.aK==4||e.dL.aK==6)=false by rw[k8];rfl,show(bif e.dL.aK==8 then(7:Int) else bif e.dL.aK==9 then 3 else 12)=hi2 by show _=(bif e.dL.aK==9 then(3:Int) else 7);rw[k8];rfl,LP];rfl
   ·by_cases k9:e.dL.aK=9
    ·rw[show(e.dL.aK==4||e.dL.aK==6)=false by rw[k9];rfl,show(bif e.dL.aK==8 then(7:Int) else bif e.dL.aK==9 then 3 else 12)=hi2 by show _=(bif e.dL.aK==9 then(3:Int) else 7);rw[k9];rfl,LP];rfl
    ·have hw:=hnil ho k8 k9
     have hL:∀g,vT (jw (G+1)) g e.dL 0=some (.inr ()):=fun g=>nY (by simp only[qX,Mo.den,ak,aj,aA,au,ay,hw];rfl)
     rw[hL,hw]
     cases e.dL.aK==4||e.dL.aK==6<;>rfl
 rw[tail]
 cases (bif o != 0 then some o else bif e.dL.aK==4||e.dL.aK==6 then some 0 else(vT (jw (G+1)) (bif e.dL.aK==8 then 7 else bif e.dL.aK==9 then 3 else 12) e.dL 0).bind (Sum.elim some fun _=>some 0))<;>rfl
end Go.Proofs.YtbdcaeahocbkbaaGreatDoor
