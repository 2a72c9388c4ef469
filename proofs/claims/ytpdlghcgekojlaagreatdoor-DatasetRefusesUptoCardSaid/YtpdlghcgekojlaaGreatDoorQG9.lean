/- Plain: how many values, how many levels. -/
import Derived.Test.YtpdlghcgekojlaaGreatDoorQG8
import Derived.Test.YtpdlghcgekojlaaGreatDoorQGNumP
import Derived.WideShapes
set_option linter.unusedSimpArgs false
set_option linter.unusedVariables false
namespace Go.Proofs.YtpdlghcgekojlaaGreatDoor
open Go.RowKit
def iQ(f:ak→Nat→Nat)(lim:Nat):List ak→Nat→Nat
 |[],n=>n
 |p::r,n=>if f p n<lim then iQ f lim r (f p n) else f p n
theorem sQ(f:ak→Nat→Nat)(lim:Nat)(p:ak)(r:List ak)(n:Nat):iQ f lim (p::r) n=if f p n<lim then iQ f lim r (f p n) else f p n:=rfl
mutual
def ak.cnt:ak→Nat
 |.mk k _ _ l d=>1+((if k=6 then ak.cnts l else 0)+(if k=5 then aB.cnts d else 0))
def ak.cnts:List ak→Nat
 |[]=>0
 |x::r=>x.cnt+ak.cnts r
def aB.cnts:List aB→Nat
 |[]=>0
 |.mk _ x::r=>x.cnt+aB.cnts r
end
mutual
def ak.dep:ak→Nat
 |.mk k _ _ l d=>1+max (if k=6 then ak.deps l else 0) (if k=5 then aB.deps d else 0)
def ak.deps:List ak→Nat
 |[]=>0
 |x::r=>max x.dep (ak.deps r)
def aB.deps:List aB→Nat
 |[]=>0
 |.mk _ x::r=>max x.dep (aB.deps r)
end
def qV:List Nat→Nat
 |[]=>0
 |x::r=>x+qV r
def o8:List Nat→Nat
 |[]=>0
 |x::r=>max x (o8 r)
theorem TP:∀l m:List Nat,qV (l++m)=qV l+qV m
 |[],m=>(Nat.zero_add _).symm
 |x::r,m=>by show x+qV (r++m)=(x+qV r)+qV m;rw[TP r m];omega
theorem TQ:∀l m:List Nat,o8 (l++m)=max (o8 l) (o8 m)
 |[],m=>by show o8 m=max 0 (o8 m);omega
 |x::r,m=>by show max x (o8 (r++m))=max (max x (o8 r)) (o8 m);rw[TQ r m];omega
theorem Yg:∀l:List ak,ak.cnts l=qV (l.map ak.cnt)
 |[]=>by simp[ak.cnts,qV]
 |x::r=>by simp[ak.cnts,qV,Yg r]
theorem TR:∀l:List aB,aB.cnts l=qV ((l.map aB.fValue).map ak.cnt)
 |[]=>by simp[aB.cnts,qV]
 |.mk n x::r=>by simp[aB.cnts,qV,TR r,aB.fValue]
theorem Yh:∀l:List ak,ak.deps l=o8 (l.map ak.dep)
 |[]=>by simp[ak.deps,o8]
 |x::r=>by simp[ak.deps,o8,Yh r]
theorem TS:∀l:List aB,aB.deps l=o8 ((l.map aB.fValue).map ak.dep)
 |[]=>by simp[aB.deps,o8]
 |.mk n x::r=>by simp[aB.deps,o8,TS r,aB.fValue]
theorem Ld(v:ak):v.cnt=1+qV ((parts v).map ak.cnt):=by
 cases v with
 |mk k i s l d=>
  unfold parts
  rw[List.map_append,TP]
  unfold ak.cnt
  rw[Yg,TR]
  simp only[ak.aH,ak.bC,ak.bG]
  by_cases h6:k=6
  ·subst h6;simp[qV]
  by_cases h5:k=5
  ·subst h5;simp[qV]
  simp[h6,h5,qV]
theorem Lh(v:ak):v.dep=1+o8 ((parts v).map ak.dep):=by
 cases v with
 |mk k i s l d=>
  unfold parts
  rw[List.map_append,TQ]
  unfold ak.dep
  rw[Yh,TS]
  simp only[ak.aH,ak.bC,ak.bG]
  by_cases h6:k=6
  ·subst h6;simp[o8]
  by_cases h5:k=5
  ·subst h5;simp[o8]
  simp[h6,h5,o8]
theorem WY(v:ak):1≤v.cnt:=by rw[Ld];omega
theorem WZ(v:ak):1≤v.dep:=by rw[Lh];omega
theorem Lj(most:Nat):∀(l:List ak) (n:Nat),n<most→iQ (fun p n=>n+min p.cnt (most-n)) most l n=min (n+qV (l.map ak.cnt)) most
 |[],n,h=>by unfold iQ;simp only[List.map_nil,qV];omega
 |p::r,n,h=>by
  unfold iQ
  simp only[List.map_cons,qV]
  split
  ·rename_i hc
   rw[Lj most r _ hc]
   omega
  omega
theorem Ll(most:Nat)(hm:1≤most):∀(l:List ak) (n:Nat),n≤most-1→(l=[]∨n<most-1→iQ (fun p n=>max n (min p.dep (most-1))) (most-1) l n=min (max n (o8 (l.map ak.dep))) (most-1))
 |[],n,h,_=>by unfold iQ;simp only[List.map_nil,o8];omega
 |p::r,n,h,hh=>by
  have hn:n<most-1:=hh.resolve_left (by simp)
  unfold iQ
  simp only[List.map_cons,o8]
  split
  ·rename_i hc
   rw[Ll most hm r _ (by omega) (.inr hc)]
   omega
  omega

theorem aar(R:RB3)(v:ak)(f:ak→Nat→Nat)(lim:Nat)(b1:Int)(I:Nat→Prop)(hb:aT v.lf1≤100000000)
 (h3:∀p∈parts v,∀n:Nat,I n→R.m3 p n b1=some (decide (f p n<lim),(f p n:Int),b1)∧(f p n<lim→I (f p n))) (n:Nat) (hn:I n):
 Mo.den (Qc R v n b1)=some (((iQ f lim (parts v) n:Nat):Int),b1):=by
 have hl:=iD v.bC
 have hd:=fG v.bG
 rw[bZ] at hb
 unfold Qc
 simp only[Mo.den,aK,aF,aG,aJ,aI]
 by_cases h6:v.aH=6
 ·have e6:(v.aH==6)=true:=by simpa using h6
  have hp:parts v=v.bC:=by unfold parts;rw[if_pos h6,if_neg (by omega),List.append_nil]
  rw[e6,hp]
  simp only[cond_true]
  have key:Tot (acu R v 0 n b1) (fun r=>match r with|.inl o=>o=(((iQ f lim v.bC n:Nat):Int),b1)|.inr o=>o=(((iQ f lim v.bC n:Nat):Int),b1)):=by
   refine T.lV v.bC.length (by omega) (fun k s=>∃m:Nat,s=((k:Int),(m:Int),b1)∧I m∧iQ f lim v.bC n=iQ f lim (v.bC.drop k) m) _ ⟨n,rfl,hn,rfl⟩ ?_ ?_
   ·rintro k s hk ⟨m,rfl,hm,he⟩
    have hx:=List.getElem?_eq_getElem hk
    have hdr:v.bC.drop k=v.bC[k]::v.bC.drop (k+1):=List.drop_eq_getElem_cons hk
    obtain⟨q1,q2⟩:=h3 v.bC[k] (by rw[hp];exact List.getElem_mem hk) m hm
    simp only[zN,Mo.den,aK,aF,aG,aJ,aI,ltt hx,gid hx,cond_true,Option.bind_some,q1]
    rw[hdr,sQ] at he
    by_cases hc:f v.bC[k] m<lim
    ·rw[if_pos hc] at he
     rw[decide_eq_true hc]
     exact T.ret ⟨_,by rw[inc k (by omega)],q2 hc,he⟩
    rw[if_neg hc] at he
    rw[decide_eq_false hc]
    exact T.ret (show _=_ by rw[he])
   rintro s ⟨m,rfl,hm,he⟩
   rw[List.drop_length] at he
   have he:iQ f lim v.bC n=m:=he
   simp only[zN,Mo.den,aK,aF,aG,aJ,aI,ltn,cond_false]
   exact T.ret (show _=_ by rw[he])
  obtain⟨r,h,hr⟩:=key
  rw[h]
  rcases r with r|r
  ·have hr:r=_:=hr
   subst hr;rfl
  have hr:r=_:=hr
  subst hr;rfl
 have e6:(v.aH==6)=false:=by simpa using h6
 by_cases h5:v.aH=5
 ·have e5:(v.aH==5)=true:=by simpa using h5
  have hp:parts v=v.bG.map aB.fValue:=by unfold parts;rw[if_neg h6,if_pos h5,List.nil_append]
  rw[e6,e5,hp]
  simp only[cond_true,cond_false]
  have key:Tot (acv R v 0 n b1) (fun r=>match r with|.inl o=>o=(((iQ f lim (v.bG.map aB.fValue) n:Nat):Int),b1)|.inr o=>o=(((iQ f lim (v.bG.map aB.fValue) n:Nat):Int),b1)):=by
   refine T.lV v.bG.length (by omega) (fun k s=>∃m:Nat,s=((k:Int),(m:Int),b1)∧I m∧iQ f lim (v.bG.map aB.fValue) n=iQ f lim ((v.bG.drop k).map aB.fValue) m) _ ⟨n,rfl,hn,rfl⟩ ?_ ?_
   ·rintro k s hk ⟨m,rfl,hm,he⟩
    have hx:=List.getElem?_eq_getElem hk
    have hdr:v.bG.drop k=v.bG[k]::v.bG.drop (k+1):=List.drop_eq_getElem_cons hk
    obtain⟨q1,q2⟩:=h3 v.bG[k].fValue (by rw[hp];exact List.mem_map.2 ⟨_,List.getElem_mem hk,rfl⟩) m hm
    simp only[zQ,Mo.den,aK,aF,aG,aJ,aI,ltt hx,gid hx,cond_true,Option.bind_some,q1]
    rw[hdr,List.map_cons,sQ] at he
    by_cases hc:f v.bG[k].fValue m<lim
    ·rw[if_pos hc] at he
     rw[decide_eq_true hc]
     exact T.ret ⟨_,by rw[inc k (by omega)],q2 hc,he⟩
    rw[if_neg hc] at he
    rw[decide_eq_false hc]
    exact T.ret (show _=_ by rw[he])
   rintro s ⟨m,rfl,hm,he⟩
   rw[List.drop_length,List.map_nil] at he
   have he:iQ f lim (v.bG.map aB.fValue) n=m:=he
   simp only[zQ,Mo.den,aK,aF,aG,aJ,aI,ltn,cond_false]
   exact T.ret (show _=_ by rw[he])
  obtain⟨r,h,hr⟩:=key
  rw[h]
  rcases r with r|r
  ·have hr:r=_:=hr
   subst hr;rfl
  have hr:r=_:=hr
  subst hr;rfl
 have e5:(v.aH==5)=false:=by simpa using h5
 have hp:parts v=[]:=by unfold parts;rw[if_neg h6,if_neg h5];rfl
 rw[e6,e5,hp]
 rfl

theorem aas(R:RB4)(v:ak)(f:ak→Nat→Nat)(lim:Nat)(b1:Int)(I:Nat→Prop)(hb:aT v.lf1≤100000000)
 (h3:∀p∈parts v,∀n:Nat,I n→R.m3 p n b1=some (decide (f p n<lim),(f p n:Int),b1)∧(f p n<lim→I (f p n))) (n:Nat) (hn:I n):
 Mo.den (Qd R v n b1)=some (((iQ f lim (parts v) n:Nat):Int),b1):=by
 have hl:=iD v.bC
 have hd:=fG v.bG
 rw[bZ] at hb
 unfold Qd
 simp only[Mo.den,aK,aF,aG,aJ,aI]
 by_cases h6:v.aH=6
 ·have e6:(v.aH==6)=true:=by simpa using h6
  have hp:parts v=v.bC:=by unfold parts;rw[if_pos h6,if_neg (by omega),List.append_nil]
  rw[e6,hp]
  simp only[cond_true]
  have key:Tot (acC R v 0 n b1) (fun r=>match r with|.inl o=>o=(((iQ f lim v.bC n:Nat):Int),b1)|.inr o=>o=(((iQ f lim v.bC n:Nat):Int),b1)):=by
   refine T.lV v.bC.length (by omega) (fun k s=>∃m:Nat,s=((k:Int),(m:Int),b1)∧I m∧iQ f lim v.bC n=iQ f lim (v.bC.drop k) m) _ ⟨n,rfl,hn,rfl⟩ ?_ ?_
   ·rintro k s hk ⟨m,rfl,hm,he⟩
    have hx:=List.getElem?_eq_getElem hk
    have hdr:v.bC.drop k=v.bC[k]::v.bC.drop (k+1):=List.drop_eq_getElem_cons hk
    obtain⟨q1,q2⟩:=h3 v.bC[k] (by rw[hp];exact List.getElem_mem hk) m hm
    simp only[zS,Mo.den,aK,aF,aG,aJ,aI,ltt hx,gid hx,cond_true,Option.bind_some,q1]
    rw[hdr,sQ] at he
    by_cases hc:f v.bC[k] m<lim
    ·rw[if_pos hc] at he
     rw[decide_eq_true hc]
     exact T.ret ⟨_,by rw[inc k (by omega)],q2 hc,he⟩
    rw[if_neg hc] at he
    rw[decide_eq_false hc]
    exact T.ret (show _=_ by rw[he])
   rintro s ⟨m,rfl,hm,he⟩
   rw[List.drop_length] at he
   have he:iQ f lim v.bC n=m:=he
   simp only[zS,Mo.den,aK,aF,aG,aJ,aI,ltn,cond_false]
   exact T.ret (show _=_ by rw[he])
  obtain⟨r,h,hr⟩:=key
  rw[h]
  rcases r with r|r
  ·have hr:r=_:=hr
   subst hr;rfl
  have hr:r=_:=hr
  subst hr;rfl
 have e6:(v.aH==6)=false:=by simpa using h6
 by_cases h5:v.aH=5
 ·have e5:(v.aH==5)=true:=by simpa using h5
  have hp:parts v=v.bG.map aB.fValue:=by unfold parts;rw[if_neg h6,if_pos h5,List.nil_append]
  rw[e6,e5,hp]
  simp only[cond_true,cond_false]
  have key:Tot (acD R v 0 n b1) (fun r=>match r with|.inl o=>o=(((iQ f lim (v.bG.map aB.fValue) n:Nat):Int),b1)|.inr o=>o=(((iQ f lim (v.bG.map aB.fValue) n:Nat):Int),b1)):=by
   refine T.lV v.bG.length (by omega) (fun k s=>∃m:Nat,s=((k:Int),(m:Int),b1)∧I m∧iQ f lim (v.bG.map aB.fValue) n=iQ f lim ((v.bG.drop k).map aB.fValue) m) _ ⟨n,rfl,hn,rfl⟩ ?_ ?_
   ·rintro k s hk ⟨m,rfl,hm,he⟩
    have hx:=List.getElem?_eq_getElem hk
    have hdr:v.bG.drop k=v.bG[k]::v.bG.drop (k+1):=List.drop_eq_getElem_cons hk
    obtain⟨q1,q2⟩:=h3 v.bG[k].fValue (by rw[hp];exact List.mem_map.2 ⟨_,List.getElem_mem hk,rfl⟩) m hm
    simp only[zT,Mo.den,aK,aF,aG,aJ,aI,ltt hx,gid hx,cond_true,Option.bind_some,q1]
    rw[hdr,List.map_cons,sQ] at he
    by_cases hc:f v.bG[k].fValue m<lim
    ·rw[if_pos hc] at he
     rw[decide_eq_true hc]
     exact T.ret ⟨_,by rw[inc k (by omega)],q2 hc,he⟩
    rw[if_neg hc] at he
    rw[decide_eq_false hc]
    exact T.ret (show _=_ by rw[he])
   rintro s ⟨m,rfl,hm,he⟩
   rw[List.drop_length,List.map_nil] at he
   have he:iQ f lim (v.bG.map aB.fValue) n=m:=he
   simp only[zT,Mo.den,aK,aF,aG,aJ,aI,ltn,cond_false]
   exact T.ret (show _=_ by rw[he])
  obtain⟨r,h,hr⟩:=key
  rw[h]
  rcases r with r|r
  ·have hr:r=_:=hr
   subst hr;rfl
  have hr:r=_:=hr
  subst hr;rfl
 have e5:(v.aH==5)=false:=by simpa using h5
 have hp:parts v=[]:=by unfold parts;rw[if_neg h6,if_neg h5];rfl
 rw[e6,e5,hp]
 rfl

theorem VX:∀(F:Nat) (v:ak) (most:Nat),3*aT v.lf1≤F→aT v.lf1≤100000000→1≤most→most≤2000→(pO F).m1 v most=some ((min v.cnt most:Nat):Int):=by
 intro F
 induction F using Nat.strongRecOn with
 |_ F ih=>
 intro v most hF hb h1 h2
 have hp:=bZ v
 obtain⟨F,rfl⟩:∃G,F=G+3:=⟨F-3,by omega⟩
 show Mo.den (Np (pO (F+2)) v most)=_
 unfold Np
 simp only[Mo.den,aK,aF,aG,aJ,aI]
 by_cases hm:most=1
 ·subst hm
  have:=WY v
  rw[show min v.cnt 1=1 by omega]
  rfl
 rw[show((1:Int)==(most:Int))=false by rw[beq_eq_false_iff_ne];omega]
 have he:(pO (F+2)).m2 v 1 most=some (((min v.cnt most:Nat):Int),(most:Int)):=by
  show Mo.den (Qc (pO (F+1)) v 1 most)=_
  have:=aar (pO (F+1)) v (fun p n=>n+min p.cnt (most-n)) most most (fun n=>n<most) hb (fun p hq n hn=>?_) 1 (show 1<most by omega)
  ·rw[show((1:Int))=((1:Nat):Int) from rfl,this,Lj most _ 1 (by omega),←Ld]
  refine⟨?_,fun h=>h⟩
  have hlt:=sK hq
  show Mo.den (Nq (pO F) p n most)=_
  unfold Nq
  have hsub:IntKind.wrap .i64 ((most:Int)-(n:Int))=((most-n:Nat):Int):=by rw[w64 (by omega) (by omega)];omega
  simp only[Mo.den,aK,aF,aG,aJ,aI,hsub,ih F (by omega) p (most-n) (by omega) (by omega) (by omega) (by omega),Option.bind_some]
  rw[w64 (by omega) (by omega),show(n:Int)+((min p.cnt (most-n):Nat):Int)=((n+min p.cnt (most-n):Nat):Int) by omega]
  congr 2
  rw[Bool.eq_iff_iff];simp only[decide_eq_true_iff];omega
 simp only[cond_false,he,Option.bind_some]
theorem aat(v:ak)(hb:aT v.lf1≤100000000):aj3 v=some ((min v.cnt 1025:Nat):Int):=by
 simp only[aj3,acy,Mo.den,aK,aF,aG,aJ,aI]
 have:amn v 1025=some ((min v.cnt 1025:Nat):Int):=VX FU v 1025 (by have:=fK;omega) hb (by omega) (by omega)
 rw[this];rfl
theorem VY:∀(F:Nat) (v:ak) (most:Nat),3*aT v.lf1≤F→aT v.lf1≤100000000→1≤most→most≤2000→(pR F).m1 v most=some ((min v.dep most:Nat):Int):=by
 intro F
 induction F using Nat.strongRecOn with
 |_ F ih=>
 intro v most hF hb h1 h2
 have hp:=bZ v
 obtain⟨F,rfl⟩:∃G,F=G+3:=⟨F-3,by omega⟩
 show Mo.den (Nr (pR (F+2)) v most)=_
 unfold Nr
 simp only[Mo.den,aK,aF,aG,aJ,aI]
 have hpos:=WZ v
 by_cases hm:most=1
 ·subst hm
  rw[show min v.dep 1=1 by omega]
  rfl
 rw[show((most:Int)==(1:Int))=false by rw[beq_eq_false_iff_ne];omega]
 have he:(pR (F+2)).m2 v 0 most=some (((min v.dep most-1:Nat):Int),(most:Int)):=by
  show Mo.den (Qd (pR (F+1)) v 0 most)=_
  have:=aas (pR (F+1)) v (fun p n=>max n (min p.dep (most-1))) (most-1) most (fun n=>n<most-1) hb (fun p hq n hn=>?_) 0 (show 0<most-1 by omega)
  ·rw[show((0:Int))=((0:Nat):Int) from rfl, this, Ll most h1 _ 0 (by omega) (.inr (by omega))]
   have e:=Lh v
   rw[show min (max 0 (o8 ((parts v).map ak.dep))) (most-1)=min v.dep most-1 by omega]
  refine⟨?_,fun h=>h⟩
  have hlt:=sK hq
  show Mo.den (Ns (pR F) p n most)=_
  unfold Ns
  have hsub:IntKind.wrap .i64 ((most:Int)-1)=((most-1:Nat):Int):=by rw[w64 (by omega) (by omega)];omega
  simp only[Mo.den,aK,aF,aG,aJ,aI,hsub,ih F (by omega) p (most-1) (by omega) (by omega) (by omega) (by omega),Option.bind_some]
  rw[show(if((min p.dep (most-1):Nat):Int) > (n:Int) then((min p.dep (most-1):Nat):Int) else(n:Int))=((max n (min p.dep (most-1)):Nat):Int) by split<;>omega]
  congr 2
  rw[Bool.eq_iff_iff];simp only[decide_eq_true_iff];omega
 simp only[cond_false,he,Option.bind_some]
 rw[w64 (by omega) (by omega)]
 congr 1
 omega
theorem aau(v:ak)(hb:aT v.lf1≤100000000):aj6 v=some ((min v.dep 17:Nat):Int):=by
 simp only[aj6,acF,Mo.den,aK,aF,aG,aJ,aI]
 have:amo v 17=some ((min v.dep 17:Nat):Int):=VY FU v 17 (by have:=fK;omega) hb (by omega) (by omega)
 rw[this];rfl
theorem size_nil{s:ByteArray}(h:s.size<1):s=⟨#[]⟩:=by
 cases s with
 |mk d=>
  have h:d.size<1:=h
  have:d=#[]:=Array.eq_empty_of_size_eq_zero (by omega)
  rw[this]
theorem Yi{s:ByteArray}(h:¬s.size<1):¬s=⟨#[]⟩:=fun e=>h (by rw[e];exact Nat.zero_lt_one)


theorem wS(s:ByteArray):Q43 s=some (nameB s):=by
 have key:s.size≤32→Tot (zU s 0) (fun r=>match r with|.inl _=>s.data.toList.all (fun c=>pI c.toNat)=false|.inr _=>s.data.toList.all (fun c=>pI c.toNat)=true):=by
  intro h2
  refine T.lV s.size (by omega) (fun k v=>v=(k:Int)∧∀i (hi:i<s.size),i<k→pI s[i].toNat=true) _ ⟨rfl,fun i _ h=>absurd h (by omega)⟩ ?_ ?_
  ·rintro k v hk ⟨rfl,hv⟩
   have hc:pI s[k].toNat=(decide (33≤s[k].toNat)&&decide (s[k].toNat≤126)&&!(s[k].toNat==46)):=rfl
   have e46:((s[k].toNat:Int)==46)=(s[k].toNat==46):=by rw[Bool.eq_iff_iff];simp;omega
   simp only[mV,kH,kJ,Mo.den,aK,aF,aG,aJ,aI,iLt hk,cond_true,nC s k hk,Option.bind_some]
   by_cases a1:s[k].toNat<33
   ·rw[decide_eq_true (show(s[k].toNat:Int)<33 by omega)]
    simp only[cond_true,Option.bind_some]
    exact T.ret (rZ s _ k hk (by rw[hc,decide_eq_false (show ¬33≤s[k].toNat by omega)];rfl))
   rw[decide_eq_false (show ¬(s[k].toNat:Int)<33 by omega)];simp only[cond_false,Option.bind_some]
   by_cases a2:126<s[k].toNat
   ·rw[decide_eq_true (show(126:Int)<(s[k].toNat:Int) by omega)]
    simp only[cond_true,Option.bind_some]
    exact T.ret (rZ s _ k hk (by rw[hc,decide_eq_false (show ¬s[k].toNat≤126 by omega),Bool.and_false];rfl))
   rw[decide_eq_false (show ¬(126:Int)<(s[k].toNat:Int) by omega),e46];simp only[cond_false,Option.bind_some]
   cases a3:s[k].toNat==46 with
   |true=>
    simp only[cond_true]
    exact T.ret (rZ s _ k hk (by rw[hc,a3,Bool.not_true,Bool.and_false]))
   |false=>
    simp only[cond_false]
    refine T.ret ⟨inc k (by omega),fun i hi hl=>?_⟩
    rcases Nat.lt_succ_iff_lt_or_eq.1 hl with h3|rfl
    ·exact hv i hi h3
    rw[hc,a3,decide_eq_true (show 33≤s[i].toNat by omega),decide_eq_true (show s[i].toNat≤126 by omega)];rfl
  rintro v ⟨rfl,hv⟩
  simp only[mV,Mo.den,aK,aF,aG,aJ,aI,ltn,cond_false]
  exact T.ret (MH s _ fun i hi=>hv i hi hi)
 unfold Q43 Qe kW kX
 simp only[Mo.den,aK,aF,aG,aJ,aI]
 by_cases h0:s.size<1
 ·rw[decide_eq_true (show(s.size:Int)<1 by omega)]
  rw[BG s (by omega)];rfl
 rw[decide_eq_false (show ¬(s.size:Int)<1 by omega)];simp only[cond_false]
 by_cases h1:32<s.size
 ·rw[decide_eq_true (show(32:Int)<(s.size:Int) by omega),BF s h1];rfl
 rw[decide_eq_false (show ¬(32:Int)<(s.size:Int) by omega)];simp only[Option.bind_some,cond_false]
 have hz:kG s 0=some s[0]:=nC s 0 (by omega)
 rw[hz,yA s (by omega) (by omega)]
 simp only[Option.bind_some]
 have e36:((s[0].toNat:Int)==36)=(s[0].toNat==36):=by rw[Bool.eq_iff_iff];simp;omega
 rw[e36]
 cases hq:s[0].toNat==36 with
 |true=>rfl
 |false=>
  obtain⟨r,h,hr⟩:=key (by omega)
  simp only[cond_false,Bool.not_false,Bool.true_and,h,Option.bind_some]
  rcases r with r|r
  ·have hr:_=false:=hr
   rw[hr];all_goals rfl
  have hr:_=true:=hr
  rw[hr];all_goals rfl

theorem wU(s:ByteArray):ah0 s=some (nameB s):=(show ah0 s=Q43 s by simp only[ah0,aek,FM,kJ,kH,kX,kW,Mo.den,aK,aF,aG,aJ,aI,Q43,Qe,zU,mV,kJ,kH,kX,kW,Mo.den,aK,aF,aG,aJ,aI]).trans (wS s)
theorem Lm(s:ByteArray):ahE s=some (nameB s):=(show ahE s=Q43 s by simp only[ahE,adO,E8,kJ,kH,kX,kW,Mo.den,aK,aF,aG,aJ,aI,Q43,Qe,zU,mV,kJ,kH,kX,kW,Mo.den,aK,aF,aG,aJ,aI]).trans (wS s)
theorem aav(s:ByteArray):Q49 s=some (nameB s):=by
 rw[←wS s]
 have e:decide (s=(⟨#[]⟩:ByteArray))=decide ((s.size:Int)<1):=by
  by_cases h:s.size<1
  ·rw[decide_eq_true (size_nil h),decide_eq_true (by omega)]
  rw[decide_eq_false (Yi h),decide_eq_false (by omega)]
 simp only[Q49,aiT,JA,Jz,Jy,QH,QG,Mo.den,aK,aF,aG,aJ,aI,Q43,Qe,zU,mV,kJ,kH,kX,kW,Mo.den,aK,aF,aG,aJ,aI,e]

theorem aaw(s:ByteArray):Q7 s=some (!nameB s):=by
 have key:s.size≤32→Tot (ab6 s 0) (fun r=>match r with|.inl _=>s.data.toList.all (fun c=>pI c.toNat)=false|.inr _=>s.data.toList.all (fun c=>pI c.toNat)=true):=by
  intro h2
  refine T.lV s.size (by omega) (fun k v=>v=(k:Int)∧∀i (hi:i<s.size),i<k→pI s[i].toNat=true) _ ⟨rfl,fun i _ h=>absurd h (by omega)⟩ ?_ ?_
  ·rintro k v hk ⟨rfl,hv⟩
   have hc:pI s[k].toNat=(decide (33≤s[k].toNat)&&decide (s[k].toNat≤126)&&!(s[k].toNat==46)):=rfl
   have e46:((s[k].toNat:Int)==46)=(s[k].toNat==46):=by rw[Bool.eq_iff_iff];simp;omega
   simp only[zL,kH,kJ,Mo.den,aK,aF,aG,aJ,aI,iLt hk,cond_true,nC s k hk,Option.bind_some]
   by_cases a1:s[k].toNat<33
   ·rw[decide_eq_true (show(s[k].toNat:Int)<33 by omega)]
    simp only[cond_true,Option.bind_some]
    exact T.ret (rZ s _ k hk (by rw[hc,decide_eq_false (show ¬33≤s[k].toNat by omega)];rfl))
   rw[decide_eq_false (show ¬(s[k].toNat:Int)<33 by omega)];simp only[cond_false,Option.bind_some]
   by_cases a2:126<s[k].toNat
   ·rw[decide_eq_true (show(126:Int)<(s[k].toNat:Int) by omega)]
    simp only[cond_true,Option.bind_some]
    exact T.ret (rZ s _ k hk (by rw[hc,decide_eq_false (show ¬s[k].toNat≤126 by omega),Bool.and_false];rfl))
   rw[decide_eq_false (show ¬(126:Int)<(s[k].toNat:Int) by omega),e46];simp only[cond_false,Option.bind_some]
   cases a3:s[k].toNat==46 with
   |true=>
    simp only[cond_true]
    exact T.ret (rZ s _ k hk (by rw[hc,a3,Bool.not_true,Bool.and_false]))
   |false=>
    simp only[cond_false]
    refine T.ret ⟨inc k (by omega),fun i hi hl=>?_⟩
    rcases Nat.lt_succ_iff_lt_or_eq.1 hl with h3|rfl
    ·exact hv i hi h3
    rw[hc,a3,decide_eq_true (show 33≤s[i].toNat by omega),decide_eq_true (show s[i].toNat≤126 by omega)];rfl
  rintro v ⟨rfl,hv⟩
  simp only[zL,Mo.den,aK,aF,aG,aJ,aI,ltn,cond_false]
  exact T.ret (MH s _ fun i hi=>hv i hi hi)
 unfold Q7 ame kW kX
 simp only[Mo.den,aK,aF,aG,aJ,aI]
 by_cases h0:s.size<1
 ·rw[decide_eq_true (show(s.size:Int)<1 by omega)]
  rw[BG s (by omega)];rfl
 rw[decide_eq_false (show ¬(s.size:Int)<1 by omega)];simp only[cond_false]
 by_cases h1:32<s.size
 ·rw[decide_eq_true (show(32:Int)<(s.size:Int) by omega),BF s h1];rfl
 rw[decide_eq_false (show ¬(32:Int)<(s.size:Int) by omega)];simp only[Option.bind_some,cond_false]
 have hz:kG s 0=some s[0]:=nC s 0 (by omega)
 rw[hz,yA s (by omega) (by omega)]
 simp only[Option.bind_some]
 have e36:((s[0].toNat:Int)==36)=(s[0].toNat==36):=by rw[Bool.eq_iff_iff];simp;omega
 rw[e36]
 cases hq:s[0].toNat==36 with
 |true=>rfl
 |false=>
  obtain⟨r,h,hr⟩:=key (by omega)
  simp only[cond_false,Bool.not_false,Bool.true_and,h,Option.bind_some]
  rcases r with r|r
  ·have hr:_=false:=hr
   rw[hr];all_goals rfl
  have hr:_=true:=hr
  rw[hr];all_goals rfl


def hasB(n:ByteArray)(l:List ByteArray):Bool:=l.any fun m=>decide (n=m)
mutual
def ak.snd:ak→Bool
 |.mk k i s l d=>(MI k i s l.length d.length&&MJ k i s)&&(ak.lX l&&aB.lX [] d)
def ak.lX:List ak→Bool
 |[]=>true
 |x::r=>x.snd&&ak.lX r
def aB.lX:List ByteArray→List aB→Bool
 |_,[]=>true
 |seen,.mk n x::r=>(nameB n&&!hasB n seen)&&(x.snd&&aB.lX (n::seen) r)
end
theorem TU:∀l:List ak,ak.lX l=l.all ak.snd
 |[]=>by unfold ak.lX;rfl
 |x::r=>by unfold ak.lX;rw[TU r];rfl
def Oj(l:List ByteArray):List (ByteArray×Bool):=l.map fun n=>(n,true)
theorem Lp(n:ByteArray):∀l:List ByteArray,uI (Oj l) n false=hasB n l
 |[]=>rfl
 |x::r=>by
  show(if n=x then true else uI (Oj r) n false)=(decide (n=x)||hasB n r)
  rw[Lp n r]
  by_cases h:n=x
  ·rw[if_pos h,decide_eq_true h];rfl
  rw[if_neg h,decide_eq_false h];rfl
theorem VZ(seen:List ByteArray)(n:ByteArray)(x:ak)(r:List aB):aB.lX seen (.mk n x::r)=((nameB n&&!hasB n seen)&&(x.snd&&aB.lX (n::seen) r)):=by rw[aB.lX]
theorem aax(seen:List ByteArray):aB.lX seen []=true:=by rw[aB.lX]
theorem alx(v:ak):v.snd=((MI v.aH v.dR v.fText v.bC.length v.bG.length&&MJ v.aH v.dR v.fText)&&(ak.lX v.bC&&aB.lX [] v.bG)):=by
 cases v with
 |mk k i s l d=>rw[ak.snd];rfl
theorem TV(R:RB5)(l:List aB)(hl:l.length≤100000000)(h1:∀x∈l,R.m1 x.fValue=some x.fValue.snd):Mo.den (Xt R l)=some (aB.lX [] l):=by
 unfold Xt
 simp only[Mo.den,aK,aF,aG,aJ,aI]
 have key:Tot (Xr R l 0 []) (fun r=>match r with|.inl _=>aB.lX [] l=false|.inr _=>aB.lX [] l=true):=by
  refine T.lV l.length (by omega) (fun k s=>∃m:List ByteArray,m.length=k∧s=((k:Int),Oj m)∧aB.lX [] l=aB.lX m (l.drop k)) _ ⟨[],rfl,rfl,rfl⟩ ?_ ?_
  ·rintro k s hk ⟨m,hm,rfl,he⟩
   have hx:=List.getElem?_eq_getElem hk
   have hdr:l.drop k=l[k]::l.drop (k+1):=List.drop_eq_getElem_cons hk
   have q1:=h1 l[k] (List.getElem_mem hk)
   rw[hdr] at he
   obtain⟨n,x⟩:∃n x,l[k]=aB.mk n x:=by cases l[k] with|mk n x=>exact⟨n,x,rfl⟩
   obtain⟨x,e⟩:=x
   rw[e] at q1 he
   rw[VZ] at he
   unfold wC
   simp only[Qi,Qj,Mo.den,aK,aF,aG,aJ,aI,ltt hx,gid hx,cond_true,Option.bind_some,e,aB.fName,aB.fValue,wS,Lp]
   simp only[aB.fValue] at q1
   rw[q1]
   cases a:nameB n with
   |false=>rw[a] at he;exact T.ret (show _=false by rw[he];rfl)
   |true=>
    cases b:hasB n m with
    |true=>rw[a,b] at he;exact T.ret (show _=false by rw[he];rfl)
    |false=>
     cases c:x.snd with
     |false=>rw[a,b,c] at he;exact T.ret (show _=false by rw[he];rfl)
     |true=>
      rw[a,b,c] at he
      refine T.grd (by rw[Oj,List.length_map];unfold maxLen;omega) (T.ret ⟨n::m,by simp[hm],by rw[inc k (by omega)];rfl,by rw[he];rfl⟩)
  rintro s ⟨m,hm,rfl,he⟩
  rw[List.drop_length,aax] at he
  unfold wC
  simp only[Mo.den,aK,aF,aG,aJ,aI,ltn,cond_false]
  exact T.ret he
 obtain⟨r,h,hr⟩:=key
 rw[h]
 rcases r with r|r
 ·have hr:_=false:=hr
  rw[hr];all_goals rfl
 have hr:_=true:=hr
 rw[hr];all_goals rfl
theorem aay(R:RB5)(v:ak)(hl:v.bC.length≤100000000)(h1:∀x∈v.bC,R.m1 x=some x.snd):Tot (Xp R v 0) (fun r=>match r with|.inl _=>ak.lX v.bC=false|.inr _=>ak.lX v.bC=true):=by
 rw[TU]
 refine T.lV v.bC.length (by omega) (fun k s=>s=(k:Int)∧(v.bC.take k).all ak.snd=true) _ ⟨rfl,by simp⟩ ?_ ?_
 ·rintro k s hk ⟨rfl,he⟩
  have hx:=List.getElem?_eq_getElem hk
  simp only[wB,Mo.den,aK,aF,aG,aJ,aI,ltt hx,gid hx,cond_true,Option.bind_some,h1 _ (List.getElem_mem hk)]
  cases c:v.bC[k].snd with
  |false=>exact T.ret (afh _ hx c)
  |true=>exact T.ret ⟨inc k (by omega),by rw[TN _ hx,he,c];rfl⟩
 rintro s ⟨rfl,he⟩
 simp only[wB,Mo.den,aK,aF,aG,aJ,aI,ltn,cond_false]
 rw[List.take_length] at he
 exact T.ret he
theorem V3:∀(F:Nat) (v:ak),2*aT v.lf1≤F→aT v.lf1≤100000000→(uP F).m1 v=some v.snd:=by
 intro F
 induction F using Nat.strongRecOn with
 |_ F ih=>
 intro v hF hb
 have hp:=bZ v
 have hl:=iD v.bC
 have hd:=fG v.bG
 obtain⟨F,rfl⟩:∃G,F=G+2:=⟨F-2,by omega⟩
 show Mo.den (Xq (uP (F+1)) v)=_
 have hL:=aay (uP (F+1)) v (by omega) fun x hx=>ih (F+1) (by omega) x (by have:=jY hx;omega) (by have:=jY hx;omega)
 have hD:(uP (F+1)).m2 v.bG=some (aB.lX [] v.bG):=TV (uP F) v.bG (by omega) fun x hx=>ih F (by omega) x.fValue (by have:=fZ hx;rw[eG] at this;omega) (by have:=fZ hx;rw[eG] at this;omega)
 obtain⟨r0,hL,hr0⟩:=hL
 clear ih hF hb hp hl hd
 rw[alx]
 unfold Xq
 simp only[Qg,Qh,II,IJ,IK,IL,IQ,IU,IV,IW,IX,IY,IZ,Mo.den,aK,aF,aG,aJ,aI,hL,hD,al5]
 clear hL hD
 generalize v.aH=k at *
 generalize v.dR=i at *
 generalize v.fText=s at *
 generalize v.bC=l at *
 generalize v.bG=d at *
 unfold MI MJ
 have ei:(i != 0)=!(i==0):=rfl
 have es:∀dd:Decidable (s=(⟨#[]⟩:ByteArray)),@decide _ dd=decide (s.size=0):=fun dd=>by
  by_cases h:s.size=0
  ·rw[decide_eq_true h,decide_eq_true (size_nil (by omega))]
  rw[decide_eq_false h,decide_eq_false (Yi (by omega))]
 have el:decide ((0:Int)<(l.length:Int))=!(l.length==0):=by
  cases l with
  |nil=>rfl
  |cons x r=>rw[decide_eq_true (show(0:Int)<((x::r).length:Int) by rw[List.length_cons];omega)];rfl
 have ed:decide ((0:Int)<(d.length:Int))=!(d.length==0):=by
  cases d with
  |nil=>rfl
  |cons x r=>rw[decide_eq_true (show(0:Int)<((x::r).length:Int) by rw[List.length_cons];omega)];rfl
 simp only[ei,es,el,ed]
 have e4:decide ((s.size:Int)≤4096)=decide (s.size≤4096):=by rw[Bool.eq_iff_iff];simp;omega
 have e12:((s.size:Int)==12)=decide (s.size=12):=by rw[Bool.eq_iff_iff];simp;omega
 simp only[e4,e12]
 have hl0:(l.length==0)=true→ak.lX l=true:=fun h=>by
  have:l=[]:=List.eq_nil_of_length_eq_zero (by simpa using h)
  rw[this];unfold ak.lX;rfl
 have hd0:(d.length==0)=true→aB.lX [] d=true:=fun h=>by
  have:d=[]:=List.eq_nil_of_length_eq_zero (by simpa using h)
  rw[this];unfold aB.lX;rfl
 clear ei es el ed e4 e12
 generalize ak.lX l=A at *
 generalize aB.lX [] d=B at *
 generalize (l.length==0)=nl at *
 generalize (d.length==0)=nd at *
 generalize Xa s=u at *
 generalize decide (s.size≤4096)=c1 at *
 generalize decide (s.size=12)=c2 at *
 generalize decide (s.size=0)=c3 at *
 have hk:k=1∨k=2∨k=3∨k=4∨k=5∨k=6∨k=7∨k=8∨k=9∨k=10∨k=11∨(k≠1∧k≠2∧k≠3∧k≠4∧k≠5∧k≠6∧k≠7∧k≠8∧k≠9∧k≠10∧k≠11):=by omega
 rcases hk with rfl|rfl|rfl|rfl|rfl|rfl|rfl|rfl|rfl|rfl|rfl|⟨n1,n2,n3,n4,n5,n6,n7,n8,n9,n10,n11⟩
 case inr.inr.inr.inr.inr.inr.inr.inr.inr.inr.inr=>
  have f:∀c:Int,k≠c→(k==c)=false:=fun c h=>by simpa using h
  simp only[bne,f _ n1,f _ n2,f _ n3,f _ n4,f _ n5,f _ n6,f _ n7,f _ n8,f _ n9,f _ n10,f _ n11]
  simp only[n1,n2,n3,n4,n5,n6,n7,n8,n9,n10,n11,or_self,if_false,decide_false]
  cases nl<;>cases nd<;>cases c3<;>cases (i==0)<;>rfl
 all_goals (rcases r0 with r0|r0<;>(have hr0:A=_:=hr0;subst hr0))
 all_goals simp(decide:=true) only[if_true,if_false]
 all_goals (cases nl<;>cases nd<;>cases c3<;>cases (i==0)<;>first|rfl|skip)
 all_goals (first|(cases B<;>first|rfl|(exact absurd (hl0 rfl) (by decide))|(exact absurd (hd0 rfl) (by decide))|skip)|skip)
 all_goals (cases u<;>cases c1<;>cases c2<;>first|rfl|(cases (i==1)<;>rfl)|(cases decide (0≤i)<;>rfl))
theorem aaz(v:ak)(hb:aT v.lf1≤100000000):Q12 v=some v.snd:=V3 FU v (by have:=fK;omega) hb
def F7(v:ak):Bool:=decide (v.cnt≤1024)&&(decide (v.dep≤16)&&v.snd)
theorem Lr(v:ak)(hb:aT v.lf1≤100000000):ahf v=some (F7 v):=by
 simp only[ahf,acH,Mo.den,aK,aF,aG,aJ,aI,aat v hb,aau v hb,aaz v hb,Option.bind_some,F7]
 rw[show decide (((min v.cnt 1025:Nat):Int)≤1024)=decide (v.cnt≤1024) by rw[Bool.eq_iff_iff];simp;omega,show decide (((min v.dep 17:Nat):Int)≤16)=decide (v.dep≤16) by rw[Bool.eq_iff_iff];simp;omega]
 cases decide (v.cnt≤1024)<;>cases decide (v.dep≤16)<;>rfl
theorem T.aly{α ρ:Type}{F:Int×List α→Option ((Int×List α)⊕ρ)}(Q:ρ→Prop)(step:∀(k:Nat) (m:List α),k≤100000000→m.length≤k→Tot (F ((k:Int),m)) (LP (fun v=>v.1=IntKind.wrap .i64 ((k:Int)+1)∧v.2.length≤k+1∧k<100000000) Q)):Tot (dh F FU (0,[])) Q:=
 T.aik (fun v=>v.1) (fun v=>(v.2.length:Int)≤v.1) Q rfl (Int.le_refl _) fun k s hk hs hP=>by
  obtain⟨i,m⟩:=s
  obtain rfl:i=(k:Int):=hs
  have hP:(m.length:Int)≤(k:Int):=hP
  refine T.mono (step k m hk (by omega)) ?_
  rintro(v|r) h
  ·refine⟨h.1,?_,h.2.2⟩
   have h1:=h.1
   have h2:=h.2.1
   show(v.2.length:Int)≤v.1
   rw[h1,inc k (by omega)];omega
  exact h
theorem gq(v:ak)(h:aT v.lf1≤100000000):Tot (ahf v) Any:=⟨_,Lr v h,trivial⟩
theorem Ua(a b:ByteArray):ajR a b=some (UO a b):=rfl
theorem Ol(p:List ByteArray)(h:p.length≤100000000):aj0 p=some (!(p.all nameB)):=by
 have key:Tot (ab7 p 0) (fun r=>match r with|.inl k=>0≤k∧p.all nameB=false|.inr _=>p.all nameB=true):=by
  refine T.lV p.length (by omega) (fun k s=>s=(k:Int)∧(p.take k).all nameB=true) _ ⟨rfl,by simp⟩ ?_ ?_
  ·rintro k s hk ⟨rfl,hv⟩
   have hx:=List.getElem?_eq_getElem hk
   simp only[zM,Mo.den,aK,aF,aG,aJ,aI,ltt hx,gid hx,cond_true,Option.bind_some,aaw]
   cases hb:nameB p[k] with
   |false=>exact T.ret ⟨by omega,afh _ hx hb⟩
   |true=>exact T.ret ⟨inc k (by omega),by rw[TN _ hx,hv,hb];rfl⟩
  rintro s ⟨rfl,hv⟩
  simp only[zM,Mo.den,aK,aF,aG,aJ,aI,ltn,cond_false]
  exact T.ret (show p.all nameB=true by rw[List.take_length] at hv;exact hv)
 obtain⟨r,h1,hr⟩:=key
 simp only[aj0,ab8,Q56,aiE,Mo.den,aK,aF,aG,aJ,aI,h1,Option.bind_some]
 rcases r with r|r
 ·have hr:0≤r∧p.all nameB=false:=hr
  rw[hr.2]
  show some (decide (0≤r))=_
  rw[decide_eq_true hr.1];rfl
 have hr:p.all nameB=true:=hr
 rw[hr];rfl
theorem qW(p:List ByteArray):Q74 p=some (aje p):=by
 unfold Q74 aiF P8 P9 BL aje
 simp only[Mo.den,aK,aF,aG,aJ,aI]
 by_cases h0:1≤p.length
 ·rw[decide_eq_true (show(1:Int)≤(p.length:Int) by omega), decide_eq_true h0]
  by_cases h1:p.length≤16
  ·rw[decide_eq_true (show(p.length:Int)≤16 by omega), decide_eq_true h1]
   simp only[cond_true,Option.bind_some,Ol p (by omega),Bool.not_not,Bool.true_and]
  rw[decide_eq_false (show ¬(p.length:Int)≤16 by omega),decide_eq_false h1];rfl
 rw[decide_eq_false (show ¬(1:Int)≤(p.length:Int) by omega),decide_eq_false h0];rfl
theorem F8(x:Int):0≤IntKind.wrap .u64 x∧IntKind.wrap .u64 x<18446744073709551616:=by
 rw[TY];omega
theorem aoh{v:Int}(h:0≤v):qA .u64 v 7=((v.toNat/128:Nat):Int):=by
 obtain⟨a,rfl⟩:=Int.eq_ofNat_of_zero_le h
 rw[Int.toNat_natCast]
 show Int.fdiv (a:Int) (2^min (7:Int).toNat (IntKind.u64).bits)=_
 rw[show(2:Int)^min (7:Int).toNat (IntKind.u64).bits=((128:Nat):Int) from rfl,Int.fdiv_eq_ediv_of_nonneg _ (by omega)]
 omega
def grp(k:Nat)(v:Int):Prop:=0≤v∧v.toNat*128^k<18446744073709551616
theorem grp.next{k:Nat}{v:Int}(h:grp k v):grp (k+1) (qA .u64 v 7):=by
 rw[aoh h.1]
 refine⟨by omega,?_⟩
 rw[Int.toNat_natCast,Nat.pow_succ,Nat.mul_comm (128^k) 128,←Nat.mul_assoc]
 exact Nat.lt_of_le_of_lt (Nat.mul_le_mul_right _ (Nat.div_mul_le_self _ _)) h.2
theorem grp.last{v:Int}(h:grp 10 v):decide ((128:Int)≤v)=false:=by
 have h1:=h.1
 have h2:=h.2
 refine decide_eq_false ?_
 have:(128:Nat)^10=1180591620717411303424:=by decide
 rw[this] at h2
 omega
theorem ail(n:Int):∃u,ak0 n=some u∧grp 0 u:=by
 simp only[ak0,aeB,Mo.den,aK,aF,aG,aJ,aI]
 refine⟨_,rfl,?_⟩
 have h:∀a b:Int,0≤iK .xor .u64 a b∧iK .xor .u64 a b<18446744073709551616:=fun a b=>F8 _
 have:=h (afJ .u64 (IntKind.wrap .u64 n) 1) (IntKind.wrap .u64 (qA .i64 n 63))
 exact⟨this.1,by rw[Nat.pow_zero];omega⟩
theorem iE(n:Int):Tot (Q72 n) Any:=by
 obtain⟨u,hu,hg⟩:=ail n
 unfold Q72 aja
 simp only[Mo.den,aK,aF,aG,aJ,aI,hu,Option.bind_some]
 refine T.bind (R:=Any) (T.lV 10 (by omega) (fun k s=>grp k s.2) _ hg ?_ ?_) fun _ _=>T.any
 ·rintro k ⟨c,v⟩ hk hv
  simp only[FN,Mo.den,aK,aF,aG,aJ,aI]
  exact T.ite (fun _=>T.ret hv.next) fun _=>T.ret trivial
 rintro⟨c,v⟩ hv
 have hv:grp 10 v:=hv
 simp only[FN,Mo.den,aK,aF,aG,aJ,aI,hv.last,cond_false]
 exact T.ret trivial
theorem qX(p_kind:Int):Tot (amY p_kind) Any:=by
 show MT (ael p_kind) Any
 repeat' (first|exact MT.any|refine MT.say ?_|refine MT.ite (fun _=>?_) (fun _=>?_))
theorem iF(p_v:ak):Tot (Q97 p_v) Any:=by
 show MT (ai2 p_v) Any
 repeat' (first|exact MT.any|refine MT.say ?_|refine MT.ite (fun _=>?_) (fun _=>?_)|refine MT.kP ?_ (fun _ _=>?_)|refine⟨(show MT _ Any from ?_)⟩)
theorem vg(p_s:aA):Tot (Q27 p_s) Any:=by
 show MT (ai3 p_s) Any
 repeat' (first|exact MT.any|refine MT.say ?_|refine MT.ite (fun _=>?_) (fun _=>?_)|refine MT.kP ?_ (fun _ _=>?_)|exact⟨T.wk (iF _)⟩|refine⟨(show MT _ Any from ?_)⟩)
theorem wZ(p_d:aj):Tot (Q84 p_d) Any:=by
 show MT (ai4 p_d) Any
 repeat' (first|exact MT.any|refine MT.say ?_|refine MT.ite (fun _=>?_) (fun _=>?_)|refine MT.kP ?_ (fun _ _=>?_)|exact⟨T.wk (vg _)⟩|refine⟨(show MT _ Any from ?_)⟩)
theorem yK(p_e:aW):Tot (amZ p_e) Any:=by
 show MT (aer p_e) Any
 repeat' (first|exact MT.any|refine MT.say ?_|refine MT.ite (fun _=>?_) (fun _=>?_)|refine MT.kP ?_ (fun _ _=>?_)|exact⟨T.wk (iF _)⟩|refine⟨(show MT _ Any from ?_)⟩)
theorem yL(p_p:aO):Tot (am0 p_p) Any:=by
 show MT (aes p_p) Any
 repeat' (first|exact MT.any|refine MT.say ?_|refine MT.ite (fun _=>?_) (fun _=>?_)|refine MT.kP ?_ (fun _ _=>?_)|exact⟨T.wk (yK _)⟩|exact⟨T.wk (iF _)⟩|refine⟨(show MT _ Any from ?_)⟩)
theorem xg(p_x:aS):Tot (Q64 p_x) Any:=by
 show MT (ai5 p_x) Any
 repeat' (first|exact MT.any|refine MT.say ?_|refine MT.ite (fun _=>?_) (fun _=>?_)|refine MT.kP ?_ (fun _ _=>?_)|exact⟨T.wk (yL _)⟩|refine⟨(show MT _ Any from ?_)⟩)
theorem xk(p_w:ay):Tot (Q30 p_w) Any:=by
 show MT (ai6 p_w) Any
 repeat' (first|exact MT.any|refine MT.say ?_|refine MT.ite (fun _=>?_) (fun _=>?_)|refine MT.kP ?_ (fun _ _=>?_)|exact⟨T.wk (xg _)⟩|exact⟨T.wk (wZ _)⟩|exact⟨T.wk (iF _)⟩|refine⟨(show MT _ Any from ?_)⟩)
theorem yM(p_w:ay):Tot (Q20 p_w) Any:=by
 show MT (ai7 p_w) Any
 refine MT.ask (R:=Any) ?_ ?_
 ·exact T.wk (qX p_w.aH)
 intro r8150 h8151 _
 refine MT.say (MT.ask (R:=Any) ?_ ?_)
 ·show MT (RI p_w r8150) Any
  refine MT.ite (fun c8153=>?_) (fun c8153=>?_)
  ·exact MT.say MT.any
  exact MT.say MT.any
 intro r8155 h8156 _
 refine MT.say (MT.ask (R:=Any) ?_ ?_)
 ·show MT (RJ r8150 r8155) Any
  refine MT.ite (fun c8158=>?_) (fun c8158=>?_)
  ·exact MT.say MT.any
  exact MT.say MT.any
 intro r8160 h8161 _
 refine MT.say (MT.ask (R:=Any) ?_ ?_)
 ·show MT (JY r8150 r8160) Any
  refine MT.ite (fun c8163=>?_) (fun c8163=>?_)
  ·exact MT.say MT.any
  exact MT.say MT.any
 intro r8165 h8166 _
 refine MT.say (MT.ask (R:=Any) ?_ ?_)
 ·show MT (JZ r8150 r8165) Any
  refine MT.ite (fun c8168=>?_) (fun c8168=>?_)
  ·exact MT.say MT.any
  exact MT.say MT.any
 intro r8170 h8171 _
 refine MT.say (MT.ask (R:=Any) ?_ ?_)
 ·show MT (J3 r8150 r8170) Any
  refine MT.ite (fun c8173=>?_) (fun c8173=>?_)
  ·exact MT.say MT.any
  exact MT.say MT.any
 intro r8175 h8176 _
 refine MT.say (MT.ask (R:=Any) ?_ ?_)
 ·show MT (J4 r8150 r8175) Any
  refine MT.ite (fun c8178=>?_) (fun c8178=>?_)
  ·exact MT.say MT.any
  exact MT.say MT.any
 intro r8180 h8181 _
 refine MT.say (MT.ask (R:=Any) ?_ ?_)
 ·show MT (J5 r8150 r8180) Any
  refine MT.ite (fun c8183=>?_) (fun c8183=>?_)
  ·exact MT.say MT.any
  exact MT.say MT.any
 intro r8185 h8186 _
 refine MT.say (MT.ask (R:=Any) ?_ ?_)
 ·show MT (J6 r8150 r8185) Any
  refine MT.ite (fun c8188=>?_) (fun c8188=>?_)
  ·exact MT.say MT.any
  exact MT.say MT.any
 intro r8190 h8191 _
 refine MT.say (MT.ask (R:=Any) ?_ ?_)
 ·show MT (J7 r8150 r8190) Any
  refine MT.ite (fun c8193=>?_) (fun c8193=>?_)
  ·exact MT.say MT.any
  exact MT.say MT.any
 intro r8195 h8196 _
 refine MT.say (MT.ask (R:=Any) ?_ ?_)
 ·show MT (J8 r8150 r8195) Any
  refine MT.ite (fun c8198=>?_) (fun c8198=>?_)
  ·exact MT.say MT.any
  exact MT.say MT.any
 intro r8200 h8201 _
 refine MT.say (MT.ask (R:=Any) ?_ ?_)
 ·exact T.wk (xk r8200)
 intro r8466 h8467 _
 exact MT.say MT.any
theorem vk(p_w:ay):Tot (am1 p_w) Any:=by
 show MT (aey p_w) Any
 repeat' (first|exact MT.any|refine MT.say ?_|refine MT.ite (fun _=>?_) (fun _=>?_)|refine MT.kP ?_ (fun _ _=>?_)|refine⟨(show MT _ Any from ?_)⟩)
theorem tX(p_l:List Int)(h_p_l:bM (p_l.map lfI)≤100000000):Tot (Q69 p_l) Any:=by
 have:=TM p_l
 show MT (ai8 p_l) Any
 (repeat refine MT.say ?_);refine MT.jf (R:=Any) ?_ ?_ ?_
 ·refine T.cnt (fun _=>True) ?_
  intro k1 hk1
  show MT (J9 p_l ((k1:Nat):Int)) _
  refine MT.ite (fun c8621=>?_) (fun c8621=>?_)
  ·have c8621':=of_decide_eq_true c8621
   (repeat refine MT.say ?_);refine MT.ask (dQ p_l ((k1:Nat):Int) (by omega) (by omega)) (fun x8622 _ hx2=>?_)
   (repeat refine MT.say ?_);refine MT.ask (R:=fun b_=>(b_=true→True)∧(b_=false→¬((x8622:Int)<0)∧¬((8:Int)≤x8622)∧True)) ?_ ?_
   ·show MT (RN p_l ((k1:Nat):Int) x8622) _
    refine MT.ite (fun c8624=>?_) (fun c8624=>?_)
    ·have c8624':=of_decide_eq_true c8624
     (repeat refine MT.say ?_);exact MT.ret ⟨(fun _=>trivial),(fun h_=>by cases h_)⟩
    have c8624':=of_decide_eq_false c8624
    (repeat refine MT.say ?_);exact MT.ret ⟨(fun _=>trivial),(fun h_=>⟨(by first|assumption|omega),(of_decide_eq_false h_),trivial⟩)⟩
   intro r8626 h8627 f_r8626
   (repeat refine MT.say ?_);refine MT.ask (R:=fun b_=>(b_=true→True)∧(b_=false→r8626=false∧True)) ?_ ?_
   ·show MT (RP p_l r8626 ((k1:Nat):Int) x8622) _
    refine MT.ite (fun c8628=>?_) (fun c8628=>?_)
    ·(repeat refine MT.say ?_);exact MT.ret ⟨(fun _=>trivial),(fun h_=>by cases h_)⟩
    have q3:=f_r8626.2 (c8628)
    (repeat refine MT.say ?_);refine MT.ite (fun c8629=>?_) (fun c8629=>?_)
    ·have c8629':=of_decide_eq_true c8629
     (repeat refine MT.say ?_);refine MT.ask (dQ p_l (IntKind.wrap .i64 (((k1:Nat):Int)-1)) (by rw[w64 (by omega) (by omega)];omega) (by rw[w64 (by omega) (by omega)];omega)) (fun x8630 _ hx4=>?_)
     (repeat refine MT.say ?_);exact MT.ret ⟨(fun _=>trivial),(fun h_=>⟨(by first|assumption|omega),trivial⟩)⟩
    have c8629':=of_decide_eq_false c8629
    (repeat refine MT.say ?_);exact MT.ret ⟨(fun h_=>by cases h_),(fun h_=>⟨(by first|assumption|omega),trivial⟩)⟩
   intro r8633 h8634 f_r8633
   (repeat refine MT.say ?_);refine MT.ite (fun c8635=>?_) (fun c8635=>?_)
   ·(repeat refine MT.say ?_);exact MT.ret trivial
   have q5:=f_r8633.2 (c8635)
   have q6:=f_r8626.2 (q5.1)
   (repeat refine MT.say ?_);exact MT.ret ⟨rfl,by omega⟩
  have c8621':=of_decide_eq_false c8621
  (repeat refine MT.say ?_);exact MT.ret trivial
 ·intro o8638 h8637 _
  (repeat refine MT.say ?_);exact MT.any
 intro o8639 h8637 _
 (repeat refine MT.say ?_);exact MT.any
theorem sS(p_v:ak)(h_p_v:aT p_v.lf1≤100000000):Tot (Q86 p_v) Any:=by
 have:=bZ p_v
 show MT (ai9 p_v) Any
 repeat' (first|exact MT.any|refine MT.say ?_|refine MT.ite (fun _=>?_) (fun _=>?_)|refine MT.kP ?_ (fun _ _=>?_)|exact⟨T.wk (gq _ (by first|omega|decide))⟩|refine⟨(show MT _ Any from ?_)⟩)
theorem AQ(p_x:Int):Tot (amH p_x) Any:=by
 show MT (adr p_x) Any
 repeat' (first|exact MT.any|refine MT.say ?_|refine MT.ite (fun _=>?_) (fun _=>?_))
theorem jm(p_x:Int)(p_y:Int):Tot (amI p_x p_y) Any:=by
 show MT (ads p_x p_y) Any
 repeat' (first|exact MT.any|refine MT.say ?_|refine MT.ite (fun _=>?_) (fun _=>?_)|refine MT.kP ?_ (fun _ _=>?_)|exact⟨T.wk (AQ _)⟩)
theorem yN(n_:Nat):∀(p_a:ak) (p_b:ak),aT p_a.lf1<n_→aT p_a.lf1≤100000000→aT p_b.lf1≤100000000→Tot ((ql n_).m1 p_a p_b) Any:=by
 induction n_ with
 |zero=>intro p_a p_b h;omega
 |succ n_ ih=>
  intro p_a p_b h_ h_p_a h_p_b
  have:=bZ p_a
  have:=iD p_a.bC
  have:=fG p_a.bG
  have:=bZ p_b
  have:=iD p_b.bC
  have:=fG p_b.bG
  show MT (adt (ql n_) p_a p_b) Any
  refine MT.ite (fun c3465=>?_) (fun c3465=>?_)
  ·have c3465':¬(p_a.aH=p_b.aH):=by simpa using c3465
   refine MT.say (MT.ask (R:=Any) ?_ ?_)
   ·exact T.wk (jm p_a.aH p_b.aH )
   intro r3468 h3469 _
   exact MT.say MT.any
  have c3465':p_a.aH=p_b.aH:=by simpa using c3465
  refine MT.say (MT.ask (R:=Any) ?_ ?_)
  ·show MT (Qw (ql n_) p_a p_b) Any
   refine MT.ite (fun c3668=>?_) (fun c3668=>?_)
   ·have c3668':p_a.aH=3:=by simpa using c3668
    exact MT.say MT.any
   have c3668':¬(p_a.aH=3):=by simpa using c3668
   refine MT.say (MT.ite (fun c3669=>?_) (fun c3669=>?_))
   ·have c3669':p_a.aH=9:=by simpa using c3669
    exact MT.say MT.any
   have c3669':¬(p_a.aH=9):=by simpa using c3669
   exact MT.say MT.any
  intro r3671 h3672 _
  refine MT.say (MT.ite (fun c3754=>?_) (fun c3754=>?_))
  ·refine MT.say (MT.ask (R:=Any) ?_ ?_)
   ·exact T.wk (jm p_a.dR p_b.dR )
   intro r3757 h3758 _
   exact MT.say MT.any
  refine MT.say (MT.ask (R:=Any) ?_ ?_)
  ·show MT (Qx (ql n_) p_a p_b) Any
   refine MT.ite (fun c3759=>?_) (fun c3759=>?_)
   ·have c3759':p_a.aH=4:=by simpa using c3759
    exact MT.say MT.any
   have c3759':¬(p_a.aH=4):=by simpa using c3759
   refine MT.say (MT.ite (fun c3760=>?_) (fun c3760=>?_))
   ·have c3760':p_a.aH=7:=by simpa using c3760
    exact MT.say MT.any
   have c3760':¬(p_a.aH=7):=by simpa using c3760
   exact MT.say MT.any
  intro r3762 h3763 _
  refine MT.say (MT.ite (fun c3837=>?_) (fun c3837=>?_))
  ·refine MT.say (MT.ask (R:=Any) ?_ ?_)
   ·exact T.wk (T.val (Ua p_a.fText p_b.fText))
   intro r3840 h3841 _
   exact MT.say MT.any
  refine MT.say (MT.ite (fun c3912=>?_) (fun c3912=>?_))
  ·have c3912':p_a.aH=6:=by simpa using c3912
   refine MT.say (MT.jf (R:=Any) ?_ ?_ ?_)
   ·refine T.cnt (fun _=>True) ?_
    intro k7 hk7
    show MT (Jv (ql n_) p_a p_b ((k7:Nat):Int)) _
    refine MT.ite (fun c3922=>?_) (fun c3922=>?_)
    ·have c3922':=of_decide_eq_true c3922
     refine MT.say (MT.ask (dQ p_a.bC ((k7:Nat):Int) (by omega) (by omega)) (fun x3923 _ hx8=>?_))
     have:=jY hx8
     have:=bZ x3923
     refine MT.say (MT.ask (dQ p_b.bC ((k7:Nat):Int) (by omega) (by omega)) (fun x3925 _ hx9=>?_))
     have:=jY hx9
     have:=bZ x3925
     refine MT.say (MT.ask (R:=Any) ?_ ?_)
     ·exact(ih x3923 x3925 (by omega) (by first|omega|(simp;done)|decide) (by first|omega|(simp;done)|decide))
     intro r3927 h3928 _
     refine MT.say (MT.ite (fun c3929=>?_) (fun c3929=>?_))
     ·have c3929':¬(r3927=0):=by simpa using c3929
      exact MT.say (MT.ret trivial)
     have c3929':r3927=0:=by simpa using c3929
     exact MT.say (MT.ret ⟨rfl,by omega⟩)
    have c3922':=of_decide_eq_false c3922
    exact MT.say (MT.ret trivial)
   ·intro o3935 h3934 _
    exact MT.say MT.any
   intro o3936 h3934 _
   refine MT.say (MT.ask (R:=Any) ?_ ?_)
   ·exact T.wk (jm (p_a.bC.length:Int) (p_b.bC.length:Int) )
   intro r3939 h3940 _
   exact MT.say MT.any
  have c3912':¬(p_a.aH=6):=by simpa using c3912
  refine MT.say (MT.ite (fun c3984=>?_) (fun c3984=>?_))
  ·have c3984':p_a.aH=5:=by simpa using c3984
   refine MT.say (MT.jf (R:=Any) ?_ ?_ ?_)
   ·refine T.cnt (fun _=>True) ?_
    intro k10 hk10
    show MT (Jw (ql n_) p_a p_b ((k10:Nat):Int)) _
    refine MT.ite (fun c4001=>?_) (fun c4001=>?_)
    ·have c4001':=of_decide_eq_true c4001
     refine MT.say (MT.ask (dQ p_a.bG ((k10:Nat):Int) (by omega) (by omega)) (fun x4002 _ hx11=>?_))
     have:=fZ hx11
     have:=eG x4002
     refine MT.say (MT.ask (dQ p_b.bG ((k10:Nat):Int) (by omega) (by omega)) (fun x4004 _ hx12=>?_))
     have:=fZ hx12
     have:=eG x4004
     refine MT.say (MT.ask (R:=Any) ?_ ?_)
     ·exact T.wk (T.val (Ua x4002.fName x4004.fName))
     intro r4006 h4007 _
     refine MT.say (MT.ite (fun c4008=>?_) (fun c4008=>?_))
     ·have c4008':¬(r4006=0):=by simpa using c4008
      exact MT.say (MT.ret trivial)
     have c4008':r4006=0:=by simpa using c4008
     refine MT.say (MT.ask (dQ p_a.bG ((k10:Nat):Int) (by omega) (by omega)) (fun x4009 _ hx13=>?_))
     have:=fZ hx13
     have:=eG x4009
     have:=bZ x4009.fValue
     refine MT.say (MT.ask (dQ p_b.bG ((k10:Nat):Int) (by omega) (by omega)) (fun x4011 _ hx14=>?_))
     have:=fZ hx14
     have:=eG x4011
     have:=bZ x4011.fValue
     refine MT.say (MT.ask (R:=Any) ?_ ?_)
     ·exact(ih x4009.fValue x4011.fValue (by omega) (by first|omega|(simp;done)|decide) (by first|omega|(simp;done)|decide))
     intro r4013 h4014 _
     refine MT.say (MT.ite (fun c4015=>?_) (fun c4015=>?_))
     ·have c4015':¬(r4013=0):=by simpa using c4015
      exact MT.say (MT.ret trivial)
     have c4015':r4013=0:=by simpa using c4015
     exact MT.say (MT.ret ⟨rfl,by omega⟩)
    have c4001':=of_decide_eq_false c4001
    exact MT.say (MT.ret trivial)
   ·intro o4023 h4022 _
    exact MT.say MT.any
   intro o4024 h4022 _
   refine MT.say (MT.ask (R:=Any) ?_ ?_)
   ·exact T.wk (jm (p_a.bG.length:Int) (p_b.bG.length:Int) )
   intro r4027 h4028 _
   exact MT.say MT.any
  have c3984':¬(p_a.aH=5):=by simpa using c3984
  exact MT.say MT.any
theorem AU(p_a:ak)(p_b:ak)(h_p_a:aT p_a.lf1≤100000000)(h_p_b:aT p_b.lf1≤100000000):Tot (Q59 p_a p_b) Any:=yN FU p_a p_b (by have:=fK;omega) h_p_a h_p_b
theorem tJ(p_a:ak)(p_b:ak)(h_p_a:aT p_a.lf1≤100000000)(h_p_b:aT p_b.lf1≤100000000):Tot (adv p_a p_b) Any:=by
 have:=bZ p_a
 have:=bZ p_b
 show MT (adu p_a p_b) Any
 repeat' (first|exact MT.any|refine MT.say ?_|refine MT.ite (fun _=>?_) (fun _=>?_)|refine MT.kP ?_ (fun _ _=>?_)|exact⟨T.wk (AU _ _ (by first|omega|decide) (by first|omega|decide))⟩)
theorem AX(n_:Nat):∀(p_v:ak),aT p_v.lf1<n_→aT p_v.lf1≤100000000→Tot ((oU n_).m1 p_v) Any:=by
 induction n_ with
 |zero=>intro p_v h;omega
 |succ n_ ih=>
  intro p_v h_ h_p_v
  have:=bZ p_v
  have:=iD p_v.bC
  have:=fG p_v.bG
  show MT (aeC (oU n_) p_v) Any
  refine MT.ask (R:=Any) ?_ ?_
  ·show MT (Kr (oU n_) p_v) Any
   refine MT.ask (R:=Any) ?_ ?_
   ·show MT (RS (oU n_) p_v) Any
    refine MT.ite (fun c8838=>?_) (fun c8838=>?_)
    ·have c8838':p_v.aH=3:=by simpa using c8838
     exact MT.say MT.any
    have c8838':¬(p_v.aH=3):=by simpa using c8838
    exact MT.say MT.any
   intro r8840 h8841 _
   refine MT.say (MT.ite (fun c8842=>?_) (fun c8842=>?_))
   ·refine MT.say (MT.ask (R:=Any) ?_ ?_)
    ·exact T.wk (iE p_v.dR )
    intro r8843 h8844 _
    exact MT.say MT.any
   refine MT.say (MT.ite (fun c8845=>?_) (fun c8845=>?_))
   ·have c8845':p_v.aH=9:=by simpa using c8845
    exact MT.say MT.any
   have c8845':¬(p_v.aH=9):=by simpa using c8845
   refine MT.say (MT.ask (R:=Any) ?_ ?_)
   ·show MT (RU (oU n_) p_v) Any
    refine MT.ite (fun c8846=>?_) (fun c8846=>?_)
    ·have c8846':p_v.aH=4:=by simpa using c8846
     exact MT.say MT.any
    have c8846':¬(p_v.aH=4):=by simpa using c8846
    exact MT.say MT.any
   intro r8848 h8849 _
   refine MT.say (MT.ite (fun c8850=>?_) (fun c8850=>?_))
   ·refine MT.say (MT.ask (R:=Any) ?_ ?_)
    ·exact T.wk (iE (p_v.fText.size:Int) )
    intro r8851 h8852 _
    exact MT.say MT.any
   refine MT.say (MT.ite (fun c8853=>?_) (fun c8853=>?_))
   ·have c8853':p_v.aH=8:=by simpa using c8853
    exact MT.say MT.any
   have c8853':¬(p_v.aH=8):=by simpa using c8853
   refine MT.say (MT.ite (fun c8854=>?_) (fun c8854=>?_))
   ·have c8854':p_v.aH=6:=by simpa using c8854
    refine MT.say (MT.ask (R:=Any) ?_ ?_)
    ·exact T.wk (iE (p_v.bC.length:Int) )
    intro r8855 h8856 _
    refine MT.say (MT.ask (R:=Any) ?_ ?_)
    ·refine T.anj (fun _=>True) ?_
     intro v8862 k15 hk15
     show MT (Ko (oU n_) p_v (v8862,((k15:Nat):Int))) _
     refine MT.ite (fun c8864=>?_) (fun c8864=>?_)
     ·have c8864':=of_decide_eq_true c8864
      refine MT.say (MT.ask (dQ p_v.bC ((k15:Nat):Int) (by omega) (by omega)) (fun x8865 _ hx16=>?_))
      have:=jY hx16
      have:=bZ x8865
      refine MT.say (MT.ask (R:=Any) ?_ ?_)
      ·exact(ih x8865 (by omega) (by first|omega|(simp;done)|decide))
      intro r8867 h8868 _
      exact MT.say (MT.ret ⟨rfl,by omega⟩)
     have c8864':=of_decide_eq_false c8864
     exact MT.say (MT.ret trivial)
    intro r8870 h8871 _
    exact MT.say MT.any
   have c8854':¬(p_v.aH=6):=by simpa using c8854
   refine MT.say (MT.ite (fun c8872=>?_) (fun c8872=>?_))
   ·have c8872':p_v.aH=5:=by simpa using c8872
    refine MT.say (MT.ask (R:=Any) ?_ ?_)
    ·exact T.wk (iE (p_v.bG.length:Int) )
    intro r8873 h8874 _
    refine MT.say (MT.ask (R:=Any) ?_ ?_)
    ·refine T.anj (fun _=>True) ?_
     intro v8882 k17 hk17
     show MT (Kq (oU n_) p_v (v8882,((k17:Nat):Int))) _
     refine MT.ite (fun c8884=>?_) (fun c8884=>?_)
     ·have c8884':=of_decide_eq_true c8884
      refine MT.say (MT.ask (dQ p_v.bG ((k17:Nat):Int) (by omega) (by omega)) (fun x8885 _ hx18=>?_))
      have:=fZ hx18
      have:=eG x8885
      have:=bZ x8885.fValue
      refine MT.say (MT.ask (R:=Any) ?_ ?_)
      ·exact T.wk (iE (x8885.fName.size:Int) )
      intro r8887 h8888 _
      refine MT.say (MT.ask (R:=Any) ?_ ?_)
      ·exact(ih x8885.fValue (by omega) (by first|omega|(simp;done)|decide))
      intro r8889 h8890 _
      exact MT.say (MT.ret ⟨rfl,by omega⟩)
     have c8884':=of_decide_eq_false c8884
     exact MT.say (MT.ret trivial)
    intro r8892 h8893 _
    exact MT.say MT.any
   have c8872':¬(p_v.aH=5):=by simpa using c8872
   exact MT.say MT.any
  intro r8900 h8901 _
  exact MT.say MT.any
theorem BX(p_v:ak)(h_p_v:aT p_v.lf1≤100000000):Tot (Q51 p_v) Any:=AX FU p_v (by have:=fK;omega) h_p_v
theorem BZ(p_v:ak)(h_p_v:aT p_v.lf1≤100000000):Tot (am2 p_v) Any:=by
 have:=bZ p_v
 show MT (aeD p_v) Any
 repeat' (first|exact MT.any|refine MT.say ?_|refine MT.ite (fun _=>?_) (fun _=>?_)|refine MT.kP ?_ (fun _ _=>?_)|exact⟨T.wk (BX _ (by first|omega|decide))⟩|exact⟨T.wk (gq _ (by first|omega|decide))⟩)
theorem yO(p_doc:ak)(p_key:ak)(h_p_doc:aT p_doc.lf1≤100000000)(h_p_key:aT p_key.lf1≤100000000):Tot (Q75 p_doc p_key) Any:=by
 have:=bZ p_doc
 have:=fG p_doc.bG
 have:=bZ p_key
 show MT (ajb p_doc p_key) Any
 refine MT.ask (R:=fun b_=>(b_=true→True)∧(b_=false→p_doc.aH=5∧True)) ?_ ?_
 ·show MT (RV p_doc p_key) _
  refine MT.ite (fun c8696=>?_) (fun c8696=>?_)
  ·have c8696':¬(p_doc.aH=5):=by simpa using c8696
   (repeat refine MT.say ?_);exact MT.ret ⟨(fun _=>trivial),(fun h_=>by cases h_)⟩
  have c8696':p_doc.aH=5:=by simpa using c8696
  (repeat refine MT.say ?_);refine MT.ask (R:=Any) ?_ ?_
  ·exact T.wk (gq p_doc (by first|omega|(simp;done)|decide))
  intro r8697 h8698 _
  (repeat refine MT.say ?_);exact MT.ret ⟨(fun _=>trivial),(fun h_=>⟨(by first|assumption|omega),trivial⟩)⟩
 intro r8700 h8701 f_r8700
 (repeat refine MT.say ?_);refine MT.ask (R:=fun b_=>(b_=true→True)∧(b_=false→r8700=false∧¬((p_doc.bG.length:Int)=0)∧True)) ?_ ?_
 ·show MT (RX p_doc p_key r8700) _
  refine MT.ite (fun c8702=>?_) (fun c8702=>?_)
  ·(repeat refine MT.say ?_);exact MT.ret ⟨(fun _=>trivial),(fun h_=>by cases h_)⟩
  have q19:=f_r8700.2 (c8702)
  (repeat refine MT.say ?_);exact MT.ret ⟨(fun _=>trivial),(fun h_=>⟨(by first|assumption|omega),(by simpa using h_),trivial⟩)⟩
 intro r8704 h8705 f_r8704
 (repeat refine MT.say ?_);refine MT.ite (fun c8707=>?_) (fun c8707=>?_)
 ·(repeat refine MT.say ?_);exact MT.any
 have q20:=f_r8704.2 (c8707)
 have q21:=f_r8700.2 (q20.1)
 (repeat refine MT.say ?_);refine MT.ask (R:=Any) ?_ ?_
 ·show MT (Kt p_doc p_key) Any
  refine MT.ask (dQ p_doc.bG 0 (by omega) (by omega)) (fun x8715 _ hx22=>?_)
  have:=fZ hx22
  have:=eG x8715
  (repeat refine MT.say ?_);refine MT.ite (fun c8717=>?_) (fun c8717=>?_)
  ·(repeat refine MT.say ?_);exact MT.any
  (repeat refine MT.say ?_);refine MT.ask (dQ p_doc.bG 0 (by omega) (by omega)) (fun x8718 _ hx23=>?_)
  have:=fZ hx23
  have:=eG x8718
  have:=bZ x8718.fValue
  (repeat refine MT.say ?_);refine MT.ask (R:=Any) ?_ ?_
  ·exact T.wk (tJ x8718.fValue p_key (by first|omega|(simp;done)|decide) (by first|omega|(simp;done)|decide))
  intro r8720 h8721 _
  (repeat refine MT.say ?_);exact MT.any
 intro r8725 h8726 _
 (repeat refine MT.say ?_);refine MT.ite (fun c8728=>?_) (fun c8728=>?_)
 ·(repeat refine MT.say ?_);exact MT.any
 (repeat refine MT.say ?_);refine MT.ask (R:=Any) ?_ ?_
 ·exact T.wk (BZ p_doc (by first|omega|(simp;done)|decide))
 intro r8906 h8907 _
 (repeat refine MT.say ?_);refine MT.ite (fun c8909=>?_) (fun c8909=>?_)
 ·have c8909':¬(r8906.2=0):=by simpa using c8909
  (repeat refine MT.say ?_);exact MT.any
 have c8909':r8906.2=0:=by simpa using c8909
 (repeat refine MT.say ?_);refine MT.ite (fun c8911=>?_) (fun c8911=>?_)
 ·have c8911':=of_decide_eq_true c8911
  (repeat refine MT.say ?_);exact MT.any
 have c8911':=of_decide_eq_false c8911
 (repeat refine MT.say ?_);exact MT.any
theorem xq(p_w:ay)(h_p_w:aT p_w.lf1≤100000000):Tot (am3 p_w) Any:=by
 have:=eu p_w
 have:=bZ p_w.eF
 have:=bZ p_w.bG
 have:=bZ p_w.gZ
 show MT (aeF p_w) Any
 repeat' (first|exact MT.any|refine MT.say ?_|refine MT.ite (fun _=>?_) (fun _=>?_)|refine MT.kP ?_ (fun _ _=>?_)|refine MT.ajd ?_ (fun _ _=>?_) (fun _ _=>?_)|exact⟨T.wk (sS _ (by first|omega|decide))⟩|exact⟨T.wk (yO _ _ (by first|omega|decide) (by first|omega|decide))⟩|exact⟨T.wk (iF _)⟩|refine⟨(show MT _ Any from ?_)⟩)
theorem qY(p_s1:List ByteArray)(p_s2:List ByteArray)(h_p_s1:bM (p_s1.map lfS)≤100000000)(h_p_s2:bM (p_s2.map lfS)≤100000000):Tot (amg p_s1 p_s2) Any:=by
 have:=fQ p_s1
 have:=fQ p_s2
 show MT (ab9 p_s1 p_s2) Any
 refine MT.say (MT.ite (fun c274=>?_) (fun c274=>?_))
 ·have c274':¬((p_s1.length:Int)=(p_s2.length:Int)):=by simpa using c274
  exact MT.say MT.any
 have c274':(p_s1.length:Int)=(p_s2.length:Int):=by simpa using c274
 refine MT.say (MT.jf (R:=Any) ?_ ?_ ?_)
 ·refine T.cnt (fun _=>True) ?_
  intro k24 hk24
  show MT (IC p_s1 p_s2 ((k24:Nat):Int)) _
  refine MT.ite (fun c310=>?_) (fun c310=>?_)
  ·have c310':=of_decide_eq_true c310
   refine MT.say (MT.ask (dQ p_s1 ((k24:Nat):Int) (by omega) (by omega)) (fun x311 _ hx25=>?_))
   have:=D8 hx25
   refine MT.say (MT.ask (dQ p_s2 ((k24:Nat):Int) (by omega) (by omega)) (fun x313 _ hx26=>?_))
   have:=D8 hx26
   refine MT.say (MT.ite (fun c315=>?_) (fun c315=>?_))
   ·exact MT.say (MT.ret trivial)
   exact MT.say (MT.ret ⟨rfl,by omega⟩)
  have c310':=of_decide_eq_false c310
  exact MT.say (MT.ret trivial)
 ·intro o318 h317 _
  exact MT.say MT.any
 intro o319 h317 _
 exact MT.say MT.any
theorem Du(p_l:List bH)(h_p_l:bM (p_l.map bH.lf)≤100000000):Tot (amh p_l) Any:=by
 have:=ng p_l
 show MT (acd p_l) Any
 refine MT.say (MT.ite (fun c252=>?_) (fun c252=>?_))
 ·have c252':=of_decide_eq_true c252
  exact MT.say MT.any
 have c252':=of_decide_eq_false c252
 refine MT.say (MT.jf (R:=Any) ?_ ?_ ?_)
 ·refine T.cnt (fun _=>True) ?_
  intro k27 hk27
  have:=lH bH.lf p_l (((k27:Nat):Int).toNat)
  have:=ng (p_l.take ((k27:Nat):Int).toNat)
  show MT (IG p_l ((k27:Nat):Int)) _
  refine MT.ite (fun c437=>?_) (fun c437=>?_)
  ·have c437':=of_decide_eq_true c437
   refine MT.say (MT.ask (dQ p_l ((k27:Nat):Int) (by omega) (by omega)) (fun x438 _ hx28=>?_))
   have:=qR hx28
   have:=mY x438
   have:=fQ x438.dH
   refine MT.say (MT.ask (R:=Any) ?_ ?_)
   ·exact T.wk (T.val (qW x438.dH))
   intro r440 h441 _
   refine MT.say (MT.ite (fun c442=>?_) (fun c442=>?_))
   ·exact MT.say (MT.ret trivial)
   refine MT.say (MT.grd (by omega) (fun _=>?_))
   refine MT.say (MT.jf (R:=Any) ?_ ?_ ?_)
   ·refine T.cnt (fun _=>True) ?_
    intro k29 hk29
    have:=lH bH.lf p_l (((k27:Nat):Int).toNat)
    have:=ng (p_l.take ((k27:Nat):Int).toNat)
    show MT (IE p_l ((k27:Nat):Int) x438 ((k29:Nat):Int)) _
    refine MT.ite (fun c451=>?_) (fun c451=>?_)
    ·have c451':=of_decide_eq_true c451
     refine MT.say (MT.ask (dQ (p_l.take ((k27:Nat):Int).toNat) ((k29:Nat):Int) (by omega) (by omega)) (fun x452 _ hx30=>?_))
     have:=lH bH.lf p_l (((k27:Nat):Int).toNat)
     have:=qR hx30
     have:=mY x452
     have:=fQ x452.dH
     refine MT.say (MT.ask (R:=Any) ?_ ?_)
     ·exact T.wk (qY x452.dH x438.dH (by first|omega|(simp;done)|decide) (by first|omega|(simp;done)|decide))
     intro r454 h455 _
     refine MT.say (MT.ite (fun c456=>?_) (fun c456=>?_))
     ·exact MT.say (MT.ret trivial)
     exact MT.say (MT.ret ⟨rfl,by omega⟩)
    have c451':=of_decide_eq_false c451
    exact MT.say (MT.ret trivial)
   ·intro o459 h458 _
    exact MT.say (MT.ret trivial)
   intro o460 h458 _
   exact MT.say (MT.ret ⟨rfl,by omega⟩)
  have c437':=of_decide_eq_false c437
  exact MT.say (MT.ret trivial)
 ·intro o464 h463 _
  exact MT.say MT.any
 intro o465 h463 _
 exact MT.say MT.any
theorem xu(n_:Nat):∀(p_p:aO) (p_level:Int) (p_b0:Int),aT p_p.lf1<n_→aT p_p.lf1≤100000000→Tot ((C9 n_).m1 p_p p_level p_b0) Any:=by
 induction n_ with
 |zero=>intro p_p p_level p_b0 h;omega
 |succ n_ ih=>
  intro p_p p_level p_b0 h_ h_p_p
  have:=iL p_p
  have:=qQ p_p.cO
  show MT (ace (C9 n_) p_p p_level p_b0) Any
  refine MT.ask (R:=fun b_=>(b_=true→True)∧(b_=false→¬((16:Int)<p_level)∧¬(p_b0=256)∧True)) ?_ ?_
  ·show MT (Qa (C9 n_) p_b0 p_level p_p) _
   refine MT.ite (fun c491=>?_) (fun c491=>?_)
   ·have c491':=of_decide_eq_true c491
    exact MT.say (MT.ret ⟨(fun _=>trivial),(fun h_=>by cases h_)⟩)
   have c491':=of_decide_eq_false c491
   exact MT.say (MT.ret ⟨(fun _=>trivial),(fun h_=>⟨(by first|assumption|omega),(by simpa using h_),trivial⟩)⟩)
  intro r493 h494 f_r493
  refine MT.say (MT.ite (fun c496=>?_) (fun c496=>?_))
  ·exact MT.say MT.any
  have q31:=f_r493.2 (c496)
  refine MT.say (MT.jf (R:=Any) ?_ ?_ ?_)
  ·refine T.GZ (fun _=>True) ?_
   intro k32 v535 hk32
   show MT (Qb (C9 n_) p_level p_p (((k32:Nat):Int),v535)) _
   refine MT.ite (fun c536=>?_) (fun c536=>?_)
   ·have c536':=of_decide_eq_true c536
    refine MT.say (MT.ask (dQ p_p.cO ((k32:Nat):Int) (by omega) (by omega)) (fun x537 _ hx33=>?_))
    have:=AO hx33
    have:=iL x537
    refine MT.say (MT.ask (R:=Any) ?_ ?_)
    ·exact(ih x537 (IntKind.wrap .i64 (p_level+1)) v535 (by omega) (by first|omega|(simp;done)|decide))
    intro r539 h540 _
    refine MT.say (MT.ite (fun c541=>?_) (fun c541=>?_))
    ·exact MT.say (MT.ret trivial)
    exact MT.say (MT.ret ⟨rfl,by omega⟩)
   have c536':=of_decide_eq_false c536
   exact MT.say (MT.ret trivial)
  ·intro o546 h545 _
   exact MT.say MT.any
  intro o547 h545 _
  exact MT.say MT.any
theorem yP(p_p:aO)(p_level:Int)(p_b0:Int)(h_p_p:aT p_p.lf1≤100000000):Tot (Q85 p_p p_level p_b0) Any:=xu FU p_p p_level p_b0 (by have:=fK;omega) h_p_p
theorem tY(p_op:Int)(p_n:Int):Tot (ami p_op p_n) Any:=by
 show MT (acf p_op p_n) Any
 repeat' (first|exact MT.any|refine MT.say ?_|refine MT.ite (fun _=>?_) (fun _=>?_)|refine MT.kP ?_ (fun _ _=>?_)|refine⟨(show MT _ Any from ?_)⟩)
theorem jO(p_op:Int):Tot (amj p_op) Any:=by
 show MT (acg p_op) Any
 repeat' (first|exact MT.any|refine MT.say ?_|refine MT.ite (fun _=>?_) (fun _=>?_))
theorem tZ(p_p:aO)(h_p_p:aT p_p.lf1≤100000000):Tot (Q22 p_p) Any:=by
 have:=iL p_p
 show MT (aiG p_p) Any
 repeat' (first|exact MT.any|refine MT.say ?_|refine MT.ite (fun _=>?_) (fun _=>?_)|refine MT.kP ?_ (fun _ _=>?_)|refine⟨(show MT _ Any from ?_)⟩)
theorem nK(p_op:Int):Tot (amk p_op) Any:=by
 show MT (acj p_op) Any
 repeat' (first|exact MT.any|refine MT.say ?_|refine MT.ite (fun _=>?_) (fun _=>?_))
theorem mg(p_op:Int):Tot (aml p_op) Any:=by
 show MT (acn p_op) Any
 repeat' (first|exact MT.any|refine MT.say ?_|refine MT.ite (fun _=>?_) (fun _=>?_))
theorem mD(p_op:Int):Tot (amm p_op) Any:=by
 show MT (aco p_op) Any
 repeat' (first|exact MT.any|refine MT.say ?_|refine MT.ite (fun _=>?_) (fun _=>?_)|refine MT.kP ?_ (fun _ _=>?_)|exact⟨T.wk (mg _)⟩)
theorem nM(p_n:Int):Tot (amq p_n) Any:=by
 show MT (acI p_n) Any
 repeat' (first|exact MT.any|refine MT.say ?_|refine MT.ite (fun _=>?_) (fun _=>?_))
theorem Dv(p_p:dw)(h_p_p:aT p_p.lf1≤100000000):Tot (amr p_p) Any:=by
 have:=yH p_p
 show MT (acJ p_p) Any
 repeat' (first|exact MT.any|refine MT.say ?_|refine MT.ite (fun _=>?_) (fun _=>?_)|refine MT.kP ?_ (fun _ _=>?_)|exact⟨T.wk (nM _)⟩)
theorem Ho(p_s:dA)(h_p_s:aT p_s.lf1≤100000000):Tot (ams p_s) Any:=by
 have:=mZ p_s
 have:=yI p_s.dS
 show MT (acK p_s) Any
 refine MT.say (MT.ask (R:=Any) ?_ ?_)
 ·show MT (I7 p_s) Any
  refine MT.ite (fun c1679=>?_) (fun c1679=>?_)
  ·have c1679':p_s.aH=1:=by simpa using c1679
   refine MT.say (MT.ite (fun c1680=>?_) (fun c1680=>?_))
   ·have c1680':(p_s.dS.length:Int)=2:=by simpa using c1680
    exact MT.say MT.any
   have c1680':¬((p_s.dS.length:Int)=2):=by simpa using c1680
   exact MT.say MT.any
  have c1679':¬(p_s.aH=1):=by simpa using c1679
  refine MT.say (MT.ite (fun c1681=>?_) (fun c1681=>?_))
  ·have c1681':p_s.aH=2:=by simpa using c1681
   refine MT.say (MT.ite (fun c1682=>?_) (fun c1682=>?_))
   ·have c1682':(p_s.dS.length:Int)=1:=by simpa using c1682
    refine MT.say (MT.ask (R:=Any) ?_ ?_)
    ·exact T.wk (nM p_s.fR )
    intro r1683 h1684 _
    exact MT.say MT.any
   have c1682':¬((p_s.dS.length:Int)=1):=by simpa using c1682
   exact MT.say MT.any
  have c1681':¬(p_s.aH=2):=by simpa using c1681
  refine MT.say (MT.ite (fun c1685=>?_) (fun c1685=>?_))
  ·have c1685':p_s.aH=3:=by simpa using c1685
   refine MT.say (MT.ite (fun c1686=>?_) (fun c1686=>?_))
   ·have c1686':=of_decide_eq_true c1686
    refine MT.say (MT.ite (fun c1687=>?_) (fun c1687=>?_))
    ·have c1687':=of_decide_eq_true c1687
     exact MT.say MT.any
    have c1687':=of_decide_eq_false c1687
    exact MT.say MT.any
   have c1686':=of_decide_eq_false c1686
   exact MT.say MT.any
  have c1685':¬(p_s.aH=3):=by simpa using c1685
  exact MT.say MT.any
 intro r1689 h1690 _
 refine MT.say (MT.ite (fun c1692=>?_) (fun c1692=>?_))
 ·exact MT.say MT.any
 refine MT.say (MT.jf (R:=Any) ?_ ?_ ?_)
 ·refine T.cnt (fun _=>True) ?_
  intro k34 hk34
  show MT (I8 p_s ((k34:Nat):Int)) _
  refine MT.ite (fun c1733=>?_) (fun c1733=>?_)
  ·have c1733':=of_decide_eq_true c1733
   refine MT.say (MT.ask (dQ p_s.dS ((k34:Nat):Int) (by omega) (by omega)) (fun x1734 _ hx35=>?_))
   have:=yH x1734
   refine MT.say (MT.ask (R:=Any) ?_ ?_)
   ·exact T.wk (Dv x1734 (by first|omega|(simp;done)|decide))
   intro r1736 h1737 _
   refine MT.say (MT.ite (fun c1738=>?_) (fun c1738=>?_))
   ·exact MT.say (MT.ret trivial)
   exact MT.say (MT.ret ⟨rfl,by omega⟩)
  have c1733':=of_decide_eq_false c1733
  exact MT.say (MT.ret trivial)
 ·intro o1741 h1740 _
  exact MT.say MT.any
 intro o1742 h1740 _
 exact MT.say MT.any
theorem nN(p_v:ak):Tot (Q32 p_v) Any:=by
 show MT (aiH p_v) Any
 repeat' (first|exact MT.any|refine MT.say ?_|refine MT.ite (fun _=>?_) (fun _=>?_)|refine MT.kP ?_ (fun _ _=>?_)|refine⟨(show MT _ Any from ?_)⟩)
theorem xw(p_op:Int):Tot (amu p_op) Any:=by
 show MT (acM p_op) Any
 repeat' (first|exact MT.any|refine MT.say ?_|refine MT.ite (fun _=>?_) (fun _=>?_)|refine MT.kP ?_ (fun _ _=>?_)|refine⟨(show MT _ Any from ?_)⟩)
theorem qx(p_e:aW):Tot (Q19 p_e) Any:=by
 show MT (aiI p_e) Any
 repeat' (first|exact MT.any|refine MT.say ?_|refine MT.ite (fun _=>?_) (fun _=>?_)|refine MT.kP ?_ (fun _ _=>?_)|exact⟨T.wk (nN _)⟩|refine⟨(show MT _ Any from ?_)⟩)
theorem xA(p_p:aO):Tot (Q38 p_p) Any:=by
 show MT (aiJ p_p) Any
 repeat' (first|exact MT.any|refine MT.say ?_|refine MT.ite (fun _=>?_) (fun _=>?_)|refine MT.kP ?_ (fun _ _=>?_)|refine MT.ajd ?_ (fun _ _=>?_) (fun _ _=>?_)|exact⟨T.wk (nN _)⟩|exact⟨T.wk (qx _)⟩|exact⟨T.wk (nK _)⟩|exact⟨T.wk (mD _)⟩|exact⟨T.wk (jO _)⟩|exact⟨T.wk (xw _)⟩|refine⟨(show MT _ Any from ?_)⟩)
theorem F9(p_op:Int):Tot (Q90 p_op) Any:=by
 show MT (aiK p_op) Any
 repeat' (first|exact MT.any|refine MT.say ?_|refine MT.ite (fun _=>?_) (fun _=>?_)|refine MT.kP ?_ (fun _ _=>?_)|refine⟨(show MT _ Any from ?_)⟩)
theorem Cb(p_shape:Int)(p_n:Int):Tot (akc p_shape p_n) Any:=by
 show MT (acS p_shape p_n) Any
 repeat' (first|exact MT.any|refine MT.say ?_|refine MT.ite (fun _=>?_) (fun _=>?_)|refine MT.kP ?_ (fun _ _=>?_)|refine⟨(show MT _ Any from ?_)⟩)
theorem tK(p_s:ByteArray)(h_p_s:p_s.size≤100000000):Tot (amv p_s) Any:=by
 show MT (acT p_s) Any
 repeat' (first|exact MT.any|refine MT.say ?_|refine MT.ite (fun _=>?_) (fun _=>?_)|refine MT.kP ?_ (fun _ _=>?_)|exact⟨T.wk (T.val (qW _))⟩)
theorem sU(p_l:List ByteArray)(h_p_l:bM (p_l.map lfS)≤100000000):Tot (Q87 p_l) Any:=by
 have:=fQ p_l
 show MT (aiL p_l) Any
 (repeat refine MT.say ?_);refine MT.jf (R:=Any) ?_ ?_ ?_
 ·refine T.aly (fun _=>True) ?_
  intro k36 m2333 hk36 hmk36
  show MT (Ql p_l (((k36:Nat):Int),m2333)) _
  refine MT.ite (fun c2334=>?_) (fun c2334=>?_)
  ·have c2334':=of_decide_eq_true c2334
   (repeat refine MT.say ?_);refine MT.ask (dQ p_l ((k36:Nat):Int) (by omega) (by omega)) (fun x2335 _ hx37=>?_)
   have:=D8 hx37
   (repeat refine MT.say ?_);refine MT.ask (R:=Any) ?_ ?_
   ·show MT (Qk m2333 p_l ((k36:Nat):Int) x2335) Any
    refine MT.ask (R:=Any) ?_ ?_
    ·exact T.wk (tK x2335 (by first|omega|(simp;done)|decide))
    intro r2337 h2338 _
    (repeat refine MT.say ?_);refine MT.ite (fun c2339=>?_) (fun c2339=>?_)
    ·(repeat refine MT.say ?_);exact MT.any
    (repeat refine MT.say ?_);exact MT.any
   intro r2341 h2342 _
   (repeat refine MT.say ?_);refine MT.ite (fun c2343=>?_) (fun c2343=>?_)
   ·(repeat refine MT.say ?_);exact MT.ret trivial
   (repeat refine MT.say ?_);refine MT.grd (by unfold maxLen;omega) (fun _=>?_)
   (repeat refine MT.say ?_);exact MT.ret ⟨rfl,by first|omega|(simp only[List.length_cons];omega),by omega⟩
  have c2334':=of_decide_eq_false c2334
  (repeat refine MT.say ?_);exact MT.ret trivial
 ·intro o2347 h2346 _
  (repeat refine MT.say ?_);exact MT.any
 intro o2348 h2346 _
 (repeat refine MT.say ?_);exact MT.any
theorem Dw(p_v:ak):Tot (amw p_v) Any:=by
 show MT (acU p_v) Any
 repeat' (first|exact MT.any|refine MT.say ?_|refine MT.ite (fun _=>?_) (fun _=>?_)|refine MT.kP ?_ (fun _ _=>?_)|refine⟨(show MT _ Any from ?_)⟩)
theorem yQ(p_e:aW)(h_p_e:aT p_e.lf1≤100000000):Tot (Q26 p_e) Any:=by
 have:=jR p_e
 have:=fQ p_e.dH
 have:=fQ p_e.gK
 have:=bZ p_e.fArg
 have:=wP p_e.cO
 show MT (aiM p_e) Any
 repeat' (first|exact MT.any|refine MT.say ?_|refine MT.ite (fun _=>?_) (fun _=>?_)|refine MT.kP ?_ (fun _ _=>?_)|exact⟨T.wk (sU _ (by first|omega|decide))⟩|exact⟨T.wk (Cb _ _)⟩|exact⟨T.wk (tK _ (by first|omega|decide))⟩|exact⟨T.wk (Dw _)⟩|exact⟨T.wk (F9 _)⟩|exact⟨T.wk (T.val (qW _))⟩|exact⟨T.wk (gq _ (by first|omega|decide))⟩|refine⟨(show MT _ Any from ?_)⟩)
theorem Dx(n_:Nat):∀(p_e:aW) (p_level:Int) (p_b0:Int),aT p_e.lf1<n_→aT p_e.lf1≤100000000→Tot ((Dc n_).m1 p_e p_level p_b0) Any:=by
 induction n_ with
 |zero=>intro p_e p_level p_b0 h;omega
 |succ n_ ih=>
  intro p_e p_level p_b0 h_ h_p_e
  have:=jR p_e
  have:=wP p_e.cO
  show MT (Vd (Dc n_) p_e p_level p_b0) Any
  refine MT.ask (R:=fun b_=>(b_=true→True)∧(b_=false→¬((16:Int)<p_level)∧¬(p_b0=256)∧True)) ?_ ?_
  ·show MT (I9 (Dc n_) p_b0 p_e p_level) _
   refine MT.ite (fun c1966=>?_) (fun c1966=>?_)
   ·have c1966':=of_decide_eq_true c1966
    exact MT.say (MT.ret ⟨(fun _=>trivial),(fun h_=>by cases h_)⟩)
   have c1966':=of_decide_eq_false c1966
   exact MT.say (MT.ret ⟨(fun _=>trivial),(fun h_=>⟨(by first|assumption|omega),(by simpa using h_),trivial⟩)⟩)
  intro r1968 h1969 f_r1968
  refine MT.say (MT.ite (fun c1971=>?_) (fun c1971=>?_))
  ·exact MT.say MT.any
  have q38:=f_r1968.2 (c1971)
  refine MT.say (MT.ask (R:=Any) ?_ ?_)
  ·exact T.wk (yQ p_e (by first|omega|(simp;done)|decide))
  intro r2458 h2459 _
  refine MT.say (MT.ite (fun c2461=>?_) (fun c2461=>?_))
  ·have c2461':¬(r2458=0):=by simpa using c2461
   exact MT.say MT.any
  have c2461':r2458=0:=by simpa using c2461
  refine MT.say (MT.jf (R:=Any) ?_ ?_ ?_)
  ·refine T.GZ (fun _=>True) ?_
   intro k39 v2501 hk39
   show MT (Ja (Dc n_) p_e p_level (((k39:Nat):Int),v2501)) _
   refine MT.ite (fun c2502=>?_) (fun c2502=>?_)
   ·have c2502':=of_decide_eq_true c2502
    refine MT.say (MT.ask (dQ p_e.cO ((k39:Nat):Int) (by omega) (by omega)) (fun x2503 _ hx40=>?_))
    have:=F6 hx40
    have:=jR x2503
    refine MT.say (MT.ask (R:=Any) ?_ ?_)
    ·exact(ih x2503 (IntKind.wrap .i64 (p_level+1)) v2501 (by omega) (by first|omega|(simp;done)|decide))
    intro r2505 h2506 _
    refine MT.say (MT.ite (fun c2507=>?_) (fun c2507=>?_))
    ·have c2507':¬(r2505.1=0):=by simpa using c2507
     exact MT.say (MT.ret trivial)
    have c2507':r2505.1=0:=by simpa using c2507
    exact MT.say (MT.ret ⟨rfl,by omega⟩)
   have c2502':=of_decide_eq_false c2502
   exact MT.say (MT.ret trivial)
  ·intro o2513 h2512 _
   exact MT.say MT.any
  intro o2514 h2512 _
  exact MT.say MT.any
theorem Gf(p_e:aW)(p_level:Int)(p_b0:Int)(h_p_e:aT p_e.lf1≤100000000):Tot (amx p_e p_level p_b0) Any:=Dx FU p_e p_level p_b0 (by have:=fK;omega) h_p_e
theorem Gg(p_e:aW)(h_p_e:aT p_e.lf1≤100000000):Tot (amy p_e) Any:=by
 have:=jR p_e
 show MT (acY p_e) Any
 repeat' (first|exact MT.any|refine MT.say ?_|refine MT.ite (fun _=>?_) (fun _=>?_)|refine MT.kP ?_ (fun _ _=>?_)|exact⟨T.wk (Gf _ _ _ (by first|omega|decide))⟩)
theorem qZ(p_p:aO)(p_inside:Bool)(h_p_p:aT p_p.lf1≤100000000):Tot (Q11 p_p p_inside) Any:=by
 have:=iL p_p
 have:=fQ p_p.dH
 have:=bZ p_p.fArg
 have:=iD p_p.fArgs
 have:=mZ p_p.dK
 have:=jR p_p.fExpr
 have:=qQ p_p.cO
 show MT (aiN p_p p_inside) Any
 refine MT.ask (R:=fun b_=>(b_=true→True)∧(b_=false→¬((p_p.fOp:Int)<1)∧¬((24:Int)<p_p.fOp)∧True)) ?_ ?_
 ·show MT (Qm p_inside p_p) _
  refine MT.ite (fun c597=>?_) (fun c597=>?_)
  ·have c597':=of_decide_eq_true c597
   (repeat refine MT.say ?_);exact MT.ret ⟨(fun _=>trivial),(fun h_=>by cases h_)⟩
  have c597':=of_decide_eq_false c597
  (repeat refine MT.say ?_);exact MT.ret ⟨(fun _=>trivial),(fun h_=>⟨(by first|assumption|omega),(of_decide_eq_false h_),trivial⟩)⟩
 intro r599 h600 f_r599
 (repeat refine MT.say ?_);refine MT.ask (R:=fun b_=>(b_=true→True)∧(b_=false→r599=false∧True)) ?_ ?_
 ·show MT (Qn p_inside p_p r599) _
  refine MT.ite (fun c601=>?_) (fun c601=>?_)
  ·(repeat refine MT.say ?_);exact MT.ret ⟨(fun _=>trivial),(fun h_=>by cases h_)⟩
  have q41:=f_r599.2 (c601)
  (repeat refine MT.say ?_);refine MT.ask (R:=Any) ?_ ?_
  ·exact T.wk (tY p_p.fOp (p_p.cO.length:Int) )
  intro r602 h603 _
  (repeat refine MT.say ?_);exact MT.ret ⟨(fun _=>trivial),(fun h_=>⟨(by first|assumption|omega),trivial⟩)⟩
 intro r605 h606 f_r605
 (repeat refine MT.say ?_);refine MT.ite (fun c608=>?_) (fun c608=>?_)
 ·(repeat refine MT.say ?_);exact MT.any
 have q42:=f_r605.2 (c608)
 have q43:=f_r599.2 (q42.1)
 (repeat refine MT.say ?_);refine MT.ask (R:=fun b_=>(b_=true→(p_p.fArgs.length:Int)=0∧True)∧(b_=false→True)) ?_ ?_
 ·show MT (Jb p_inside p_p) _
  refine MT.ask (R:=Any) ?_ ?_
  ·exact T.wk (jO p_p.fOp )
  intro r732 h733 _
  (repeat refine MT.say ?_);refine MT.ite (fun c734=>?_) (fun c734=>?_)
  ·(repeat refine MT.say ?_);exact MT.ret ⟨(fun h_=>⟨(by simpa using h_),trivial⟩),(fun _=>trivial)⟩
  (repeat refine MT.say ?_);exact MT.ret ⟨(fun h_=>by cases h_),(fun _=>trivial)⟩
 intro r736 h737 f_r736
 (repeat refine MT.say ?_);refine MT.ask (R:=fun b_=>(b_=true→True)∧(b_=false→r736=false∧True)) ?_ ?_
 ·show MT (Jc p_inside p_p r736) _
  refine MT.ite (fun c738=>?_) (fun c738=>?_)
  ·have q44:=f_r736.1 (c738)
   (repeat refine MT.say ?_);exact MT.ret ⟨(fun _=>trivial),(fun h_=>by cases h_)⟩
  (repeat refine MT.say ?_);refine MT.ask (R:=Any) ?_ ?_
  ·exact T.wk (tZ p_p (by first|omega|(simp;done)|decide))
  intro r739 h740 _
  (repeat refine MT.say ?_);exact MT.ret ⟨(fun _=>trivial),(fun h_=>⟨(by first|assumption|omega),trivial⟩)⟩
 intro r742 h743 f_r742
 (repeat refine MT.say ?_);refine MT.ite (fun c745=>?_) (fun c745=>?_)
 ·(repeat refine MT.say ?_);exact MT.any
 have q45:=f_r742.2 (c745)
 (repeat refine MT.say ?_);refine MT.ask (R:=Any) ?_ ?_
 ·show MT (Jd p_inside p_p) Any
  refine MT.ask (R:=Any) ?_ ?_
  ·exact T.wk (nK p_p.fOp )
  intro r760 h761 _
  (repeat refine MT.say ?_);refine MT.ite (fun c762=>?_) (fun c762=>?_)
  ·(repeat refine MT.say ?_);refine MT.ask (R:=Any) ?_ ?_
   ·exact T.wk (T.val (qW p_p.dH))
   intro r763 h764 _
   (repeat refine MT.say ?_);exact MT.any
  (repeat refine MT.say ?_);exact MT.any
 intro r766 h767 _
 (repeat refine MT.say ?_);refine MT.ask (R:=fun b_=>(b_=true→r766=true∧True)∧(b_=false→True)) ?_ ?_
 ·show MT (Je p_inside p_p r766) _
  refine MT.ite (fun c768=>?_) (fun c768=>?_)
  ·(repeat refine MT.say ?_);refine MT.ite (fun c769=>?_) (fun c769=>?_)
   ·(repeat refine MT.say ?_);exact MT.ret ⟨(fun h_=>⟨(by first|assumption|omega),trivial⟩),(fun h_=>by cases h_)⟩
   (repeat refine MT.say ?_);exact MT.ret ⟨(fun h_=>⟨(by first|assumption|omega),trivial⟩),(fun _=>trivial)⟩
  (repeat refine MT.say ?_);exact MT.ret ⟨(fun h_=>by cases h_),(fun _=>trivial)⟩
 intro r771 h772 f_r771
 (repeat refine MT.say ?_);refine MT.ite (fun c774=>?_) (fun c774=>?_)
 ·have q46:=f_r771.1 (c774)
  (repeat refine MT.say ?_);exact MT.any
 (repeat refine MT.say ?_);refine MT.ask (R:=Any) ?_ ?_
 ·show MT (Jf p_p) Any
  refine MT.ask (R:=Any) ?_ ?_
  ·exact T.wk (mD p_p.fOp )
  intro r1596 h1597 _
  (repeat refine MT.say ?_);refine MT.ite (fun c1598=>?_) (fun c1598=>?_)
  ·(repeat refine MT.say ?_);refine MT.ask (R:=Any) ?_ ?_
   ·exact T.wk (gq p_p.fArg (by first|omega|(simp;done)|decide))
   intro r1599 h1600 _
   (repeat refine MT.say ?_);exact MT.any
  (repeat refine MT.say ?_);exact MT.any
 intro r1602 h1603 _
 (repeat refine MT.say ?_);refine MT.ask (R:=fun b_=>(b_=true→True)∧(b_=false→r1602=false∧True)) ?_ ?_
 ·show MT (Jg p_p r1602) _
  refine MT.ite (fun c1604=>?_) (fun c1604=>?_)
  ·(repeat refine MT.say ?_);exact MT.ret ⟨(fun _=>trivial),(fun h_=>by cases h_)⟩
  (repeat refine MT.say ?_);refine MT.ask (R:=Any) ?_ ?_
  ·exact T.wk (mg p_p.fOp )
  intro r1605 h1606 _
  (repeat refine MT.say ?_);refine MT.ite (fun c1607=>?_) (fun c1607=>?_)
  ·(repeat refine MT.say ?_);exact MT.ret ⟨(fun _=>trivial),(fun h_=>⟨(by first|assumption|omega),trivial⟩)⟩
  (repeat refine MT.say ?_);exact MT.ret ⟨(fun h_=>by cases h_),(fun h_=>⟨(by first|assumption|omega),trivial⟩)⟩
 intro r1609 h1610 f_r1609
 (repeat refine MT.say ?_);refine MT.ite (fun c1612=>?_) (fun c1612=>?_)
 ·(repeat refine MT.say ?_);exact MT.any
 have q47:=f_r1609.2 (c1612)
 (repeat refine MT.say ?_);refine MT.ask (R:=Any) ?_ ?_
 ·exact T.wk (jO p_p.fOp )
 intro r1615 h1616 _
 (repeat refine MT.say ?_);refine MT.jf (R:=Any) ?_ ?_ ?_
 ·show MT (Ji p_p r1615) Any
  refine MT.ite (fun c1646=>?_) (fun c1646=>?_)
  ·(repeat refine MT.say ?_);refine MT.jf (R:=Any) ?_ ?_ ?_
   ·refine T.cnt (fun _=>True) ?_
    intro k48 hk48
    show MT (Jh p_p ((k48:Nat):Int)) _
    refine MT.ite (fun c1654=>?_) (fun c1654=>?_)
    ·have c1654':=of_decide_eq_true c1654
     (repeat refine MT.say ?_);refine MT.ask (dQ p_p.fArgs ((k48:Nat):Int) (by omega) (by omega)) (fun x1655 _ hx49=>?_)
     have:=jY hx49
     have:=bZ x1655
     (repeat refine MT.say ?_);refine MT.ask (R:=Any) ?_ ?_
     ·exact T.wk (gq x1655 (by first|omega|(simp;done)|decide))
     intro r1657 h1658 _
     (repeat refine MT.say ?_);refine MT.ite (fun c1659=>?_) (fun c1659=>?_)
     ·(repeat refine MT.say ?_);exact MT.ret trivial
     (repeat refine MT.say ?_);exact MT.ret ⟨rfl,by omega⟩
    have c1654':=of_decide_eq_false c1654
    (repeat refine MT.say ?_);exact MT.ret trivial
   ·intro o1662 h1661 _
    (repeat refine MT.say ?_);exact MT.any
   intro o1663 h1661 _
   (repeat refine MT.say ?_);exact MT.any
  (repeat refine MT.say ?_);exact MT.any
 ·intro o1666 h1665 _
  (repeat refine MT.say ?_);exact MT.any
 intro o1667 h1665 _
 (repeat refine MT.say ?_);refine MT.jf (R:=Any) ?_ ?_ ?_
 ·show MT (Jj p_p) Any
  refine MT.ite (fun c1748=>?_) (fun c1748=>?_)
  ·have c1748':p_p.fOp=18:=by simpa using c1748
   (repeat refine MT.say ?_);refine MT.ask (R:=Any) ?_ ?_
   ·exact T.wk (Ho p_p.dK (by first|omega|(simp;done)|decide))
   intro r1749 h1750 _
   (repeat refine MT.say ?_);refine MT.ite (fun c1751=>?_) (fun c1751=>?_)
   ·have c1751':¬(r1749=0):=by simpa using c1751
    (repeat refine MT.say ?_);exact MT.any
   have c1751':r1749=0:=by simpa using c1751
   (repeat refine MT.say ?_);exact MT.any
  have c1748':¬(p_p.fOp=18):=by simpa using c1748
  (repeat refine MT.say ?_);exact MT.any
 ·intro o1756 h1755 _
  (repeat refine MT.say ?_);exact MT.any
 intro o1757 h1755 _
 (repeat refine MT.say ?_);refine MT.ask (R:=Any) ?_ ?_
 ·exact T.wk (xA p_p)
 intro r1960 h1961 _
 (repeat refine MT.say ?_);refine MT.ite (fun c1963=>?_) (fun c1963=>?_)
 ·(repeat refine MT.say ?_);exact MT.any
 (repeat refine MT.say ?_);refine MT.ite (fun c2519=>?_) (fun c2519=>?_)
 ·have c2519':p_p.fOp=24:=by simpa using c2519
  (repeat refine MT.say ?_);refine MT.ask (R:=Any) ?_ ?_
  ·exact T.wk (Gg p_p.fExpr (by first|omega|(simp;done)|decide))
  intro r2522 h2523 _
  (repeat refine MT.say ?_);exact MT.any
 have c2519':¬(p_p.fOp=24):=by simpa using c2519
 (repeat refine MT.say ?_);exact MT.any
theorem vw(n_:Nat):∀(p_p:aO) (p_inside:Bool),aT p_p.lf1<n_→aT p_p.lf1≤100000000→Tot ((Df n_).m1 p_p p_inside) Any:=by
 induction n_ with
 |zero=>intro p_p p_inside h;omega
 |succ n_ ih=>
  intro p_p p_inside h_ h_p_p
  have:=iL p_p
  have:=qQ p_p.cO
  show MT (acZ (Df n_) p_p p_inside) Any
  refine MT.ask (R:=Any) ?_ ?_
  ·exact T.wk (qZ p_p p_inside (by first|omega|(simp;done)|decide))
  intro r2526 h2527 _
  refine MT.say (MT.ite (fun c2529=>?_) (fun c2529=>?_))
  ·have c2529':¬(r2526=0):=by simpa using c2529
   exact MT.say MT.any
  have c2529':r2526=0:=by simpa using c2529
  refine MT.say (MT.jf (R:=Any) ?_ ?_ ?_)
  ·refine T.cnt (fun _=>True) ?_
   intro k50 hk50
   show MT (Qp (Df n_) p_inside p_p ((k50:Nat):Int)) _
   refine MT.ite (fun c2602=>?_) (fun c2602=>?_)
   ·have c2602':=of_decide_eq_true c2602
    refine MT.say (MT.ask (dQ p_p.cO ((k50:Nat):Int) (by omega) (by omega)) (fun x2603 _ hx51=>?_))
    have:=AO hx51
    have:=iL x2603
    refine MT.say (MT.ask (R:=Any) ?_ ?_)
    ·show MT (Qo (Df n_) p_inside p_p ((k50:Nat):Int) x2603) Any
     refine MT.ite (fun c2605=>?_) (fun c2605=>?_)
     ·refine MT.say (MT.ask (R:=Any) ?_ ?_)
      ·exact(ih x2603 true (by omega) (by first|omega|(simp;done)|decide))
      intro r2606 h2607 _
      exact MT.say MT.any
     refine MT.say (MT.ask (R:=Any) ?_ ?_)
     ·exact(ih x2603 (p_p.fOp==15) (by omega) (by first|omega|(simp;done)|decide))
     intro r2608 h2609 _
     exact MT.say MT.any
    intro r2613 h2614 _
    refine MT.say (MT.ite (fun c2615=>?_) (fun c2615=>?_))
    ·have c2615':¬(r2613=0):=by simpa using c2615
     exact MT.say (MT.ret trivial)
    have c2615':r2613=0:=by simpa using c2615
    exact MT.say (MT.ret ⟨rfl,by omega⟩)
   have c2602':=of_decide_eq_false c2602
   exact MT.say (MT.ret trivial)
  ·intro o2620 h2619 _
   exact MT.say MT.any
  intro o2621 h2619 _
  exact MT.say MT.any
theorem xB(p_p:aO)(p_inside:Bool)(h_p_p:aT p_p.lf1≤100000000):Tot (Q81 p_p p_inside) Any:=vw FU p_p p_inside (by have:=fK;omega) h_p_p
theorem xC(p_p:aO)(h_p_p:aT p_p.lf1≤100000000):Tot (amA p_p) Any:=by
 have:=iL p_p
 show MT (ac0 p_p) Any
 repeat' (first|exact MT.any|refine MT.say ?_|refine MT.ite (fun _=>?_) (fun _=>?_)|refine MT.kP ?_ (fun _ _=>?_)|exact⟨T.wk (xB _ _ (by first|omega|decide))⟩|exact⟨T.wk (yP _ _ _ (by first|omega|decide))⟩)
theorem nO(p_v:ak):Tot (amB p_v) Any:=by
 show MT (ac1 p_v) Any
 repeat' (first|exact MT.any|refine MT.say ?_|refine MT.ite (fun _=>?_) (fun _=>?_)|refine MT.kP ?_ (fun _ _=>?_)|refine⟨(show MT _ Any from ?_)⟩)
theorem xE(p_x:aW):Tot (amC p_x) Any:=by
 show MT (ac2 p_x) Any
 repeat' (first|exact MT.any|refine MT.say ?_|refine MT.ite (fun _=>?_) (fun _=>?_)|refine MT.kP ?_ (fun _ _=>?_)|exact⟨T.wk (nO _)⟩|refine⟨(show MT _ Any from ?_)⟩)
theorem xG(p_p:aO):Tot (Q21 p_p) Any:=by
 show MT (aiO p_p) Any
 repeat' (first|exact MT.any|refine MT.say ?_|refine MT.ite (fun _=>?_) (fun _=>?_)|refine MT.kP ?_ (fun _ _=>?_)|exact⟨T.wk (xE _)⟩|exact⟨T.wk (nO _)⟩|refine⟨(show MT _ Any from ?_)⟩)
theorem ni(p_x:aS)(h_p_x:aT p_x.lf1≤100000000):Tot (Q94 p_x) Any:=by
 have:=iC p_x
 have:=ng p_x.gI
 have:=iL p_x.iT
 show MT (aiP p_x) Any
 refine MT.say (MT.ask (R:=Any) ?_ ?_)
 ·exact T.wk (T.val (qW [p_x.fName]))
 intro r240 h241 _
 refine MT.say (MT.ite (fun c243=>?_) (fun c243=>?_))
 ·exact MT.say MT.any
 refine MT.say (MT.ask (R:=fun b_=>(b_=true→True)∧(b_=false→¬((p_x.aH:Int)<1)∧¬((3:Int)<p_x.aH)∧True)) ?_ ?_)
 ·show MT (Qr p_x) _
  refine MT.ite (fun c245=>?_) (fun c245=>?_)
  ·have c245':=of_decide_eq_true c245
   exact MT.say (MT.ret ⟨(fun _=>trivial),(fun h_=>by cases h_)⟩)
  have c245':=of_decide_eq_false c245
  exact MT.say (MT.ret ⟨(fun _=>trivial),(fun h_=>⟨(by first|assumption|omega),(of_decide_eq_false h_),trivial⟩)⟩)
 intro r247 h248 f_r247
 refine MT.say (MT.ite (fun c250=>?_) (fun c250=>?_))
 ·exact MT.say MT.any
 have q52:=f_r247.2 (c250)
 refine MT.say (MT.ask (R:=Any) ?_ ?_)
 ·exact T.wk (Du p_x.gI (by first|omega|(simp;done)|decide))
 intro r468 h469 _
 refine MT.say (MT.ite (fun c471=>?_) (fun c471=>?_))
 ·have c471':¬(r468=0):=by simpa using c471
  exact MT.say MT.any
 have c471':r468=0:=by simpa using c471
 refine MT.say (MT.ask (R:=fun b_=>(b_=true→True)∧(b_=false→¬((p_x.gI.length:Int)=0)∧True)) ?_ ?_)
 ·show MT (Qs p_x) _
  refine MT.say (MT.ite (fun c478=>?_) (fun c478=>?_))
  ·have c478':(p_x.gI.length:Int)=0:=by simpa using c478
   exact MT.say (MT.ret ⟨(fun _=>trivial),(fun h_=>by cases h_)⟩)
  have c478':¬((p_x.gI.length:Int)=0):=by simpa using c478
  refine MT.say (MT.ite (fun c479=>?_) (fun c479=>?_))
  ·have c479':¬(p_x.aH=1):=by simpa using c479
   refine MT.say (MT.ite (fun c480=>?_) (fun c480=>?_))
   ·have c480':=of_decide_eq_true c480
    exact MT.say (MT.ret ⟨(fun _=>trivial),(fun h_=>by cases h_)⟩)
   have c480':=of_decide_eq_false c480
   refine MT.say (MT.ask (dQ p_x.gI 0 (by omega) (by omega)) (fun x481 _ hx53=>?_))
   have:=qR hx53
   have:=mY x481
   refine MT.say (MT.ite (fun c483=>?_) (fun c483=>?_))
   ·exact MT.say (MT.ret ⟨(fun _=>trivial),(fun h_=>by cases h_)⟩)
   exact MT.say (MT.ret ⟨(fun _=>trivial),(fun h_=>⟨(by first|assumption|omega),trivial⟩)⟩)
  have c479':p_x.aH=1:=by simpa using c479
  exact MT.say (MT.ret ⟨(fun h_=>by cases h_),(fun h_=>⟨(by first|assumption|omega),trivial⟩)⟩)
 intro r485 h486 f_r485
 refine MT.say (MT.ite (fun c488=>?_) (fun c488=>?_))
 ·exact MT.say MT.any
 have q54:=f_r485.2 (c488)
 refine MT.say (MT.ite (fun c2626=>?_) (fun c2626=>?_))
 ·refine MT.say (MT.ask (R:=Any) ?_ ?_)
  ·exact T.wk (xC p_x.iT (by first|omega|(simp;done)|decide))
  intro r2629 h2630 _
  exact MT.say MT.any
 refine MT.say (MT.ask (R:=Any) ?_ ?_)
 ·exact T.wk (xG p_x.iT)
 intro r2731 h2732 _
 refine MT.say (MT.ite (fun c2734=>?_) (fun c2734=>?_))
 ·exact MT.say MT.any
 exact MT.say MT.any
theorem xH(p_x:aS)(p_b0:ByteArray)(h_p_x:aT p_x.lf1≤100000000)(h_p_b0:p_b0.size≤100000000):Tot (aki p_x p_b0) Any:=by
 have:=iC p_x
 show MT (ac4 p_x p_b0) Any
 repeat' (first|exact MT.any|refine MT.say ?_|refine MT.ite (fun _=>?_) (fun _=>?_))
theorem ny(p_s:List aS)(p_b0:ByteArray)(h_p_s:bM (p_s.map aS.lf)≤100000000)(h_p_b0:p_b0.size≤100000000):Tot (Q31 p_s p_b0) Any:=by
 have:=kM p_s
 show MT (Xw p_s p_b0) Any
 refine MT.say (MT.jf (R:=Any) ?_ ?_ ?_)
 ·refine T.cnt (fun _=>True) ?_
  intro k55 hk55
  show MT (qK p_b0 p_s ((k55:Nat):Int)) _
  refine MT.ite (fun c2771=>?_) (fun c2771=>?_)
  ·have c2771':=of_decide_eq_true c2771
   refine MT.say (MT.ask (dQ p_s ((k55:Nat):Int) (by omega) (by omega)) (fun x2772 _ hx56=>?_))
   have:=wR hx56
   have:=iC x2772
   refine MT.say (MT.ask (R:=Any) ?_ ?_)
   ·exact T.wk (xH x2772 p_b0 (by first|omega|(simp;done)|decide) (by first|omega|(simp;done)|decide))
   intro r2774 h2775 _
   refine MT.say (MT.ite (fun c2776=>?_) (fun c2776=>?_))
   ·exact MT.say (MT.ret trivial)
   exact MT.say (MT.ret ⟨rfl,by omega⟩)
  have c2771':=of_decide_eq_false c2771
  exact MT.say (MT.ret trivial)
 ·intro o2780 h2779 _
  exact MT.say MT.any
 intro o2781 h2779 _
 exact MT.say MT.any
theorem pW(p_l:List aS)(p_name:ByteArray)(h_p_l:bM (p_l.map aS.lf)≤100000000)(h_p_name:p_name.size≤100000000):Tot (Q96 p_l p_name) Any:=by
 have:=kM p_l
 show MT (Xx p_l p_name) Any
 repeat' (first|exact MT.any|refine MT.say ?_|refine MT.ite (fun _=>?_) (fun _=>?_)|refine MT.kP ?_ (fun _ _=>?_)|exact⟨T.wk (ny _ _ (by first|omega|decide) (by first|omega|decide))⟩)
theorem ru(p_has:Bool)(p_v:ak)(h_p_v:aT p_v.lf1≤100000000):Tot (Q82 p_has p_v) Any:=by
 have:=bZ p_v
 have:=iD p_v.bC
 have:=fG p_v.bG
 show MT (aiU p_has p_v) Any
 repeat' (first|exact MT.any|refine MT.say ?_|refine MT.ite (fun _=>?_) (fun _=>?_)|refine MT.kP ?_ (fun _ _=>?_)|exact⟨T.wk (gq _ (by first|omega|decide))⟩|refine⟨(show MT _ Any from ?_)⟩)
theorem xI(p_s:aA)(h_p_s:aT p_s.lf1≤100000000):Tot (Q24 p_s) Any:=by
 have:=gV p_s
 have:=bZ p_s.kR
 have:=bZ p_s.kS
 have:=iD p_s.jB
 have:=fQ p_s.dG
 have:=wQ p_s.dJ
 have:=pV p_s.dY
 show MT (aiV p_s) Any
 (repeat refine MT.say ?_);refine MT.jf (R:=Any) ?_ ?_ ?_
 ·refine T.aly (fun _=>True) ?_
  intro k57 m5895 hk57 hmk57
  show MT (QJ p_s (((k57:Nat):Int),m5895)) _
  refine MT.ite (fun c5896=>?_) (fun c5896=>?_)
  ·have c5896':=of_decide_eq_true c5896
   (repeat refine MT.say ?_);refine MT.ask (dQ p_s.dG ((k57:Nat):Int) (by omega) (by omega)) (fun x5897 _ hx58=>?_)
   have:=D8 hx58
   (repeat refine MT.say ?_);refine MT.ask (R:=Any) ?_ ?_
   ·show MT (QI m5895 p_s ((k57:Nat):Int) x5897) Any
    refine MT.ask (R:=Any) ?_ ?_
    ·exact T.wk (T.val (Lm x5897))
    intro r5899 h5900 _
    (repeat refine MT.say ?_);refine MT.ite (fun c5901=>?_) (fun c5901=>?_)
    ·(repeat refine MT.say ?_);exact MT.any
    (repeat refine MT.say ?_);exact MT.any
   intro r5903 h5904 _
   (repeat refine MT.say ?_);refine MT.ite (fun c5905=>?_) (fun c5905=>?_)
   ·(repeat refine MT.say ?_);exact MT.ret trivial
   (repeat refine MT.say ?_);refine MT.grd (by unfold maxLen;omega) (fun _=>?_)
   (repeat refine MT.say ?_);exact MT.ret ⟨rfl,by first|omega|(simp only[List.length_cons];omega),by omega⟩
  have c5896':=of_decide_eq_false c5896
  (repeat refine MT.say ?_);exact MT.ret trivial
 ·intro o5909 h5908 _
  (repeat refine MT.say ?_);exact MT.any
 intro o5910 h5908 _
 (repeat refine MT.say ?_);refine MT.jf (R:=Any) ?_ ?_ ?_
 ·refine T.aly (fun _=>True) ?_
  intro k59 m5969 hk59 hmk59
  show MT (JC p_s (((k59:Nat):Int),m5969)) _
  refine MT.ite (fun c5970=>?_) (fun c5970=>?_)
  ·have c5970':=of_decide_eq_true c5970
   (repeat refine MT.say ?_);refine MT.ask (dQ p_s.dJ ((k59:Nat):Int) (by omega) (by omega)) (fun x5971 _ hx60=>?_)
   have:=AP hx60
   have:=qP x5971
   (repeat refine MT.say ?_);refine MT.ask (R:=Any) ?_ ?_
   ·show MT (JB m5969 p_s ((k59:Nat):Int) x5971) Any
    refine MT.ask (R:=Any) ?_ ?_
    ·exact T.wk (T.val (Lm x5971.fName))
    intro r5973 h5974 _
    (repeat refine MT.say ?_);refine MT.ite (fun c5975=>?_) (fun c5975=>?_)
    ·(repeat refine MT.say ?_);exact MT.any
    (repeat refine MT.say ?_);exact MT.any
   intro r5977 h5978 _
   (repeat refine MT.say ?_);refine MT.ite (fun c5979=>?_) (fun c5979=>?_)
   ·(repeat refine MT.say ?_);exact MT.ret trivial
   (repeat refine MT.say ?_);refine MT.grd (by unfold maxLen;omega) (fun _=>?_)
   (repeat refine MT.say ?_);exact MT.ret ⟨rfl,by first|omega|(simp only[List.length_cons];omega),by omega⟩
  have c5970':=of_decide_eq_false c5970
  (repeat refine MT.say ?_);exact MT.ret trivial
 ·intro o5983 h5982 _
  (repeat refine MT.say ?_);exact MT.any
 intro o5984 h5982 _
 (repeat refine MT.say ?_);refine MT.ask (R:=fun b_=>(b_=true→True)∧(b_=false→(iK .andNot .i64 p_s.jS 4094)=0∧¬((p_s.jl:Int)<0)∧True)) ?_ ?_
 ·show MT (JD p_s) _
  refine MT.ite (fun c5997=>?_) (fun c5997=>?_)
  ·have c5997':¬((iK .andNot .i64 p_s.jS 4094)=0):=by simpa using c5997
   (repeat refine MT.say ?_);exact MT.ret ⟨(fun _=>trivial),(fun h_=>by cases h_)⟩
  have c5997':(iK .andNot .i64 p_s.jS 4094)=0:=by simpa using c5997
  (repeat refine MT.say ?_);exact MT.ret ⟨(fun _=>trivial),(fun h_=>⟨(by first|assumption|omega),(of_decide_eq_false h_),trivial⟩)⟩
 intro r5999 h6000 f_r5999
 (repeat refine MT.say ?_);refine MT.ask (R:=fun b_=>(b_=true→True)∧(b_=false→r5999=false∧¬((p_s.jJ:Int)<(-1))∧True)) ?_ ?_
 ·show MT (JE p_s r5999) _
  refine MT.ite (fun c6001=>?_) (fun c6001=>?_)
  ·(repeat refine MT.say ?_);exact MT.ret ⟨(fun _=>trivial),(fun h_=>by cases h_)⟩
  have q61:=f_r5999.2 (c6001)
  (repeat refine MT.say ?_);exact MT.ret ⟨(fun _=>trivial),(fun h_=>⟨(by first|assumption|omega),(of_decide_eq_false h_),trivial⟩)⟩
 intro r6003 h6004 f_r6003
 (repeat refine MT.say ?_);refine MT.ask (R:=fun b_=>(b_=true→True)∧(b_=false→r6003=false∧¬((1:Int)<(p_s.dY.length:Int))∧True)) ?_ ?_
 ·show MT (JF p_s r6003) _
  refine MT.ite (fun c6005=>?_) (fun c6005=>?_)
  ·(repeat refine MT.say ?_);exact MT.ret ⟨(fun _=>trivial),(fun h_=>by cases h_)⟩
  have q62:=f_r6003.2 (c6005)
  have q63:=f_r5999.2 (q62.1)
  (repeat refine MT.say ?_);exact MT.ret ⟨(fun _=>trivial),(fun h_=>⟨(by first|assumption|omega),(of_decide_eq_false h_),trivial⟩)⟩
 intro r6007 h6008 f_r6007
 (repeat refine MT.say ?_);refine MT.ite (fun c6010=>?_) (fun c6010=>?_)
 ·(repeat refine MT.say ?_);exact MT.any
 have q64:=f_r6007.2 (c6010)
 have q65:=f_r6003.2 (q64.1)
 have q66:=f_r5999.2 (q65.1)
 (repeat refine MT.say ?_);refine MT.ask (R:=Any) ?_ ?_
 ·show MT (JG p_s) Any
  refine MT.ask (R:=Any) ?_ ?_
  ·exact T.wk (ru p_s.jh p_s.kR (by first|omega|(simp;done)|decide))
  intro r6044 h6045 _
  (repeat refine MT.say ?_);refine MT.ite (fun c6046=>?_) (fun c6046=>?_)
  ·(repeat refine MT.say ?_);exact MT.any
  (repeat refine MT.say ?_);refine MT.ask (R:=Any) ?_ ?_
  ·exact T.wk (ru p_s.ji p_s.kS (by first|omega|(simp;done)|decide))
  intro r6047 h6048 _
  (repeat refine MT.say ?_);exact MT.any
 intro r6050 h6051 _
 (repeat refine MT.say ?_);refine MT.ite (fun c6053=>?_) (fun c6053=>?_)
 ·(repeat refine MT.say ?_);exact MT.any
 (repeat refine MT.say ?_);refine MT.jf (R:=Any) ?_ ?_ ?_
 ·refine T.cnt (fun _=>True) ?_
  intro k67 hk67
  show MT (JH p_s ((k67:Nat):Int)) _
  refine MT.ite (fun c6089=>?_) (fun c6089=>?_)
  ·have c6089':=of_decide_eq_true c6089
   (repeat refine MT.say ?_);refine MT.ask (dQ p_s.jB ((k67:Nat):Int) (by omega) (by omega)) (fun x6090 _ hx68=>?_)
   have:=jY hx68
   have:=bZ x6090
   (repeat refine MT.say ?_);refine MT.ask (R:=Any) ?_ ?_
   ·exact T.wk (gq x6090 (by first|omega|(simp;done)|decide))
   intro r6092 h6093 _
   (repeat refine MT.say ?_);refine MT.ite (fun c6094=>?_) (fun c6094=>?_)
   ·(repeat refine MT.say ?_);exact MT.ret trivial
   (repeat refine MT.say ?_);exact MT.ret ⟨rfl,by omega⟩
  have c6089':=of_decide_eq_false c6089
  (repeat refine MT.say ?_);exact MT.ret trivial
 ·intro o6097 h6096 _
  (repeat refine MT.say ?_);exact MT.any
 intro o6098 h6096 _
 (repeat refine MT.say ?_);exact MT.any
theorem AY(n_:Nat):∀(p_s:aA) (p_level:Int) (p_b0:Int),aT p_s.lf1<n_→aT p_s.lf1≤100000000→Tot ((sG n_).m1 p_s p_level p_b0) Any:=by
 induction n_ with
 |zero=>intro p_s p_level p_b0 h;omega
 |succ n_ ih=>
  intro p_s p_level p_b0 h_ h_p_s
  have:=gV p_s
  have:=wQ p_s.dJ
  have:=pV p_s.dY
  show MT (adS (sG n_) p_s p_level p_b0) Any
  refine MT.ask (R:=fun b_=>(b_=true→True)∧(b_=false→¬((16:Int)<p_level)∧¬(p_b0=64)∧True)) ?_ ?_
  ·show MT (QK (sG n_) p_b0 p_level p_s) _
   refine MT.ite (fun c5704=>?_) (fun c5704=>?_)
   ·have c5704':=of_decide_eq_true c5704
    exact MT.say (MT.ret ⟨(fun _=>trivial),(fun h_=>by cases h_)⟩)
   have c5704':=of_decide_eq_false c5704
   exact MT.say (MT.ret ⟨(fun _=>trivial),(fun h_=>⟨(by first|assumption|omega),(by simpa using h_),trivial⟩)⟩)
  intro r5706 h5707 f_r5706
  refine MT.say (MT.ite (fun c5709=>?_) (fun c5709=>?_))
  ·exact MT.say MT.any
  have q69:=f_r5706.2 (c5709)
  refine MT.say (MT.ask (R:=Any) ?_ ?_)
  ·exact T.wk (xI p_s (by first|omega|(simp;done)|decide))
  intro r6101 h6102 _
  refine MT.say (MT.ite (fun c6104=>?_) (fun c6104=>?_))
  ·have c6104':¬(r6101=0):=by simpa using c6104
   exact MT.say MT.any
  have c6104':r6101=0:=by simpa using c6104
  refine MT.say (MT.jf (R:=Any) ?_ ?_ ?_)
  ·refine T.GZ (fun _=>True) ?_
   intro k70 v6146 hk70
   show MT (QL (sG n_) p_level p_s (((k70:Nat):Int),v6146)) _
   refine MT.ite (fun c6147=>?_) (fun c6147=>?_)
   ·have c6147':=of_decide_eq_true c6147
    refine MT.say (MT.ask (dQ p_s.dJ ((k70:Nat):Int) (by omega) (by omega)) (fun x6148 _ hx71=>?_))
    have:=AP hx71
    have:=qP x6148
    have:=gV x6148.eU
    refine MT.say (MT.ask (R:=Any) ?_ ?_)
    ·exact(ih x6148.eU (IntKind.wrap .i64 (p_level+1)) v6146 (by omega) (by first|omega|(simp;done)|decide))
    intro r6150 h6151 _
    refine MT.say (MT.ite (fun c6152=>?_) (fun c6152=>?_))
    ·have c6152':¬(r6150.1=0):=by simpa using c6152
     exact MT.say (MT.ret trivial)
    have c6152':r6150.1=0:=by simpa using c6152
    exact MT.say (MT.ret ⟨rfl,by omega⟩)
   have c6147':=of_decide_eq_false c6147
   exact MT.say (MT.ret trivial)
  ·intro o6160 h6159 _
   exact MT.say MT.any
  intro o6161 h6159 _
  refine MT.say (MT.jf (R:=Any) ?_ ?_ ?_)
  ·refine T.GZ (fun _=>True) ?_
   intro k72 v6201 hk72
   show MT (JI (sG n_) p_level p_s (((k72:Nat):Int),v6201)) _
   refine MT.ite (fun c6202=>?_) (fun c6202=>?_)
   ·have c6202':=of_decide_eq_true c6202
    refine MT.say (MT.ask (dQ p_s.dY ((k72:Nat):Int) (by omega) (by omega)) (fun x6203 _ hx73=>?_))
    have:=yJ hx73
    have:=gV x6203
    refine MT.say (MT.ask (R:=Any) ?_ ?_)
    ·exact(ih x6203 (IntKind.wrap .i64 (p_level+1)) v6201 (by omega) (by first|omega|(simp;done)|decide))
    intro r6205 h6206 _
    refine MT.say (MT.ite (fun c6207=>?_) (fun c6207=>?_))
    ·have c6207':¬(r6205.1=0):=by simpa using c6207
     exact MT.say (MT.ret trivial)
    have c6207':r6205.1=0:=by simpa using c6207
    exact MT.say (MT.ret ⟨rfl,by omega⟩)
   have c6202':=of_decide_eq_false c6202
   exact MT.say (MT.ret trivial)
  ·intro o6213 h6212 _
   exact MT.say MT.any
  intro o6214 h6212 _
  exact MT.say MT.any
theorem Cc(p_s:aA)(p_level:Int)(p_b0:Int)(h_p_s:aT p_s.lf1≤100000000):Tot (Q76 p_s p_level p_b0) Any:=AY FU p_s p_level p_b0 (by have:=fK;omega) h_p_s
theorem Ce(p_s:aA)(h_p_s:aT p_s.lf1≤100000000):Tot (amO p_s) Any:=by
 have:=gV p_s
 show MT (adT p_s) Any
 repeat' (first|exact MT.any|refine MT.say ?_|refine MT.ite (fun _=>?_) (fun _=>?_)|refine MT.kP ?_ (fun _ _=>?_)|exact⟨T.wk (Cc _ _ _ (by first|omega|decide))⟩)
theorem pX(p_d:aj)(h_p_d:aT p_d.lf1≤100000000):Tot (Q83 p_d) Any:=by
 have:=gG p_d
 have:=kM p_d.bf
 have:=gV p_d.eU
 show MT (aiW p_d) Any
 refine MT.ask (R:=Any) ?_ ?_
 ·exact T.wk (T.val (aav p_d.fName))
 intro r5608 h5609 _
 refine MT.say (MT.ite (fun c5611=>?_) (fun c5611=>?_))
 ·exact MT.say MT.any
 refine MT.say (MT.ite (fun c5613=>?_) (fun c5613=>?_))
 ·have c5613':=of_decide_eq_true c5613
  exact MT.say MT.any
 have c5613':=of_decide_eq_false c5613
 refine MT.say (MT.jf (R:=Any) ?_ ?_ ?_)
 ·refine T.cnt (fun _=>True) ?_
  intro k74 hk74
  have:=lH aS.lf p_d.bf (((k74:Nat):Int).toNat)
  have:=kM (p_d.bf.take ((k74:Nat):Int).toNat)
  show MT (QM p_d ((k74:Nat):Int)) _
  refine MT.ite (fun c5672=>?_) (fun c5672=>?_)
  ·have c5672':=of_decide_eq_true c5672
   refine MT.say (MT.ask (dQ p_d.bf ((k74:Nat):Int) (by omega) (by omega)) (fun x5673 _ hx75=>?_))
   have:=wR hx75
   have:=iC x5673
   refine MT.say (MT.ask (R:=Any) ?_ ?_)
   ·exact T.wk (ni x5673 (by first|omega|(simp;done)|decide))
   intro r5675 h5676 _
   refine MT.say (MT.ite (fun c5677=>?_) (fun c5677=>?_))
   ·have c5677':¬(r5675=0):=by simpa using c5677
    exact MT.say (MT.ret trivial)
   have c5677':r5675=0:=by simpa using c5677
   refine MT.say (MT.grd (by omega) (fun _=>?_))
   refine MT.say (MT.ask (R:=Any) ?_ ?_)
   ·exact T.wk (pW (p_d.bf.take ((k74:Nat):Int).toNat) x5673.fName (Nat.le_trans (lH _ _ _) (by omega)) (by first|omega|(simp;done)|decide))
   intro r5679 h5680 _
   refine MT.say (MT.ite (fun c5681=>?_) (fun c5681=>?_))
   ·have c5681':=of_decide_eq_true c5681
    exact MT.say (MT.ret trivial)
   have c5681':=of_decide_eq_false c5681
   exact MT.say (MT.ret ⟨rfl,by omega⟩)
  have c5672':=of_decide_eq_false c5672
  exact MT.say (MT.ret trivial)
 ·intro o5687 h5686 _
  exact MT.say MT.any
 intro o5688 h5686 _
 refine MT.say (MT.ask (R:=fun b_=>(b_=true→True)∧(b_=false→¬((p_d.rW:Int)<0)∧¬((2:Int)<p_d.rW)∧True)) ?_ ?_)
 ·show MT (QN p_d) _
  refine MT.ite (fun c5690=>?_) (fun c5690=>?_)
  ·have c5690':=of_decide_eq_true c5690
   exact MT.say (MT.ret ⟨(fun _=>trivial),(fun h_=>by cases h_)⟩)
  have c5690':=of_decide_eq_false c5690
  exact MT.say (MT.ret ⟨(fun _=>trivial),(fun h_=>⟨(by first|assumption|omega),(of_decide_eq_false h_),trivial⟩)⟩)
 intro r5692 h5693 f_r5692
 refine MT.say (MT.ite (fun c5695=>?_) (fun c5695=>?_))
 ·exact MT.say MT.any
 have q76:=f_r5692.2 (c5695)
 refine MT.say (MT.ask (R:=fun b_=>(b_=true→¬(p_d.lS=0)∧¬(p_d.lS=1)∧True)∧(b_=false→True)) ?_ ?_)
 ·show MT (JJ p_d) _
  refine MT.ite (fun c5697=>?_) (fun c5697=>?_)
  ·have c5697':¬(p_d.lS=0):=by simpa using c5697
   exact MT.say (MT.ret ⟨(fun h_=>⟨(by first|assumption|omega),(by simpa using h_),trivial⟩),(fun _=>trivial)⟩)
  have c5697':p_d.lS=0:=by simpa using c5697
  exact MT.say (MT.ret ⟨(fun h_=>by cases h_),(fun _=>trivial)⟩)
 intro r5699 h5700 f_r5699
 refine MT.say (MT.ite (fun c5702=>?_) (fun c5702=>?_))
 ·have q77:=f_r5699.1 (c5702)
  exact MT.say MT.any
 refine MT.say (MT.ask (R:=Any) ?_ ?_)
 ·exact T.wk (Ce p_d.eU (by first|omega|(simp;done)|decide))
 intro r6217 h6218 _
 exact MT.say MT.any
theorem uf(n_:Nat):∀(p_w:ay) (p_least:Int) (p_greatest:Int),aT p_w.lf1<n_→aT p_w.lf1≤100000000→Tot ((kL n_).m1 p_w p_least p_greatest) Any:=by
 induction n_ with
 |zero=>intro p_w p_least p_greatest h;omega
 |succ n_ ih=>
  intro p_w p_least p_greatest h_ h_p_w
  have:=eu p_w
  have:=gG p_w.gy
  have:=iC p_w.eP
  have:=kN p_w.bQ
  have:=TM p_w.ig
  show MT (aeG (kL n_) p_w p_least p_greatest) Any
  refine MT.ask (R:=Any) ?_ ?_
  ·exact T.wk (qX p_w.aH)
  intro r8141 h8142 _
  (repeat refine MT.say ?_);refine MT.ask (R:=fun b_=>(b_=true→True)∧(b_=false→¬((p_w.aH:Int)<p_least)∧¬((p_greatest:Int)<p_w.aH)∧True)) ?_ ?_
  ·show MT (RY (kL n_) p_greatest p_least p_w r8141) _
   refine MT.ite (fun c8478=>?_) (fun c8478=>?_)
   ·have c8478':=of_decide_eq_true c8478
    (repeat refine MT.say ?_);exact MT.ret ⟨(fun _=>trivial),(fun h_=>by cases h_)⟩
   have c8478':=of_decide_eq_false c8478
   (repeat refine MT.say ?_);exact MT.ret ⟨(fun _=>trivial),(fun h_=>⟨(by first|assumption|omega),(of_decide_eq_false h_),trivial⟩)⟩
  intro r8480 h8481 f_r8480
  (repeat refine MT.say ?_);refine MT.ask (R:=fun b_=>(b_=true→True)∧(b_=false→r8480=false∧True)) ?_ ?_
  ·show MT (RZ (kL n_) p_greatest p_w r8141 r8480) _
   refine MT.ite (fun c8482=>?_) (fun c8482=>?_)
   ·(repeat refine MT.say ?_);exact MT.ret ⟨(fun _=>trivial),(fun h_=>by cases h_)⟩
   have q78:=f_r8480.2 (c8482)
   (repeat refine MT.say ?_);refine MT.ask (R:=Any) ?_ ?_
   ·exact T.wk (yM p_w)
   intro r8483 h8484 _
   (repeat refine MT.say ?_);exact MT.ret ⟨(fun _=>trivial),(fun h_=>⟨(by first|assumption|omega),trivial⟩)⟩
  intro r8486 h8487 f_r8486
  (repeat refine MT.say ?_);refine MT.ask (R:=fun b_=>(b_=true→True)∧(b_=false→r8486=false∧True)) ?_ ?_
  ·show MT (Ku (kL n_) p_greatest p_w r8141 r8486) _
   refine MT.ite (fun c8488=>?_) (fun c8488=>?_)
   ·(repeat refine MT.say ?_);exact MT.ret ⟨(fun _=>trivial),(fun h_=>by cases h_)⟩
   have q79:=f_r8486.2 (c8488)
   have q80:=f_r8480.2 (q79.1)
   (repeat refine MT.say ?_);refine MT.ite (fun c8489=>?_) (fun c8489=>?_)
   ·(repeat refine MT.say ?_);exact MT.ret ⟨(fun _=>trivial),(fun h_=>⟨(by first|assumption|omega),trivial⟩)⟩
   (repeat refine MT.say ?_);exact MT.ret ⟨(fun h_=>by cases h_),(fun h_=>⟨(by first|assumption|omega),trivial⟩)⟩
  intro r8491 h8492 f_r8491
  (repeat refine MT.say ?_);refine MT.ite (fun c8494=>?_) (fun c8494=>?_)
  ·(repeat refine MT.say ?_);exact MT.any
  have q81:=f_r8491.2 (c8494)
  have q82:=f_r8486.2 (q81.1)
  have q83:=f_r8480.2 (q82.1)
  (repeat refine MT.say ?_);refine MT.ite (fun c8496=>?_) (fun c8496=>?_)
  ·have c8496':=of_decide_eq_true c8496
   (repeat refine MT.say ?_);exact MT.any
  have c8496':=of_decide_eq_false c8496
  (repeat refine MT.say ?_);refine MT.ask (R:=Any) ?_ ?_
  ·show MT (Kv (kL n_) p_greatest p_w r8141) Any
   refine MT.ite (fun c8517=>?_) (fun c8517=>?_)
   ·(repeat refine MT.say ?_);refine MT.ask (R:=Any) ?_ ?_
    ·exact T.wk (T.val (wU p_w.aY))
    intro r8518 h8519 _
    (repeat refine MT.say ?_);exact MT.any
   (repeat refine MT.say ?_);exact MT.any
  intro r8521 h8522 _
  (repeat refine MT.say ?_);refine MT.ask (R:=fun b_=>(b_=true→True)∧(b_=false→r8521=false∧True)) ?_ ?_
  ·show MT (Kw (kL n_) p_greatest p_w r8141 r8521) _
   refine MT.ite (fun c8523=>?_) (fun c8523=>?_)
   ·(repeat refine MT.say ?_);exact MT.ret ⟨(fun _=>trivial),(fun h_=>by cases h_)⟩
   (repeat refine MT.say ?_);refine MT.ite (fun c8524=>?_) (fun c8524=>?_)
   ·(repeat refine MT.say ?_);refine MT.ask (R:=Any) ?_ ?_
    ·exact T.wk (T.val (wU p_w.dW))
    intro r8525 h8526 _
    (repeat refine MT.say ?_);exact MT.ret ⟨(fun _=>trivial),(fun h_=>⟨(by first|assumption|omega),trivial⟩)⟩
   (repeat refine MT.say ?_);exact MT.ret ⟨(fun h_=>by cases h_),(fun h_=>⟨(by first|assumption|omega),trivial⟩)⟩
  intro r8528 h8529 f_r8528
  (repeat refine MT.say ?_);refine MT.ask (R:=fun b_=>(b_=true→True)∧(b_=false→r8528=false∧True)) ?_ ?_
  ·show MT (Ky (kL n_) p_greatest p_w r8141 r8528) _
   refine MT.ite (fun c8530=>?_) (fun c8530=>?_)
   ·(repeat refine MT.say ?_);exact MT.ret ⟨(fun _=>trivial),(fun h_=>by cases h_)⟩
   have q84:=f_r8528.2 (c8530)
   (repeat refine MT.say ?_);refine MT.ite (fun c8531=>?_) (fun c8531=>?_)
   ·(repeat refine MT.say ?_);refine MT.ask (R:=Any) ?_ ?_
    ·exact T.wk (T.val (wU p_w.eP.fName))
    intro r8532 h8533 _
    (repeat refine MT.say ?_);exact MT.ret ⟨(fun _=>trivial),(fun h_=>⟨(by first|assumption|omega),trivial⟩)⟩
   (repeat refine MT.say ?_);exact MT.ret ⟨(fun h_=>by cases h_),(fun h_=>⟨(by first|assumption|omega),trivial⟩)⟩
  intro r8535 h8536 f_r8535
  (repeat refine MT.say ?_);refine MT.ite (fun c8538=>?_) (fun c8538=>?_)
  ·(repeat refine MT.say ?_);exact MT.any
  have q85:=f_r8535.2 (c8538)
  have q86:=f_r8528.2 (q85.1)
  (repeat refine MT.say ?_);refine MT.ask (R:=Any) ?_ ?_
  ·show MT (Kz (kL n_) p_greatest p_w r8141) Any
   refine MT.ite (fun c8645=>?_) (fun c8645=>?_)
   ·(repeat refine MT.say ?_);refine MT.ask (R:=Any) ?_ ?_
    ·exact T.wk (vk p_w)
    intro r8646 h8647 _
    (repeat refine MT.say ?_);exact MT.any
   (repeat refine MT.say ?_);exact MT.any
  intro r8649 h8650 _
  (repeat refine MT.say ?_);refine MT.ask (R:=fun b_=>(b_=true→True)∧(b_=false→r8649=false∧True)) ?_ ?_
  ·show MT (KA (kL n_) p_greatest p_w r8141 r8649) _
   refine MT.ite (fun c8651=>?_) (fun c8651=>?_)
   ·(repeat refine MT.say ?_);exact MT.ret ⟨(fun _=>trivial),(fun h_=>by cases h_)⟩
   (repeat refine MT.say ?_);refine MT.ite (fun c8652=>?_) (fun c8652=>?_)
   ·(repeat refine MT.say ?_);refine MT.ask (R:=Any) ?_ ?_
    ·exact T.wk (tX p_w.ig (by first|omega|(simp;done)|decide))
    intro r8653 h8654 _
    (repeat refine MT.say ?_);exact MT.ret ⟨(fun _=>trivial),(fun h_=>⟨(by first|assumption|omega),trivial⟩)⟩
   (repeat refine MT.say ?_);exact MT.ret ⟨(fun h_=>by cases h_),(fun h_=>⟨(by first|assumption|omega),trivial⟩)⟩
  intro r8656 h8657 f_r8656
  (repeat refine MT.say ?_);refine MT.ite (fun c8659=>?_) (fun c8659=>?_)
  ·(repeat refine MT.say ?_);exact MT.any
  have q87:=f_r8656.2 (c8659)
  (repeat refine MT.say ?_);refine MT.jf (R:=Any) ?_ ?_ ?_
  ·show MT (KC (kL n_) p_greatest p_w r8141) Any
   refine MT.ite (fun c8940=>?_) (fun c8940=>?_)
   ·(repeat refine MT.say ?_);refine MT.ask (R:=Any) ?_ ?_
    ·exact T.wk (xq p_w (by first|omega|(simp;done)|decide))
    intro r8941 h8942 _
    (repeat refine MT.say ?_);refine MT.ite (fun c8943=>?_) (fun c8943=>?_)
    ·have c8943':¬(r8941=0):=by simpa using c8943
     (repeat refine MT.say ?_);exact MT.any
    have c8943':r8941=0:=by simpa using c8943
    (repeat refine MT.say ?_);exact MT.any
   (repeat refine MT.say ?_);exact MT.any
  ·intro o8948 h8947 _
   (repeat refine MT.say ?_);exact MT.any
  intro o8949 h8947 _
  (repeat refine MT.say ?_);refine MT.jf (R:=Any) ?_ ?_ ?_
  ·show MT (KD (kL n_) p_greatest p_w) Any
   refine MT.ite (fun c8958=>?_) (fun c8958=>?_)
   ·have c8958':p_w.aH=4:=by simpa using c8958
    (repeat refine MT.say ?_);refine MT.ask (R:=Any) ?_ ?_
    ·exact T.wk (pX p_w.gy (by first|omega|(simp;done)|decide))
    intro r8959 h8960 _
    (repeat refine MT.say ?_);exact MT.any
   have c8958':¬(p_w.aH=4):=by simpa using c8958
   (repeat refine MT.say ?_);refine MT.ite (fun c8961=>?_) (fun c8961=>?_)
   ·have c8961':p_w.aH=6:=by simpa using c8961
    (repeat refine MT.say ?_);refine MT.ask (R:=Any) ?_ ?_
    ·exact T.wk (ni p_w.eP (by first|omega|(simp;done)|decide))
    intro r8962 h8963 _
    (repeat refine MT.say ?_);exact MT.any
   have c8961':¬(p_w.aH=6):=by simpa using c8961
   (repeat refine MT.say ?_);refine MT.ite (fun c8964=>?_) (fun c8964=>?_)
   ·have c8964':p_w.aH=8:=by simpa using c8964
    (repeat refine MT.say ?_);exact MT.any
   have c8964':¬(p_w.aH=8):=by simpa using c8964
   (repeat refine MT.say ?_);refine MT.ite (fun c8965=>?_) (fun c8965=>?_)
   ·have c8965':p_w.aH=9:=by simpa using c8965
    (repeat refine MT.say ?_);exact MT.any
   have c8965':¬(p_w.aH=9):=by simpa using c8965
   (repeat refine MT.say ?_);exact MT.any
  ·intro o8972 h8971 _
   (repeat refine MT.say ?_);exact MT.any
  intro o8973 h8971 _
  (repeat refine MT.say ?_);refine MT.jf (R:=Any) ?_ ?_ ?_
  ·refine T.cnt (fun _=>True) ?_
   intro k88 hk88
   show MT (KE (kL n_) o8973 p_w ((k88:Nat):Int)) _
   refine MT.ite (fun c9010=>?_) (fun c9010=>?_)
   ·have c9010':=of_decide_eq_true c9010
    (repeat refine MT.say ?_);refine MT.ask (dQ p_w.bQ ((k88:Nat):Int) (by omega) (by omega)) (fun x9011 _ hx89=>?_)
    have:=qU hx89
    have:=eu x9011
    (repeat refine MT.say ?_);refine MT.ask (R:=Any) ?_ ?_
    ·exact(ih x9011 2 o8973 (by omega) (by first|omega|(simp;done)|decide))
    intro r9013 h9014 _
    (repeat refine MT.say ?_);refine MT.ite (fun c9015=>?_) (fun c9015=>?_)
    ·have c9015':¬(r9013=0):=by simpa using c9015
     (repeat refine MT.say ?_);exact MT.ret trivial
    have c9015':r9013=0:=by simpa using c9015
    (repeat refine MT.say ?_);exact MT.ret ⟨rfl,by omega⟩
   have c9010':=of_decide_eq_false c9010
   (repeat refine MT.say ?_);exact MT.ret trivial
  ·intro o9019 h9018 _
   (repeat refine MT.say ?_);exact MT.any
  intro o9020 h9018 _
  (repeat refine MT.say ?_);exact MT.any
theorem vC(p_w:ay)(p_least:Int)(p_greatest:Int)(h_p_w:aT p_w.lf1≤100000000):Tot (Q13 p_w p_least p_greatest) Any:=uf FU p_w p_least p_greatest (by have:=fK;omega) h_p_w
theorem Dy(p_e:bI)(h_p_e:aT p_e.lf1≤100000000):Tot (am4 p_e) Any:=by
 have:=sJ p_e
 have:=eu p_e.iO
 show MT (aeH p_e) Any
 repeat' (first|exact MT.any|refine MT.say ?_|refine MT.ite (fun _=>?_) (fun _=>?_)|refine MT.kP ?_ (fun _ _=>?_)|exact⟨T.wk (T.val (wU _))⟩|exact⟨T.wk (vC _ _ _ (by first|omega|decide))⟩|refine⟨(show MT _ Any from ?_)⟩)
theorem nV{α:Type}(l:List α)(c:α→Option α)(g:Nat)(hl:l.length≤100000000)(hg:g≤1000000)(hc:∀x∈l,c x=some x)(T0:Int×List α→Option ((Int×List α)⊕List α))
 (hT:∀(k:Nat) (s:List α),T0 ((k:Int),s)=bif decide ((k:Int)<(l.length:Int)) then(gX l (k:Int)).bind fun x=>(c x).bind fun r=>if(s.length+[r].length)*g≤140737488355328 then some (.inl (IntKind.wrap .i64 ((k:Int)+1),s++[r])) else none else some (.inr s)):
 dh T0 FU (0,[])=some l:=by
 have:Tot (dh T0 FU (0,[])) (fun r=>r=l):=by
  refine T.lV l.length (by omega) (fun k s=>s.1=(k:Int)∧s.2=l.take k) _ ⟨rfl,rfl⟩ ?_ ?_
  ·rintro k ⟨i,s⟩ hk ⟨h1,h2⟩
   obtain rfl:i=(k:Int):=h1
   obtain rfl:s=l.take k:=h2
   have hx:=List.getElem?_eq_getElem hk
   rw[hT]
   simp only[ltt hx,gid hx,cond_true,Option.bind_some,hc _ (fU hx),List.length_take,List.length_cons,List.length_nil]
   have hkk:(min k l.length+(0+1))*g≤140737488355328:=Nat.le_trans (Nat.mul_le_mul (show min k l.length+(0+1)≤100000001 by omega) hg) (by omega)
   rw[if_pos hkk]
   exact T.ret ⟨inc k (by omega),by rw[List.take_succ_eq_append_getElem hk]⟩
  rintro⟨i,s⟩ ⟨h1,h2⟩
  obtain rfl:i=(l.length:Int):=h1
  obtain rfl:s=l.take l.length:=h2
  rw[hT]
  simp only[ltn,cond_false]
  exact T.ret (List.take_length ..)
 obtain⟨r,h,rfl⟩:=this
 exact h
theorem cloneS(l:List ByteArray)(h:l.length≤100000000):Q89 l=some l:=by unfold Q89;rw[if_pos (by omega)]
theorem alz(l:List dw)(h:l.length≤100000000):agN l=some l:=by unfold agN;rw[if_pos (by omega)]
theorem Om{α β:Type}{m:Option α}{a:α}(f:α→β)(h:m=some a):(m.bind fun r=>some (f r))=some (f a):=by rw[h];rfl
theorem ug(n:Nat):∀v:ak,aT v.lf1<n→aT v.lf1≤100000000→(qo n).m1 v=some v:=by
 induction n with
 |zero=>exact fun v h=>by omega
 |succ n ih=>
  intro v h hb
  have hbv:=bZ v
  have hl:=iD v.bC
  have hd:=fG v.bG
  have h1:adL (qo n) v 0 []=some v.bC:=nV v.bC (fun x=>(qo n).m1 x) 80 (by omega) (by omega) (fun x hx=>by have:=jY hx;exact ih x (by omega) (by omega)) _ (fun k s=>by simp only[EZ,Mo.den,aK,aF,aG,aJ,aI])
  have h2:adM (qo n) v v.bC 0 []=some v.bG:=nV v.bG (fun x=>((qo n).m1 x.fValue).bind fun r=>some (aB.mk x.fName r)) 96 (by omega) (by omega) (fun x hx=>by have:=fZ hx;have:=eG x;have e:=ih x.fValue (by omega) (by omega);cases x;exact Om (aB.mk _) e) _ (fun k s=>by simp only[E5,Mo.den,aK,aF,aG,aJ,aI,Option.bind_assoc,Option.bind_some])
  show Mo.den (XJ (qo n) v)=some v
  simp only[XJ,Mo.den,aK,aF,aG,aJ,aI,h1,h2,Option.bind_some]
  cases v;rfl
theorem gW(v:ak)(h:aT v.lf1≤100000000):Q18 v=some v:=ug FU v (by have:=fK;omega) h
theorem mF(n:Nat):(∀v:ak,2*aT v.lf1<n→aT v.lf1≤100000000→(og n).m1 v=some v)∧∀l:List ak,2*bM (l.map ak.lf)+1<n→bM (l.map ak.lf)≤100000000→(og n).m2 l=some l:=by
 induction n with
 |zero=>exact⟨fun v h=>by omega,fun v h=>by omega⟩
 |succ n ih=>
  refine⟨fun v h hb=>?_,fun l h hb=>?_⟩
  ·have hbv:=bZ v
   have hd:=fG v.bG
   have h1:=ih.2 v.bC (by omega) (by omega)
   have h2:ac6 (og n) v v.bC 0 []=some v.bG:=nV v.bG (fun x=>((og n).m1 x.fValue).bind fun r=>some (aB.mk x.fName r)) 96 (by omega) (by omega) (fun x hx=>by have:=fZ hx;have:=eG x;have e:=ih.1 x.fValue (by omega) (by omega);cases x;exact Om (aB.mk _) e) _ (fun k s=>by simp only[EP,Mo.den,aK,aF,aG,aJ,aI,Option.bind_assoc,Option.bind_some])
   show Mo.den (Xy (og n) v)=some v
   simp only[Xy,Mo.den,aK,aF,aG,aJ,aI,h1,h2,Option.bind_some]
   cases v;rfl
  have hl:=iD l
  have h1:ac7 (og n) l 0 []=some l:=nV l (fun x=>(og n).m1 x) 80 (by omega) (by omega) (fun x hx=>by have:=jY hx;exact ih.1 x (by omega) (by omega)) _ (fun k s=>by simp only[ER,Mo.den,aK,aF,aG,aJ,aI])
  show Mo.den (Xz (og n) l)=some l
  simp only[Xz,Mo.den,aK,aF,aG,aJ,aI,h1,Option.bind_some]
theorem iW(v:ak)(h:aT v.lf1≤100000000):Q44 v=some v:=(mF FU).1 v (by have:=fK;omega) h
theorem mG(l:List ak)(h:bM (l.map ak.lf)≤100000000):Q53 l=some l:=(mF FU).2 l (by have:=fK;omega) h
theorem vF(n:Nat):∀v:aW,aT v.lf1<n→aT v.lf1≤100000000→(Dh n).m1 v=some v:=by
 induction n with
 |zero=>exact fun v h=>by omega
 |succ n ih=>
  intro v h hb
  have hbv:=jR v
  have hl:=wP v.cO
  have hp:=fQ v.dH
  have hn:=fQ v.gK
  have hc1:=cloneS v.dH (by omega)
  have hc2:=cloneS v.gK (by omega)
  have h0:=iW v.fArg (by omega)
  have h1:ac9 (Dh n) v v.dH v.gK v.fArg 0 []=some v.cO:=nV v.cO (fun x=>(Dh n).m1 x) 184 (by omega) (by omega) (fun x hx=>by have:=F6 hx;exact ih x (by omega) (by omega)) _ (fun k s=>by simp only[ES,Mo.den,aK,aF,aG,aJ,aI])
  show Mo.den (XA (Dh n) v)=some v
  simp only[XA,Mo.den,aK,aF,aG,aJ,aI,hc1,hc2,h0,h1,Option.bind_some]
  cases v;rfl
theorem xJ(v:aW)(h:aT v.lf1≤100000000):Q65 v=some v:=vF FU v (by have:=fK;omega) h
theorem vG(n:Nat):∀v:aO,aT v.lf1<n→aT v.lf1≤100000000→(Di n).m1 v=some v:=by
 induction n with
 |zero=>exact fun v h=>by omega
 |succ n ih=>
  intro v h hb
  have hbv:=iL v
  have hl:=qQ v.cO
  have hp:=fQ v.dH
  have hs:=mZ v.dK
  have hq:=yI v.dK.dS
  have hc1:=cloneS v.dH (by omega)
  have hc2:=alz v.dK.dS (by omega)
  have h0:=iW v.fArg (by omega)
  have h3:=mG v.fArgs (by omega)
  have h4:=xJ v.fExpr (by omega)
  have h1:ada (Di n) v v.dH v.fArg v.fArgs v.dK.dS v.fExpr 0 []=some v.cO:=nV v.cO (fun x=>(Di n).m1 x) 400 (by omega) (by omega) (fun x hx=>by have:=AO hx;exact ih x (by omega) (by omega)) _ (fun k s=>by simp only[ET,Mo.den,aK,aF,aG,aJ,aI])
  show Mo.den (XB (Di n) v)=some v
  simp only[XB,Mo.den,aK,aF,aG,aJ,aI,hc1,hc2,h0,h3,h4,h1,Option.bind_some]
  rcases v with⟨_,_,_,_,_,_,sh,e,_⟩
  cases sh;cases e;rfl
theorem xK(v:aO)(h:aT v.lf1≤100000000):Q66 v=some v:=vG FU v (by have:=fK;omega) h
theorem nP(v:aS)(h:aT v.lf1≤100000000):Q57 v=some v:=by
 have hbv:=iC v
 have hl:=ng v.gI
 have h0:=xK v.iT (by omega)
 have h1:adb v 0 []=some v.gI:=nV v.gI (fun x=>(Q89 x.dH).bind fun r=>some (bH.mk r x.nJ)) 32 (by omega) (by omega) (fun x hx=>by have:=qR hx;have:=mY x;have:=fQ x.dH;rw[cloneS x.dH (by omega)];rfl) _ (fun k s=>by simp only[EU,Mo.den,aK,aF,aG,aJ,aI,Option.bind_assoc,Option.bind_some])
 show Mo.den (ade v)=some v
 simp only[ade,Mo.den,aK,aF,aG,aJ,aI,h0,h1,Option.bind_some]
 cases v;rfl
theorem sV(n:Nat):∀v:aA,aT v.lf1<n→aT v.lf1≤100000000→(qj n).m1 v=some v:=by
 induction n with
 |zero=>exact fun v h=>by omega
 |succ n ih=>
  intro v h hb
  have hbv:=gV v
  have hl:=wQ v.dJ
  have hk:=pV v.dY
  have hr:=fQ v.dG
  have hc1:=cloneS v.dG (by omega)
  have h0:=iW v.kR (by omega)
  have h3:=iW v.kS (by omega)
  have h4:=mG v.jB (by omega)
  have h1:adg (qj n) v v.kR v.kS v.jB v.dG 0 []=some v.dJ:=nV v.dJ (fun x=>((qj n).m1 x.eU).bind fun r=>some (bV.mk x.fName r)) 328 (by omega) (by omega) (fun x hx=>by have:=AP hx;have:=qP x;have e:=ih x.eU (by omega) (by omega);cases x;exact Om (bV.mk _) e) _ (fun k s=>by simp only[EW,Mo.den,aK,aF,aG,aJ,aI,Option.bind_assoc,Option.bind_some])
  have h2:adh (qj n) v v.kR v.kS v.jB v.dG v.dJ 0 []=some v.dY:=nV v.dY (fun x=>(qj n).m1 x) 312 (by omega) (by omega) (fun x hx=>by have:=yJ hx;exact ih x (by omega) (by omega)) _ (fun k s=>by simp only[EX,Mo.den,aK,aF,aG,aJ,aI];cases v;rfl)
  show Mo.den (XC (qj n) v)=some v
  simp only[XC,Mo.den,aK,aF,aG,aJ,aI,hc1,h0,h3,h4,h1,h2,Option.bind_some]
  cases v;rfl
theorem uh(v:aA)(h:aT v.lf1≤100000000):Q34 v=some v:=sV FU v (by have:=fK;omega) h
theorem iY(v:aj)(h:aT v.lf1≤100000000):Q37 v=some v:=by
 have hbv:=gG v
 have hl:=kM v.bf
 have h0:=uh v.eU (by omega)
 have h1:adi v 0 []=some v.bf:=nV v.bf (fun x=>Q57 x) 456 (by omega) (by omega) (fun x hx=>by have:=wR hx;exact nP x (by omega)) _ (fun k s=>by simp only[EY,Mo.den,aK,aF,aG,aJ,aI])
 show Mo.den (adk v)=some v
 simp only[adk,Mo.den,aK,aF,aG,aJ,aI,h0,h1,Option.bind_some]
theorem rC{x:aj}{l:List aj}(h:x∈l):aT x.lf1≤bM (l.map aj.lf):=iw _ h
theorem jP(l:List aj):l.length≤bM (l.map aj.lf):=eY _ (fun x=>by rw[aj.aX,gG];omega) l
theorem jT(l:List aj)(h:bM (l.map aj.lf)≤100000000):Q52 l=some l:=by
 have hl:=jP l
 have h1:adV l 0 []=some l:=nV l (fun x=>Q37 x) 368 (by omega) (by omega) (fun x hx=>by have:=rC hx;exact iY x (by omega)) _ (fun k s=>by simp only[Fa,Mo.den,aK,aF,aG,aJ,aI])
 show Mo.den (adW l)=some l
 simp only[adW,Mo.den,aK,aF,aG,aJ,aI,h1,Option.bind_some]
theorem Gi:∀(l:List aj),bM (l.map aj.lf)≤100000000→xY l=some l
 |[],_=>rfl
 |s::r,h=>by
  simp only[List.map_cons,bM,aj.aX] at h
  unfold xY
  rw[iY s (by omega),Gi r (by omega)]
theorem lY{α:Type}(l:List α)(hl:l.length≤100000000)(T0:Int→Option (Int⊕(Unit⊕Unit)))(h1:∀(k:Nat) x,l[k]?=some x→T0 (k:Int)=some (.inl (IntKind.wrap .i64 ((k:Int)+1))))(h2:T0 (l.length:Int)=some (.inr (.inr ()))):dh T0 FU 0=some (.inr ()):=by
 have:Tot (dh T0 FU 0) (fun r=>r=.inr ()):=T.alv l (by omega) _ (fun k x hx=>by rw[h1 k x hx];exact T.ret rfl) (by rw[h2];exact T.ret rfl)
 obtain⟨r,h,rfl⟩:=this
 exact h
theorem rD(n:Nat):∀v:ak,aT v.lf1<n→aT v.lf1≤100000000→(oZ n).m1 v v=some true:=by
 induction n with
 |zero=>exact fun v h=>by omega
 |succ n ih=>
  intro v h hb
  have hbv:=bZ v
  have hl:=iD v.bC
  have hd:=fG v.bG
  have h1:VK (oZ n) v v 0=some (.inr ()):=lY v.bC (by omega) _ (fun k x hx=>by
   have:=jY (fU hx)
   simp only[oW,Mo.den,aK,aF,aG,aJ,aI,ltt hx,gid hx,cond_true,cond_false,Option.bind_some,ih x (by omega) (by omega),Bool.not_true]) (by simp only[oW,Mo.den,aK,aF,aG,aJ,aI,ltn,cond_false])
  have h2:VL (oZ n) v v 0=some (.inr ()):=lY v.bG (by omega) _ (fun k x hx=>by
   have:=fZ (fU hx)
   have:=eG x
   simp only[qO,Aj,Mo.den,aK,aF,aG,aJ,aI,ltt hx,gid hx,cond_true,cond_false,Option.bind_some,ih x.fValue (by omega) (by omega),Bool.not_true,decide_true]) (by simp only[qO,Mo.den,aK,aF,aG,aJ,aI,ltn,cond_false])
  show Mo.den (aam (oZ n) v v)=some true
  simp only[aam,Aj,FT,FQ,Oa,N9,Mo.den,aK,aF,aG,aJ,aI,bne_self_eq_false,cond_false,cond_true,Option.bind_some,decide_true,Bool.not_true,h1,h2]
theorem iU(v:ak)(h:aT v.lf1≤100000000):Q3 v v=some true:=rD FU v (by have:=fK;omega) h
theorem oh(l:List ak)(h:bM (l.map ak.lf)≤99999990):Q68 l l=some true:=by
 have e:=iU (ak.mk 6 0 ⟨#[]⟩ l []) (by rw[bZ];show 5+0+bM (l.map ak.lf)+0≤_;omega)
 show Mo.den (SB l l)=some true
 simp only[SB,Mo.den,aK,aF,aG,aJ,aI,e,Option.bind_some]
theorem iV(l:List ByteArray)(h:l.length≤100000000):Q91 l l=some true:=by
 have h1:aeY l l 0=some (.inr ()):=lY l h _ (fun k x hx=>by
  simp only[Ak,Mo.den,aK,aF,aG,aJ,aI,ltt hx,gid hx,cond_true,cond_false,Option.bind_some,decide_true,Bool.not_true]) (by simp only[Ak,Mo.den,aK,aF,aG,aJ,aI,ltn,cond_false])
 have h2:Q63 l l=some true:=by
  show Mo.den (aeZ l l)=some true
  simp only[aeZ,Mo.den,aK,aF,aG,aJ,aI,ltn,cond_false,cond_true,Option.bind_some,h1]
 show Mo.den (ae0 l l)=some true
 simp only[ae0,Mo.den,aK,aF,aG,aJ,aI,BEq.rfl,cond_true,Option.bind_some,h2]
theorem vH(a:dA)(h:aT a.lf1≤100000000):Q29 a a=some true:=by
 have hb:=mZ a
 have hl:=yI a.dS
 have h1:X9 a a 0=some (.inr ()):=lY a.dS (by omega) _ (fun k x hx=>by
  simp only[wK,Mo.den,aK,aF,aG,aJ,aI,ltt hx,gid hx,cond_true,cond_false,Option.bind_some,BEq.rfl,Bool.and_self,Bool.not_true]) (by simp only[wK,Mo.den,aK,aF,aG,aJ,aI,ltn,cond_false])
 show Mo.den (ae5 a a)=some true
 simp only[ae5,SY,SX,Mo.den,aK,aF,aG,aJ,aI,bne_self_eq_false,cond_false,cond_true,Option.bind_some,h1]
theorem uj(l:List bH)(h:bM (l.map bH.lf)≤100000000):Q35 l l=some true:=by
 have hl:=ng l
 have h1:ae3 l l 0=some (.inr ()):=lY l (by omega) _ (fun k x hx=>by
  have:=qR (fU hx)
  have:=mY x
  have:=fQ x.dH
  simp only[Aq,SV,Mo.den,aK,aF,aG,aJ,aI,ltt hx,gid hx,cond_true,cond_false,Option.bind_some,BEq.rfl,Bool.not_true,iV x.dH (by omega)]) (by simp only[Aq,Mo.den,aK,aF,aG,aJ,aI,ltn,cond_false])
 show Mo.den (ae4 l l)=some true
 simp only[ae4,Mo.den,aK,aF,aG,aJ,aI,bne_self_eq_false,cond_false,cond_true,Option.bind_some,h1]
theorem vI(n:Nat):∀v:aW,aT v.lf1<n→aT v.lf1≤100000000→(yF n).m1 v v=some true:=by
 induction n with
 |zero=>exact fun v h=>by omega
 |succ n ih=>
  intro v h hb
  have hbv:=jR v
  have hl:=wP v.cO
  have:=fQ v.dH
  have:=fQ v.gK
  have h1:Ya (yF n) v v 0=some (.inr ()):=lY v.cO (by omega) _ (fun k x hx=>by
   have:=F6 (fU hx)
   simp only[wL,Mo.den,aK,aF,aG,aJ,aI,ltt hx,gid hx,cond_true,cond_false,Option.bind_some,ih x (by omega) (by omega),Bool.not_true]) (by simp only[wL,Mo.den,aK,aF,aG,aJ,aI,ltn,cond_false])
  show Mo.den (Yb (yF n) v v)=some true
  simp only[Yb,KJ,KI,KH,KG,Tc,S9,Mo.den,aK,aF,aG,aJ,aI,bne_self_eq_false,cond_false,cond_true,Option.bind_some,decide_true,Bool.not_true,h1,iV v.dH (by omega),iV v.gK (by omega),iU v.fArg (by omega)]
theorem xM(v:aW)(h:aT v.lf1≤100000000):Q10 v v=some true:=vI FU v (by have:=fK;omega) h
theorem vJ(n:Nat):∀v:aO,aT v.lf1<n→aT v.lf1≤99999990→(yG n).m1 v v=some true:=by
 induction n with
 |zero=>exact fun v h=>by omega
 |succ n ih=>
  intro v h hb
  have hbv:=iL v
  have hl:=qQ v.cO
  have:=fQ v.dH
  have h1:ae6 (yG n) v v 0=some (.inr ()):=lY v.cO (by omega) _ (fun k x hx=>by
   have:=AO (fU hx)
   simp only[Ar,Mo.den,aK,aF,aG,aJ,aI,ltt hx,gid hx,cond_true,cond_false,Option.bind_some,ih x (by omega) (by omega),Bool.not_true]) (by simp only[Ar,Mo.den,aK,aF,aG,aJ,aI,ltn,cond_false])
  show Mo.den (aii (yG n) v v)=some true
  simp only[aii,Tq,Tn,Tj,Ti,Tf,Td,Yd,Yc,Mo.den,aK,aF,aG,aJ,aI,bne_self_eq_false,cond_false,cond_true,Option.bind_some,decide_true,Bool.not_true,h1,iV v.dH (by omega),iU v.fArg (by omega),oh v.fArgs (by omega),vH v.dK (by omega),xM v.fExpr (by omega)]
theorem xO(v:aO)(h:aT v.lf1≤99999990):Q9 v v=some true:=vJ FU v (by have:=fK;omega) h
theorem vK(v:aS)(h:aT v.lf1≤99999990):Q15 v v=some true:=by
 have hb:=iC v
 show Mo.den (ae7 v v)=some true
 simp only[ae7,wM,KP,KO,KN,KL,Tv,Tt,Mo.den,aK,aF,aG,aJ,aI,BEq.rfl,cond_false,cond_true,Option.bind_some,decide_true,uj v.gI (by omega),xO v.iT (by omega)]
theorem sZ(n:Nat):∀v:aA,aT v.lf1<n→aT v.lf1≤99999990→(uZ n).m1 v v=some true:=by
 induction n with
 |zero=>exact fun v h=>by omega
 |succ n ih=>
  intro v h hb
  have hbv:=gV v
  have hl:=wQ v.dJ
  have hk:=pV v.dY
  have:=fQ v.dG
  have h1:ae1 (uZ n) v v 0=some (.inr ()):=lY v.dJ (by omega) _ (fun k x hx=>by
   have:=AP (fU hx)
   have:=qP x
   simp only[Am,FY,Mo.den,aK,aF,aG,aJ,aI,ltt hx,gid hx,cond_true,cond_false,Option.bind_some,ih x.eU (by omega) (by omega),Bool.not_true,decide_true]) (by simp only[Am,Mo.den,aK,aF,aG,aJ,aI,ltn,cond_false])
  have h2:ae2 (uZ n) v v 0=some (.inr ()):=lY v.dY (by omega) _ (fun k x hx=>by
   have:=yJ (fU hx)
   simp only[Ap,Mo.den,aK,aF,aG,aJ,aI,ltt hx,gid hx,cond_true,cond_false,Option.bind_some,ih x (by omega) (by omega),Bool.not_true]) (by simp only[Ap,Mo.den,aK,aF,aG,aJ,aI,ltn,cond_false])
  show Mo.den (aie (uZ n) v v)=some true
  simp only[aie,FY,SS,SQ,SN,SL,SK,SH,SG,SE,SC,X8,X7,Mo.den,aK,aF,aG,aJ,aI,bne_self_eq_false,BEq.rfl,cond_false,cond_true,Option.bind_some,decide_true,Bool.not_true,h1,h2,iV v.dG (by omega),iU v.kR (by omega),iU v.kS (by omega),oh v.jB (by omega)]
theorem um(v:aA)(h:aT v.lf1≤99999990):Q1 v v=some true:=sZ FU v (by have:=fK;omega) h
theorem Dz(v:aj)(h:aT v.lf1≤99999990):Q28 v v=some true:=by
 have hb:=gG v
 have hl:=kM v.bf
 have h1:Ye v v 0=some (.inr ()):=lY v.bf (by omega) _ (fun k x hx=>by
  have:=wR (fU hx)
  simp only[wO,Mo.den,aK,aF,aG,aJ,aI,ltt hx,gid hx,cond_true,cond_false,Option.bind_some,vK x (by omega),Bool.not_true]) (by simp only[wO,Mo.den,aK,aF,aG,aJ,aI,ltn,cond_false])
 show Mo.den (ae8 v v)=some true
 simp only[ae8,KR,KQ,TA,Tz,Mo.den,aK,aF,aG,aJ,aI,bne_self_eq_false,cond_false,cond_true,Option.bind_some,decide_true,Bool.not_true,h1,um v.eU (by omega)]
theorem xP(l:List aj)(h:bM (l.map aj.lf)≤99999990):Q54 l l=some true:=by
 have hl:=jP l
 have h1:ae9 l l 0=some (.inr ()):=lY l (by omega) _ (fun k x hx=>by
  have:=rC (fU hx)
  simp only[Au,Mo.den,aK,aF,aG,aJ,aI,ltt hx,gid hx,cond_true,cond_false,Option.bind_some,Dz x (by omega),Bool.not_true]) (by simp only[Au,Mo.den,aK,aF,aG,aJ,aI,ltn,cond_false])
 show Mo.den (afa l l)=some true
 simp only[afa,Mo.den,aK,aF,aG,aJ,aI,bne_self_eq_false,cond_false,cond_true,Option.bind_some,h1]
theorem V4{α:Type}(f:α→List Int){l:List α}{k:Nat}{x:α}(h:l[k]?=some x):((l.take (k+1)).map f).flatten=((l.take k).map f).flatten++f x:=by
 have hk:=qw h
 have:l[k]=x:=by rw[List.getElem?_eq_getElem hk] at h;injection h
 rw[List.take_succ_eq_append_getElem hk,List.map_append,List.flatten_append,this];simp
theorem Ls{α:Type}(f:α→List Int)(l:List α)(k:Nat):((l.take k).map f).flatten.length≤(l.map f).flatten.length:=by
 have:(l.map f).flatten=((l.take k).map f).flatten++((l.drop k).map f).flatten:=by rw[←List.flatten_append,←List.map_append,List.take_append_drop]
 rw[this,List.length_append];omega
theorem wV{α:Type}(e:α→List Int)(lf:α→List Lf)(l:List α)(h:∀x∈l,(e x).length≤12*aT (lf x)):((l.map e).flatten).length≤12*bM (l.map lf):=by
 induction l with
 |nil=>exact Nat.zero_le _
 |cons x r ih=>
  simp only[List.map_cons,List.flatten_cons,List.length_append,bM]
  have:=h x (List.mem_cons_self ..)
  have:=ih fun y hy=>h y (List.mem_cons_of_mem _ hy)
  omega
theorem Gj{α:Type}{L:Int×List Int→Option ((Int×List Int)⊕List Int)}(l:List α)(hl:l.length≤100000000)(e:α→List Int)(B:Nat)
 (hs:∀(k:Nat) (x:α) (bs:List Int),l[k]?=some x→bs.length+(e x).length≤B→L ((k:Int),bs)=some (.inl (IntKind.wrap .i64 ((k:Int)+1),bs++e x)))
 (he:∀bs,L ((l.length:Int),bs)=some (.inr bs)) (acc:List Int) (hb:acc.length+((l.map e).flatten).length≤B):dh L FU (0,acc)=some (acc++(l.map e).flatten):=by
 have key:Tot (dh L FU (0,acc)) (fun q=>q=acc++(l.map e).flatten):=by
  refine T.lV l.length (by omega) (fun k s=>s=((k:Int),acc++((l.take k).map e).flatten)) _ (by simp) ?_ ?_
  ·rintro k s hk rfl
   have hx:=List.getElem?_eq_getElem hk
   have h1:=Ls e l (k+1)
   rw[V4 e hx,List.length_append] at h1
   rw[hs k _ _ hx (by rw[List.length_append];omega)]
   refine T.ret ?_
   show _=_
   rw[inc k (by omega),V4 e hx,List.append_assoc]
  rintro s rfl
  rw[he,List.take_length]
  exact T.ret rfl
 obtain⟨q,h,rfl⟩:=key
 exact h
theorem bsm{α:Type}(x:Option α):(x.bind fun r=>some r)=x:=by cases x<;>rfl
theorem afl{α:Type}(b:Bool)(x y:α):(bif b then some x else some y)=some (bif b then x else y):=by cases b<;>rfl
def shB(n s:Int):Int:=IntKind.wrap .u8 (qA .u64 (iK .xor .u64 (IntKind.wrap .u64 n) 9223372036854775808) s)
def n8(n:Int):List Int:=((List.range 8).map fun j:Nat=>[shB n (56-8*(j:Int))]).flatten
def ktB(b:UInt8):List Int:=bif (b.toNat:Int)==0 then [(b.toNat:Int),255] else [(b.toNat:Int)]
def kt(s:ByteArray):List Int:=(s.data.toList.map ktB).flatten
mutual
def kb:ak→List Int
 |.mk k i t l d=>IntKind.wrap .u8 k::(bif k==3||(k==9||k==10) then n8 i else bif k==4||(k==7||k==8) then kt t++[0,0] else bif k==6 then kbL l++[0] else bif k==5 then kbD d++[0] else [])
def kbL:List ak→List Int
 |[]=>[]
 |x::r=>(1::kb x)++kbL r
def kbD:List aB→List Int
 |[]=>[]
 |.mk n v::r=>(1::(numsOf n++(0::kb v)))++kbD r
end
def kbE(v:ak):List Int:=1::kb v
def kbF(f:aB):List Int:=1::(numsOf f.fName++(0::kb f.fValue))
theorem afm:∀l:List ak,kbL l=(l.map kbE).flatten
 |[]=>by rw[kbL];rfl
 |x::r=>by rw[kbL,afm r];rfl
theorem afn:∀l:List aB,kbD l=(l.map kbF).flatten
 |[]=>by rw[kbD];rfl
 |.mk n v::r=>by rw[kbD,afn r];rfl
theorem ajf(v:ak):kb v=IntKind.wrap .u8 v.aH::(bif v.aH==3||(v.aH==9||v.aH==10) then n8 v.dR else bif v.aH==4||(v.aH==7||v.aH==8) then kt v.fText++[0,0] else bif v.aH==6 then(v.bC.map kbE).flatten++[0] else bif v.aH==5 then(v.bG.map kbF).flatten++[0] else []):=by
 cases v
 rw[kb,afm,afn];rfl
theorem alA(b:UInt8):(ktB b).length≤2:=by unfold ktB;cases (b.toNat:Int)==0<;>simp
theorem ajg(s:ByteArray):(kt s).length≤2*s.size:=by
 have:∀l:List UInt8,((l.map ktB).flatten).length≤2*l.length:=by
  intro l
  induction l with
  |nil=>exact Nat.le_refl _
  |cons x r ih=>
   have:=alA x
   simp only[List.map_cons,List.flatten_cons,List.length_append,List.length_cons];omega
 have:=this s.data.toList
 unfold kt
 have e:s.data.toList.length=s.size:=rfl
 omega
theorem alB(n:Int):(n8 n).length=8:=rfl
theorem ank(n:Nat):∀v:ak,aT v.lf1<n→(kb v).length+1≤12*aT v.lf1:=by
 induction n with
 |zero=>intro v h;omega
 |succ n ih=>
  intro v hlt
  have hp:=bZ v
  have hL:=wV kbE ak.lf v.bC fun x hx=>by
   have hm:=jY hx
   rw[ak.aX];exact ih x (by omega)
  have hD:=wV kbF aB.lf v.bG fun x hx=>by
   have hm:=fZ hx
   rw[eG] at hm
   rw[aB.aX,eG]
   have:=ih x.fValue (by omega)
   unfold kbF
   simp only[List.length_cons,List.length_append,oL];omega
  have hT:=ajg v.fText
  have hN:=alB v.dR
  have key:∀(c:Bool) (a b:List Int) (m:Nat),a.length≤m→b.length≤m→(bif c then a else b).length≤m:=fun c a b m h1 h2=>by cases c<;>assumption
  rw[ajf,List.length_cons]
  have:(bif v.aH==3||(v.aH==9||v.aH==10) then n8 v.dR else bif v.aH==4||(v.aH==7||v.aH==8) then kt v.fText++[0,0] else bif v.aH==6 then(v.bC.map kbE).flatten++[0] else bif v.aH==5 then(v.bG.map kbF).flatten++[0] else []).length≤12*aT v.lf1-2:=by
   refine key _ _ _ _ (by omega) (key _ _ _ _ ?_ (key _ _ _ _ ?_ (key _ _ _ _ ?_ ?_)))
   all_goals (simp only[List.length_append,List.length_cons,List.length_nil];omega)
  omega
theorem kb_le'(v:ak):(kb v).length+1≤12*aT v.lf1:=ank _ v (Nat.lt_succ_self _)
theorem afo(v:ak):((v.bC.map kbE).flatten).length≤12*bM (v.bC.map ak.lf):=wV kbE ak.lf v.bC fun x hx=>by
 rw[ak.aX];exact kb_le' x
theorem afp(v:ak):((v.bG.map kbF).flatten).length≤12*bM (v.bG.map aB.lf):=wV kbF aB.lf v.bG fun x hx=>by
 rw[aB.aX,eG]
 have:=kb_le' x.fValue
 unfold kbF
 simp only[List.length_cons,List.length_append,oL];omega
theorem afq(R:mW)(v:ak)(l:List Int)(hl:l.length≤100000000000):adC R v 56 l=some (l++n8 v.dR):=by
 have key:Tot (adC R v 56 l) (fun q=>q=l++n8 v.dR):=by
  refine T.lV 8 (by omega) (fun k s=>s=(56-8*(k:Int),l++(((List.range 8).take k).map fun j:Nat=>[shB v.dR (56-8*(j:Int))]).flatten)) _ (by simp) ?_ ?_
  ·rintro k s hk rfl
   have hx:(List.range 8)[k]?=some k:=by rw[List.getElem?_range hk]
   have hf:=V4 (fun j:Nat=>[shB v.dR (56-8*(j:Int))]) hx
   have h1:=Ls (fun j:Nat=>[shB v.dR (56-8*(j:Int))]) (List.range 8) k
   have h2:(((List.range 8).map fun j:Nat=>[shB v.dR (56-8*(j:Int))]).flatten).length=8:=rfl
   unfold DX
   simp only[Mo.den,aK,aF,aG,aJ,aI,decide_eq_true (show(0:Int)≤56-8*(k:Int) by omega),cond_true]
   rw[if_pos (by omega),if_pos (by rw[List.length_append];simp only[List.length_cons,List.length_nil];omega)]
   refine T.ret ?_
   show _=_
   rw[hf,w64 (by omega) (by omega),show(56-8*(k:Int)-8)=56-8*((k+1:Nat):Int) by omega,List.append_assoc];rfl
  rintro s rfl
  unfold DX
  simp only[Mo.den,aK,aF,aG,aJ,aI,decide_eq_false (show ¬(0:Int)≤56-8*((8:Nat):Int) by omega),cond_false]
  exact T.ret rfl
 obtain⟨q,h,rfl⟩:=key
 exact h
theorem afr(R:mW)(v:ak)(l:List Int)(hl:l.length+(kt v.fText).length≤100000000000)(hs:v.fText.size≤100000000):adD R v 0 l=some (l++kt v.fText):=by
 refine Gj v.fText.data.toList hs ktB 100000000000 (fun k x bs hx hbs=>?_) (fun bs=>?_) l hl
 ·have hk:k<v.fText.size:=qw hx
  have hxk:v.fText[k]=x:=by rw[byte_at v.fText k hk] at hx;exact Option.some.inj hx
  unfold ktB at hbs ⊢
  unfold zY
  simp only[QA,Mo.den,aK,aF,aG,aJ,aI,iLt hk,cond_true,nC v.fText k hk,hxk,Option.bind_some]
  cases h0:(x.toNat:Int)==0 with
  |true=>
   rw[h0] at hbs
   simp only[cond_true,List.length_cons,List.length_nil] at hbs ⊢
   rw[if_pos (by omega),if_pos (by rw[List.length_append];simp only[List.length_cons,List.length_nil];omega),List.append_assoc];rfl
  |false=>
   rw[h0] at hbs
   simp only[cond_false,List.length_cons,List.length_nil] at hbs ⊢
   rw[if_pos (by omega)];rfl
 have e:((v.fText.data.toList.length:Nat):Int)=(v.fText.size:Int):=rfl
 unfold zY
 simp only[Mo.den,aK,aF,aG,aJ,aI,e,ltn,cond_false]
theorem k3(a b c:Bool):(bif a then a else bif b then b else c)=(a||(b||c)):=by cases a<;>cases b<;>rfl
theorem afs(n:Nat):∀(F:Nat) (v:ak),aT v.lf1<n→n≤F→aT v.lf1≤100000000→∀l:List Int,l.length+(kb v).length≤10000000000→(qm F).m2 v l=some (l++kb v):=by
 induction n with
 |zero=>intro F v h;omega
 |succ n ih=>
  intro F v hlt hF hb l hll
  obtain⟨F,rfl⟩:∃K,F=K+1:=⟨F-1,by omega⟩
  have hp:=bZ v
  have hl:=iD v.bC
  have hd:=fG v.bG
  have hT:=ajg v.fText
  have hkl:=kb_le' v
  have hfl:=afo v
  have hfd:=afp v
  have e1:(l++[IntKind.wrap .u8 v.aH]).length=l.length+1:=by rw[List.length_append];rfl
  show Mo.den (ahB (qm F) v l)=_
  rw[ajf] at hll ⊢
  rw[List.length_cons] at hll
  unfold ahB
  unfold QB
  simp only[Mo.den,aK,aF,aG,aJ,aI,XI,Qz,afl,k3,bsm,Option.bind_some]
  rw[if_pos (by simp only[List.length_cons,List.length_nil];omega)]
  generalize (v.aH==3||(v.aH==9||v.aH==10))=q1 at *
  generalize (v.aH==4||(v.aH==7||v.aH==8))=q2 at *
  cases q1 with
  |true=>
   simp only[cond_true] at hll ⊢
   rw[afq _ v _ (by omega)]
   simp
  |false=>
  simp only[cond_false] at hll ⊢
  cases q2 with
  |true=>
   simp only[cond_true] at hll ⊢
   rw[List.length_append] at hll
   rw[afr _ v _ (by omega) (by omega)]
   simp only[Option.bind_some]
   rw[if_pos (by simp only[List.length_append,List.length_cons,List.length_nil];omega)]
   simp
  |false=>
  simp only[cond_false] at hll ⊢
  cases e6:v.aH==6 with
  |true=>
   rw[e6] at hll
   simp only[cond_true] at hll ⊢
   rw[List.length_append] at hll
   have hL:adE (qm F) v 0 (l++[IntKind.wrap .u8 v.aH])=some (l++[IntKind.wrap .u8 v.aH]++(v.bC.map kbE).flatten):=by
    refine Gj v.bC (by omega) kbE 10000000000 (fun k x bs hx hbs=>?_) (fun bs=>by unfold zZ;simp only[Mo.den,aK,aF,aG,aJ,aI,ltn,cond_false]) _ (by omega)
    have hm:=jY (fU hx)
    have hbs:bs.length+((kb x).length+1)≤10000000000:=hbs
    unfold zZ
    simp only[Mo.den,aK,aF,aG,aJ,aI,ltt hx,gid hx,cond_true,Option.bind_some]
    rw[if_pos (by simp only[List.length_cons,List.length_nil];omega),ih F x (by omega) (by omega) (by omega) _ (by rw[List.length_append];show bs.length+1+_≤_;omega)]
    simp[kbE]
   rw[hL]
   simp only[Option.bind_some]
   rw[if_pos (by simp only[List.length_append,List.length_cons,List.length_nil];omega)]
   simp
  |false=>
  rw[e6] at hll
  simp only[cond_false] at hll ⊢
  cases e5:v.aH==5 with
  |true=>
   rw[e5] at hll
   simp only[cond_true] at hll ⊢
   rw[List.length_append] at hll
   have hL:adF (qm F) v 0 (l++[IntKind.wrap .u8 v.aH])=some (l++[IntKind.wrap .u8 v.aH]++(v.bG.map kbF).flatten):=by
    refine Gj v.bG (by omega) kbF 10000000000 (fun k x bs hx hbs=>?_) (fun bs=>by unfold Aa;simp only[Mo.den,aK,aF,aG,aJ,aI,ltn,cond_false]) _ (by omega)
    have hm:=fZ (fU hx)
    rw[eG] at hm
    unfold kbF at hbs
    simp only[List.length_cons,List.length_append,oL] at hbs
    unfold Aa
    simp only[Mo.den,aK,aF,aG,aJ,aI,ltt hx,gid hx,cond_true,Option.bind_some]
    rw[if_pos (by simp only[List.length_cons,List.length_nil];omega),if_pos (by simp only[List.length_append,List.length_cons,List.length_nil];omega),if_pos (by simp only[List.length_append,List.length_cons,List.length_nil,oL];omega),ih F x.fValue (by omega) (by omega) (by omega) _ (by simp only[List.length_append,List.length_cons,List.length_nil,oL];omega)]
    simp[kbF]
   rw[hL]
   simp only[Option.bind_some]
   rw[if_pos (by simp only[List.length_append,List.length_cons,List.length_nil];omega)]
   simp
  |false=>
   simp
end Go.Proofs.YtpdlghcgekojlaaGreatDoor
namespace Go.Proofs.YtpdlghcgekojlaaGreatDoor
open Go.RowKit
section
variable {α:Type}
theorem aaA{a b:ByteArray}(h:a.data.toList=b.data.toList):a=b:=by
 rcases a with⟨⟨a⟩⟩;rcases b with⟨⟨b⟩⟩
 have h:a=b:=h
 rw[h]
def Hq(s t:ByteArray):Bool:=bytesBefore s.data.toList t.data.toList
theorem Gl(s:ByteArray):Hq s s=false:=WideAt.bytes_irrefl _
theorem aft{s t:ByteArray}(h:s≠t):Hq s t=true∨Hq t s=true:=WideAt.bytes_total _ _ fun e=>h (aaA e)
theorem Gm{a b c:ByteArray}(h:Hq a b=true)(k:Hq b c=true):Hq a c=true:=WideShapes.bytes_trans _ _ _ h k
def jZ(l:List (ByteArray×α)):Prop:=l.Pairwise fun p q=>Hq p.1 q.1=true
theorem jZ.nil:jZ ([]:List (ByteArray×α)):=List.Pairwise.nil
theorem jZ.del{l:List (ByteArray×α)}(h:jZ l)(s:ByteArray):jZ (dL s l):=List.Pairwise.filter _ h
theorem jZ.ins{s:ByteArray}{x:α}:∀{l:List (ByteArray×α)},jZ l→(∀p∈l,p.1≠s)→jZ (iP s x l)
 |[],_,_=>List.pairwise_singleton _ _
 |(t,y)::r,h,hn=>by
  obtain⟨h1,h2⟩:=List.pairwise_cons.1 h
  have hts:t≠s:=hn (t,y) (List.mem_cons_self ..)
  unfold iP
  cases hb:bytesBefore s.data.toList t.data.toList with
  |true=>
   refine List.pairwise_cons.2 ⟨fun p hp=>?_,h⟩
   rcases List.mem_cons.1 hp with rfl|hp
   ·exact hb
   exact Gm hb (h1 p hp)
  |false=>
   refine List.pairwise_cons.2 ⟨fun p hp=>?_,jZ.ins h2 fun p hp=>hn p (List.mem_cons_of_mem _ hp)⟩
   rcases BH.1 hp with rfl|hp
   ·rcases aft hts with h3|h3
    ·exact h3
    have:Hq s t=false:=hb
    rw[h3] at this;cases this
   exact h1 p hp
theorem jZ.put{l:List (ByteArray×α)}(h:jZ l)(s:ByteArray)(x:α):jZ (eH s x l):=(h.del s).ins fun _ hp=>(mQ.1 hp).2
theorem tq{s:ByteArray}:∀{l:List (ByteArray×α)},(∀p∈l,p.1≠s)→dL s l=l:=fun {l} h=>by
 unfold dL
 exact List.filter_eq_self.2 fun p hp=>by simpa using h p hp
theorem V5{s:ByteArray}{l:List (ByteArray×α)}(h:aN s l=none):∀p∈l,p.1≠s:=fun p hp e=>by
 subst e
 have:=EC (s:=p.1) (x:=p.2) hp
 rw[h] at this;cases this
theorem Lu{s:ByteArray}{x:α}:∀{l:List (ByteArray×α)},(∀p∈l,p.1≠s)→dL s (iP s x l)=l
 |[],_=>by
  unfold iP dL
  simp
 |(t,y)::r,hn=>by
  have hts:t≠s:=hn (t,y) (List.mem_cons_self ..)
  unfold iP
  cases hb:bytesBefore s.data.toList t.data.toList with
  |true=>
   show dL s ((s,x)::(t,y)::r)=_
   have:=tq hn
   unfold dL at this ⊢
   rw[List.filter_cons_of_neg (by simp),this]
  |false=>
   show dL s ((t,y)::iP s x r)=_
   have:=Lu (x:=x) fun p hp=>hn p (List.mem_cons_of_mem _ hp)
   unfold dL at this ⊢
   rw[List.filter_cons_of_pos (by simpa using hts),this]
theorem LC(s:ByteArray)(x:α)(l:List (ByteArray×α)):dL s (eH s x l)=dL s l:=Lu fun _ hp=>(mQ.1 hp).2
theorem aaB(s:ByteArray)(l:List (ByteArray×α)):dL s (dL s l)=dL s l:=tq fun _ hp=>(mQ.1 hp).2
theorem Ci{s:ByteArray}{x:α}:∀{l:List (ByteArray×α)},jZ l→aN s l=some x→iP s x (dL s l)=l
 |[],_,h=>by cases h
 |(t,y)::r,ha,h=>by
  obtain⟨h1,h2⟩:=List.pairwise_cons.1 ha
  unfold aN at h
  by_cases hts:t=s
  ·subst hts
   rw[decide_eq_true rfl] at h
   injection h with h;subst h
   have hn:∀p∈r,p.1≠t:=fun p hp e=>by
    have:=h1 p hp
    rw[e] at this
    have h3:=Gl t
    have this:Hq t t=true:=this
    rw[h3] at this;cases this
   have hd:dL t ((t,y)::r)=r:=by
    have:=tq hn
    unfold dL at this ⊢
    rw[List.filter_cons_of_neg (by simp),this]
   rw[hd]
   cases r with
   |nil=>rfl
   |cons p r=>
    have:=h1 p (List.mem_cons_self ..)
    unfold iP
    have this:bytesBefore t.data.toList p.1.data.toList=true:=this
    rw[this]
  rw[decide_eq_false hts] at h
  have hd:dL s ((t,y)::r)=(t,y)::dL s r:=by
   unfold dL
   rw[List.filter_cons_of_pos (by simpa using hts)]
  have hb:bytesBefore s.data.toList t.data.toList=false:=by
   cases hb:bytesBefore s.data.toList t.data.toList with
   |false=>rfl
   |true=>
    have h3:=h1 (s,x) (oH h)
    have h4:=Gm (a:=s) (b:=t) (c:=s) hb h3
    rw[Gl] at h4;cases h4
  rw[hd]
  unfold iP
  rw[hb]
  show(t,y)::iP s x (dL s r)=_
  rw[Ci h2 h]
theorem V6{s:ByteArray}{x y:α}{l:List (ByteArray×α)}(ha:jZ l)(h:aN s l=some x):eH s x (eH s y l)=l:=by
 unfold eH
 rw[show dL s (iP s y (dL s l))=dL s l from LC s y l]
 exact Ci ha h
theorem Gn{s:ByteArray}{y:α}{l:List (ByteArray×α)}(h:aN s l=none):dL s (eH s y l)=l:=by
 rw[LC]
 exact tq (V5 h)
theorem aaC{s:ByteArray}{x:α}{l:List (ByteArray×α)}(ha:jZ l)(h:aN s l=some x):eH s x (dL s l)=l:=by
 unfold eH
 rw[aaB]
 exact Ci ha h
theorem Cj:∀{l:List (ByteArray×α)},jZ l→∀{p:ByteArray×α},p∈l→aN p.1 l=some p.2
 |[],_,p,hp=>by cases hp
 |(t,y)::r,ha,p,hp=>by
  obtain⟨h1,h2⟩:=List.pairwise_cons.1 ha
  unfold aN
  by_cases hts:t=p.1
  ·rw[decide_eq_true hts]
   rcases List.mem_cons.1 hp with rfl|hp
   ·rfl
   have h3:=h1 p hp
   have h3:Hq t p.1=true:=h3
   rw[hts,Gl] at h3;cases h3
  rw[decide_eq_false hts]
  rcases List.mem_cons.1 hp with rfl|hp
  ·exact absurd rfl hts
  exact Cj h2 hp
theorem LD(s:ByteArray)(x:α):∀l:List (ByteArray×α),(iP s x l).length=l.length+1
 |[]=>rfl
 |(t,y)::r=>by
  unfold iP
  cases bytesBefore s.data.toList t.data.toList with
  |true=>rfl
  |false=>show(iP s x r).length+1=_;rw[LD s x r];rfl
theorem wW(s:ByteArray)(l:List (ByteArray×α)):(dL s l).length≤l.length:=List.length_filter_le ..
theorem rE(s:ByteArray)(x:α)(l:List (ByteArray×α)):(eH s x l).length≤l.length+1:=by
 unfold eH
 rw[LD]
 have:=wW s l
 omega
end
section
variable {α:Type}
theorem wX(d:RM α)(j:Nat)(l:List (ByteArray×List α))(i:Nat):(d.set j l).inner i=if i=j∧j<d.maps.length then l else d.inner i:=by
 unfold RM.inner RM.set
 simp only[List.getD_eq_getElem?_getD,List.getElem?_set]
 by_cases h:j=i
 ·subst h
  by_cases h2:j<d.maps.length
  ·simp[h2]
  simp[h2]
 rw[if_neg h,if_neg (fun k=>h k.1.symm)]
structure gY (d d':RM α):Prop where
 dir:d'.dir=d.dir
 maps:d.maps <+: d'.maps
theorem gY.refl(d:RM α):gY d d:=⟨rfl,List.prefix_refl _⟩
theorem gY.inner{d d':RM α}(h:gY d d'){j:Nat}(hj:j<d.maps.length):d'.inner j=d.inner j:=by
 obtain⟨t,ht⟩:=h.maps
 unfold RM.inner
 rw[←ht,List.getD_eq_getElem?_getD,List.getD_eq_getElem?_getD,List.getElem?_append_left hj]
theorem gY.len{d d':RM α}(h:gY d d'):d.maps.length≤d'.maps.length:=h.maps.length_le
structure RWf (d:RM α):Prop where
 hnd:∀s j,aN s d.dir=some j→j<d.maps.length
 inj:∀s t j,aN s d.dir=some j→aN t d.dir=some j→s=t
 asc:jZ d.dir
 inn:∀s j,aN s d.dir=some j→jZ (d.inner j)
theorem gY.row{d d':RM α}(h:gY d d')(w:RWf d)(s c:ByteArray):d'.row (aN s d.dir) c=d.row (aN s d.dir) c:=by
 cases hs:aN s d.dir with
 |none=>rfl
 |some j=>
  show(aN c (d'.inner j)).getD []=(aN c (d.inner j)).getD []
  rw[h.inner (w.hnd s j hs)]
theorem gY.wf{d d':RM α}(h:gY d d')(w:RWf d):RWf d' where
 hnd:=fun s j hs=>by rw[h.dir] at hs;exact Nat.lt_of_lt_of_le (w.hnd s j hs) h.len
 inj:=fun s t j hs ht=>by rw[h.dir] at hs ht;exact w.inj s t j hs ht
 asc:=by rw[h.dir];exact w.asc
 inn:=fun s j hs=>by rw[h.dir] at hs;rw[h.inner (w.hnd s j hs)];exact w.inn s j hs
theorem RWf.put{d:RM α}(w:RWf d)(j:Nat)(s:ByteArray)(r:List α):RWf (d.put j s r) where
 hnd:=fun t i h=>by show i<(d.maps.set j _).length;rw[List.length_set];exact w.hnd t i h
 inj:=w.inj
 asc:=w.asc
 inn:=fun t i h=>by
  unfold RM.put
  rw[wX]
  split
  ·rename_i h1
   rw[←h1.1]
   exact(w.inn t i h).put s r
  exact w.inn t i h
theorem o9(d:RM α)(s:ByteArray)(i:Nat):(d.make s).inner i=d.inner i:=by
 show(d.maps++[[]]).getD i []=d.maps.getD i []
 rw[List.getD_eq_getElem?_getD,List.getD_eq_getElem?_getD,List.getElem?_append]
 split
 ·rfl
 rename_i h
 rw[List.getElem?_eq_none (Nat.le_of_not_lt h)]
 cases i-d.maps.length<;>simp
theorem nR(d:RM α)(s t:ByteArray):aN t (d.make s).dir=if s=t then some d.maps.length else aN t d.dir:=by
 show aN t (eH s d.maps.length d.dir)=_
 split
 ·rename_i h;subst h;exact jF _ _ _
 rename_i h;exact kV h _ _
theorem kQ(d:RM α)(s t:ByteArray):aN t (d.unlink s).dir=if s=t then none else aN t d.dir:=by
 show aN t (dL s d.dir)=_
 split
 ·rename_i h;subst h;exact jE _ _
 rename_i h;exact jL h _
theorem rF{d:RM α}{i:Nat}(h:d.maps.length≤i):d.inner i=[]:=by
 unfold RM.inner
 rw[List.getD_eq_getElem?_getD,List.getElem?_eq_none h];rfl
theorem RWf.make{d:RM α}(w:RWf d)(s:ByteArray):RWf (d.make s) where
 hnd:=fun t i h=>by
  show i<(d.maps++[[]]).length
  rw[nR] at h
  rw[List.length_append]
  split at h
  ·injection h with h;subst h;simp
  have:=w.hnd t i h
  omega
 inj:=fun t u i h k=>by
  rw[nR] at h k
  split at h
  ·injection h with h;subst h
   split at k
   ·rename_i h1 h2;rw[←h1,←h2]
   have:=w.hnd u _ k;omega
  split at k
  ·injection k with k;subst k
   have:=w.hnd t _ h;omega
  exact w.inj t u i h k
 asc:=w.asc.put s _
 inn:=fun t i h=>by
  rw[o9]
  rw[nR] at h
  split at h
  ·injection h with h;subst h
   rw[rF (Nat.le_refl _)];exact jZ.nil
  exact w.inn t i h
theorem RWf.unlink{d:RM α}(w:RWf d)(s:ByteArray):RWf (d.unlink s) where
 hnd:=fun t i h=>by
  rw[kQ] at h
  split at h
  ·cases h
  exact w.hnd t i h
 inj:=fun t u i h k=>by
  rw[kQ] at h k
  split at h
  ·cases h
  split at k
  ·cases k
  exact w.inj t u i h k
 asc:=w.asc.del s
 inn:=fun t i h=>by
  rw[kQ] at h
  split at h
  ·cases h
  exact w.inn t i h
theorem gY.anl{d d':RM α}{j:Nat}(w:jZ (d.inner j))(hj:j<d.maps.length){s:ByteArray}{r r':List α}(h:gY (d.put j s r) d')(hr:aN s (d.inner j)=some r'):gY d (d'.put j s r'):=by
 have hl:(d.put j s r).maps.length=d.maps.length:=by show(d.maps.set j _).length=_;rw[List.length_set]
 refine⟨h.dir,?_⟩
 obtain⟨t,ht⟩:=h.maps
 refine⟨t,?_⟩
 have hin:d'.inner j=eH s r (d.inner j):=by
  rw[h.inner (by rw[hl];exact hj)]
  unfold RM.put
  rw[wX,if_pos ⟨rfl,hj⟩]
 show _=d'.maps.set j (eH s r' (d'.inner j))
 rw[hin,V6 w hr,←ht]
 show d.maps++t=(d.maps.set j _++t).set j _
 rw[List.set_append_left _ _ (by rw[List.length_set];exact hj),List.set_set]
 congr 1
 have:d.inner j=d.maps[j]:=by unfold RM.inner;rw[List.getD_eq_getElem?_getD,List.getElem?_eq_getElem hj];rfl
 rw[this,List.set_getElem_self]
theorem gY.anm{d d':RM α}{j:Nat}(hj:j<d.maps.length){s:ByteArray}{r:List α}(h:gY (d.put j s r) d')(hr:aN s (d.inner j)=none):gY d (d'.del j s):=by
 have hl:(d.put j s r).maps.length=d.maps.length:=by show(d.maps.set j _).length=_;rw[List.length_set]
 refine⟨h.dir,?_⟩
 obtain⟨t,ht⟩:=h.maps
 refine⟨t,?_⟩
 have hin:d'.inner j=eH s r (d.inner j):=by
  rw[h.inner (by rw[hl];exact hj)]
  unfold RM.put
  rw[wX,if_pos ⟨rfl,hj⟩]
 show _=d'.maps.set j (dL s (d'.inner j))
 rw[hin,Gn hr,←ht]
 show d.maps++t=(d.maps.set j _++t).set j _
 rw[List.set_append_left _ _ (by rw[List.length_set];exact hj),List.set_set]
 congr 1
 have:d.inner j=d.maps[j]:=by unfold RM.inner;rw[List.getD_eq_getElem?_getD,List.getElem?_eq_getElem hj];rfl
 rw[this,List.set_getElem_self]
theorem gY.alC{d d':RM α}{s:ByteArray}(h:gY (d.make s) d')(hs:aN s d.dir=none):gY d (d'.unlink s):=by
 refine⟨?_,?_⟩
 ·show dL s d'.dir=_
  rw[h.dir]
  exact Gn hs
 exact(List.prefix_append d.maps [[]]).trans h.maps
theorem gY.alD{d d':RM α}(w:RWf d){s:ByteArray}{j:Nat}(h:gY (d.unlink s) d')(hs:aN s d.dir=some j):gY d (d'.link s j):=by
 refine⟨?_,h.maps⟩
 show eH s j d'.dir=_
 rw[h.dir]
 exact aaC w.asc hs
end
end Go.Proofs.YtpdlghcgekojlaaGreatDoor
namespace Go.Proofs.YtpdlghcgekojlaaGreatDoor
open Go.RowKit
abbrev TxL:=List (ByteArray×ah)
abbrev SeL:=List (ByteArray×au)
def AZ:ak:=ak.mk 0 0 ⟨#[]⟩ [] []
structure Bd (K:Nat) (q:List aj) (d:bg) (x:TxL) (z:SeL):Prop where
 q:bM (q.map aj.lf)≤K
 dir:d.dir.length≤K
 inn:∀n j,aN n d.dir=some j→(d.inner j).length≤K
 row:∀n j s r,aN n d.dir=some j→aN s (d.inner j)=some r→r.length≤K
 doc:∀n j s r,aN n d.dir=some j→aN s (d.inner j)=some r→∀v∈r,aT v.jc.lf1≤1048576
 tx:x.length≤K
 txw:∀s p,aN s x=some p→bM (p.bK.map ay.lf)≤1048576
 ses:z.length≤K
theorem Bd.le{K K':Nat}{q:List aj}{d:bg}{x:TxL}{z:SeL}(h:Bd K q d x z)(k:K≤K'):Bd K' q d x z:=
 ⟨Nat.le_trans h.q k,Nat.le_trans h.dir k,fun n j e=>Nat.le_trans (h.inn n j e) k,fun n j s r e f=>Nat.le_trans (h.row n j s r e f) k,h.doc,Nat.le_trans h.tx k,h.txw,Nat.le_trans h.ses k⟩
theorem Bd.Oo{K:Nat}{q:List aj}{d:bg}{x:TxL}{z:SeL}(h:Bd K q d x z)(n:ByteArray)(c:ByteArray):(d.row (aN n d.dir) c).length≤K∧∀v∈d.row (aN n d.dir) c,aT v.jc.lf1≤1048576:=by
 cases hn:aN n d.dir with
 |none=>exact⟨Nat.zero_le _,fun v hv=>by cases hv⟩
 |some j=>
  show((aN c (d.inner j)).getD []).length≤K∧∀v∈(aN c (d.inner j)).getD [],_
  cases hr:aN c (d.inner j) with
  |none=>exact⟨Nat.zero_le _,fun v hv=>by cases hv⟩
  |some r=>exact⟨h.row n j c r hn hr,h.doc n j c r hn hr⟩
noncomputable def eqB(a b:ak):Bool:=(adv a b).getD false
theorem Yj{a b:ak}(ha:aT a.lf1≤100000000)(hb:aT b.lf1≤100000000):adv a b=some (eqB a b):=by
 obtain⟨r,h,_⟩:=tJ a b ha hb
 unfold eqB;rw[h];rfl
def nX(v:ak):ByteArray×Bool:=bif v.aH==0 then(⟨#[]⟩,false) else bif F7 v then(strOfNums (kb v),true) else(⟨#[]⟩,false)
theorem aaD(A:ak)(ha:aT A.lf1≤50000000)(hk:(A.aH==0)=false):Q46 [A] [false]=some (bif F7 A then(strOfNums (kb A),0) else(⟨#[]⟩,8)):=by
 have hal:Q99 A=some (F7 A):=by
  unfold Q99 aiQ
  simp only[Mo.den,aK,aF,aG,aJ,aI,hk,cond_false,Lr A (show aT A.lf1≤100000000 by omega),Option.bind_some]
 have k1:=kb_le' A
 have q1:Q6 A []=some (kb A):=by
  have:=afs (aT A.lf1+1) FU A (Nat.lt_succ_self _) (by have:=fK;omega) (by omega) [] (by simp only[List.length_nil];omega)
  rw[List.nil_append] at this;exact this
 have h0:(mX [false] [A] (((0:Nat):Int),[])).den=some (bif F7 A then .inl (((1:Nat):Int),kb A) else .inr (.inl ())):=by
  unfold mX
  simp only[QC,Mo.den,aK,aF,aG,aJ,aI,ltt (l:=[A]) (k:=0) rfl,gid (l:=[A]) (k:=0) rfl,cond_true,Option.bind_some,hal]
  cases hv:F7 A with
  |false=>rfl
  |true=>
   have hd:gX [false] ((0:Nat):Int)=some false:=rfl
   simp only[Bool.not_true,cond_false,q1,Option.bind_some,hd]
   rw[inc 0 (by omega)];rfl
 have h1:(mX [false] [A] (((1:Nat):Int),kb A)).den=some (.inr (.inr (kb A))):=by
  unfold mX
  simp only[Mo.den,aK,aF,aG,aJ,aI]
  rfl
 obtain⟨G,hG⟩:∃G,FU=G+2:=⟨FU-2,by have:=fK;omega⟩
 have hl:NH [false] [A] 0 []=some (bif F7 A then .inr (kb A) else .inl ()):=by
  unfold NH
  rw[hG]
  show((mX [false] [A] (((0:Nat):Int),[])).den).bind _=_
  rw[h0,Option.bind_some]
  cases hv:F7 A with
  |false=>rfl
  |true=>
   show dh _ (G+1) (((1:Nat):Int),kb A)=_
   rw[dh,h1];rfl
 unfold Q46 aiS
 simp only[Mo.den,aK,aF,aG,aJ,aI,hl,Option.bind_some]
 cases hv:F7 A<;>rfl
theorem Gp(v:ak)(h:aT v.lf1≤50000000):ahC v=some (nX v):=by
 unfold ahC adH nX
 simp only[Mo.den,aK,aF,aG,aJ,aI]
 cases hk:v.aH==0 with
 |true=>rfl
 |false=>
  simp only[cond_false,aaD v h hk,Option.bind_some]
  cases F7 v<;>rfl
def atV(t:Int)(r:List aP):ak:=match r.reverse.find? fun v=>decide (v.dF≤t) with
 |some v=>v.jc
 |none=>AZ
theorem afu{α:Type}(p:α→Bool)(l:List α)(k:Nat)(hk:k<l.length):(l.take (k+1)).reverse.find? p=if p l[k] then some l[k] else(l.take k).reverse.find? p:=by
 rw[List.take_succ_eq_append_getElem hk,List.reverse_append,List.reverse_singleton,List.singleton_append,List.find?_cons]
 cases p l[k]<;>rfl
theorem Yk(t:Int)(r:List aP)(h:r.length≤100000000):Q77 t r=some (atV t r):=by
 have key:∀(n:Nat),n≤r.length→∀F,n<F→dh (fun v_=>(uX r t v_).den) F ((n:Int)-1)=some (match (r.take n).reverse.find? fun v=>decide (v.dF≤t) with
  |some v=>.inl (v.jc.aH,v.jc.dR,v.jc.fText,v.jc.bC,v.jc.bG)
  |none=>.inr ()):=by
  intro n
  induction n with
  |zero=>
   intro _ F hF
   obtain⟨F,rfl⟩:∃K,F=K+1:=⟨F-1,by omega⟩
   rw[dh]
   unfold uX
   simp only[Mo.den,aK,aF,aG,aJ,aI]
   rfl
  |succ n ih=>
   intro hn F hF
   obtain⟨F,rfl⟩:∃K,F=K+1:=⟨F-1,by omega⟩
   have hx:r[n]?=some r[n]:=List.getElem?_eq_getElem (by omega)
   rw[dh,show((n+1:Nat):Int)-1=(n:Int) by omega]
   unfold uX
   simp only[Mo.den,aK,aF,aG,aJ,aI,decide_eq_true (show(0:Int)≤(n:Int) by omega),cond_true,gid hx,Option.bind_some]
   rw[afu _ r n (by omega)]
   cases hd:decide (r[n].dF≤t) with
   |true=>rfl
   |false=>
    simp only[cond_false,Option.bind_some]
    rw[w64 (by omega) (by omega)]
    have:=ih (by omega) F (by omega)
    unfold uX at this
    simp only[Mo.den,aK,aF,aG,aJ,aI] at this
    rw[if_neg (by simp)]
    exact this
 have h1:=key r.length (Nat.le_refl _) FU (by have:=fK;omega)
 rw[List.take_length] at h1
 unfold Q77 ajc
 simp only[Mo.den,aK,aF,aG,aJ,aI]
 rw[w64 (by omega) (by omega),h1]
 unfold atV
 cases r.reverse.find? fun v=>decide (v.dF≤t) with
 |none=>rfl
 |some v=>
  show some (ak.mk v.jc.aH v.jc.dR v.jc.fText v.jc.bC v.jc.bG)=some v.jc
  obtain⟨st,doc⟩:=v
  cases doc;rfl
theorem A8{t:Int}{r:List aP}(h:∀v∈r,aT v.jc.lf1≤1048576):aT (atV t r).lf1≤1048576:=by
 unfold atV
 cases hf:r.reverse.find? fun v=>decide (v.dF≤t) with
 |none=>show aT AZ.lf1≤_;rw[bZ];decide
 |some v=>exact h v (by simpa using List.mem_of_find?_eq_some hf)
theorem afv{α β:Type}(l:List α)(hl:l.length≤100000000)(p:α→Bool)(f:α→β)(T0:Int→Option (Int⊕(β⊕Unit)))(h1:∀(k:Nat) x,l[k]?=some x→T0 (k:Int)=some (bif p x then .inr (.inl (f x)) else .inl (IntKind.wrap .i64 ((k:Int)+1))))(h2:T0 (l.length:Int)=some (.inr (.inr ()))):
 dh T0 FU 0=some (match l.find? p with|some x=>.inl (f x)|none=>.inr ()):=by
 have:Tot (dh T0 FU 0) (fun r=>r=match l.find? p with|some x=>.inl (f x)|none=>.inr ()):=by
  refine T.lV l.length (by omega) (fun k s=>s=(k:Int)∧l.find? p=(l.drop k).find? p) _ ⟨rfl,by simp⟩ ?_ ?_
  ·rintro k s hk ⟨rfl,he⟩
   have hx:=List.getElem?_eq_getElem hk
   rw[List.drop_eq_getElem_cons hk,List.find?_cons] at he
   rw[h1 k _ hx]
   cases hp:p l[k] with
   |true=>
    rw[hp] at he
    exact T.ret (show _=_ by rw[he])
   |false=>
    rw[hp] at he
    exact T.ret ⟨inc k (by omega),he⟩
  rintro s ⟨rfl,he⟩
  rw[h2]
  rw[List.drop_length] at he
  exact T.ret (show _=_ by rw[he];rfl)
 obtain⟨r,h,rfl⟩:=this
 exact h
theorem afw{α:Type}(l:List α)(hl:l.length≤100000000)(p:α→Bool)(T0:Int→Option (Int⊕(Unit⊕Unit)))(h1:∀(k:Nat) x,l[k]?=some x→T0 (k:Int)=some (bif p x then .inr (.inl ()) else .inl (IntKind.wrap .i64 ((k:Int)+1))))(h2:T0 (l.length:Int)=some (.inr (.inr ()))):
 dh T0 FU 0=some (bif l.any p then .inl () else .inr ()):=by
 rw[afv l hl p (fun _=>()) T0 h1 h2]
 cases hf:l.find? p with
 |none=>
  have:l.any p=false:=by
   rw[List.any_eq_false]
   exact fun x hx=>by have:=List.find?_eq_none.1 hf x hx;simpa using this
  rw[this];rfl
 |some x=>
  have:l.any p=true:=List.any_eq_true.2 ⟨x,List.mem_of_find?_eq_some hf,List.find?_some hf⟩
  rw[this];rfl
noncomputable def wrB(sp:ByteArray)(key:ak)(w:ay):Bool:=bif decide (w.aY=sp) then eqB w.eF key else false
def Ba(x:TxL)(s:ByteArray):ah:=(aN s x).getD ah.z
noncomputable def holdV(sp:ByteArray)(key:ak)(x:TxL):ByteArray:=match (nT (x.map fun p=>p.1)).find? (fun s=>(Ba x s).bK.any (wrB sp key)) with
 |some s=>s
 |none=>⟨#[]⟩
theorem aaE{K:Nat}{q:List aj}{d:bg}{x:TxL}{z:SeL}(h:Bd K q d x z)(s:ByteArray):bM ((Ba x s).bK.map ay.lf)≤1048576:=by
 unfold Ba
 cases hs:aN s x with
 |none=>exact Nat.zero_le _
 |some p=>exact h.txw s p hs
theorem tu(a:Int)(q:List aj)(d:bg)(x:TxL)(z:SeL)(h:x.length≤100000000):Q78 a q d x z=some (nT (x.map fun p=>p.1)):=by
 show Mo.den (adq a q d x z)=_
 have e:agP x=some (nT (x.map fun p=>p.1)):=by unfold agP;rw[if_pos ⟨by unfold maxLen;omega,by omega⟩]
 have e2:Q95 x=some ():=rfl
 simp only[adq,Mo.den,aK,aF,aG,aJ,aI,e,e2,Option.bind_some]
theorem yR{K:Nat}(hK:K≤50000000){a:Int}{q:List aj}{d:bg}{x:TxL}{z:SeL}(h:Bd K q d x z)(sp:ByteArray){key:ak}(hk:aT key.lf1≤50000000):Q16 sp key a q d x z=some (holdV sp key x):=by
 have htx:=h.tx
 have h5:∀(l:List ByteArray) (v:Int) (s:ByteArray),adw a q key d x z sp l v s 0=some (bif (Ba x s).bK.any (wrB sp key) then .inl () else .inr ()):=fun l v s=>by
  have hb:=aaE h s
  have hl:=kN (Ba x s).bK
  refine afw _ (by omega) _ _ (fun k w hx=>?_) ?_
  ·have hm:=qU (fU hx)
   have hw:=eu w
   have he:=Yj (a:=w.eF) (b:=key) (by omega) (by omega)
   have hx':((aN s x).getD ah.z).bK[k]?=some w:=hx
   simp only[uQ,Qy,Mo.den,aK,aF,aG,aJ,aI,ltt hx',gid hx',cond_true,Option.bind_some,he]
   unfold wrB
   cases decide (w.aY=sp) with
   |false=>rfl
   |true=>cases eqB w.eF key<;>rfl
  show(uQ a q key d x z sp l v s ((((aN s x).getD ah.z).bK.length:Nat):Int)).den=_
  simp only[uQ,Mo.den,aK,aF,aG,aJ,aI,ltn,cond_false]
 have h11:∀l:List ByteArray,l.length≤100000000→XG a q key d x z sp l 0=some (match l.find? (fun s=>(Ba x s).bK.any (wrB sp key)) with|some s=>.inl s|none=>.inr ()):=fun l hl=>by
  have e:=afv l hl (fun s=>(Ba x s).bK.any (wrB sp key)) (fun s=>s) (fun v_=>(oI a q key d x z sp l v_).den) (fun k s hx=>by
   simp only[oI,Mo.den,aK,aF,aG,aJ,aI,ltt hx,gid hx,cond_true,Option.bind_some,h5]
   cases (Ba x s).bK.any (wrB sp key)<;>rfl) (by simp only[oI,Mo.den,aK,aF,aG,aJ,aI,ltn,cond_false])
  show dh (fun v_=>(oI a q key d x z sp l v_).den) FU 0=_
  rw[e]
  cases l.find? (fun s=>(Ba x s).bK.any (wrB sp key))<;>rfl
 show Mo.den (adx sp key a q d x z)=_
 simp only[adx,Mo.den,aK,aF,aG,aJ,aI,tu a q d x z (by omega),Option.bind_some,h11 _ (show(nT (x.map fun p=>p.1)).length≤100000000 by rw[uN,List.length_map];omega)]
 unfold holdV
 cases (nT (x.map fun p=>p.1)).find? (fun s=>(Ba x s).bK.any (wrB sp key))<;>rfl
def afx(s:ByteArray)(t:Int)(p:ah):Bool:=p.bK.any fun w=>bif decide (p.dF≤t) then decide (w.aY=s) else false
theorem ain(s:ByteArray)(t:Int)(p:ah)(h:p.bK.length≤100000000):EL s t p=some (bif afx s t p then .inl () else .inr ()):=by
 have h5:abZ 0 0 [] (fun _=>false) s t (fun _=>undef) p 0=some (bif afx s t p then .inl () else .inr ()):=by
  refine afw p.bK h _ _ (fun k w hx=>?_) ?_
  ·simp only[DU,abY,Nb,Mo.den,aK,aF,aG,aJ,aI,ltt hx,gid hx,cond_true,Option.bind_some]
   cases decide (p.dF≤t) with
   |false=>rfl
   |true=>cases decide (w.aY=s)<;>rfl
  simp only[DU,Mo.den,aK,aF,aG,aJ,aI,ltn,cond_false]
 unfold EL Nh EK
 simp only[Mo.den,aK,aF,aG,aJ,aI,h5]
 cases afx s t p<;>rfl
def holdsB(s:ByteArray)(t:Int)(x:TxL):Bool:=x.any fun p=>afx s t p.2
theorem Cm{s:ByteArray}{t:Int}:∀{x:TxL},(∀p∈x,p.2.bK.length≤100000000)→yD s t x=some (holdsB s t x)
 |[],_=>rfl
 |p::r,h=>by
  unfold yD
  rw[ain s t p.2 (h p (List.mem_cons_self ..)),Cm fun p hp=>h p (List.mem_cons_of_mem _ hp)]
  unfold holdsB
  rw[List.any_cons]
  cases afx s t p.2<;>rfl
def Gq(d:bg)(sp:ByteArray):Bool:=(aN sp d.dir).isSome
def rwV(d:bg)(sp c:ByteArray):List aP:=d.row (aN sp d.dir) c
noncomputable def Hr(sp:ByteArray)(key:ak)(t:Int)(d:bg)(x:TxL):ak×Int:=
 bif !Gq d sp then(AZ,15) else bif (bif !decide (holdV sp key x=(⟨#[]⟩:ByteArray)) then decide ((Ba x (holdV sp key x)).dF≤t) else false) then(AZ,30) else
 bif !(nX key).2 then(AZ,0) else(atV t (rwV d sp (nX key).1),0)
theorem aio{K:Nat}(hK:K≤50000000){a:Int}{q:List aj}{d:bg}{x:TxL}{z:SeL}(h:Bd K q d x z)(sp:ByteArray){key:ak}(hk:aT key.lf1≤50000000)(t:Int):Q93 sp key t a q d x z=some (Hr sp key t d x):=by
 show Mo.den (aeP sp key t a q d x z)=_
 have hr:=h.Oo sp (nX key).1
 have hb:=A8 (t:=t) hr.2
 simp only[aeP,Sz,Mo.den,aK,aF,aG,aJ,aI,yR hK h sp hk,Gp key hk,Option.bind_some]
 unfold Hr Gq
 cases (aN sp d.dir).isSome with
 |false=>rfl
 |true=>
  simp only[Bool.not_true,cond_false]
  have e:∀b c:Bool,(bif b then some c else some false)=some (bif b then c else false):=fun b c=>by cases b<;>rfl
  rw[e]
  simp only[Option.bind_some]
  show(bif (bif !decide (holdV sp key x=(⟨#[]⟩:ByteArray)) then decide ((Ba x (holdV sp key x)).dF≤t) else false) then _ else _)=_
  cases (bif !decide (holdV sp key x=(⟨#[]⟩:ByteArray)) then decide ((Ba x (holdV sp key x)).dF≤t) else false) with
  |true=>rfl
  |false=>
   simp only[cond_false]
   cases (nX key).2 with
   |false=>rfl
   |true=>
    simp only[Bool.not_true,cond_false]
    rw[Yk t _ (by omega),Option.bind_some,gW _ (by omega)]
    rfl
def oq(t:Int)(d:bg)(sp:ByteArray)(l:List ByteArray):List ak:=l.filterMap fun c=>bif (atV t (rwV d sp c)).aH != 0 then some (atV t (rwV d sp c)) else none
def xZ(d:bg)(sp:ByteArray):List ByteArray:=match aN sp d.dir with
 |none=>[]
 |some j=>(d.inner j).map fun p=>p.1
def yc(sp:ByteArray)(t:Int)(d:bg)(x:TxL):List ak×Int:=bif !Gq d sp then([],15) else bif holdsB sp t x then([],30) else(oq t d sp (nT (xZ d sp)),0)
theorem afy{K:Nat}(hK:K≤50000000){a:Int}{q:List aj}{d:bg}{x:TxL}{z:SeL}(h:Bd K q d x z)(w:RWf d)(hx:jZ x)(sp:ByteArray)(t:Int):Q36 sp t a q d x z=some (yc sp t d x):=by
 have hh:Q2 sp t a q d x z=some (holdsB sp t x):=Cm fun p hp=>by
  have hs:aN p.1 x=some p.2:=Cj hx hp
  have:=h.txw p.1 p.2 hs
  have:=kN p.2.bK
  omega
 have hk:alb (aN sp d.dir) d=some ():=rfl
 have hs:agR (aN sp d.dir) d=some (nT (xZ d sp)):=by
  unfold xZ
  cases hj:aN sp d.dir with
  |none=>rfl
  |some j=>
   have hi:=h.inn sp j hj
   show(if _ then _ else _)=_
   rw[if_pos ⟨w.hnd sp j hj,by unfold maxLen;omega,by omega⟩]
 have hlen:(nT (xZ d sp)).length≤50000000:=by
  rw[uN]
  unfold xZ
  cases hj:aN sp d.dir with
  |none=>simp
  |some j=>
   have hi:=h.inn sp j hj
   show((d.inner j).map fun p=>p.1).length≤_
   rw[List.length_map];omega
 have hL:∀l:List ByteArray,l.length≤50000000→aeR a q d x z sp t l 0 []=some (oq t d sp l):=fun l hl=>by
  have:Tot (dh (fun v_=>(uY a q d x z sp t l v_).den) FU (0,[])) (fun r=>r=oq t d sp l):=by
   refine T.lV l.length (by omega) (fun k s=>s.1=(k:Int)∧s.2=oq t d sp (l.take k)) _ ⟨rfl,rfl⟩ ?_ ?_
   ·rintro k ⟨i,s⟩ hk ⟨h1,h2⟩
    obtain rfl:i=(k:Int):=h1
    obtain rfl:s=oq t d sp (l.take k):=h2
    have hx:=List.getElem?_eq_getElem hk
    have hr:=h.Oo sp l[k]
    have hb:=A8 (t:=t) hr.2
    have hln:(oq t d sp (l.take k)).length≤k:=by
     unfold oq
     refine Nat.le_trans (List.length_filterMap_le ..) ?_
     rw[List.length_take];omega
    unfold uY
    simp only[SA,Mo.den,aK,aF,aG,aJ,aI,ltt hx,gid hx,cond_true,Option.bind_some,Yk t (d.row (aN sp d.dir) l[k]) (by omega),gW _ (show aT (atV t (d.row (aN sp d.dir) l[k])).lf1≤100000000 by omega)]
    have hsucc:oq t d sp (l.take (k+1))=oq t d sp (l.take k)++(bif (atV t (rwV d sp l[k])).aH != 0 then [atV t (rwV d sp l[k])] else []):=by
     unfold oq
     rw[List.take_succ_eq_append_getElem hk,List.filterMap_append]
     congr 1
     cases hc:(atV t (rwV d sp l[k])).aH != 0<;>simp[hc]
    have hc0:(atV t (d.row (aN sp d.dir) l[k]))=atV t (rwV d sp l[k]):=rfl
    rw[hc0]
    cases hc:(atV t (rwV d sp l[k])).aH != 0 with
    |true=>
     rw[hc] at hsucc
     simp only[cond_true,List.length_cons,List.length_nil]
     rw[if_pos (by omega),Option.bind_some]
     exact T.ret ⟨inc k (by omega),hsucc.symm⟩
    |false=>
     rw[hc] at hsucc
     simp only[cond_false,Option.bind_some]
     exact T.ret ⟨inc k (by omega),by rw[hsucc];simp⟩
   rintro⟨i,s⟩ ⟨h1,h2⟩
   obtain rfl:i=(l.length:Int):=h1
   obtain rfl:s=oq t d sp (l.take l.length):=h2
   unfold uY
   simp only[Mo.den,aK,aF,aG,aJ,aI,ltn,cond_false]
   exact T.ret (show _=oq t d sp l by rw[List.take_length])
  obtain⟨r,h,rfl⟩:=this
  exact h
 show Mo.den (aeS sp t a q d x z)=_
 simp only[aeS,Mo.den,aK,aF,aG,aJ,aI,hh,hk,hs,Option.bind_some,hL _ hlen]
 unfold yc Gq
 cases (aN sp d.dir).isSome with
 |false=>rfl
 |true=>
  simp only[Bool.not_true,cond_false]
  cases holdsB sp t x<;>rfl
def Gt(sp:ByteArray)(key:ak)(d:bg):Int:=bif !(nX key).2 then 0 else match (rwV d sp (nX key).1).getLast? with
 |some v=>v.dF
 |none=>0
theorem Ub{K:Nat}(hK:K≤50000000){a:Int}{q:List aj}{d:bg}{x:TxL}{z:SeL}(h:Bd K q d x z)(sp:ByteArray){key:ak}(hk:aT key.lf1≤50000000):Q79 sp key a q d x z=some (Gt sp key d):=by
 have hr:=(h.Oo sp (nX key).1).1
 show Mo.den (adI sp key a q d x z)=_
 simp only[adI,QD,Mo.den,aK,aF,aG,aJ,aI,Gp key hk,Option.bind_some]
 unfold Gt rwV
 cases (nX key).2 with
 |false=>rfl
 |true=>
  simp only[Bool.not_true,cond_false,Option.bind_some]
  generalize hl:d.row (aN sp d.dir) (nX key).1=l at hr ⊢
  cases hlen:l.length with
  |zero=>
   obtain rfl:=List.eq_nil_of_length_eq_zero hlen
   rfl
  |succ n=>
   have e0:((((n+1:Nat):Int))==0)=false:=by simp;omega
   rw[e0]
   simp only[cond_false]
   have e1:IntKind.wrap .i64 (((n+1:Nat):Int)-1)=(n:Int):=by rw[w64 (by omega) (by omega)];omega
   obtain⟨y,hy⟩:∃y,l[n]?=some y:=⟨_,List.getElem?_eq_getElem (by omega)⟩
   rw[e1,gid hy,Option.bind_some,List.getLast?_eq_getElem?,hlen,Nat.add_sub_cancel,hy]
def ano{α:Type}(l:List α)(p:α→Bool):Int⊕Unit→Prop
 |.inl i=>∃(k:Nat) (x:α),i=(k:Int)∧l[k]?=some x∧p x=true∧∀(j:Nat) (y:α),j<k→l[j]?=some y→p y=false
 |.inr _=>∀x∈l,p x=false
theorem ajh{α:Type}(l:List α)(hl:l.length≤100000000)(p:α→Bool)(T0:Int→Option (Int⊕(Int⊕Unit)))(h1:∀(k:Nat) x,l[k]?=some x→T0 (k:Int)=some (bif p x then .inr (.inl (k:Int)) else .inl (IntKind.wrap .i64 ((k:Int)+1))))(h2:T0 (l.length:Int)=some (.inr (.inr ()))):Tot (dh T0 FU 0) (ano l p):=by
 refine T.lV l.length (by omega) (fun k s=>s=(k:Int)∧∀(j:Nat) (y:α),j<k→l[j]?=some y→p y=false) (ano l p) ⟨rfl,fun j y h=>by omega⟩ ?_ ?_
 ·rintro k s hk ⟨rfl,hj⟩
  have hx:=List.getElem?_eq_getElem hk
  rw[h1 k _ hx]
  cases hp:p l[k] with
  |true=>exact T.ret ⟨k,_,rfl,hx,hp,hj⟩
  |false=>
   refine T.ret ⟨inc k (by omega),fun j y hjk hy=>?_⟩
   rcases Nat.lt_succ_iff_lt_or_eq.1 hjk with h|rfl
   ·exact hj j y h hy
   rw[hx] at hy;injection hy with hy;rw[←hy];exact hp
 rintro s ⟨rfl,hj⟩
 rw[h2]
 refine T.ret fun x hx=>?_
 obtain⟨j,hjl,rfl⟩:=List.mem_iff_getElem.1 hx
 exact hj j _ hjl (List.getElem?_eq_getElem hjl)
inductive afz (l:List aj) (n:ByteArray):Int→Prop where
 |none:(∀s∈l,s.fName≠n)→afz l n (-1)
 |at_ (k:Nat) (s:aj):l[k]?=some s→s.fName=n→(∀j t,j<k→l[j]?=some t→t.fName≠n)→afz l n (k:Int)
theorem vM(l:List aj)(n:ByteArray)(h:l.length≤100000000):Tot (YS l n) (afz l n):=by
 obtain⟨r,h1,h2⟩:=ajh l h (fun s=>decide (s.fName=n)) (fun v_=>(uO n l v_).den) (fun k x hx=>by
  have e:amd x n=some (decide (x.fName=n)):=rfl
  simp only[uO,Mo.den,aK,aF,aG,aJ,aI,ltt hx,gid hx,cond_true,Option.bind_some,e]
  cases decide (x.fName=n)<;>rfl) (by simp only[uO,Mo.den,aK,aF,aG,aJ,aI,ltn,cond_false])
 have e:ab4 n l 0=some r:=h1
 show Tot (Mo.den (U5 l n)) _
 have e2:Q39 l n=some (match r with|.inl o=>o|.inr _=>-1):=by
  show Mo.den (ab5 l n)=_
  simp only[ab5,Mo.den,aK,aF,aG,aJ,aI,e]
  rcases r with r|r<;>rfl
 simp only[U5,Mo.den,aK,aF,aG,aJ,aI,e2,Option.bind_some]
 refine T.ret ?_
 rcases r with r|r
 ·obtain⟨k,s,rfl,q1,q2,q3⟩:=h2
  exact .at_ k s q1 (of_decide_eq_true q2) fun j t hj ht=>of_decide_eq_false (q3 j t hj ht)
 exact .none fun s hs=>of_decide_eq_false (h2 s hs)
theorem V7(l:List aj)(x:aj)(i:Nat)(hi:i≤l.length)(hl:l.length≤100000):abW (i:Int) l [x]=some (l.take i++[x]++l.drop i):=by
 unfold abW
 by_cases h:i<l.length
 ·rw[decide_eq_true (show 0≤(i:Int)∧(i:Int)<l.length by omega)]
  show(if _ then _ else _)=_
  rw[if_pos (by omega),Int.toNat_natCast]
 obtain rfl:i=l.length:=by omega
 rw[decide_eq_false (by omega)]
 show agU _ _ _=_
 unfold agU U4
 simp only[Mo.den,aK,aF,aG,aJ,aI,BEq.rfl,cond_true,cond_false,List.length_cons,List.length_nil]
 rw[if_pos (by omega),if_pos (by omega),List.take_length,List.drop_length,List.append_nil]
 rfl
theorem aaF(l:List aj)(d:aj)(h:l.length≤100000):Tot (adX d l 0) (fun r=>∃i:Nat,r=(i:Int)∧i≤l.length):=by
 have step:∀k:Nat,k<l.length→∃b:Bool,(uT d l (k:Int)).den=some (bif b then .inl (IntKind.wrap .i64 ((k:Int)+1)) else .inr (k:Int)):=fun k hk=>by
  have hx:=List.getElem?_eq_getElem hk
  simp only[uT,Fb,Mo.den,aK,aF,aG,aJ,aI,ltt hx,gid hx,cond_true,Option.bind_some]
  exact⟨Op.bytesLess l[k].fName.toList d.fName.toList,by cases Op.bytesLess l[k].fName.toList d.fName.toList<;>rfl⟩
 refine T.lV l.length (by omega) (fun k s=>s=(k:Int)) _ rfl (fun k s hk hs=>?_) (fun s hs=>?_)
 ·obtain rfl:s=(k:Int):=hs
  obtain⟨b,hb⟩:=step k hk
  rw[hb]
  cases b with
  |true=>exact T.ret (inc k (by omega))
  |false=>exact T.ret ⟨k,rfl,by omega⟩
 obtain rfl:s=(l.length:Int):=hs
 simp only[uT,Fb,Mo.den,aK,aF,aG,aJ,aI,ltn,cond_false,Option.bind_some]
 exact T.ret ⟨l.length,rfl,Nat.le_refl _⟩
theorem V8(l:List aj)(d:aj)(h:bM (l.map aj.lf)≤100000000)(hd:aT d.lf1≤100000000):Tot (Q58 l d) (fun r=>r.2≠0∨(r.2=0∧(∀s∈l,s.fName≠d.fName)∧∃i,i≤l.length∧r.1=l.take i++[d]++l.drop i)):=by
 have hl:=jP l
 obtain⟨e,he,_⟩:=pX d hd
 obtain⟨f,hf,hfr⟩:=vM l d.fName (by omega)
 show Tot (Mo.den (adY l d)) _
 simp only[adY,Mo.den,aK,aF,aG,aJ,aI,he,hf,Option.bind_some]
 refine T.ite (fun h1=>T.ret (.inl ?_)) (fun h1=>?_)
 ·simpa using h1
 refine T.ite (fun h2=>T.ret (.inl (by simp))) (fun h2=>?_)
 refine T.ite (fun h3=>T.ret (.inl (by simp))) (fun h3=>?_)
 have h2:=of_decide_eq_false h2
 have h3:=of_decide_eq_false h3
 obtain⟨i,hi,j,rfl,hj⟩:=aaF l d (by omega)
 rw[hi,Option.bind_some,jT l h,Option.bind_some,iY d hd,Option.bind_some,V7 l d j hj (by omega)]
 refine T.ret (.inr ⟨rfl,?_,j,hj,rfl⟩)
 cases hfr with
 |none q=>exact q
 |at_ k s q1 q2 q3=>omega
theorem aaG{l:List aj}(k:Nat):bM ((l.take k).map aj.lf)≤bM (l.map aj.lf)∧bM ((l.drop k).map aj.lf)≤bM (l.map aj.lf):=by
 have:=iy ((l.take k).map aj.lf) ((l.drop k).map aj.lf)
 rw[←List.map_append,List.take_append_drop] at this
 omega
theorem afA(l:List aj)(n:ByteArray)(h:bM (l.map aj.lf)≤100000000):Tot (akw l n) (fun r=>r.2≠0∨(r.2=0∧∃k s,l[k]?=some s∧s.fName=n∧r.1=l.take k++l.drop (k+1))):=by
 have hl:=jP l
 obtain⟨f,hf,hfr⟩:=vM l n (by omega)
 show Tot (Mo.den (VA l n)) _
 simp only[VA,Mo.den,aK,aF,aG,aJ,aI,hf,Option.bind_some]
 refine T.ite (fun h1=>T.ret (.inl (by simp))) (fun h1=>?_)
 have h1:=of_decide_eq_false h1
 cases hfr with
 |none q=>omega
 |at_ k s q1 q2 q3=>
  have hk:=qw q1
  rw[inc k (by omega),Int.toNat_natCast,Int.toNat_natCast]
  have hb:=aaG (l:=l)
  rw[if_pos (by omega), if_pos (by omega), jT _ (Nat.le_trans (hb k).1 h), Option.bind_some, jT _ (Nat.le_trans (hb (k+1)).2 h), Option.bind_some, if_pos (by
   rw[List.length_take,List.length_drop];omega)]
  exact T.ret (.inr ⟨rfl,k,s,q1,q2,rfl⟩)
theorem Oq(l:List aj)(n:ByteArray)(x:aS)(h:bM (l.map aj.lf)≤100000000)(hx:aT x.lf1≤100000000):Tot (ado l n x) (fun r=>r.2≠0∨(r.2=0∧∃k s,l[k]?=some s∧s.fName=n∧r.1=l.set k { s with bf:=s.bf++[x] })):=by
 have hl:=jP l
 obtain⟨f,hf,hfr⟩:=vM l n (by omega)
 obtain⟨e,he,_⟩:=ni x hx
 unfold ado
 rw[hf]
 cases hfr with
 |none q=>exact T.ret (.inl (by simp))
 |at_ k s q1 q2 q3=>
  have hb:=rC (fU q1)
  have hbs:=gG s
  have hbx:=iC x
  obtain⟨m,hm,_⟩:=pW s.bf x.fName (by omega) (by omega)
  simp only[decide_eq_false (show ¬(k:Int)<0 by omega),he,gid q1,hm]
  cases h0:e != 0 with
  |true=>exact T.ret (.inl (by simpa using h0))
  |false=>
   cases h1:decide (0≤m) with
   |true=>exact T.ret (.inl (by simp))
   |false=>
    cases h2:decide (16≤(s.bf.length:Int)) with
    |true=>exact T.ret (.inl (by simp))
    |false=>
     have h2:=of_decide_eq_false h2
     have g1:Nat.ble (l.length*368) 140737488355328=true:=Nat.ble_eq_true_of_le (by omega)
     have g2:Nat.ble ((s.bf.length+1)*456) 140737488355328=true:=Nat.ble_eq_true_of_le (by omega)
     simp only[g1,Gi l h,nP x hx,Int.toNat_natCast,q1,g2]
     exact T.ret (.inr ⟨rfl,k,s,q1,q2,rfl⟩)
theorem aaH(l:List aS)(n:ByteArray)(h:l.length≤100000000):Tot (Q96 l n) (fun r=>r<l.length):=by
 obtain⟨r,h1,h2⟩:=ajh l h (fun s=>decide (s.fName=n)) (fun v_=>(qK n l v_).den) (fun k x hx=>by
  have e:aki x n=some (decide (x.fName=n)):=rfl
  simp only[qK,Mo.den,aK,aF,aG,aJ,aI,ltt hx,gid hx,cond_true,Option.bind_some,e]
  cases decide (x.fName=n)<;>rfl) (by simp only[qK,Mo.den,aK,aF,aG,aJ,aI,ltn,cond_false])
 have e:ac5 n l 0=some r:=h1
 show Tot (Mo.den (Xx l n)) _
 have e2:Q31 l n=some (match r with|.inl o=>o|.inr _=>-1):=by
  show Mo.den (Xw l n)=_
  simp only[Xw,Mo.den,aK,aF,aG,aJ,aI,e]
  rcases r with r|r<;>rfl
 simp only[Xx,Mo.den,aK,aF,aG,aJ,aI,e2,Option.bind_some]
 refine T.ret ?_
 rcases r with r|r
 ·obtain⟨k,s,rfl,q1,q2,q3⟩:=h2
  have:=qw q1
  show(k:Int)<_
  omega
 show(-1:Int)<_
 omega
theorem Ht(l:List aj)(n ix:ByteArray)(h:bM (l.map aj.lf)≤100000000)(hx:ix.size≤100000000):Tot (adp l n ix) (fun r=>r.2≠0∨(r.2=0∧∃k s i,l[k]?=some s∧s.fName=n∧r.1=l.set k { s with bf:=s.bf.eraseIdx i })):=by
 have hl:=jP l
 obtain⟨f,hf,hfr⟩:=vM l n (by omega)
 unfold adp
 rw[hf]
 cases hfr with
 |none q=>exact T.ret (.inl (by simp))
 |at_ k s q1 q2 q3=>
  have hb:=rC (fU q1)
  have hbs:=gG s
  obtain⟨m,hm,hmr⟩:=aaH s.bf ix (by have:=kM s.bf;omega)
  simp only[decide_eq_false (show ¬(k:Int)<0 by omega),gid q1,hm]
  cases h1:decide (m<0) with
  |true=>exact T.ret (.inl (by simp))
  |false=>
   have h1:=of_decide_eq_false h1
   have g1:Nat.ble (l.length*368) 140737488355328=true:=Nat.ble_eq_true_of_le (by omega)
   have g2:Nat.ble (m.toNat+1) s.bf.length=true:=Nat.ble_eq_true_of_le (by omega)
   simp only[g1,Gi l h,Int.toNat_natCast,q1,g2]
   exact T.ret (.inr ⟨rfl,k,s,_,q1,q2,rfl⟩)
theorem Uc(l:List aj)(h:bM (l.map aj.lf)≤100000000)(hn:(l.map aj.fName).Nodup){s:aj}(hs:s∈l):aic l s.fName=some (s,true):=by
 have hl:=jP l
 obtain⟨f,hf,hfr⟩:=vM l s.fName (by omega)
 show Mo.den (VN l s.fName)=_
 simp only[VN,Mo.den,aK,aF,aG,aJ,aI,hf,Option.bind_some]
 cases hfr with
 |none q=>exact absurd rfl (q s hs)
 |at_ k t q1 q2 q3=>
  have hts:t=s:=by
   obtain⟨j,hj,rfl⟩:=List.mem_iff_getElem.1 hs
   have hk:=qw q1
   have e1:(l.map aj.fName)[k]?=(l.map aj.fName)[j]?:=by
    rw[List.getElem?_map,List.getElem?_map,q1,List.getElem?_eq_getElem hj]
    simp[q2]
   have:=(List.getElem?_inj (by simpa using hk) hn).1 e1
   subst this
   rw[List.getElem?_eq_getElem hj] at q1
   injection q1 with q1
   exact q1.symm
  subst hts
  have hb:=rC hs
  rw[decide_eq_false (show ¬(k:Int)<0 by omega)]
  simp only[cond_false,gid q1,Option.bind_some,iY t (by omega)]
theorem Gu{a:Int}{q:List aj}{d:bg}{x:TxL}{z:SeL}(h:bM (q.map aj.lf)≤100000000)(hn:(q.map aj.fName).Nodup):Q45 a q d x z=some q:=by
 have hl:=jP q
 have h1:aeU a q d x z 0 []=some q:=nV q (fun s=>(aic q s.fName).bind fun r=>some r.1) 368 (by omega) (by omega) (fun s hs=>by rw[Uc q h hn hs];rfl) _ (fun k s=>by simp only[FX,Mo.den,aK,aF,aG,aJ,aI,Option.bind_assoc,Option.bind_some])
 show Mo.den (aeV a q d x z)=some q
 simp only[aeV,Mo.den,aK,aF,aG,aJ,aI,h1,Option.bind_some]
end Go.Proofs.YtpdlghcgekojlaaGreatDoor
namespace Go.Proofs.YtpdlghcgekojlaaGreatDoor
open Go.RowKit
section
variable {α:Type}
theorem CB(d:RM α)(j:Nat)(s:ByteArray)(r:List α)(i:Nat):(d.put j s r).inner i=if i=j∧j<d.maps.length then eH s r (d.inner j) else d.inner i:=wX ..
theorem Ot{d:RM α}{j:Nat}{s:ByteArray}{r:List α}{i:Nat}{c:ByteArray}{y:List α}(h:aN c ((d.put j s r).inner i)=some y):y=r∨aN c (d.inner i)=some y:=by
 rw[CB] at h
 split at h
 ·rename_i hi
  by_cases hs:s=c
  ·subst hs;rw[jF] at h;injection h with h;exact .inl h.symm
  rw[kV hs] at h;rw[hi.1];exact .inr h
 exact .inr h
end
structure Sv (K:Nat) (q:List aj) (d:bg) (x:TxL) (z:SeL):Prop where
 bd:Bd K q d x z
 wf:RWf d
 asc:jZ x
 nod:(q.map aj.fName).Nodup
 nam:∀n,n∈q.map aj.fName↔(aN n d.dir).isSome=true
 ne:∀n j s r,aN n d.dir=some j→aN s (d.inner j)=some r→r≠[]
theorem Bd.ext{K:Nat}{q:List aj}{d d':bg}{x:TxL}{z:SeL}(h:Bd K q d x z)(w:RWf d)(e:gY d d'):Bd K q d' x z where
 q:=h.q
 dir:=by rw[e.dir];exact h.dir
 inn:=fun n j hn=>by rw[e.dir] at hn;rw[e.inner (w.hnd n j hn)];exact h.inn n j hn
 row:=fun n j s r hn hr=>by rw[e.dir] at hn;rw[e.inner (w.hnd n j hn)] at hr;exact h.row n j s r hn hr
 doc:=fun n j s r hn hr=>by rw[e.dir] at hn;rw[e.inner (w.hnd n j hn)] at hr;exact h.doc n j s r hn hr
 tx:=h.tx
 txw:=h.txw
 ses:=h.ses
theorem Sv.ext{K:Nat}{q:List aj}{d d':bg}{x:TxL}{z:SeL}(h:Sv K q d x z)(e:gY d d'):Sv K q d' x z where
 bd:=h.bd.ext h.wf e
 wf:=e.wf h.wf
 asc:=h.asc
 nod:=h.nod
 nam:=fun n=>by rw[e.dir];exact h.nam n
 ne:=fun n j s r hn hr=>by rw[e.dir] at hn;rw[e.inner (h.wf.hnd n j hn)] at hr;exact h.ne n j s r hn hr
theorem Sv.le{K K':Nat}{q:List aj}{d:bg}{x:TxL}{z:SeL}(h:Sv K q d x z)(k:K≤K'):Sv K' q d x z:={ h with bd:=h.bd.le k }
theorem gY.trans{α:Type}{d e f:RM α}(h:gY d e)(k:gY e f):gY d f:=⟨k.dir.trans h.dir,h.maps.trans k.maps⟩
theorem Sv.put{K B:Nat}{q:List aj}{d:bg}{x:TxL}{z:SeL}(h:Sv K q d x z)(hB:1≤B){n:ByteArray}{j:Nat}(hn:aN n d.dir=some j)(s:ByteArray)(v:aP)(hv:aT v.jc.lf1≤1048576):Sv (K+B) q (d.put j s (d.row (aN n d.dir) s++[v])) x z where
 bd:={
  q:=Nat.le_trans h.bd.q (Nat.le_add_right ..)
  dir:=Nat.le_trans h.bd.dir (Nat.le_add_right ..)
  inn:=fun m i hm=>by
   rw[CB]
   split
   ·have:=rE s (d.row (aN n d.dir) s++[v]) (d.inner j)
    have:=h.bd.inn n j hn
    omega
   exact Nat.le_trans (h.bd.inn m i hm) (Nat.le_add_right ..)
  row:=fun m i c r hm hr=>by
   rcases Ot hr with rfl|hr
   ·have:=(h.bd.Oo n s).1
    rw[List.length_append]
    show _+1≤_
    omega
   exact Nat.le_trans (h.bd.row m i c r hm hr) (Nat.le_add_right ..)
  doc:=fun m i c r hm hr=>by
   rcases Ot hr with rfl|hr
   ·intro u hu
    rcases List.mem_append.1 hu with hu|hu
    ·exact(h.bd.Oo n s).2 u hu
    rw[List.mem_singleton.1 hu];exact hv
   exact h.bd.doc m i c r hm hr
  tx:=Nat.le_trans h.bd.tx (Nat.le_add_right ..)
  txw:=h.bd.txw
  ses:=Nat.le_trans h.bd.ses (Nat.le_add_right ..) }
 wf:=h.wf.put j s _
 asc:=h.asc
 nod:=h.nod
 nam:=h.nam
 ne:=fun m i c r hm hr=>by
  rcases Ot hr with rfl|hr
  ·simp
  exact h.ne m i c r hm hr
theorem Sv.mkS{K B:Nat}{q q':List aj}{d:bg}{x:TxL}{z:SeL}(h:Sv K q d x z)(hB:1≤B)(n:ByteArray)(hq:bM (q'.map aj.lf)≤K+B)(hp:(q'.map aj.fName).Perm (n::q.map aj.fName))(hn:n ∉ q.map aj.fName):Sv (K+B) q' (d.make n) x z where
 bd:={
  q:=hq
  dir:=by
   have:=rE n d.maps.length d.dir
   have:=h.bd.dir
   show(eH n d.maps.length d.dir).length≤_
   omega
  inn:=fun m i hm=>by
   rw[o9]
   rw[nR] at hm
   split at hm
   ·injection hm with hm;subst hm;rw[rF (Nat.le_refl _)];exact Nat.zero_le _
   exact Nat.le_trans (h.bd.inn m i hm) (Nat.le_add_right ..)
  row:=fun m i c r hm hr=>by
   rw[o9] at hr
   rw[nR] at hm
   split at hm
   ·injection hm with hm;subst hm;rw[rF (Nat.le_refl _)] at hr;cases hr
   exact Nat.le_trans (h.bd.row m i c r hm hr) (Nat.le_add_right ..)
  doc:=fun m i c r hm hr=>by
   rw[o9] at hr
   rw[nR] at hm
   split at hm
   ·injection hm with hm;subst hm;rw[rF (Nat.le_refl _)] at hr;cases hr
   exact h.bd.doc m i c r hm hr
  tx:=Nat.le_trans h.bd.tx (Nat.le_add_right ..)
  txw:=h.bd.txw
  ses:=Nat.le_trans h.bd.ses (Nat.le_add_right ..) }
 wf:=h.wf.make n
 asc:=h.asc
 nod:=hp.nodup_iff.2 (List.nodup_cons.2 ⟨hn,h.nod⟩)
 nam:=fun m=>by
  rw[hp.mem_iff,nR,List.mem_cons,h.nam m]
  by_cases e:n=m
  ·subst e;simp
  rw[if_neg e];exact⟨fun k=>k.resolve_left fun k=>e k.symm,.inr⟩
 ne:=fun m i c r hm hr=>by
  rw[o9] at hr
  rw[nR] at hm
  split at hm
  ·injection hm with hm;subst hm;rw[rF (Nat.le_refl _)] at hr;cases hr
  exact h.ne m i c r hm hr
theorem Sv.unl{K:Nat}{q q':List aj}{d:bg}{x:TxL}{z:SeL}(h:Sv K q d x z)(n:ByteArray)(hq:bM (q'.map aj.lf)≤K)(hp:(q.map aj.fName).Perm (n::q'.map aj.fName)):Sv K q' (d.unlink n) x z where
 bd:={
  q:=hq
  dir:=Nat.le_trans (wW n d.dir) h.bd.dir
  inn:=fun m i hm=>by
   rw[kQ] at hm
   split at hm
   ·cases hm
   exact h.bd.inn m i hm
  row:=fun m i c r hm hr=>by
   rw[kQ] at hm
   split at hm
   ·cases hm
   exact h.bd.row m i c r hm hr
  doc:=fun m i c r hm hr=>by
   rw[kQ] at hm
   split at hm
   ·cases hm
   exact h.bd.doc m i c r hm hr
  tx:=h.bd.tx
  txw:=h.bd.txw
  ses:=h.bd.ses }
 wf:=h.wf.unlink n
 asc:=h.asc
 nod:=(List.nodup_cons.1 (hp.nodup_iff.1 h.nod)).2
 nam:=fun m=>by
  have hn:=(List.nodup_cons.1 (hp.nodup_iff.1 h.nod)).1
  have hm:=h.nam m
  rw[hp.mem_iff,List.mem_cons] at hm
  rw[kQ]
  by_cases e:n=m
  ·subst e;rw[if_pos rfl];exact⟨fun k=>absurd k hn,fun k=>by cases k⟩
  rw[if_neg e,←hm];exact⟨.inr,fun k=>k.resolve_left fun k=>e k.symm⟩
 ne:=fun m i c r hm hr=>by
  rw[kQ] at hm
  split at hm
  ·cases hm
  exact h.ne m i c r hm hr
theorem Sv.cat{K:Nat}{q q':List aj}{d:bg}{x:TxL}{z:SeL}(h:Sv K q d x z)(hq:bM (q'.map aj.lf)≤K)(hp:q'.map aj.fName=q.map aj.fName):Sv K q' d x z:=
 { h with bd:={ h.bd with q:=hq },nod:=by rw[hp];exact h.nod,nam:=fun m=>by rw[hp];exact h.nam m }
theorem Ud{K:Nat}(hK:K≤50000000){a:Int}{q:List aj}{d:bg}{x:TxL}{z:SeL}(h:Bd K q d x z)(w:ay)(hw:aT w.lf1≤1048576)(t:Int):Tot (Q92 w t a q d x z) (fun e=>e=0→Gq d w.aY=true∧holdV w.aY w.eF x=(⟨#[]⟩:ByteArray)∧Gt w.aY w.eF d<t):=by
 have hb:=eu w
 show Tot (Mo.den (adJ w t a q d x z)) _
 simp only[adJ,Mo.den,aK,aF,aG,aJ,aI,yR hK h w.aY (key:=w.eF) (by omega),Ub hK h w.aY (key:=w.eF) (by omega),Option.bind_some]
 refine T.ite (fun h1=>T.ret fun k=>by cases k) (fun h1=>?_)
 refine T.ite (fun h2=>T.ret fun k=>by cases k) (fun h2=>?_)
 refine T.ite (fun h3=>T.ret fun k=>by cases k) (fun h3=>T.ret fun _=>⟨?_,?_,?_⟩)
 ·simpa[Gq] using h1
 ·simpa using h2
 have:=of_decide_eq_false h3;omega
noncomputable def Gv(w:ay)(t:Int):aP:=⟨t,bif w.aH==2 then w.bG else AZ⟩
theorem Gw{w:ay}(hw:aT w.lf1≤1048576)(t:Int):aT (Gv w t).jc.lf1≤1048576:=by
 have hb:=eu w
 show aT (bif w.aH==2 then w.bG else AZ).lf1≤_
 cases w.aH==2
 ·show aT AZ.lf1≤_;rw[bZ];decide
 show aT w.bG.lf1≤_;omega
noncomputable def CG(w:ay)(t:Int)(d:bg):Unit⊕(bg×ByteArray):=match aN w.aY d.dir with
 |none=>.inl ()
 |some j=>bif (nX w.eF).2 then .inr (d.put j (nX w.eF).1 (d.row (aN w.aY d.dir) (nX w.eF).1++[Gv w t]),(nX w.eF).1) else .inl ()
theorem Yl{K:Nat}(hK:K≤50000000){a:Int}{q:List aj}{d:bg}{x:TxL}{z:SeL}(h:Bd K q d x z)(w:ay)(hw:aT w.lf1≤1048576)(t:Int):Q40 w t a q d x z=some (CG w t d):=by
 have hb:=eu w
 have hr:=(h.Oo w.aY (nX w.eF).1).1
 have e5:Vy a q d x z t w (nX w.eF)=some (Gv w t):=by
  unfold Vy QF Gv
  simp only[Mo.den,aK,aF,aG,aJ,aI,gW w.bG (by omega),Option.bind_some]
  cases w.aH==2<;>rfl
 show Mo.den (adN w t a q d x z)=_
 simp only[adN,QE,Mo.den,aK,aF,aG,aJ,aI,Gp w.eF (by omega),Option.bind_some,e5]
 unfold CG
 cases hj:aN w.aY d.dir with
 |none=>rfl
 |some j=>
  rw[hj] at hr
  have hi:=h.inn w.aY j hj
  simp only[Option.isSome_some,Bool.not_true,cond_false,Option.bind_some]
  cases hc:(nX w.eF).2 with
  |false=>rfl
  |true=>
   simp only[Bool.not_true,cond_false,cond_true,Option.bind_some,List.length_cons,List.length_nil]
   rw[if_pos (by omega),if_pos (by unfold maxLen;omega)]
def Undo(a:Int)(x:TxL)(z:SeL)(u:Und)(q:List aj)(d:bg)(q1:List aj)(d1:bg):Prop:=∀d',gY d1 d'→∃d'',QW a x z u q1 d'=some (q,d'')∧gY d d''
theorem afB{K:Nat}(hK:K≤50000000){a:Int}{q:List aj}{d:bg}{x:TxL}{z:SeL}(h:Sv K q d x z){n:ByteArray}{j:Nat}(hn:aN n d.dir=some j)(s:ByteArray)(v:aP):Undo a x z (.doc (aN n d.dir) s) q d q (d.put j s (d.row (aN n d.dir) s++[v])):=by
 intro d' he
 have hj:=h.wf.hnd n j hn
 have hl:(d.put j s (d.row (aN n d.dir) s++[v])).maps.length=d.maps.length:=by show(d.maps.set j _).length=_;rw[List.length_set]
 have hin:d'.inner j=eH s (d.row (aN n d.dir) s++[v]) (d.inner j):=by
  rw[he.inner (by rw[hl];exact hj),CB,if_pos ⟨rfl,hj⟩]
 have hrow:d'.row (some j) s=d.row (some j) s++[v]:=by
  show(aN s (d'.inner j)).getD []=_
  rw[hin,jF,hn];rfl
 have hbr:=(h.bd.Oo n s).1
 have hbi:=h.bd.inn n j hn
 have hpl:=rE s (d.row (aN n d.dir) s++[v]) (d.inner j)
 rw[hn] at hbr he hin hpl ⊢
 show ∃d'',(Q73 (some j) s d').map (fun d'=>(q,d'))=_∧_
 have e:∀b,Q73 (some j) s d'=some b→∃d'',(Q73 (some j) s d').map (fun d'=>(q,d'))=some (q,d'')∧d''=b:=fun b hb=>⟨b,by rw[hb];rfl,rfl⟩
 cases hg:aN s (d.inner j) with
 |none=>
  have h0:d.row (some j) s=[]:=by show(aN s (d.inner j)).getD []=_;rw[hg];rfl
  rw[h0] at hrow he
  obtain⟨d'',k1,k2⟩:=e (d'.del j s) (by
   show Mo.den (QO (some j) s d')=_
   simp only[QO,Mo.den,aK,aF,aG,aJ,aI,hrow]
   rfl)
  exact⟨d'',k1,by rw[k2];exact he.anm hj hg⟩
 |some r=>
  have h0:d.row (some j) s=r:=by show(aN s (d.inner j)).getD []=_;rw[hg];rfl
  have hne:=h.ne n j s r hn hg
  rw[h0] at hrow he hbr hin hpl
  have hr1:1≤r.length:=by
   cases r with
   |nil=>exact absurd rfl hne
   |cons _ _=>simp
  obtain⟨d'',k1,k2⟩:=e (d'.put j s r) (by
   show Mo.den (QO (some j) s d')=_
   have el:((r++[v]).length:Int)=(r.length:Int)+1:=by rw[List.length_append];rfl
   have e1:IntKind.wrap .i64 (((r++[v]).length:Int)-1)=(r.length:Int):=by
    rw[el,w64 (by omega) (by omega)]
    omega
   have e2:(((r++[v]).length:Int)==1)=false:=by
    rw[List.length_append];simp;omega
   simp only[QO,Mo.den,aK,aF,aG,aJ,aI,hrow,e1,e2,cond_false,Option.bind_some,Int.toNat_natCast]
   rw[if_pos (by omega),if_pos (by rw[hin];unfold maxLen;omega)]
   simp only[List.take_left',List.take_left])
  exact⟨d'',k1,by rw[k2];exact he.anl (h.wf.inn n j hn) hj hg⟩
theorem V9{q:List aj}{k:Nat}{s:aj}(h:q[k]?=some s):(q.map aj.fName).Perm (s.fName::(q.take k++q.drop (k+1)).map aj.fName):=by
 have hk:=qw h
 have e:q=q.take k++s::q.drop (k+1):=by
  rw[List.getElem?_eq_getElem hk] at h
  injection h with h
  rw[←h,←List.drop_eq_getElem_cons hk,List.take_append_drop]
 have:=(List.perm_middle (a:=s) (l₁:=q.take k) (l₂:=q.drop (k+1))).map aj.fName
 rw[←e] at this
 exact this
theorem LG{q:List aj}{k:Nat}{s s':aj}(h:q[k]?=some s)(hn:s'.fName=s.fName):(q.set k s').map aj.fName=q.map aj.fName:=by
 rw[List.map_set,hn]
 refine List.ext_getElem? fun i=>?_
 rw[List.getElem?_set]
 split
 ·rename_i e;subst e
  rw[List.length_map,if_pos (qw h),List.getElem?_map,h];rfl
 rfl
theorem Ue{q:List aj}{k:Nat}{s:aj}(s':aj)(h:q[k]?=some s):bM ((q.set k s').map aj.lf)+aT s.lf1=bM (q.map aj.lf)+aT s'.lf1:=by
 have hk:=qw h
 have e1:q=q.take k++[s]++q.drop (k+1):=by
  rw[List.getElem?_eq_getElem hk] at h
  injection h with h
  rw[←h,List.append_assoc,List.singleton_append,←List.drop_eq_getElem_cons hk,List.take_append_drop]
 have e2:q.set k s'=q.take k++[s']++q.drop (k+1):=by
  rw[List.set_eq_take_append_cons_drop,if_pos hk,List.append_assoc,List.singleton_append]
 have h1:∀y:aj,bM ((q.take k++[y]++q.drop (k+1)).map aj.lf)=bM ((q.take k).map aj.lf)+aT y.lf1+bM ((q.drop (k+1)).map aj.lf):=fun y=>by
  rw[List.map_append,List.map_append,iy,iy,List.map_singleton,aj.aX]
  simp only[bM,Nat.add_zero]
 rw[e2,h1]
 have h2:=h1 s
 rw[←e1] at h2
 omega
theorem Wh(l:List aS)(i:Nat):bM ((l.eraseIdx i).map aS.lf)≤bM (l.map aS.lf):=by
 rw[List.eraseIdx_eq_take_drop_succ,List.map_append,iy]
 have h1:=iy ((l.take i).map aS.lf) ((l.drop i).map aS.lf)
 rw[←List.map_append,List.take_append_drop] at h1
 have h2:=iy (((l.drop i).take 1).map aS.lf) (((l.drop i).drop 1).map aS.lf)
 rw[←List.map_append,List.take_append_drop,List.drop_drop] at h2
 omega
def JR(K B:Nat)(w:ay)(t:Int)(q:List aj)(d:bg):Int⊕Unit⊕(bg×ByteArray)⊕(List aj×Int)→Prop
 |.inl e=>e≠0
 |.inr (.inl _)=>True
 |.inr (.inr (.inl y))=>CG w t d=.inr y
 |.inr (.inr (.inr c))=>c.2≠0∨(c.2=0∧((w.aH=4∧bM (c.1.map aj.lf)≤K+B∧(c.1.map aj.fName).Perm (w.gy.fName::q.map aj.fName)∧w.gy.fName ∉ q.map aj.fName)∨
  (w.aH=5∧bM (c.1.map aj.lf)≤K+B∧(q.map aj.fName).Perm (w.aY::c.1.map aj.fName))∨(w.aH≠4∧w.aH≠5∧bM (c.1.map aj.lf)≤K+B∧c.1.map aj.fName=q.map aj.fName)))
theorem ifk{b c:Bool}:(bif b then some b else some c)=some (b||c):=by cases b<;>rfl
theorem aip{K B:Nat}(hK:K+B≤50000000)(hB:B≤1048576){a:Int}{q:List aj}{d:bg}{x:TxL}{z:SeL}(h:Sv K q d x z)(w:ay)(hw:aT w.lf1≤B)(t:Int):Tot (NP a q d x z t w) (JR K B w t q d):=by
 have hb:=eu w
 have hq:=h.bd.q
 have hlq:=jP q
 have hh:Q2 w.aY 1099511627776 a q d x z=some (holdsB w.aY 1099511627776 x):=Cm fun p hp=>by
  have hs:aN p.1 x=some p.2:=Cj h.asc hp
  have:=h.bd.txw p.1 p.2 hs
  have:=kN p.2.bK
  omega
 unfold NP Fe
 simp only[XL,XM,Mo.den,aK,aF,aG,aJ,aI,ifk,Option.bind_some,hh,Yl (K:=K) (by omega) h.bd w (show aT w.lf1≤1048576 by omega) t]
 refine T.ite (fun h1=>?_) (fun h1=>?_)
 ·refine T.bind (Ud (K:=K) (by omega) h.bd w (show aT w.lf1≤1048576 by omega) t) fun e he=>?_
  refine T.ite (fun h2=>T.ret ?_) (fun h2=>?_)
  ·show e≠0;simpa using h2
  cases ha:CG w t d with
  |inl _=>exact T.ret trivial
  |inr y=>exact T.ret ha
 refine T.ite (fun h4=>?_) (fun h4=>?_)
 ·have h4:w.aH=4:=by simpa using h4
  refine T.bind (V8 q w.gy (by omega) (by omega)) fun r hr=>T.ret ?_
  rcases hr with hr|⟨h0,hn,i,hi,hr⟩
  ·exact .inl hr
  refine .inr ⟨h0,.inl ⟨h4,?_,?_,?_⟩⟩
  ·show bM (r.1.map aj.lf)≤_
   have h1:=iy ((q.take i).map aj.lf) ((q.drop i).map aj.lf)
   rw[←List.map_append,List.take_append_drop] at h1
   rw[hr,List.map_append,List.map_append,iy,iy,List.map_singleton,aj.aX]
   simp only[bM,Nat.add_zero]
   omega
  ·show(r.1.map aj.fName).Perm _
   rw[hr,List.append_assoc,List.singleton_append]
   have:=(List.perm_middle (a:=w.gy) (l₁:=q.take i) (l₂:=q.drop i)).map aj.fName
   rw[List.take_append_drop] at this
   exact this
  intro hm
  obtain⟨s,hs,he⟩:=List.mem_map.1 hm
  exact hn s hs he
 refine T.ite (fun h5=>?_) (fun h5=>?_)
 ·have h5:w.aH=5:=by simpa using h5
  refine T.bind (afA q w.aY (by omega)) fun r hr=>?_
  have good:Tot (some (.inr (.inr (.inr (r.1,r.2)))):Option (Int⊕Unit⊕(bg×ByteArray)⊕(List aj×Int))) (JR K B w t q d):=T.ret (by
   rcases hr with hr|⟨h0,k,s,hk,hn,hr⟩
   ·exact .inl hr
   refine .inr ⟨h0,.inr (.inl ⟨h5,?_,?_⟩)⟩
   ·show bM (r.1.map aj.lf)≤_
    have h1:=iy ((q.take k).map aj.lf) ((q.drop k).map aj.lf)
    rw[←List.map_append,List.take_append_drop] at h1
    have h2:=iy (((q.drop k).take 1).map aj.lf) (((q.drop k).drop 1).map aj.lf)
    rw[←List.map_append,List.take_append_drop,List.drop_drop] at h2
    rw[hr,List.map_append,iy]
    omega
   show(q.map aj.fName).Perm (w.aY::r.1.map aj.fName)
   rw[hr,←hn]
   exact V9 hk)
  cases h0:r.2==0 with
  |false=>simp only[cond_false,Option.bind_some];exact good
  |true=>
   simp only[cond_true,Option.bind_some]
   exact T.ite (fun _=>T.ret (.inl (show(30:Int)≠0 by decide))) (fun _=>good)
 have h4':w.aH≠4:=by simpa using h4
 have h5':w.aH≠5:=by simpa using h5
 refine T.ite (fun h6=>?_) (fun h6=>?_)
 ·refine T.bind (Oq q w.aY w.eP (by omega) (by omega)) fun r hr=>T.ret ?_
  rcases hr with hr|⟨h0,k,s,hk,hn,hr⟩
  ·exact .inl hr
  refine .inr ⟨h0,.inr (.inr ⟨h4',h5',?_,?_⟩)⟩
  ·show bM (r.1.map aj.lf)≤_
   have:=Ue { s with bf:=s.bf++[w.eP] } hk
   have h1:=gG s
   have h2:=gG { s with bf:=s.bf++[w.eP] }
   have h3:bM ((s.bf++[w.eP]).map aS.lf)=bM (s.bf.map aS.lf)+aT w.eP.lf1:=by
    rw[List.map_append,iy,List.map_singleton,aS.aX]
    simp only[bM,Nat.add_zero]
   rw[hr]
   simp only[] at h2
   rw[h3] at h2
   omega
  show r.1.map aj.fName=_
  rw[hr]
  exact LG hk rfl
 refine T.ite (fun h7=>?_) (fun h7=>?_)
 ·refine T.bind (Ht q w.aY w.eP.fName (by omega) (by have:=iC w.eP;omega)) fun r hr=>T.ret ?_
  rcases hr with hr|⟨h0,k,s,i,hk,hn,hr⟩
  ·exact .inl hr
  refine .inr ⟨h0,.inr (.inr ⟨h4',h5',?_,?_⟩)⟩
  ·show bM (r.1.map aj.lf)≤_
   have:=Ue { s with bf:=s.bf.eraseIdx i } hk
   have h1:=gG s
   have h2:=gG { s with bf:=s.bf.eraseIdx i }
   have h3:=Wh s.bf i
   simp only[] at h2
   rw[hr]
   omega
  show r.1.map aj.fName=_
  rw[hr]
  exact LG hk rfl
 exact T.ret (.inl (show(11:Int)≠0 by decide))
def aoi(K B:Nat)(a:Int)(q:List aj)(d:bg)(x:TxL)(z:SeL)(w:ay):Int⊕Alt→Prop
 |.inl e=>e≠0
 |.inr alt=>Sv (K+B) (pU w q d alt).2.1 (pU w q d alt).2.2 x z∧Undo a x z (pU w q d alt).1 q d (pU w q d alt).2.1 (pU w q d alt).2.2
theorem Gx{K B:Nat}(hK:K+B≤50000000)(hB:B≤1048576){a:Int}{q:List aj}{d:bg}{x:TxL}{z:SeL}(h:Sv K q d x z)(w:ay)(hw:aT w.lf1≤B)(t:Int):Tot (Q4 w t a q d x z) (aoi K B a q d x z w):=by
 have hb:=eu w
 have hdir:=h.bd.dir
 obtain⟨r,hr,hq⟩:=aip hK hB (a:=a) h w hw t
 show Tot (Mo.den (akx w t a q d x z)) _
 simp only[akx,Mo.den,aK,aF,aG,aJ,aI,hr,Option.bind_some]
 rcases r with e|_|y|c
 ·exact T.ret hq
 ·refine T.ret ⟨h.le (Nat.le_add_right ..),fun d' he=>⟨d',rfl,he⟩⟩
 ·have hq:CG w t d=.inr y:=hq
  refine T.ret ?_
  show Sv (K+B) q y.1 x z∧Undo a x z (.doc (aN w.aY d.dir) y.2) q d q y.1
  unfold CG at hq
  cases hj:aN w.aY d.dir with
  |none=>rw[hj] at hq;cases hq
  |some j=>
   simp only[hj] at hq
   cases hc:(nX w.eF).2 with
   |false=>rw[hc] at hq;cases hq
   |true=>
    rw[hc] at hq
    injection hq with hq
    subst hq
    have h1:=h.put (B:=B) (by omega) hj (nX w.eF).1 (Gv w t) (Gw (by omega) t)
    have h2:=afB (a:=a) (K:=K) (by omega) h hj (nX w.eF).1 (Gv w t)
    rw[hj] at h1 h2
    exact⟨h1,h2⟩
 refine T.ite (fun h1=>T.ret (show c.2≠0 by simpa using h1)) (fun h1=>?_)
 have h1:c.2=0:=by simpa using h1
 rcases hq with hq|⟨-,hq⟩
 ·exact absurd h1 hq
 refine T.ite (fun h4=>?_) (fun h4=>?_)
 ·have h4:w.aH=4:=by simpa using h4
  rcases hq with⟨-,q1,q2,q3⟩|⟨h5,-⟩|⟨h5,-⟩
  ·rw[if_pos (by unfold maxLen;omega)]
   refine T.ret ?_
   show Sv (K+B) c.1 (d.make w.gy.fName) x z∧Undo a x z (.create q w) q d c.1 (d.make w.gy.fName)
   refine⟨h.mkS (by omega) _ q1 q2 q3,fun d' he=>⟨d'.unlink w.gy.fName,rfl,he.alC ?_⟩⟩
   cases hg:aN w.gy.fName d.dir with
   |none=>rfl
   |some j=>exact absurd ((h.nam w.gy.fName).2 (by rw[hg];rfl)) q3
  ·rw[h4] at h5;exact absurd h5 (by decide)
  exact absurd h4 h5
 have h4:w.aH≠4:=by simpa using h4
 refine T.ite (fun h5=>?_) (fun h5=>?_)
 ·have h5:w.aH=5:=by simpa using h5
  rcases hq with⟨h6,-⟩|⟨-,q1,q2⟩|⟨-,h6,-⟩
  ·exact absurd h6 h4
  ·refine T.ret ?_
   show Sv (K+B) c.1 (d.unlink w.aY) x z∧Undo a x z (.drop q (aN w.aY d.dir) w) q d c.1 (d.unlink w.aY)
   refine⟨(h.le (Nat.le_add_right ..)).unl _ q1 q2,fun d' he=>?_⟩
   have hm:=(h.nam w.aY).1 (q2.mem_iff.2 (List.mem_cons_self ..))
   obtain⟨j,hj⟩:=Option.isSome_iff_exists.1 hm
   have hl:d'.dir.length<maxLen:=by
    rw[he.dir]
    have:=wW w.aY d.dir
    show(dL w.aY d.dir).length<_
    unfold maxLen
    omega
   refine⟨d'.link w.aY j,?_,he.alD h.wf hj⟩
   show(Q88 q (aN w.aY d.dir) w a c.1 d' x z).map _=_
   unfold Q88 aiX
   simp only[Mo.den,aK,aF,aG,aJ,aI,hj,Option.bind_some]
   rw[if_pos hl]
   rfl
  exact absurd h5 h6
 have h5:w.aH≠5:=by simpa using h5
 rcases hq with⟨h6,-⟩|⟨h6,-⟩|⟨-,-,q1,q2⟩
 ·exact absurd h6 h4
 ·exact absurd h6 h5
 refine T.ret ?_
 show Sv (K+B) c.1 d x z∧Undo a x z (.idx q) q d c.1 d
 exact⟨(h.le (Nat.le_add_right ..)).cat q1 q2,fun d' he=>⟨d',rfl,he⟩⟩
theorem aaI(a:Int)(x:TxL)(z:SeL):∀(us:List Und) (u:Und) (q:List aj) (d:bg),oO a x z (us++[u]).reverse q d=match QW a x z u q d with|none=>none|some y=>oO a x z us.reverse y.1 y.2:=fun us u q d=>by
 rw[List.reverse_append,List.reverse_singleton,List.singleton_append]
 rfl
def anp(a:Int)(x:TxL)(z:SeL)(us:List Und)(q:List aj)(d:bg)(q1:List aj)(d1:bg):Prop:=∀d',gY d1 d'→∃d'',oO a x z us.reverse q1 d'=some (q,d'')∧gY d d''
theorem Gy{a:Int}{x:TxL}{z:SeL}(t:Int)(q0:List aj)(d0:bg):∀(l:List ay) (K:Nat) (us:List Und) (q:List aj) (d:bg),K+bM (l.map ay.lf)≤50000000→bM (l.map ay.lf)≤1048576→Sv K q d x z→anp a x z us q0 d0 q d→Tot (yE a x z t l us q d) (fun r=>(r.1≠0∧r.2.1=q0∧gY d0 r.2.2)∨(r.1=0∧Sv (K+bM (l.map ay.lf)) r.2.1 r.2.2 x z))
 |[],K,us,q,d,_,_,h,_=>T.ret (.inr ⟨rfl,h⟩)
 |w::l,K,us,q,d,hK,hB,h,hu=>by
  have hb:bM ((w::l).map ay.lf)=aT w.lf1+bM (l.map ay.lf):=by
   rw[List.map_cons,ay.aX];simp only[bM]
  rw[hb] at hK hB ⊢
  obtain⟨r,hr,hq⟩:=Gx (K:=K) (B:=aT w.lf1) (by omega) (by omega) (a:=a) h w (Nat.le_refl _) t
  unfold yE
  rw[hr]
  rcases r with e|alt
  ·have hq:e≠0:=hq
   obtain⟨d'',k1,k2⟩:=hu d (gY.refl d)
   show Tot (bif e==0 then none else(oO a x z us.reverse q d).map fun y=>(e,y.1,y.2)) _
   rw[show(e==0)=false by simpa using hq,k1]
   exact T.ret (.inl ⟨hq,rfl,k2⟩)
  obtain⟨h1,h2⟩:=hq
  refine T.mono (Gy t q0 d0 l (K+aT w.lf1) _ _ _ (by omega) (by omega) h1 ?_) fun r hr=>?_
  ·intro d' he
   obtain⟨d1,k1,k2⟩:=h2 d' he
   obtain⟨d2,k3,k4⟩:=hu d1 k2
   refine⟨d2,?_,k4⟩
   rw[aaI,k1]
   exact k3
  rcases hr with hr|⟨e,hr⟩
  ·exact .inl hr
  exact .inr ⟨e,by rw[←Nat.add_assoc];exact hr⟩
theorem aaJ{K:Nat}{a:Int}{q:List aj}{d:bg}{x:TxL}{z:SeL}(h:Sv K q d x z)(l:List ay)(hl:bM (l.map ay.lf)≤1048576)(hK:K+bM (l.map ay.lf)≤50000000)(t:Int):Tot (ahP l t a q d x z) (fun r=>(r.1≠0∧r.2.1=q∧gY d r.2.2)∨(r.1=0∧Sv (K+bM (l.map ay.lf)) r.2.1 r.2.2 x z)):=by
 have:=kN l
 unfold ahP
 rw[Nat.ble_eq_true_of_le (show(l.length+1)*8≤140737488355328 by omega)]
 exact Gy t q d l K [] q d hK hl h fun d' he=>⟨d',rfl,he⟩
end Go.Proofs.YtpdlghcgekojlaaGreatDoor
namespace Go.Proofs.YtpdlghcgekojlaaGreatDoor
open Go.RowKit
theorem Sv.aji{K:Nat}{q:List aj}{d:bg}{x:TxL}{z:SeL}(h:Sv K q d x z)(s:ByteArray):Sv K q d (dL s x) z:=
 { h with
  asc:=h.asc.del s
  bd:={ h.bd with
   tx:=Nat.le_trans (wW s x) h.bd.tx
   txw:=fun t p hp=>by
    by_cases e:s=t
    ·subst e;rw[jE] at hp;cases hp
    rw[jL e] at hp;exact h.bd.txw t p hp } }
theorem Sv.anq{K B:Nat}{q:List aj}{d:bg}{x:TxL}{z:SeL}(h:Sv K q d x z)(hB:1≤B)(s:ByteArray)(p:ah)(hp:bM (p.bK.map ay.lf)≤1048576):Sv (K+B) q d (eH s p x) z:=by
 have h1:=h.le (Nat.le_add_right K B)
 exact { h1 with
  asc:=h.asc.put s p
  bd:={ h1.bd with
   tx:=by
    have:=rE s p x
    have:=h.bd.tx
    omega
   txw:=fun t r hr=>by
    by_cases e:s=t
    ·subst e;rw[jF] at hr;injection hr with hr;subst hr;exact hp
    rw[kV e] at hr;exact h.bd.txw t r hr } }
theorem Sv.alE{K B:Nat}{q:List aj}{d:bg}{x:TxL}{z:SeL}(h:Sv K q d x z)(hB:1≤B)(s:ByteArray)(p:au):Sv (K+B) q d x (eH s p z):=by
 have h1:=h.le (Nat.le_add_right K B)
 exact { h1 with
  bd:={ h1.bd with
   ses:=by
    have:=rE s p z
    have:=h.bd.ses
    omega } }
noncomputable def CJ(y:ay):ay:=ay.Pv (ay.Pq (ay.uH (ay.qF ay.z y.aH) y.aY) y.eF) y.bG
theorem Ou:aT ak.z.lf1=5:=by rw[bZ];rfl
theorem aaK:aT aA.z.lf1=21:=by
 rw[gV]
 show 11+aT ak.z.lf1+aT ak.z.lf1+0+0+0+0=21
 rw[Ou]
theorem afC:aT aj.z.lf1=25:=by
 rw[gG]
 show 4+0+0+aT aA.z.lf1=25
 rw[aaK]
theorem aiq:aT aW.z.lf1=11:=by
 rw[jR]
 show 6+0+0+0+aT ak.z.lf1+0=11
 rw[Ou]
theorem afD:aT dA.z.lf1=3:=by rw[mZ];rfl
theorem air:aT aO.z.lf1=25:=by
 rw[iL]
 show 6+0+aT ak.z.lf1+0+aT dA.z.lf1+aT aW.z.lf1+0=25
 rw[Ou,afD,aiq]
theorem afE:aT aS.z.lf1=31:=by
 rw[iC]
 show 6+0+0+aT aO.z.lf1=31
 rw[air]
theorem LH(y:ay):aT (CJ y).lf1≤aT y.lf1:=by
 have e:aT (CJ y).lf1=7+y.aY.size+aT y.eF.lf1+aT y.bG.lf1+61:=by
  rw[eu]
  show 7+y.aY.size+aT y.eF.lf1+aT y.bG.lf1+aT ak.z.lf1+aT aj.z.lf1+aT aS.z.lf1+0+0+0=_
  rw[Ou,afC,afE]
 have h1:=eu y
 have h2:=bZ y.gZ
 have h3:=gG y.gy
 have h4:=gV y.gy.eU
 have h5:=bZ y.gy.eU.kR
 have h6:=bZ y.gy.eU.kS
 have h7:=iC y.eP
 have h8:=iL y.eP.iT
 have h9:=bZ y.eP.iT.fArg
 have h10:=mZ y.eP.iT.dK
 have h11:=jR y.eP.iT.fExpr
 have h12:=bZ y.eP.iT.fExpr.fArg
 omega
theorem take_snoc{α:Type}{l:List α}{k:Nat}{u:α}(h:l[k]?=some u):l.take (k+1)=l.take k++[u]:=by
 rw[List.take_add_one,h];rfl
theorem Gz:∀l:List ay,bM ((l.map CJ).map ay.lf)≤bM (l.map ay.lf)
 |[]=>Nat.le_refl _
 |y::l=>by
  have h1:=Gz l
  have h2:=LH y
  rw[List.map_cons,List.map_cons,List.map_cons,ay.aX,ay.aX]
  simp only[bM]
  omega
noncomputable def clash(y w:ay):Bool:=bif decide (y.aY=w.aY) then eqB y.eF w.eF else false
theorem Uf{K:Nat}(hK:K≤50000000){a:Int}{q:List aj}{d:bg}{x:TxL}{z:SeL}(h:Sv K q d x z)(w:ay)(hw:aT w.lf1≤1048576)(t:Int):
 Tot (Q23 w t a q d x z) (fun r=>(r.1≠0∧r.2=x)∨(r.1=0∧aN w.dW x=none∧(∀y∈w.bQ,Q92 y t a q d x z=some 0)∧r.2=eH w.dW ⟨t,w.bQ.map CJ⟩ x)):=by
 have hb:=eu w
 have hlw:=kN w.bQ
 have htx:=h.bd.tx
 have h5:∀(l:List ay) (v:Int) (y:ay),aT y.lf1≤1048576→l.length≤1048576→(∀u∈l,aT u.lf1≤1048576)→aeI l a q d x z t w v y 0=some (bif l.any (clash y) then .inl () else .inr ()):=fun l v y hy hl hlb=>by
  refine afw l (by omega) _ _ (fun k u hx=>?_) ?_
  ·have hu:=hlb u (fU hx)
   have h1:=eu u
   have h2:=eu y
   unfold Ah
   simp only[Si,Mo.den,aK,aF,aG,aJ,aI,ltt hx,gid hx,cond_true,Option.bind_some,Yj (a:=y.eF) (b:=u.eF) (by omega) (by omega)]
   unfold clash
   cases decide (y.aY=u.aY) with
   |false=>rfl
   |true=>cases eqB y.eF u.eF<;>rfl
  unfold Ah
  simp only[Mo.den,aK,aF,aG,aJ,aI,ltn,cond_false]
 have hL:Tot (X0 a q d x z t w 0 []) (fun r=>match r with
  |.inl e=>e≠0
  |.inr l=>l=w.bQ.map CJ∧∀y∈w.bQ,Q92 y t a q d x z=some 0):=by
  refine T.lV w.bQ.length (by omega) (fun k s=>s.1=(k:Int)∧s.2=(w.bQ.take k).map CJ∧∀y∈w.bQ.take k,Q92 y t a q d x z=some 0) _ ⟨rfl,rfl,fun y hy=>by cases hy⟩ ?_ ?_
  ·rintro k ⟨i,s⟩ hk ⟨h1,h2,h3⟩
   obtain rfl:i=(k:Int):=h1
   obtain rfl:s=(w.bQ.take k).map CJ:=h2
   obtain⟨u,hx⟩:∃u,w.bQ[k]?=some u:=⟨_,List.getElem?_eq_getElem hk⟩
   have hm:=qU (fU hx)
   have hy:=eu u
   have hln:((w.bQ.take k).map CJ).length≤k:=by rw[List.length_map,List.length_take];omega
   have hcp1:=gW u.eF (by omega)
   have hcp2:=gW u.bG (by omega)
   unfold wJ
   simp only[Mo.den, aK, aF, aG, aJ, aI, ltt hx, gid hx, cond_true, Option.bind_some, hcp1, hcp2, h5 _ (k:Int) u (show aT u.lf1≤1048576 by omega) (show((w.bQ.take k).map CJ).length≤1048576 by omega) (fun v hu=>by
    obtain⟨y,hy,rfl⟩:=List.mem_map.1 hu
    have:=qU (List.mem_of_mem_take hy)
    have:=LH y
    omega)]
   obtain⟨e,he,-⟩:=Ud (a:=a) (q:=q) hK h.bd u (show aT u.lf1≤1048576 by omega) t
   rw[he,Option.bind_some]
   refine T.ite (fun h4=>T.ret (show e≠0 by simpa using h4)) (fun h4=>?_)
   have h4:e=0:=by simpa using h4
   subst h4
   cases ((w.bQ.take k).map CJ).any (clash u) with
   |true=>exact T.ret (show(28:Int)≠0 by decide)
   |false=>
    show Tot (if _ then _ else _) _
    rw[if_pos (by simp only[List.length_cons,List.length_nil];omega)]
    refine T.ret ⟨inc k (by omega),?_,?_⟩
    ·show(w.bQ.take k).map CJ++[CJ u]=_
     rw[take_snoc hx,List.map_append];rfl
    intro y hy
    rw[take_snoc hx] at hy
    rcases List.mem_append.1 hy with hy|hy
    ·exact h3 y hy
    rw[List.mem_singleton.1 hy];exact he
  rintro⟨i,s⟩ ⟨h1,h2,h3⟩
  obtain rfl:i=(w.bQ.length:Int):=h1
  obtain rfl:s=(w.bQ.take w.bQ.length).map CJ:=h2
  unfold wJ
  simp only[Mo.den,aK,aF,aG,aJ,aI,ltn,cond_false]
  rw[List.take_length] at h3
  exact T.ret ⟨by rw[List.take_length],h3⟩
 obtain⟨r,hr,hq⟩:=hL
 show Tot (Mo.den (aeJ w t a q d x z)) _
 simp only[aeJ,Mo.den,aK,aF,aG,aJ,aI,hr,Option.bind_some]
 refine T.ite (fun h1=>T.ret (.inl ⟨show(16:Int)≠0 by decide,rfl⟩)) (fun h1=>?_)
 rcases r with e|l
 ·exact T.ret (.inl ⟨hq,rfl⟩)
 obtain⟨rfl,hq⟩:=hq
 show Tot (if _ then _ else _) _
 rw[if_pos (by unfold maxLen;omega)]
 exact T.ret (.inr ⟨rfl,by simpa using h1,hq,rfl⟩)
theorem ais{K:Nat}{q:List aj}{d:bg}{x:TxL}{z:SeL}(h:Sv K q d x z){w:ay}(hw:aT w.lf1≤1048576){t:Int}{y:bg×ByteArray}(ha:CG w t d=.inr y):Sv (K+1) q y.1 x z:=by
 unfold CG at ha
 cases hj:aN w.aY d.dir with
 |none=>rw[hj] at ha;cases ha
 |some j=>
  simp only[hj] at ha
  cases hc:(nX w.eF).2 with
  |false=>rw[hc] at ha;cases ha
  |true=>
   rw[hc] at ha
   injection ha with ha
   subst ha
   have h1:=h.put (B:=1) (Nat.le_refl _) hj (nX w.eF).1 (Gv w t) (Gw hw t)
   rw[hj] at h1
   exact h1
noncomputable def GH(t:Int)(d:bg)(w:ay):bg:=match CG w t d with
 |.inl _=>d
 |.inr y=>y.1
theorem ait{K:Nat}{q:List aj}{d:bg}{x:TxL}{z:SeL}(h:Sv K q d x z){w:ay}(hw:aT w.lf1≤1048576)(t:Int):Sv (K+1) q (GH t d w) x z:=by
 unfold GH
 cases ha:CG w t d with
 |inl _=>exact h.le (Nat.le_succ K)
 |inr y=>exact ais h hw ha
theorem Wi{K:Nat}(hK:K+1048576≤50000000){a:Int}{q:List aj}{d:bg}{x:TxL}{z:SeL}(h:Sv K q d x z)(w:ay):
 Tot (Q41 w a q d x z) (fun r=>(r.1≠0∧r.2.1=d∧r.2.2=x)∨(r.1=0∧(∃p,aN w.dW x=some p∧p.dF≤w.cZ∧r.2.1=p.bK.foldl (GH w.cZ) d)∧r.2.2=dL w.dW x∧Sv (K+1048576) q r.2.1 r.2.2 z)):=by
 show Tot (Mo.den (aeL w a q d x z)) _
 simp only[aeL,Mo.den,aK,aF,aG,aJ,aI]
 refine T.ite (fun h1=>T.ret (.inl ⟨show(15:Int)≠0 by decide,rfl,rfl⟩)) (fun h1=>?_)
 refine T.ite (fun h2=>T.ret (.inl ⟨show(23:Int)≠0 by decide,rfl,rfl⟩)) (fun h2=>?_)
 have h2:=of_decide_eq_false h2
 obtain⟨p,hp⟩:∃p,aN w.dW x=some p:=Option.isSome_iff_exists.1 (by simpa using h1)
 have hpb:=h.bd.txw _ p hp
 have hpl:=kN p.bK
 have eg:(aN w.dW x).getD ah.z=p:=by rw[hp];rfl
 have hL:Tot (aeK a q x z w 0 d) (fun r=>r=p.bK.foldl (GH w.cZ) d∧Sv (K+p.bK.length) q r x z):=by
  refine T.lV p.bK.length (by omega) (fun k s=>s.1=(k:Int)∧s.2=(p.bK.take k).foldl (GH w.cZ) d∧Sv (K+k) q s.2 x z) _ ⟨rfl,rfl,h⟩ ?_ ?_
  ·rintro k ⟨i,s⟩ hk ⟨k1,k2,k3⟩
   obtain rfl:i=(k:Int):=k1
   obtain⟨u,hx⟩:∃u,p.bK[k]?=some u:=⟨_,List.getElem?_eq_getElem hk⟩
   have hm:=qU (fU hx)
   have hx':((aN w.dW x).getD ah.z).bK[k]?=some u:=by rw[eg];exact hx
   have hadd:=Yl (a:=a) (K:=K+k) (by omega) k3.bd u (show aT u.lf1≤1048576 by omega) w.cZ
   have hsv:=ait k3 (w:=u) (by omega) w.cZ
   unfold Ai
   simp only[Sj,Mo.den,aK,aF,aG,aJ,aI,ltt hx',gid hx',cond_true,Option.bind_some]
   have hadd':Q40 u w.cZ a q s x z=some (CG u w.cZ s):=hadd
   rw[hadd']
   have e:GH w.cZ s u=match CG u w.cZ s with|.inl _=>s|.inr y=>y.1:=rfl
   have k2':s=(p.bK.take k).foldl (GH w.cZ) d:=k2
   have ef:(p.bK.take (k+1)).foldl (GH w.cZ) d=GH w.cZ s u:=by
    rw[take_snoc hx,List.foldl_append,←k2'];rfl
   have hsv:Sv (K+k+1) q (GH w.cZ s u) x z:=hsv
   rw[e] at ef hsv
   generalize CG u w.cZ s=av at ef hsv ⊢
   cases av with
   |inl _=>exact T.ret ⟨inc k (by omega),ef.symm,hsv⟩
   |inr y=>exact T.ret ⟨inc k (by omega),ef.symm,hsv⟩
  rintro⟨i,s⟩ ⟨k1,k2,k3⟩
  obtain rfl:i=(p.bK.length:Int):=k1
  have en:decide (((p.bK.length:Nat):Int)<((((aN w.dW x).getD ah.z).bK.length:Nat):Int))=false:=by rw[eg];exact decide_eq_false (by omega)
  unfold Ai
  simp only[Mo.den,aK,aF,aG,aJ,aI,en,cond_false]
  have k2':s=(p.bK.take p.bK.length).foldl (GH w.cZ) d:=k2
  rw[List.take_length] at k2'
  exact T.ret ⟨k2',k3⟩
 obtain⟨r,hr,k1,k2⟩:=hL
 rw[hr,Option.bind_some]
 exact T.ret (.inr ⟨rfl,⟨p,hp,by rw[eg] at h2;omega,k1⟩,rfl,(k2.aji _).le (by omega)⟩)
def WrR(K:Nat)(q:List aj)(d:bg)(x:TxL)(z:SeL)(r:Int×List aj×bg×TxL):Prop:=(r.1≠0∧r.2.1=q∧gY d r.2.2.1∧r.2.2.2=x)∨(r.1=0∧Sv (K+1048576) r.2.1 r.2.2.1 r.2.2.2 z)
theorem aaL{K:Nat}(hK:K+1048576≤50000000){a:Int}{q:List aj}{d:bg}{x:TxL}{z:SeL}(h:Sv K q d x z)(w:ay)(hw:aT w.lf1≤1048576)(t:Int):Tot (Q50 w t a q d x z) (WrR K q d x z):=by
 have hb:=eu w
 have hJ0:VJ a q d x z t w=some (w.aH==1||w.aH==12):=by
  unfold VJ Sl
  simp only[Mo.den,aK,aF,aG,aJ,aI,ifk]
 show Tot (Mo.den (aeM w t a q d x z)) _
 simp only[aeM,Mo.den,aK,aF,aG,aJ,aI,hJ0,Option.bind_some]
 refine T.ite (fun h1=>T.ret (.inr ⟨rfl,h.le (by omega)⟩)) (fun h1=>?_)
 refine T.ite (fun h8=>?_) (fun h8=>?_)
 ·refine T.bind (aaJ (a:=a) h w.bQ (by omega) (by omega) t) fun r hr=>T.ret ?_
  rcases hr with⟨r1,r2,r3⟩|⟨r1,r2⟩
  ·exact .inl ⟨r1,r2,r3,rfl⟩
  exact .inr ⟨r1,r2.le (by omega)⟩
 refine T.ite (fun h9=>?_) (fun h9=>?_)
 ·refine T.bind (Uf (K:=K) (by omega) h w (by omega) t) fun r hr=>T.ret ?_
  rcases hr with⟨r1,r2⟩|⟨r1,-,-,r3⟩
  ·exact .inl ⟨r1,rfl,gY.refl d,r2⟩
  refine .inr ⟨r1,?_⟩
  show Sv _ q d r.2 z
  rw[r3]
  exact h.anq (by omega) _ _ (Nat.le_trans (Gz w.bQ) (by omega))
 refine T.ite (fun h10=>?_) (fun h10=>?_)
 ·refine T.bind (Wi (a:=a) hK h w) fun r hr=>T.ret ?_
  rcases hr with⟨r1,r2,r3⟩|⟨r1,-,-,r4⟩
  ·exact .inl ⟨r1,rfl,by show gY d r.2.1;rw[r2];exact gY.refl d,r3⟩
  exact .inr ⟨r1,r4⟩
 refine T.ite (fun h11=>?_) (fun h11=>?_)
 ·refine T.ite (fun _=>T.ret (.inl ⟨show(15:Int)≠0 by decide,rfl,gY.refl d,rfl⟩)) (fun _=>T.ret (.inr ⟨rfl,(h.aji _).le (by omega)⟩))
 obtain⟨r,hr,hq⟩:=Gx (K:=K) (B:=1048576) (by omega) (by omega) (a:=a) h w hw t
 unfold Sm
 simp only[Mo.den,aK,aF,aG,aJ,aI,hr,Option.bind_some]
 rcases r with e|_|y|c|c|c
 ·exact T.ret (.inl ⟨hq,rfl,gY.refl d,rfl⟩)
 ·exact T.ret (.inr ⟨rfl,h.le (by omega)⟩)
 ·exact T.ret (.inr ⟨rfl,hq.1.le (by omega)⟩)
 ·exact T.ret (.inr ⟨rfl,hq.1.le (by omega)⟩)
 ·exact T.ret (.inr ⟨rfl,hq.1.le (by omega)⟩)
 exact T.ret (.inr ⟨rfl,hq.1.le (by omega)⟩)
def ApR(K:Nat)(e:bI)(a:Int)(q:List aj)(d:bg)(x:TxL)(z:SeL)(r:Int×Int×List aj×bg×TxL×SeL):Prop:=(r.1≠0∧r.2.1=a∧r.2.2.1=q∧gY d r.2.2.2.1∧r.2.2.2.2.1=x∧r.2.2.2.2.2=z)∨(r.1=0∧r.2.1=e.cZ∧a<e.cZ∧Sv (K+1048577) r.2.2.1 r.2.2.2.1 r.2.2.2.2.1 r.2.2.2.2.2)
theorem aaM{K:Nat}(hK:K+1048577≤50000000){a:Int}{q:List aj}{d:bg}{x:TxL}{z:SeL}(h:Sv K q d x z)(e:bI)(he:aT e.lf1≤1048576):Tot (Q67 e a q d x z) (ApR K e a q d x z):=by
 have hb:=sJ e
 have hw:=eu e.iO
 obtain⟨v,hv,-⟩:=Dy e (by omega)
 obtain⟨r,hr,hq⟩:=aaL (K:=K) (by omega) (a:=a) h e.iO (by omega) e.cZ
 show Tot (Mo.den (aeN e a q d x z)) _
 simp only[aeN,Sr,Mo.den,aK,aF,aG,aJ,aI,hv,hr,Option.bind_some]
 refine T.ite (fun h1=>T.ret (.inl ⟨by simpa using h1,rfl,rfl,gY.refl d,rfl,rfl⟩)) (fun h1=>?_)
 refine T.ite (fun h2=>T.ret (.inl ⟨show(23:Int)≠0 by decide,rfl,rfl,gY.refl d,rfl,rfl⟩)) (fun h2=>?_)
 have h2:=of_decide_eq_false h2
 rcases hq with⟨q1,q2,q3,q4⟩|⟨q1,q2⟩
 ·rw[show(r.1 != 0)=true by simpa using q1]
  exact T.ret (.inl ⟨q1,rfl,q2,q3,q4,rfl⟩)
 rw[show(r.1 != 0)=false by simpa using q1]
 have hs:=h.bd.ses
 simp only[cond_false]
 cases hc:!decide ((e.eX:ByteArray)=(⟨#[]⟩:ByteArray)) with
 |true=>
  simp only[cond_true]
  rw[if_pos (by unfold maxLen;omega),Option.bind_some]
  exact T.ret (.inr ⟨rfl,rfl,by omega,q2.alE (B:=1) (Nat.le_refl _) _ _⟩)
 |false=>
  simp only[cond_false,Option.bind_some]
  exact T.ret (.inr ⟨rfl,rfl,by omega,q2.le (by omega)⟩)
theorem sv0:Sv 0 [] (⟨[],[]⟩:bg) [] [] where
 bd:=⟨Nat.le_refl _,Nat.le_refl _,fun _ _ h=>(by cases h),fun _ _ _ _ h=>(by cases h),fun _ _ _ _ h=>(by cases h),Nat.le_refl _,fun _ _ h=>(by cases h),Nat.le_refl _⟩
 wf:=⟨fun _ _ h=>(by cases h),fun _ _ _ h=>(by cases h),jZ.nil,fun _ _ h=>by cases h⟩
 asc:=jZ.nil
 nod:=List.nodup_nil
 nam:=fun n=>⟨fun h=>(by cases h),fun h=>by cases h⟩
 ne:=fun _ _ _ _ h=>by cases h
theorem Ov{d d':bg}(e:gY d d')(w:RWf d)(sp c:ByteArray):rwV d' sp c=rwV d sp c:=by
 unfold rwV
 rw[show aN sp d'.dir=aN sp d.dir by rw[e.dir]]
 exact e.row w sp c
theorem Ug{d d':bg}(e:gY d d')(sp:ByteArray):Gq d' sp=Gq d sp:=by unfold Gq;rw[e.dir]
theorem aaN{d d':bg}(e:gY d d')(w:RWf d)(sp:ByteArray):xZ d' sp=xZ d sp:=by
 unfold xZ
 rw[e.dir]
 cases hs:aN sp d.dir with
 |none=>rfl
 |some j=>
  show(d'.inner j).map _=(d.inner j).map _
  rw[e.inner (w.hnd sp j hs)]
theorem afF{d d':bg}(e:gY d d')(w:RWf d)(sp:ByteArray)(key:ak)(t:Int)(x:TxL):Hr sp key t d' x=Hr sp key t d x:=by
 unfold Hr
 rw[Ug e,Ov e w]
theorem aaO{d d':bg}(e:gY d d')(w:RWf d)(sp:ByteArray)(key:ak):Gt sp key d'=Gt sp key d:=by
 unfold Gt
 rw[Ov e w]
theorem aaP{d d':bg}(e:gY d d')(w:RWf d)(sp:ByteArray)(t:Int)(x:TxL):yc sp t d' x=yc sp t d x:=by
 unfold yc oq
 rw[Ug e,aaN e w]
 simp only[Ov e w]
noncomputable def qy(p:aU)(d:bg)(x:TxL)(z:SeL):aZ:=aZ.mk (Hr p.aY p.eF p.cZ d x).1 (Hr p.aY p.eF p.cZ d x).2 (yc p.aY p.cZ d x).1 (yc p.aY p.cZ d x).2 (Gt p.aY p.eF d) (holdV p.aY p.eF x) ((aN p.eX z).getD au.z).kU ((aN p.eX z).getD au.z).dF
theorem afG{d d':bg}(e:gY d d')(w:RWf d)(p:aU)(x:TxL)(z:SeL):qy p d' x z=qy p d x z:=by
 unfold qy
 rw[afF e w,aaP e w,aaO e w]
theorem Ym{K:Nat}(hK:K≤50000000){a:Int}{q:List aj}{d:bg}{x:TxL}{z:SeL}(h:Sv K q d x z)(p:aU)(hp:aT p.eF.lf1≤50000000):Q98 p a q d x z=some (qy p d x z):=by
 have e:aib p.eX a q d x z=some ():=rfl
 show Mo.den (aeW p a q d x z)=_
 simp only[aeW,Mo.den,aK,aF,aG,aJ,aI,aio hK h.bd p.aY hp,afy hK h.bd h.wf h.asc p.aY,Ub hK h.bd p.aY hp,yR hK h.bd p.aY hp,e,Option.bind_some]
 rfl
theorem Ox(l:List ak)(h:∀v∈l,aT v.lf1≤1048576)(hl:l.length≤100000000):Q68 l l=some true:=by
 obtain⟨G,hG⟩:∃G,FU=G+1:=⟨FU-1,by have:=fK;omega⟩
 have hv:Q3 (ak.mk 6 0 ⟨#[]⟩ l []) (ak.mk 6 0 ⟨#[]⟩ l [])=some true:=by
  unfold Q3
  rw[hG]
  have h1:VK (oZ G) (ak.mk 6 0 ⟨#[]⟩ l []) (ak.mk 6 0 ⟨#[]⟩ l []) 0=some (.inr ()):=lY l hl _ (fun k x hx=>by
   have hb:=h x (fU hx)
   have hx':(ak.mk 6 0 ⟨#[]⟩ l []).bC[k]?=some x:=hx
   simp only[oW, Mo.den, aK, aF, aG, aJ, aI, ltt hx', gid hx', cond_true, cond_false, Option.bind_some, rD G x (by have:=fK;omega) (by omega), Bool.not_true]) (by
    show(oW _ (ak.mk 6 0 ⟨#[]⟩ l []) (ak.mk 6 0 ⟨#[]⟩ l []) (((ak.mk 6 0 ⟨#[]⟩ l []).bC.length:Nat):Int)).den=_
    simp only[oW,Mo.den,aK,aF,aG,aJ,aI,ltn,cond_false])
  have h2:VL (oZ G) (ak.mk 6 0 ⟨#[]⟩ l []) (ak.mk 6 0 ⟨#[]⟩ l []) 0=some (.inr ()):=lY ([]:List aB) (by simp) _ (fun k x hx=>by cases hx) (by
   show(qO _ (ak.mk 6 0 ⟨#[]⟩ l []) (ak.mk 6 0 ⟨#[]⟩ l []) (((ak.mk 6 0 ⟨#[]⟩ l []).bG.length:Nat):Int)).den=_
   simp only[qO,Mo.den,aK,aF,aG,aJ,aI,ltn,cond_false])
  show Mo.den (aam (oZ G) (ak.mk 6 0 ⟨#[]⟩ l []) (ak.mk 6 0 ⟨#[]⟩ l []))=some true
  simp only[aam,Aj,FT,FQ,Oa,N9,Mo.den,aK,aF,aG,aJ,aI,bne_self_eq_false,cond_false,cond_true,Option.bind_some,decide_true,Bool.not_true,h1,h2]
 show Mo.den (SB l l)=some true
 simp only[SB,Mo.den,aK,aF,aG,aJ,aI,hv,Option.bind_some]
theorem aaQ{K:Nat}{q:List aj}{d:bg}{x:TxL}{z:SeL}(h:Bd K q d x z)(sp:ByteArray)(key:ak)(t:Int):aT (Hr sp key t d x).1.lf1≤1048576:=by
 have hm:aT AZ.lf1≤1048576:=by rw[bZ];decide
 have hr:=A8 (t:=t) (h.Oo sp (nX key).1).2
 unfold Hr
 cases !Gq d sp with
 |true=>exact hm
 |false=>
  simp only[cond_false]
  cases (bif !decide (holdV sp key x=(⟨#[]⟩:ByteArray)) then decide ((Ba x (holdV sp key x)).dF≤t) else false) with
  |true=>exact hm
  |false=>
   simp only[cond_false]
   cases !(nX key).2 with
   |true=>exact hm
   |false=>exact hr
theorem Wj{K:Nat}{q:List aj}{d:bg}{x:TxL}{z:SeL}(h:Bd K q d x z)(sp:ByteArray)(t:Int)(l:List ByteArray):∀v∈oq t d sp l,aT v.lf1≤1048576:=by
 intro v hv
 obtain⟨c,hc,he⟩:=List.mem_filterMap.1 hv
 have hr:=A8 (t:=t) (h.Oo sp c).2
 have hr:aT (atV t (rwV d sp c)).lf1≤1048576:=hr
 cases hk:(atV t (rwV d sp c)).aH != 0 with
 |true=>rw[hk] at he;injection he with he;rw[←he];exact hr
 |false=>rw[hk] at he;cases he
theorem GK{K:Nat}(hK:K≤50000000){q:List aj}{d:bg}{x:TxL}{z:SeL}(h:Bd K q d x z)(sp:ByteArray)(t:Int):(∀v∈(yc sp t d x).1,aT v.lf1≤1048576)∧(yc sp t d x).1.length≤100000000:=by
 unfold yc
 cases !Gq d sp with
 |true=>exact⟨fun v hv=>(by cases hv),Nat.zero_le _⟩
 |false=>
  simp only[cond_false]
  cases holdsB sp t x with
  |true=>exact⟨fun v hv=>(by cases hv),Nat.zero_le _⟩
  |false=>
   refine⟨Wj h sp t _,?_⟩
   show(oq t d sp (nT (xZ d sp))).length≤_
   unfold oq
   refine Nat.le_trans (List.length_filterMap_le ..) ?_
   rw[uN]
   unfold xZ
   cases hj:aN sp d.dir with
   |none=>exact Nat.zero_le _
   |some j=>
    have hi:=h.inn sp j hj
    show((d.inner j).map fun p=>p.1).length≤_
    rw[List.length_map];omega
theorem aaR{K:Nat}(hK:K≤50000000){q:List aj}{d:bg}{x:TxL}{z:SeL}(h:Bd K q d x z)(p:aU):Q25 (qy p d x z) (qy p d x z)=some true:=by
 have e1:Q3 (qy p d x z).jc (qy p d x z).jc=some true:=iU _ (by
  have:=aaQ h p.aY p.eF p.cZ
  show aT (Hr p.aY p.eF p.cZ d x).1.lf1≤_
  omega)
 have e2:Q68 (qy p d x z).Eo (qy p d x z).Eo=some true:=Ox _ (GK hK h p.aY p.cZ).1 (GK hK h p.aY p.cZ).2
 show Mo.den (afb _ _)=_
 simp only[afb,wM,KY,KX,KW,KU,KT,TF,TB,Mo.den,aK,aF,aG,aJ,aI,e1,e2,cond_true,Option.bind_some,BEq.rfl,decide_true]
theorem aaS(l:List bI)(q:List aU)(hl:bM (l.map bI.lf)≤1048576)(hq:∀p∈q,aT p.eF.lf1≤1048576)(hql:q.length≤1048576):Tot (Q14 l q) (fun b=>b=false→l.length≤40∧q.length≤20):=by
 have hll:=TL l
 have h5:Tot (aei l q 0) Any:=by
  refine T.lV q.length (by omega) (fun k s=>s=(k:Int)) _ rfl ?_ ?_
  ·rintro k s hk rfl
   obtain⟨u,hx⟩:∃u,q[k]?=some u:=⟨_,List.getElem?_eq_getElem hk⟩
   have hu:=hq u (fU hx)
   obtain⟨b,hb,-⟩:=aaq u.eF (by omega)
   simp only[Af,Mo.den,aK,aF,aG,aJ,aI,ltt hx,gid hx,cond_true,Option.bind_some,hb]
   cases b with
   |true=>exact T.ret (inc k (by omega))
   |false=>exact T.ret trivial
  rintro s rfl
  simp only[Af,Mo.den,aK,aF,aG,aJ,aI,ltn,cond_false]
  exact T.ret trivial
 have h22:Tot (XW l 0) Any:=by
  refine T.lV l.length (by omega) (fun k s=>s=(k:Int)) _ rfl ?_ ?_
  ·rintro k s hk rfl
   obtain⟨u,hx⟩:∃u,l[k]?=some u:=⟨_,List.getElem?_eq_getElem hk⟩
   have hu:=KZ (fU hx)
   have h1:=sJ u
   have h2:=eu u.iO
   have h3:=kN u.iO.bQ
   have h16:Tot (XV l (k:Int) u 0) Any:=by
    refine T.lV u.iO.bQ.length (by omega) (fun k s=>s=(k:Int)) _ rfl ?_ ?_
    ·rintro k s hk rfl
     obtain⟨y,hy⟩:∃y,u.iO.bQ[k]?=some y:=⟨_,List.getElem?_eq_getElem hk⟩
     simp only[wH,Mo.den,aK,aF,aG,aJ,aI,ltt hy,gid hy,cond_true,Option.bind_some]
     cases decide ((5:Int)<(y.gy.bf.length:Int)) with
     |true=>exact T.ret trivial
     |false=>exact T.ret (inc k (by omega))
    rintro s rfl
    simp only[wH,Mo.den,aK,aF,aG,aJ,aI,ltn,cond_false]
    exact T.ret trivial
   obtain⟨r,hr,-⟩:=h16
   simp only[wI,JX,Mo.den,aK,aF,aG,aJ,aI,ltt hx,gid hx,cond_true,Option.bind_some,hr]
   cases decide ((20:Int)<(u.iO.bQ.length:Int)) with
   |true=>exact T.ret trivial
   |false=>
    simp only[cond_false,Option.bind_some]
    cases decide ((5:Int)<(u.iO.gy.bf.length:Int)) with
    |true=>exact T.ret trivial
    |false=>
     rcases r with r|r
     ·exact T.ret trivial
     exact T.ret (inc k (by omega))
  rintro s rfl
  simp only[wI,Mo.den,aK,aF,aG,aJ,aI,ltn,cond_false]
  exact T.ret trivial
 obtain⟨r5,e5,-⟩:=h5
 obtain⟨r22,e22,-⟩:=h22
 show Tot (Mo.den (aej l q)) _
 simp only[aej,RH,Mo.den,aK,aF,aG,aJ,aI,e5,e22,Option.bind_some]
 cases h1:decide ((40:Int)<(l.length:Int)) with
 |true=>exact T.ret fun h=>by cases h
 |false=>
  simp only[cond_false,Option.bind_some]
  cases h2:decide ((20:Int)<(q.length:Int)) with
  |true=>exact T.ret fun h=>by cases h
  |false=>
   have h1:=of_decide_eq_false h1
   have h2:=of_decide_eq_false h2
   rcases r5 with r5|r5
   ·exact T.ret fun h=>by cases h
   rcases r22 with r22|r22
   ·exact T.ret fun h=>by cases h
   exact T.ret fun _=>⟨by omega,by omega⟩
theorem aaT:ane=some true:=by kernel_rfl
theorem Oy{K:Nat}(hK:K≤50000000){a:Int}{q:List aj}{d:bg}{x:TxL}{z:SeL}(h:Sv K q d x z)(l:List bI)(ps:List aU)(hp:∀p∈ps,aT p.eF.lf1≤1048576)(hpl:ps.length≤20)(v:Int):afc q d x z l ps v a 0 []=some (ps.map fun p=>qy p d x z):=by
 have:Tot (afc q d x z l ps v a 0 []) (fun r=>r=ps.map fun p=>qy p d x z):=by
  refine T.lV ps.length (by omega) (fun k s=>s.1=(k:Int)∧s.2=(ps.take k).map fun p=>qy p d x z) _ ⟨rfl,rfl⟩ ?_ ?_
  ·rintro k ⟨i,s⟩ hk ⟨h1,h2⟩
   obtain rfl:i=(k:Int):=h1
   obtain rfl:s=(ps.take k).map fun p=>qy p d x z:=h2
   obtain⟨u,hx⟩:∃u,ps[k]?=some u:=⟨_,List.getElem?_eq_getElem hk⟩
   have hu:=hp u (fU hx)
   have hln:((ps.take k).map fun p=>qy p d x z).length≤k:=by rw[List.length_map,List.length_take];omega
   simp only[D6,Mo.den,aK,aF,aG,aJ,aI,ltt hx,gid hx,cond_true,Option.bind_some,Ym hK (a:=a) h u (by omega)]
   rw[if_pos (by simp only[List.length_cons,List.length_nil];omega)]
   exact T.ret ⟨inc k (by omega),by show _=(ps.take (k+1)).map _;rw[take_snoc hx,List.map_append];rfl⟩
  rintro⟨i,s⟩ ⟨h1,h2⟩
  obtain rfl:i=(ps.length:Int):=h1
  obtain rfl:s=(ps.take ps.length).map fun p=>qy p d x z:=h2
  simp only[D6,Mo.den,aK,aF,aG,aJ,aI,ltn,cond_false]
  exact T.ret (show _=_ by rw[List.take_length])
 obtain⟨r,h,rfl⟩:=this
 exact h
theorem Oz{K:Nat}(hK:K+1048577≤50000000){a:Int}{q:List aj}{d:bg}{x:TxL}{z:SeL}(h:Sv K q d x z)(l:List bI)(hl:bM (l.map bI.lf)≤1048576)(ps:List aU)(hp:∀p∈ps,aT p.eF.lf1≤1048576)(hpl:ps.length≤20)(k:Nat)(hk:k<l.length):
 Tot (Oi q d x z l ps (k:Int) a) (fun r=>match r with
  |.inl _=>False
  |.inr y=>Sv (K+1048577) y.2.2.2.2 y.1 y.2.1 y.2.2.1):=by
 obtain⟨e,hx⟩:∃u,l[k]?=some u:=⟨_,List.getElem?_eq_getElem hk⟩
 have he:=KZ (fU hx)
 obtain⟨r,hr,hq⟩:=aaM hK (a:=a) h e (by omega)
 have hbq:=h.bd.q
 have hst:∀(a:Int) (q:List aj) (d:bg) (x:TxL) (z:SeL),Q80 a q d x z=some ():=fun _ _ _ _ _=>rfl
 unfold Oi F5
 simp only[Mo.den,aK,aF,aG,aJ,aI,Oy (K:=K) (by omega) h l ps hp hpl,hst,Gu (a:=a) (d:=d) (x:=x) (z:=z) (Nat.le_trans hbq (show K≤100000000 by omega)) h.nod,tu a q d x z (Nat.le_trans h.bd.tx (by omega)),gid hx,hr,Option.bind_some]
 rcases hq with⟨q1,q2,q3,q4,q5,q6⟩|⟨q1,q2,q3,q4⟩
 ·obtain⟨r1,r2,r3,r4,r5,r6⟩:=r
  obtain rfl:r2=a:=q2
  obtain rfl:r3=q:=q3
  obtain rfl:r5=x:=q5
  obtain rfl:r6=z:=q6
  have q4:gY d r4:=q4
  have q1:r1≠0:=q1
  have h':=h.ext q4
  rw[show((r1,r2,r3,r4,r5,r6).1==0)=false by simpa using q1]
  have hj11:VQ l ps (ps.map fun p=>qy p d r5 r6) r3 (nT (r5.map fun p=>p.1)) (r1,r2,r3,r4,r5,r6) (k:Int) r2=some false:=by
   unfold VQ TG
   simp only[Mo.den,aK,aF,aG,aJ,aI,hst,Option.bind_some,bne_self_eq_false,cond_false,Gu (a:=r2) (d:=r4) (x:=r5) (z:=r6) (Nat.le_trans hbq (show K≤100000000 by omega)) h.nod,xP r3 (Nat.le_trans hbq (by omega)),Bool.not_true]
  have hj16:VT l ps (ps.map fun p=>qy p d r5 r6) (nT (r5.map fun p=>p.1)) (r1,r2,r3,r4,r5,r6) false (k:Int)=some false:=by
   unfold VT TJ
   simp only[Mo.den,aK,aF,aG,aJ,aI,cond_false,tu r2 r3 r4 r5 r6 (Nat.le_trans h.bd.tx (by omega)),Option.bind_some,iV (nT (r5.map fun p=>p.1)) (by rw[uN,List.length_map];have:=h.bd.tx;omega),Bool.not_true]
  have hl21:afd l ps (ps.map fun p=>qy p d r5 r6) (r1, r2, r3, r4, r5, r6) (k:Int) 0=some (.inr ()):=lY ps (by omega) _ (fun i p hi=>by
   have hpu:=hp p (fU hi)
   have hm:(ps.map fun p=>qy p d r5 r6)[i]?=some (qy p d r5 r6):=by rw[List.getElem?_map,hi];rfl
   simp only[Aw,Mo.den,aK,aF,aG,aJ,aI,ltt hi,gid hi,gid hm,cond_true,cond_false,Option.bind_some,Ym (K:=K) (by omega) (a:=r2) h' p (by omega),afG q4 h.wf,aaR (K:=K) (by omega) h.bd p,Bool.not_true]) (by simp only[Aw,Mo.den,aK,aF,aG,aJ,aI,ltn,cond_false])
  simp only[cond_false,hj11,hj16,hl21,Option.bind_some]
  exact T.ret (h'.le (Nat.le_add_right ..))
 have hj6:Yf l ps r (k:Int) a=some false:=by
  unfold Yf Oh
  simp only[Mo.den,aK,aF,aG,aJ,aI,hst,gid hx,q2,bne_self_eq_false,cond_false,Option.bind_some]
  rw[decide_eq_false (by omega)]
 rw[show(r.1==0)=true by simpa using q1]
 simp only[cond_true,hj6,cond_false,Option.bind_some]
 exact T.ret q4
theorem yS(l:List bI)(ps:List aU)(hl:bM (l.map bI.lf)≤1048576)(hp:∀p∈ps,aT p.eF.lf1≤1048576)(hpl:ps.length≤1048576):Q0 l ps=some true:=by
 obtain⟨b,hb,hbl⟩:=aaS l ps hl hp hpl
 have hn:ahZ=some ():=rfl
 show Mo.den (alr l ps)=_
 simp only[alr,Mo.den,aK,aF,aG,aJ,aI,hb,hn,aaT,Option.bind_some]
 cases b with
 |true=>rfl
 |false=>
  obtain⟨h1,h2⟩:=hbl rfl
  have:Tot (afe l ps 0 (⟨[],[]⟩:bg) [] [] 0 []) (fun r=>r=.inr ()):=by
   refine T.lV l.length (by omega) (fun k s=>s.1=(k:Int)∧Sv (k*1048577) s.2.2.2.2.2 s.2.1 s.2.2.1 s.2.2.2.1) _ ⟨rfl,by rw[Nat.zero_mul];exact sv0⟩ ?_ ?_
   ·rintro k ⟨i,d,x,z,a,q⟩ hk ⟨k1,k2⟩
    obtain rfl:i=(k:Int):=k1
    have k2:Sv (k*1048577) q d x z:=k2
    obtain⟨r,hr,hq⟩:=Oz (a:=a) (by omega) k2 l hl ps hp h2 k hk
    have hlt:decide ((k:Int)<(l.length:Int))=true:=decide_eq_true (by omega)
    simp only[AB,Mo.den,aK,aF,aG,aJ,aI,hlt,cond_true,hr,Option.bind_some]
    rcases r with r|r
    ·exact hq.elim
    exact T.ret ⟨inc k (by omega),by rw[Nat.succ_mul];exact hq⟩
   rintro⟨i,s⟩ ⟨k1,-⟩
   obtain rfl:i=(l.length:Int):=k1
   simp only[AB,Mo.den,aK,aF,aG,aJ,aI,ltn,cond_false]
   exact T.ret rfl
  obtain⟨r,hr,rfl⟩:=this
  simp only[cond_false,hr,Option.bind_some]
theorem GL(v:aU):aT v.eF.lf1+1≤aT v.lf1:=by simp only[aU.lf1,fB,aT,Lf.bulk];omega
theorem aaU{x:aU}{l:List aU}(h:x∈l):aT x.eF.lf1+1≤bM (l.map aU.lf):=Nat.le_trans (GL x) (iw _ h)
theorem Wn(l:List aU):l.length≤bM (l.map aU.lf):=eY _ (fun x=>by have:=GL x;rw[aU.aX];omega) l
theorem yT(l:List bI)(ps:List aU)(h1:bM (l.map bI.lf)≤1048576)(h2:bM (ps.map aU.lf)≤1048576):Q0 l ps=some true:=
 yS l ps h1 (fun p hp=>by have:=aaU hp;omega) (by have:=Wn ps;omega)
end Go.Proofs.YtpdlghcgekojlaaGreatDoor
