/- Plain: what the reference's Valid accepts of values. -/
import Derived.Test.YtflpefkohpjjpaaGreatDoorQJ7
import Derived.Test.YtflpefkohpjjpaaGreatDoorQJR1b
import Derived.Test.YtflpefkohpjjpaaGreatDoorQJNumP
import Derived.Test.YtflpefkohpjjpaaGreatDoorQJRdP
import Derived.Sort.Walk0
import Derived.Lib.ValidLaws
set_option linter.unusedSimpArgs false
set_option linter.unusedVariables false
namespace Go.Proofs.YtflpefkohpjjpaaGreatDoor
open Go.RowKit
theorem afA(s:ByteArray)(i n:Nat)(hs:s.size≤100000000)(hi:i≤s.size)(h1:n≤3):Q40 s (i:Int) (n:Int)=some (jX (rest s i) n):=by
 unfold Q40 adt
 simp only[Mo.den,aB,aG,aK,aF,aJ]
 rw[w64 (by omega) (by omega)]
 by_cases h:s.size<i+n
 ·rw[decide_eq_true (show(s.size:Int)<(i:Int)+(n:Int) by omega)]
  show some false=some (jX (rest s i) n)
  unfold jX
  rw[pR,decide_eq_false (show ¬n≤s.size-i by omega)];rfl
 rw[decide_eq_false (show ¬(s.size:Int)<(i:Int)+(n:Int) by omega)]
 have key:Tot (ads (i:Int) (n:Int) s 0) (fun r=>match r with|.inl _=>jX (rest s i) n=false|.inr _=>jX (rest s i) n=true):=by
  have hT:jX (rest s i) n=((rest s i).take n).all fun c=>gI c.toNat:=by
   unfold jX;rw[pR,decide_eq_true (show n≤s.size-i by omega)];rfl
  rw[hT]
  refine T.kL n (by omega) (fun k v=>v=(k:Int)∧((rest s i).take k).all (fun c=>gI c.toNat)=true) _ ⟨rfl,rfl⟩ ?_ ?_
  ·rintro k v hk ⟨rfl,he⟩
   have hlt:i+k<s.size:=by omega
   have e:iw s (IntKind.wrap .i64 ((i:Int)+(k:Int)))=some s[i+k]:=by
    rw[w64 (by omega) (by omega),show(i:Int)+(k:Int)=((i+k:Nat):Int) by omega];exact jv s _ hlt
   have hg:=PD s i k hlt
   have hc:gI s[i+k].toNat=(decide (128≤s[i+k].toNat)&&decide (s[i+k].toNat≤191)):=rfl
   simp only[pq,CS,Mo.den,aB,aG,aK,aF,aJ,iLt hk,cond_true,e,Option.bind_some]
   have bad:gI s[i+k].toNat=false→((rest s i).take n).all (fun c=>gI c.toNat)=false:=fun h=>by
    rw[List.all_eq_false]
    have hm:(s[i+k])∈(rest s i).take n:=List.mem_of_getElem? (by rw[List.getElem?_take_of_lt hk];exact hg)
    exact⟨_,hm,by rw[h];exact Bool.false_ne_true⟩
   by_cases a1:s[i+k].toNat<128
   ·rw[decide_eq_true (show(s[i+k].toNat:Int)<128 by omega)]
    simp only[cond_true,Option.bind_some]
    exact T.ret (bad (by rw[hc,decide_eq_false (show ¬128≤s[i+k].toNat by omega)];rfl))
   rw[decide_eq_false (show ¬(s[i+k].toNat:Int)<128 by omega)];simp only[cond_false,Option.bind_some]
   by_cases a2:191<s[i+k].toNat
   ·rw[decide_eq_true (show(191:Int)<(s[i+k].toNat:Int) by omega)]
    simp only[cond_true]
    exact T.ret (bad (by rw[hc,decide_eq_false (show ¬s[i+k].toNat≤191 by omega),Bool.and_false]))
   rw[decide_eq_false (show ¬(191:Int)<(s[i+k].toNat:Int) by omega)];simp only[cond_false]
   refine T.ret ⟨inc k (by omega),?_⟩
   rw[yu _ hg,he,hc,decide_eq_true (show 128≤s[i+k].toNat by omega),decide_eq_true (show s[i+k].toNat≤191 by omega)];rfl
  ·rintro v ⟨rfl,he⟩
   simp only[pq,Mo.den,aB,aG,aK,aF,aJ,ltn,cond_false]
   exact T.ret he
 obtain⟨r,h,hr⟩:=key
 simp only[cond_false,h,Option.bind_some]
 rcases r with r|r
 ·have hr:_=false:=hr
  rw[hr]
 ·have hr:_=true:=hr
  rw[hr]
theorem afB(b:UInt8)(s:ByteArray)(v:Int):zB b s v=some (match ng b.toNat with|none=>.inr ()|some n=>.inl (n:Int)):=by
 unfold zB rQ AO AP xg ng
 simp only[Mo.den,aB,aG,aK,aF,aJ]
 generalize b.toNat=n
 by_cases a0:n<128
 ·rw[decide_eq_true (show(n:Int)<128 by omega),if_pos a0];rfl
 rw[decide_eq_false (show ¬(n:Int)<128 by omega),if_neg a0];simp only[cond_false]
 by_cases a1:n<194
 ·rw[decide_eq_false (show ¬(194:Int)≤n by omega),decide_eq_false (show ¬(224:Int)≤n by omega),decide_eq_false (show ¬(240:Int)≤n by omega),if_neg (by omega),if_neg (by omega),if_neg (by omega)];rfl
 rw[decide_eq_true (show(194:Int)≤n by omega)];simp only[cond_true,Option.bind_some]
 by_cases a2:n≤223
 ·rw[decide_eq_true (show(n:Int)≤223 by omega),if_pos (by omega)];rfl
 rw[decide_eq_false (show ¬(n:Int)≤223 by omega),decide_eq_true (show(224:Int)≤n by omega),if_neg (by omega)];simp only[cond_false,cond_true,Option.bind_some]
 by_cases a3:n≤239
 ·rw[decide_eq_true (show(n:Int)≤239 by omega),if_pos (by omega)];rfl
 rw[decide_eq_false (show ¬(n:Int)≤239 by omega),decide_eq_true (show(240:Int)≤n by omega),if_neg (by omega)];simp only[cond_false,cond_true,Option.bind_some]
 by_cases a4:n≤244
 ·rw[decide_eq_true (show(n:Int)≤244 by omega),if_pos (by omega)];rfl
 ·rw[decide_eq_false (show ¬(n:Int)≤244 by omega),if_neg (by omega)];rfl
theorem aiM{b n:Nat}(h:ng b=some n):n≤3∧(n=0→b<128):=by
 unfold ng at h
 repeat' split at h
 all_goals first|cases h|skip
 all_goals omega
theorem aat(b1 b2 b3 b4 d1 d2 d3 d4:Bool){β:Type}(K:Bool→Option β):((bif b1 then some d1 else some false).bind fun r1=>(bif r1 then some true else bif b2 then some d2 else some false).bind fun r2=>(bif r2 then some true else bif b3 then some d3 else some false).bind fun r3=>(bif r3 then some true else bif b4 then some d4 else some false).bind fun r4=>K r4)=K ((b1&&d1)||(b2&&d2)||(b3&&d3)||(b4&&d4)):=by
 cases b1<;>cases d1<;>cases b2<;>cases d2<;>cases b3<;>cases d3<;>cases b4<;>rfl
theorem afC(s:ByteArray)(hs:s.size≤100000000):Q0 s=some (mX s):=by
 have key:Tot (JZ s 0) (fun r=>match r with|.inl _=>mX s=false|.inr _=>mX s=true):=by
  refine mY (T:=fun v_=>(jM s v_).den) (fun v:Int=>∃k:Nat,v=(k:Int)∧k≤s.size∧mX s=Lib.validD (rest s k)) (fun v:Int=>s.size-v.toNat) _ ?_ FU 0 ⟨0,rfl,Nat.zero_le _,rfl⟩ (by have:=gX;omega)
  rintro v ⟨k,rfl,hk,he⟩
  have key:Tot (jM s (k:Int)).den (LP (fun v'=>∃k':Nat,v'=(k':Int)∧k<k'∧k'≤s.size∧mX s=Lib.validD (rest s k')) (fun r=>match r with|.inl _=>mX s=false|.inr _=>mX s=true)):=by
   by_cases hlt:k<s.size
   ·simp only[jM,Mo.den,aB,aG,aK,aF,aJ,iLt hlt,cond_true,jv s k hlt,Option.bind_some,afB]
    cases hu:ng s[k].toNat with
    |none=>exact T.ret (show _=false from he.trans (afy s k hlt hu))
    |some n=>
     obtain⟨hn,hn0⟩:=aiM hu
     simp only[]
     rw[inc k (by omega),afA s (k+1) n hs (by omega) hn]
     simp only[Option.bind_some]
     cases ht:jX (rest s (k+1)) n with
     |false=>exact T.ret (show _=false from he.trans (afz s k n hlt hu ht))
     |true=>
      have hlen:=aas s (k+1) n ht
      have hodd:∃c:Nat,((rest s k).getD 1 0).toNat=c∧∀{β:Type} (K:Bool→Option β),((CU s[k] (n:Int) s (k:Int)).bind fun r1=>(CV s[k] (n:Int) s r1 (k:Int)).bind fun r2=>(CW s[k] (n:Int) s r2 (k:Int)).bind fun r3=>(CX s[k] (n:Int) s r3 (k:Int)).bind fun r4=>K r4)=K (nO s[k].toNat c):=by
       unfold CU xu CV xw CW xA CX xB
       simp only[Mo.den,aB,aG,aK,aF,aJ]
       rw[inc k (by omega)]
       have eb:∀a:Nat,((s[k].toNat:Int)==(a:Int))=(s[k].toNat==a):=fun a=>by rw[Bool.eq_iff_iff];simp;omega
       have e1:=eb 224
       have e2:=eb 237
       have e3:=eb 240
       have e4:=eb 244
       simp only[Int.cast_ofNat_Int] at e1 e2 e3 e4
       rw[e1,e2,e3,e4]
       by_cases h0:n=0
       ·have hb:=hn0 h0
        refine⟨_,rfl,fun K=>?_⟩
        rw[show(s[k].toNat==224)=false by rw[beq_eq_false_iff_ne];omega,show(s[k].toNat==237)=false by rw[beq_eq_false_iff_ne];omega,show(s[k].toNat==240)=false by rw[beq_eq_false_iff_ne];omega,show(s[k].toNat==244)=false by rw[beq_eq_false_iff_ne];omega,TN _ _ (by omega) (by omega) (by omega) (by omega)]
        rfl
       ·have h1:k+1<s.size:=by omega
        refine⟨s[k+1].toNat,by rw[pU s k 1 h1],fun K=>?_⟩
        rw[jv s (k+1) h1]
        simp only[Option.bind_some]
        rw[show decide ((s[k+1].toNat:Int)<160)=decide (s[k+1].toNat<160) by rw[decide_eq_decide];omega,show decide ((159:Int)<(s[k+1].toNat:Int))=decide (159<s[k+1].toNat) by rw[decide_eq_decide];omega,show decide ((s[k+1].toNat:Int)<144)=decide (s[k+1].toNat<144) by rw[decide_eq_decide];omega,show decide ((143:Int)<(s[k+1].toNat:Int))=decide (143<s[k+1].toNat) by rw[decide_eq_decide];omega,aat]
        rfl
      obtain⟨c,hc,hch⟩:=hodd
      simp only[Bool.not_true,cond_false]
      rw[hch]
      cases ho:nO s[k].toNat c with
      |true=>exact T.ret (show _=false from he.trans (aiL s k n c hlt hu hc ho))
      |false=>exact T.ret ⟨k+n+1,by rw[w64 (x:=(k:Int)+(n:Int)) (by omega) (by omega),w64 (by omega) (by omega)];omega,by omega,by omega,he.trans (amH s k n c hlt hu ht hc ho)⟩
   ·simp only[jM,Mo.den,aB,aG,aK,aF,aJ,Xh hlt,cond_false]
    have:k=s.size:=by omega
    refine T.ret (show _=true from he.trans ?_)
    have hn:rest s k=[]:=List.eq_nil_of_length_eq_zero (by rw[pR];omega)
    rw[hn];rfl
  obtain⟨r,h2,h3⟩:=key
  rcases r with v'|r
  ·obtain⟨k',rfl,h4,h5,h6⟩:=h3
   exact .inl ⟨_,h2,⟨k',rfl,h5,h6⟩,by omega⟩
  ·exact .inr ⟨r,h2,h3⟩
 unfold Q0 adu
 simp only[Mo.den,aB,aG,aK,aF,aJ]
 obtain⟨r,h,hr⟩:=key
 rw[h]
 rcases r with r|r
 ·have hr:_=false:=hr
  rw[hr];rfl
 ·have hr:_=true:=hr
  rw[hr];rfl
theorem aau(l:List Nat)(k:Nat):jO (l.take k)≤jO l:=by
 have h:=yx (l.take k) (l.drop k)
 rw[List.take_append_drop] at h
 omega
theorem oM{α β:Type}(f:α→β){l:List α}{k:Nat}{x:α}(h:l[k]?=some x):(l.take (k+1)).map f=(l.take k).map f++[f x]:=by
 have hk:=lu h
 rw[List.take_succ_eq_append_getElem hk,List.map_append]
 have:l[k]=x:=by rw[List.getElem?_eq_getElem hk] at h;injection h
 rw[this];rfl
theorem TP(n:Nat):∀(F:Nat) (v:ah),1≤n→n<F→n≤2000→aP v.lf1≤100000000→(qE F).m1 v (n:Int)=some ((min v.cnt n:Nat):Int):=by
 induction n using Nat.strongRecOn with
 |_ n ih=>
  intro F v h1 hF hn hb
  obtain⟨F,rfl⟩:∃G,F=G+1:=⟨F-1,by omega⟩
  have hpl:=uq v
  have hcp:=zI v
  have key:Tot (adq (qE F) (n:Int) (parts v) 1 0) (fun r=>r=((min v.cnt n:Nat):Int)):=by
   refine T.kL (parts v).length (by omega) (fun k s=>s.2=(k:Int)∧s.1=((min (1+jO (((parts v).take k).map ah.cnt)) n:Nat):Int)) _ ⟨rfl,by show(1:Int)=((min (1+0) n:Nat):Int);omega⟩ ?_ ?_
   ·rintro k ⟨a,i⟩ hk ⟨h3,h4⟩
    obtain rfl:i=(k:Int):=h3
    obtain rfl:a=((min (1+jO (((parts v).take k).map ah.cnt)) n:Nat):Int):=h4
    have hx:=List.getElem?_eq_getElem hk
    have hxb:=lC (iU hx)
    have hsx:jO (((parts v).take (k+1)).map ah.cnt)=jO (((parts v).take k).map ah.cnt)+(parts v)[k].cnt:=by
     rw[oM _ hx,yx];rfl
    have hst:jO (((parts v).take k).map ah.cnt)≤jO ((parts v).map ah.cnt):=by
     rw[List.map_take];exact aau _ _
    unfold o9
    simp only[rP,Mo.den,aB,aG,aK,aF,aJ,ltt hx,gid hx,cond_true,Option.bind_some]
    by_cases hlt:1+jO (((parts v).take k).map ah.cnt)<n
    ·rw[decide_eq_true (show((min (1+jO (((parts v).take k).map ah.cnt)) n:Nat):Int)<(n:Int) by omega), w64 (by omega) (by omega), show(n:Int)-((min (1+jO (((parts v).take k).map ah.cnt)) n:Nat):Int)=((n-(1+jO (((parts v).take k).map ah.cnt)):Nat):Int) by omega, ih _ (by omega) F _ (by omega) (by omega) (by omega) (by omega)]
     simp only[cond_true,Option.bind_some]
     refine T.ret ⟨inc k (by omega),?_⟩
     show IntKind.wrap .i64 (((min (1+jO (((parts v).take k).map ah.cnt)) n:Nat):Int)+((min (parts v)[k].cnt (n-(1+jO (((parts v).take k).map ah.cnt))):Nat):Int))=_
     rw[w64 (by omega) (by omega),hsx];omega
    ·rw[decide_eq_false (show ¬((min (1+jO (((parts v).take k).map ah.cnt)) n:Nat):Int)<(n:Int) by omega)]
     exact T.ret (show _=_ by rw[hcp];omega)
   ·rintro⟨a,i⟩ ⟨h3,h4⟩
    obtain rfl:i=((parts v).length:Int):=h3
    obtain rfl:a=_:=h4
    unfold o9
    simp only[rP,Mo.den,aB,aG,aK,aF,aJ,ltn,cond_false,Option.bind_some]
    refine T.ret (show _=_ from ?_)
    rw[List.take_length,hcp]
  obtain⟨r,hr,rfl⟩:=key
  simp only[qE,Vr,Mo.den,aB,aG,aK,aF,aJ,uo v hb,Option.bind_some,hr]
theorem amI(a b n:Nat):(if((min b n:Nat):Int) > ((min a n:Nat):Int) then((min b n:Nat):Int) else((min a n:Nat):Int))=((min (max a b) n:Nat):Int):=by
 have h1:min (max a b) n=max (min a n) (min b n):=by
  rcases Nat.le_total a b with h|h<;>rcases Nat.le_total a n with h2|h2<;>rcases Nat.le_total b n with h3|h3<;>simp only[Nat.max_eq_left,Nat.max_eq_right,Nat.min_eq_left,Nat.min_eq_right,h,h2,h3]<;>omega
 rw[h1]
 generalize min a n=x
 generalize min b n=y
 by_cases h:(y:Int) > (x:Int)
 ·rw[if_pos h,Nat.max_eq_right (by omega)]
 ·rw[if_neg h,Nat.max_eq_left (by omega)]
theorem PE(n:Nat):∀(F:Nat) (v:ah),1≤n→n<F→n≤2000→aP v.lf1≤100000000→(qC F).m1 v (n:Int)=some ((min v.dep n:Nat):Int):=by
 induction n with
 |zero=>intro F v h;omega
 |succ n ih=>
  intro F v h1 hF hn hb
  obtain⟨F,rfl⟩:∃G,F=G+1:=⟨F-1,by omega⟩
  have hpl:=uq v
  have hcp:=zJ v
  simp only[qC,Vq,CQ,Mo.den,aB,aG,aK,aF,aJ,uo v hb,Option.bind_some]
  by_cases h2:n=0
  ·subst h2
   show some (1:Int)=_
   rw[hcp];congr 1;omega
  rw[decide_eq_false (show ¬((n+1:Nat):Int)<2 by omega)]
  simp only[cond_false,Option.bind_some]
  by_cases hp:parts v=[]
  ·rw[hp] at hcp ⊢
   show some (1:Int)=_
   rw[hcp,show min (1+kM (([]:List ah).map ah.dep)) (n+1)=1 by show min (1+0) (n+1)=1;omega];rfl
  have hlp:1≤(parts v).length:=by cases hq:parts v with|nil=>exact absurd hq hp|cons x r=>simp
  rw[show(((parts v).length:Int)==0)=false by rw[beq_eq_false_iff_ne];omega]
  simp only[cond_false]
  have key:Tot (ado (qC F) ((n+1:Nat):Int) (parts v) 0 0) (fun r=>r=((min (kM ((parts v).map ah.dep)) n:Nat):Int)):=by
   refine T.kL (parts v).length (by omega) (fun k s=>s.2=(k:Int)∧s.1=((min (kM (((parts v).take k).map ah.dep)) n:Nat):Int)) _ ⟨rfl,by show(0:Int)=((min 0 n:Nat):Int);omega⟩ ?_ ?_
   ·rintro k ⟨a,i⟩ hk ⟨h3,h4⟩
    obtain rfl:i=(k:Int):=h3
    obtain rfl:a=((min (kM (((parts v).take k).map ah.dep)) n:Nat):Int):=h4
    have hx:=List.getElem?_eq_getElem hk
    have hxb:=lC (iU hx)
    have hsx:kM (((parts v).take (k+1)).map ah.dep)=max (kM (((parts v).take k).map ah.dep)) (parts v)[k].dep:=by
     rw[oM _ hx,D5];show max _ (max (parts v)[k].dep 0)=_;omega
    simp only[o8,Mo.den,aB,aG,aK,aF,aJ,ltt hx,gid hx,cond_true,Option.bind_some]
    rw[w64 (by omega) (by omega),show((n+1:Nat):Int)-1=(n:Int) by omega,ih F _ (by omega) (by omega) (by omega) (by omega)]
    simp only[Option.bind_some]
    refine T.ret ⟨inc k (by omega),?_⟩
    rw[hsx]
    exact amI _ _ _
   ·rintro⟨a,i⟩ ⟨h3,h4⟩
    obtain rfl:i=((parts v).length:Int):=h3
    obtain rfl:a=_:=h4
    simp only[o8,Mo.den,aB,aG,aK,aF,aJ,ltn,cond_false]
    refine T.ret (show _=_ from ?_)
    rw[List.take_length]
  obtain⟨r,hr,rfl⟩:=key
  rw[hr]
  simp only[Option.bind_some]
  rw[w64 (by omega) (by omega),hcp]
  congr 1;omega
theorem TQ(v:ah)(hb:aP v.lf1≤100000000):adr v=some ((min v.cnt 1025:Nat):Int):=by
 have h:=TP 1025 FU v (by omega) (by have:=gX;omega) (by omega) hb
 have h:Q29 v 1025=_:=h
 simp only[adr,RS,Mo.den,aB,aG,aK,aF,aJ,h,Option.bind_some]
theorem TR(v:ah)(hb:aP v.lf1≤100000000):adp v=some ((min v.dep 17:Nat):Int):=by
 have h:=PE 17 FU v (by omega) (by have:=gX;omega) (by omega) hb
 have h:Q33 v 17=_:=h
 simp only[adp,RQ,Mo.den,aB,aG,aK,aF,aJ,h,Option.bind_some]
end Go.Proofs.YtflpefkohpjjpaaGreatDoor
set_option linter.unusedSimpArgs false
set_option linter.unusedVariables false
namespace Go.Proofs.YtflpefkohpjjpaaGreatDoor
open Go.RowKit
theorem PG(R:kJ)(v:ah)(hl:v.aT.length≤100000000)(h1:∀x∈v.aT,R.m1 x.fValue true=some x.fValue.snd):Mo.den (adw R v true)=some (ay.iP [] v.aT):=by
 unfold adw
 simp only[Mo.den,aB,aG,aK,aF,aJ]
 have key:Tot (RY R true v 0) (fun r=>match r with|.inl _=>ay.iP [] v.aT=false|.inr _=>ay.iP [] v.aT=true):=by
  refine T.kL v.aT.length (by omega) (fun k s=>s=(k:Int)∧ay.iP [] v.aT=ay.iP ((v.aT.take k).map ay.fName).reverse (v.aT.drop k)) _ ⟨rfl,rfl⟩ ?_ ?_
  ·rintro k s hk ⟨rfl,he⟩
   have hx:=List.getElem?_eq_getElem hk
   have hdr:v.aT.drop k=v.aT[k]::v.aT.drop (k+1):=List.drop_eq_getElem_cons hk
   have q1:=h1 v.aT[k] (List.getElem_mem hk)
   have hm:((v.aT.take (k+1)).map ay.fName).reverse=v.aT[k].fName::((v.aT.take k).map ay.fName).reverse:=by
    rw[oM _ hx,List.reverse_append];rfl
   have hin:Tot (RX R true v (k:Int) v.aT[k] 0) (fun r=>match r with|.inl _=>hasB v.aT[k].fName ((v.aT.take k).map ay.fName).reverse=true|.inr _=>hasB v.aT[k].fName ((v.aT.take k).map ay.fName).reverse=false):=by
    have hB:hasB v.aT[k].fName ((v.aT.take k).map ay.fName).reverse=((v.aT.take k).map ay.fName).any (fun q=>decide (v.aT[k].fName=q)):=by unfold hasB;rw[List.any_reverse]
    rw[hB]
    refine T.kL k (by omega) (fun j w=>w=(j:Int)∧∀q∈v.aT.take j,¬q.fName=v.aT[k].fName) _ ⟨rfl,by simp⟩ ?_ ?_
    ·rintro j w hj ⟨rfl,hq⟩
     have hy:=List.getElem?_eq_getElem (show j<v.aT.length by omega)
     simp only[rV,Mo.den,aB,aG,aK,aF,aJ,iLt hj,gid hy,cond_true,Option.bind_some]
     by_cases e:v.aT[j].fName=v.aT[k].fName
     ·rw[decide_eq_true e]
      refine T.ret (show _=true from ?_)
      rw[List.any_eq_true]
      exact⟨_,List.mem_map.2 ⟨v.aT[j],List.mem_of_getElem? (by rw[List.getElem?_take_of_lt hj];exact hy),rfl⟩,decide_eq_true e.symm⟩
     ·rw[decide_eq_false e]
      refine T.ret ⟨inc j (by omega),fun q hm=>?_⟩
      rw[List.take_succ_eq_append_getElem (lu hy),List.mem_append] at hm
      rcases hm with hm|hm
      ·exact hq q hm
      ·rw[List.mem_singleton.1 hm];exact e
    ·rintro w ⟨rfl,hq⟩
     simp only[rV,Mo.den,aB,aG,aK,aF,aJ,ltn,cond_false]
     refine T.ret (show _=false from ?_)
     rw[List.any_eq_false]
     intro q hm
     obtain⟨y,hy,rfl⟩:=List.mem_map.1 hm
     rw[decide_eq_false fun e=>hq y hy e.symm];exact Bool.false_ne_true
   rw[hdr] at he
   have hf:ay.iP ((v.aT.take k).map ay.fName).reverse (v.aT[k]::v.aT.drop (k+1))=((nameB v.aT[k].fName&&!hasB v.aT[k].fName ((v.aT.take k).map ay.fName).reverse)&&(v.aT[k].fValue.snd&&ay.iP (v.aT[k].fName::((v.aT.take k).map ay.fName).reverse) (v.aT.drop (k+1)))):=by
    cases v.aT[k] with|mk n x=>rw[D6];simp only[ay.fName,ay.fValue]
   rw[hf,←hm] at he
   obtain⟨r,hin,hr⟩:=hin
   simp only[rW,J6,J7,Dq,Mo.den,aB,aG,aK,aF,aJ,ltt hx,gid hx,cond_true,Option.bind_some,lS,q1,hin]
   cases a:nameB v.aT[k].fName with
   |false=>rw[a] at he;exact T.ret (show _=false by rw[he];rfl)
   |true=>
    cases c:v.aT[k].fValue.snd with
    |false=>rw[a,c] at he;exact T.ret (show _=false by rw[he];simp)
    |true=>
     rw[a,c] at he
     rcases r with r|r
     ·have hr:_=true:=hr
      rw[hr] at he
      exact T.ret (show _=false by rw[he];rfl)
     ·have hr:_=false:=hr
      rw[hr] at he
      exact T.ret ⟨inc k (by omega),by rw[he];rfl⟩
  ·rintro s ⟨rfl,he⟩
   rw[List.drop_length,zK] at he
   simp only[rW,Mo.den,aB,aG,aK,aF,aJ,ltn,cond_false]
   exact T.ret he
 obtain⟨r,h,hr⟩:=key
 rw[h]
 rcases r with r|r
 ·have hr:_=false:=hr
  rw[hr];all_goals rfl
 ·have hr:_=true:=hr
  rw[hr];all_goals rfl
theorem TS(R:kJ)(v:ah)(hl:v.aU.length≤100000000)(h1:∀x∈v.aU,R.m1 x true=some x.snd):Tot (RV R true v 0) (fun r=>match r with|.inl _=>ah.iP v.aU=false|.inr _=>ah.iP v.aU=true):=by
 rw[yA]
 refine T.kL v.aU.length (by omega) (fun k s=>s=(k:Int)∧(v.aU.take k).all ah.snd=true) _ ⟨rfl,by simp⟩ ?_ ?_
 ·rintro k s hk ⟨rfl,he⟩
  have hx:=List.getElem?_eq_getElem hk
  simp only[rU,Mo.den,aB,aG,aK,aF,aJ,ltt hx,gid hx,cond_true,Option.bind_some,h1 _ (List.getElem_mem hk)]
  cases c:v.aU[k].snd with
  |false=>exact T.ret (TF _ hx c)
  |true=>exact T.ret ⟨inc k (by omega),by rw[yu _ hx,he,c];rfl⟩
 ·rintro s ⟨rfl,he⟩
  simp only[rU,Mo.den,aB,aG,aK,aF,aJ,ltn,cond_false]
  rw[List.take_length] at he
  exact T.ret he
theorem PI:∀(F:Nat) (v:ah),2*aP v.lf1≤F→aP v.lf1≤100000000→(jT F).m1 v true=some v.snd:=by
 intro F
 induction F using Nat.strongRecOn with
 |_ F ih=>
 intro v hF hb
 have hp:=bQ v
 have hl:=fG v.aU
 have hd:=fH v.aT
 obtain⟨F,rfl⟩:∃G,F=G+2:=⟨F-2,by omega⟩
 show Mo.den (adv (jT (F+1)) v true)=_
 have hL:=TS (jT (F+1)) v (by omega) fun x hx=>ih (F+1) (by omega) x (by have:=iK hx;omega) (by have:=iK hx;omega)
 have hD:(jT (F+1)).m2 v true=some (ay.iP [] v.aT):=PG (jT F) v (by omega) fun x hx=>ih F (by omega) x.fValue (by have:=fE hx;rw[dY] at this;omega) (by have:=fE hx;rw[dY] at this;omega)
 have hU:=afC v.fText (by omega)
 obtain⟨r0,hL,hr0⟩:=hL
 clear ih hF hb hp hl hd
 rw[Ld]
 unfold adv
 simp only[J4,J5,CY,CZ,C9,Dc,Df,Dh,Di,Dj,Dk,Dl,Dn,Dp,Mo.den,aB,aG,aK,aF,aJ,hL,hD,hU]
 clear hL hD hU
 generalize v.au=k at *
 generalize v.dD=i at *
 generalize v.fText=s at *
 generalize v.aU=l at *
 generalize v.aT=d at *
 unfold yY oD
 have ei:(i != 0)=!(i==0):=rfl
 have es:∀dd:Decidable (s=(⟨#[]⟩:ByteArray)),@decide _ dd=decide (s.size=0):=fun dd=>by
  by_cases h:s.size=0
  ·rw[decide_eq_true h,decide_eq_true (size_nil (by omega))]
  ·rw[decide_eq_false h,decide_eq_false (Ws (by omega))]
 have el:decide ((0:Int)<(l.length:Int))=!(l.length==0):=by
  cases l with
  |nil=>rfl
  |cons x r=>rw[decide_eq_true (show(0:Int)<((x::r).length:Int) by rw[List.length_cons];omega)];rfl
 have ed:decide ((0:Int)<(d.length:Int))=!(d.length==0):=by
  cases d with
  |nil=>rfl
  |cons x r=>rw[decide_eq_true (show(0:Int)<((x::r).length:Int) by rw[List.length_cons];omega)];rfl
 simp only[ei,es,el,ed]
 have e4:decide ((s.size:Int)≤4096)=decide (s.size≤4096):=by rw[Bool.eq_iff_iff];simp;omega
 have e12:((s.size:Int)==12)=decide (s.size=12):=by rw[Bool.eq_iff_iff];simp;omega
 simp only[e4,e12]
 have hl0:(l.length==0)=true→ah.iP l=true:=fun h=>by
  have:l=[]:=List.eq_nil_of_length_eq_zero (by simpa using h)
  rw[this];unfold ah.iP;rfl
 have hd0:(d.length==0)=true→ay.iP [] d=true:=fun h=>by
  have:d=[]:=List.eq_nil_of_length_eq_zero (by simpa using h)
  rw[this];unfold ay.iP;rfl
 clear ei es el ed e4 e12
 generalize ah.iP l=A at *
 generalize ay.iP [] d=B at *
 generalize (l.length==0)=nl at *
 generalize (d.length==0)=nd at *
 generalize mX s=u at *
 generalize decide (s.size≤4096)=c1 at *
 generalize decide (s.size=12)=c2 at *
 generalize decide (s.size=0)=c3 at *
 have hk:k=1∨k=2∨k=3∨k=4∨k=5∨k=6∨k=7∨k=8∨k=9∨k=10∨k=11∨(k≠1∧k≠2∧k≠3∧k≠4∧k≠5∧k≠6∧k≠7∧k≠8∧k≠9∧k≠10∧k≠11):=by omega
 rcases hk with rfl|rfl|rfl|rfl|rfl|rfl|rfl|rfl|rfl|rfl|rfl|⟨n1,n2,n3,n4,n5,n6,n7,n8,n9,n10,n11⟩
 case inr.inr.inr.inr.inr.inr.inr.inr.inr.inr.inr=>
  have f:∀c:Int,k≠c→(k==c)=false:=fun c h=>by simpa using h
  simp only[bne,f _ n1,f _ n2,f _ n3,f _ n4,f _ n5,f _ n6,f _ n7,f _ n8,f _ n9,f _ n10,f _ n11]
  simp only[n1,n2,n3,n4,n5,n6,n7,n8,n9,n10,n11,or_self,if_false,decide_false]
  rcases(show k<1∨11<k by omega) with h|h
  ·rw[decide_eq_true h];cases nl<;>cases nd<;>cases c3<;>cases (i==0)<;>rfl
  ·rw[decide_eq_true h,decide_eq_false (show ¬k<1 by omega)];cases nl<;>cases nd<;>cases c3<;>cases (i==0)<;>rfl
 all_goals (rcases r0 with r0|r0<;>(have hr0:A=_:=hr0;subst hr0))
 all_goals simp(decide:=true) only[if_true,if_false]
 all_goals (cases nl<;>cases nd<;>cases c3<;>cases (i==0)<;>first|rfl|skip)
 all_goals (first|(cases B<;>first|rfl|(exact absurd (hl0 rfl) (by decide))|(exact absurd (hd0 rfl) (by decide))|skip)|skip)
 all_goals (cases u<;>cases c1<;>cases c2<;>first|rfl|(cases (i==1)<;>rfl)|(cases decide (0≤i)<;>rfl))
theorem TU(v:ah)(hb:aP v.lf1≤100000000):Q1 v true=some v.snd:=PI FU v (by have:=gX;omega) hb
theorem D7(v:ah)(hb:aP v.lf1≤100000000):Q65 v=some (pO v):=by
 simp only[Q65,adx,Mo.den,aB,aG,aK,aF,aJ,TQ v hb,TR v hb,TU v hb,Option.bind_some,pO]
 rw[show decide (((min v.cnt 1025:Nat):Int)≤1024)=decide (v.cnt≤1024) by rw[Bool.eq_iff_iff];simp;omega,show decide (((min v.dep 17:Nat):Int)≤16)=decide (v.dep≤16) by rw[Bool.eq_iff_iff];simp;omega]
 cases decide (v.cnt≤1024)<;>cases decide (v.dep≤16)<;>rfl
end Go.Proofs.YtflpefkohpjjpaaGreatDoor
set_option linter.unusedSimpArgs false
set_option linter.unusedVariables false
namespace Go.Proofs.YtflpefkohpjjpaaGreatDoor
open Go.RowKit
def vO{ε:Type}(f:Nat→Option ε):Nat→Nat→Option ε
 |_,0=>none
 |k,n+1=>match f k with|some e=>some e|none=>vO f (k+1) n
def afD{ε:Type}:Option ε→ε⊕Unit
 |some e=>.inl e
 |none=>.inr ()
theorem PK{ε:Type}{T:Int→Option (Int⊕(ε⊕Unit))}(f:Nat→Option ε)(n:Nat)(hn:n≤1000000000)(h:∀k:Nat,k<n→T (k:Int)=some (match f k with|some e=>.inr (.inl e)|none=>.inl (IntKind.wrap .i64 ((k:Int)+1))))(he:T (n:Int)=some (.inr (.inr ()))):
 ∀m k F,k+m=n→m<F→bP T F (k:Int)=some (afD (vO f k m)):=by
 intro m
 induction m with
 |zero=>
  intro k F hk hF
  obtain⟨F,rfl⟩:∃G,F=G+1:=⟨F-1,by omega⟩
  obtain rfl:k=n:=by omega
  unfold bP
  rw[he];rfl
 |succ m ih=>
  intro k F hk hF
  obtain⟨F,rfl⟩:∃G,F=G+1:=⟨F-1,by omega⟩
  unfold bP vO
  rw[h k (by omega)]
  cases f k with
  |some e=>rfl
  |none=>
   show bP T F (IntKind.wrap .i64 ((k:Int)+1))=_
   rw[inc k (by omega)]
   exact ih (k+1) F (by omega) (by omega)
theorem TV{ε:Type}{T:Int→Option (Int⊕(ε⊕Unit))}(f:Nat→Option ε)(n:Nat)(hn:n≤1000000000)(h:∀k:Nat,k<n→T (k:Int)=some (match f k with|some e=>.inr (.inl e)|none=>.inl (IntKind.wrap .i64 ((k:Int)+1))))(he:T (n:Int)=some (.inr (.inr ()))):
 bP T FU 0=some (afD (vO f 0 n)):=PK f n hn h he n 0 FU (by omega) (by have:=gX;omega)
def hit(b:Bool):Option Unit:=bif b then some () else none
end Go.Proofs.YtflpefkohpjjpaaGreatDoor
set_option linter.unusedSimpArgs false
set_option linter.unusedVariables false
namespace Go.Proofs.YtflpefkohpjjpaaGreatDoor
open Go.RowKit
theorem len0{α:Type}{l:List α}(h:((l.length:Int)==0)=true):l=[]:=by
 have h:(l.length:Int)=0:=eq_of_beq h
 exact List.eq_nil_of_length_eq_zero (by omega)
def again(l:List ByteArray)(x:ByteArray)(k:Nat):Option Unit:=vO (fun j=>match l[j]? with|some y=>hit (decide (y=x))|none=>none) 0 k
end Go.Proofs.YtflpefkohpjjpaaGreatDoor
set_option linter.unusedSimpArgs false
set_option linter.unusedVariables false
namespace Go.Proofs.YtflpefkohpjjpaaGreatDoor
open Go.RowKit
theorem jc{α:Type}(b:Bool)(x y:α):(bif b then some x else some y)=some (bif b then x else y):=by cases b<;>rfl
end Go.Proofs.YtflpefkohpjjpaaGreatDoor
set_option linter.unusedSimpArgs false
set_option linter.unusedVariables false
namespace Go.Proofs.YtflpefkohpjjpaaGreatDoor
open Go.RowKit
def Wu{α:Type}(g:α→Nat→Int×Nat):List α→Nat→Int×Nat
 |[],n=>(0,n)
 |x::r,n=>bif (g x n).1 != 0 then g x n else Wu g r (g x n).2
end Go.Proofs.YtflpefkohpjjpaaGreatDoor
set_option linter.unusedSimpArgs false
set_option linter.unusedVariables false
namespace Go.Proofs.YtflpefkohpjjpaaGreatDoor
open Go.RowKit
structure apB {α:Type} (g:α→Nat→Int×Nat) (l:List α) (n k:Nat) (s:Int×Int):Prop where
 i:s.2=(k:Int)
 h:(∃m:Nat,m≤256∧s.1=256-(m:Int)∧Wu g l n=Wu g (l.drop k) m)∨(s.1 = -1∧((Wu g l n).1 != 0)=true)
end Go.Proofs.YtflpefkohpjjpaaGreatDoor
set_option linter.unusedSimpArgs false
set_option linter.unusedVariables false
namespace Go.Proofs.YtflpefkohpjjpaaGreatDoor
open Go.RowKit
theorem aok(x y:Bool):(bif x then y else false)=(x&&y):=by cases x<;>rfl
end Go.Proofs.YtflpefkohpjjpaaGreatDoor
set_option linter.unusedSimpArgs false
set_option linter.unusedVariables false
namespace Go.Proofs.YtflpefkohpjjpaaGreatDoor
open Go.RowKit
end Go.Proofs.YtflpefkohpjjpaaGreatDoor
set_option linter.unusedSimpArgs false
set_option linter.unusedVariables false
namespace Go.Proofs.YtflpefkohpjjpaaGreatDoor
open Go.RowKit
end Go.Proofs.YtflpefkohpjjpaaGreatDoor
set_option linter.unusedSimpArgs false
set_option linter.unusedVariables false
namespace Go.Proofs.YtflpefkohpjjpaaGreatDoor
mutual
def aav:Lf→Prop
 |.int k n=>(Lit.int k n).wf=true
 |.str s=>s.size≤maxLen
 |.bool _=>True
 |.rows _ l=>l.length≤maxLen∧IU l
def PL:List Lf→Prop
 |[]=>True
 |x::r=>aav x∧PL r
def IU:List (List Lf)→Prop
 |[]=>True
 |r::q=>PL r∧IU q
end
mutual
theorem LRp.fit {I:Gh}:∀(x:Lf) (v:Value),LRp I x v→aav x
 |.int k n,v,h=>by unfold aav;exact h.int.2
 |.str s,v,h=>by unfold aav;exact h.str.2
 |.bool b,v,h=>by unfold aav;trivial
 |.rows n l,v,h=>by
  unfold LRp at h
  unfold aav
  obtain⟨a,c,h1,h2,h3,h4⟩:=h
  refine⟨Nat.le_trans h2 h3,?_⟩
  cases l with
  |nil=>unfold IU;trivial
  |cons r q=>
   obtain⟨b,off,e,hr⟩:=h4 (by simp)
   exact RRp.fit b n off (r::q) hr
theorem RRp.fit {I:Gh} (b n:Nat):∀(o:Nat) (l:List (List Lf)),RRp I b n o l→IU l
 |_,[],_=>by unfold IU;trivial
 |o,r::q,hl=>by
  unfold RRp at hl
  unfold IU
  exact⟨CRp.fit b o r hl.2.1,RRp.fit b n (o+n) q hl.2.2⟩
theorem CRp.fit {I:Gh} (b:Nat):∀(o:Nat) (r:List Lf),CRp I b o r→PL r
 |_,[],_=>by unfold PL;trivial
 |o,x::r,hl=>by
  unfold CRp at hl
  unfold PL
  obtain⟨⟨v,h1,h2⟩,h3⟩:=hl
  exact⟨LRp.fit x v h2,CRp.fit b (o+1) r h3⟩
end
theorem dB.fit{I:Gh}:∀(r:List Lf) (cs:List Value),dB I r cs→PL r
 |[],_,_=>by unfold PL;trivial
 |x::r,_,h=>by
  obtain⟨c,q,e,h1,h2⟩:=h
  unfold PL
  exact⟨h1.fit,dB.fit r q h2⟩
end Go.Proofs.YtflpefkohpjjpaaGreatDoor
set_option linter.unusedSimpArgs false
set_option linter.unusedVariables false
namespace Go.Proofs.YtflpefkohpjjpaaGreatDoor
open Go.RowKit
end Go.Proofs.YtflpefkohpjjpaaGreatDoor
set_option linter.unusedSimpArgs false
set_option linter.unusedVariables false
namespace Go.Proofs.YtflpefkohpjjpaaGreatDoor
open Go.RowKit
noncomputable def apu(n:Int):ByteArray:=(ak9 n).getD ⟨#[]⟩
noncomputable def jC(n:Int):List Int:=numsOf (apu n)
noncomputable def kN(s:ByteArray):List Int:=jC (s.size:Int)++numsOf s
def mO(b:Bool):List Int:=bif b then [1] else [0]
noncomputable def D8{α:Type}(e:α→List Int)(l:List α):List Int:=jC (l.length:Int)++(l.map e).flatten
structure Wrt (F:aA→Option aA) (e:List Int) (b:Bool):Prop where
 h:∀w,w.bH.length+e.length≤100000000000→F w=some ⟨w.bH++e,w.dH||b⟩
theorem Wrt.of{F F':aA→Option aA}{e:List Int}{b:Bool}(h:∀w,F w=F' w)(k:Wrt F' e b):Wrt F e b:=⟨fun w hw=>(h w).trans (k.h w hw)⟩
theorem Wrt.bind{F G:aA→Option aA}{e e':List Int}{b b':Bool}(h:Wrt F e b)(k:Wrt G e' b'):Wrt (fun w=>(F w).bind G) (e++e') (b||b'):=⟨fun w hw=>by
 rw[List.length_append] at hw
 show(F w).bind G=_
 rw[h.h w (by omega),Option.bind_some,k.h _ (by rw[List.length_append];omega),List.append_assoc,Bool.or_assoc]⟩
theorem Wrt.last{F:aA→Option aA}{e:List Int}{b:Bool}(h:Wrt F e b):Wrt (fun w=>(F w).bind some) e b:=⟨fun w hw=>by
 show(F w).bind some=_
 rw[h.h w hw];rfl⟩
theorem pV{α:Type}(f:α→List Int){l:List α}{k:Nat}{x:α}(h:l[k]?=some x):((l.take (k+1)).map f).flatten=((l.take k).map f).flatten++f x:=by
 have hk:=lu h
 have:l[k]=x:=by rw[List.getElem?_eq_getElem hk] at h;injection h
 rw[List.take_succ_eq_append_getElem hk,List.map_append,List.flatten_append,this];simp
theorem qN{α:Type}(f:α→List Int)(l:List α)(k:Nat):((l.take k).map f).flatten.length≤(l.map f).flatten.length:=by
 have:(l.map f).flatten=((l.take k).map f).flatten++((l.drop k).map f).flatten:=by rw[←List.flatten_append,←List.map_append,List.take_append_drop]
 rw[this,List.length_append];omega
end Go.Proofs.YtflpefkohpjjpaaGreatDoor
set_option linter.unusedSimpArgs false
set_option linter.unusedVariables false
namespace Go.Proofs.YtflpefkohpjjpaaGreatDoor
open Go.RowKit
def D9(u:Nat):List Int:=(aoj u).map fun b=>(b.toNat:Int)
theorem sG(a b:List Int):strOfNums (a++b)=strOfNums a++strOfNums b:=by
 apply ByteArray.ext
 apply Array.ext'
 rw[ByteArray.data_append,Array.toList_append,strOfNums_data,strOfNums_data,strOfNums_data,List.map_append]
end Go.Proofs.YtflpefkohpjjpaaGreatDoor
set_option linter.unusedSimpArgs false
set_option linter.unusedVariables false
namespace Go.Proofs.YtflpefkohpjjpaaGreatDoor
open Go.RowKit
def zs(k:Nat):List UInt8:=List.replicate k 0
end Go.Proofs.YtflpefkohpjjpaaGreatDoor
set_option linter.unusedSimpArgs false
set_option linter.unusedVariables false
namespace Go.Proofs.YtflpefkohpjjpaaGreatDoor
open Go.RowKit
end Go.Proofs.YtflpefkohpjjpaaGreatDoor
set_option linter.unusedSimpArgs false
set_option linter.unusedVariables false
namespace Go.Proofs.YtflpefkohpjjpaaGreatDoor
open Go.RowKit
mutual
def vb:ah→List Int
 |.mk k i t l d=>IntKind.wrap .u8 k::(bif k==3||k==10 then D9 (zz i) else bif k==9 then [IntKind.wrap .u8 i] else bif k==4||k==7 then D9 (zz (t.size:Int))++numsOf t else bif k==8 then numsOf t else bif k==6 then D9 (zz (l.length:Int))++vbL l else bif k==5 then D9 (zz (d.length:Int))++vbD d else [])
def vbL:List ah→List Int
 |[]=>[]
 |x::r=>vb x++vbL r
def vbD:List ay→List Int
 |[]=>[]
 |.mk n v::r=>(D9 (zz (n.size:Int))++numsOf n++vb v)++vbD r
end
theorem uw{α:Type}(e:α→List Int)(lf:α→List Lf)(l:List α)(h:∀x∈l,(e x).length≤12*aP (lf x)):((l.map e).flatten).length≤12*bK (l.map lf):=by
 induction l with
 |nil=>exact Nat.zero_le _
 |cons x r ih=>
  simp only[List.map_cons,List.flatten_cons,List.length_append,bK]
  have:=h x (List.mem_cons_self ..)
  have:=ih fun y hy=>h y (List.mem_cons_of_mem _ hy)
  omega
theorem Ea{α:Type}{L:Int×List Int→Option ((Int×List Int)⊕List Int)}(l:List α)(hl:l.length≤100000000)(e:α→List Int)(B:Nat)
 (hs:∀(k:Nat) (x:α) (bs:List Int),l[k]?=some x→bs.length+(e x).length≤B→L ((k:Int),bs)=some (.inl (IntKind.wrap .i64 ((k:Int)+1),bs++e x)))
 (he:∀bs,L ((l.length:Int),bs)=some (.inr bs)) (acc:List Int) (hb:acc.length+((l.map e).flatten).length≤B):bP L FU (0,acc)=some (acc++(l.map e).flatten):=by
 have key:Tot (bP L FU (0,acc)) (fun q=>q=acc++(l.map e).flatten):=by
  refine T.kL l.length (by omega) (fun k s=>s=((k:Int),acc++((l.take k).map e).flatten)) _ (by simp) ?_ ?_
  ·rintro k s hk rfl
   have hx:=List.getElem?_eq_getElem hk
   have h1:=qN e l (k+1)
   rw[pV e hx,List.length_append] at h1
   rw[hs k _ _ hx (by rw[List.length_append];omega)]
   refine T.ret ?_
   show _=_
   rw[inc k (by omega),pV e hx,List.append_assoc]
  ·rintro s rfl
   rw[he,List.take_length]
   exact T.ret rfl
 obtain⟨q,h,rfl⟩:=key
 exact h
theorem uy{α:Type}{L:ByteArray×Int→Option ((ByteArray×Int)⊕ByteArray)}(l:List α)(hl:l.length≤100000000)(e:α→List Int)(B:Nat)
 (hs:∀(k:Nat) (x:α) (bs:ByteArray),l[k]?=some x→bs.size+(e x).length≤B→L (bs,(k:Int))=some (.inl (bs++strOfNums (e x),IntKind.wrap .i64 ((k:Int)+1))))
 (he:∀bs,L (bs,(l.length:Int))=some (.inr bs)) (acc:ByteArray) (hb:acc.size+((l.map e).flatten).length≤B):bP L FU (acc,0)=some (acc++strOfNums ((l.map e).flatten)):=by
 have key:Tot (bP L FU (acc,0)) (fun q=>q=acc++strOfNums ((l.map e).flatten)):=by
  refine T.kL l.length (by omega) (fun k s=>s=(acc++strOfNums (((l.take k).map e).flatten),(k:Int))) _ (by show(acc,(0:Int))=(acc++ByteArray.empty,((0:Nat):Int));rw[ByteArray.append_empty];rfl) ?_ ?_
  ·rintro k s hk rfl
   have hx:=List.getElem?_eq_getElem hk
   have h1:=qN e l (k+1)
   rw[pV e hx,List.length_append] at h1
   rw[hs k _ _ hx (by rw[ByteArray.size_append,strOfNums_size];omega)]
   refine T.ret ?_
   show _=_
   rw[inc k (by omega),pV e hx,sG,ByteArray.append_assoc]
  ·rintro s rfl
   rw[he,List.take_length]
   exact T.ret rfl
 obtain⟨q,h,rfl⟩:=key
 exact h
end Go.Proofs.YtflpefkohpjjpaaGreatDoor
set_option linter.unusedSimpArgs false
set_option linter.unusedVariables false
namespace Go.Proofs.YtflpefkohpjjpaaGreatDoor
open Go.RowKit
end Go.Proofs.YtflpefkohpjjpaaGreatDoor
set_option linter.unusedSimpArgs false
set_option linter.unusedVariables false
namespace Go.Proofs.YtflpefkohpjjpaaGreatDoor
open Go.RowKit
noncomputable def apv(v:ah):ByteArray:=((anI v).getD (⟨#[]⟩,0)).1
noncomputable def qO(v:ah):List Int:=bif Wn v then [0] else bif pO v then [1]++numsOf (apv v) else []
def qP(v:ah):Bool:=!Wn v&&!pO v
end Go.Proofs.YtflpefkohpjjpaaGreatDoor
set_option linter.unusedSimpArgs false
set_option linter.unusedVariables false
namespace Go.Proofs.YtflpefkohpjjpaaGreatDoor
open Go.RowKit
theorem bsm{α:Type}(x:Option α):(x.bind fun r=>some r)=x:=by cases x<;>rfl
theorem Ba(a:Int)(l:List Int):strOfNums (a::l)=strOfNums [a]++strOfNums l:=sG [a] l
theorem aiN(s:ByteArray):strOfNums (numsOf s)=s:=by
 apply ByteArray.ext
 apply Array.ext'
 rw[strOfNums_data]
 unfold numsOf
 rw[List.map_map]
 conv=>rhs;rw[←List.map_id s.data.toList]
 refine List.map_congr_left fun x _=>?_
 show UInt8.ofNat ((x.toNat:Int)).toNat=x
 rw[Int.toNat_natCast];exact UInt8.ofNat_toNat
end Go.Proofs.YtflpefkohpjjpaaGreatDoor
set_option linter.unusedSimpArgs false
set_option linter.unusedVariables false
namespace Go.Proofs.YtflpefkohpjjpaaGreatDoor
open Go.RowKit
set_option maxRecDepth 20000
set_option maxHeartbeats 4000000
noncomputable section
abbrev aiO(m:Int→fA→Option (ah×fA)):Prop:=∀p_level p_b0,FH (m p_level p_b0) 234 [.ptr 0 0,.i_ p_level] [abq p_b0] (fun r=>.dat (ah.lf1 r.1)) (fun r=>[abq r.2])
structure apC where
 m1:(p_level:Int)→(p_b0:fA)→Option (ah×fA)
 ok1:aiO m1
abbrev aiP(m:Int→eH→Option (aO×eH)):Prop:=∀p_depth p_b0,FH (m p_depth p_b0) 237 [.ptr 0 0,.i_ p_depth] [zY p_b0] (fun r=>.dat (aO.lf1 r.1)) (fun r=>[zY r.2])
structure apD where
 m1:(p_depth:Int)→(p_b0:eH)→Option (aO×eH)
 ok1:aiP m1
abbrev aiQ(m:Int→eH→Option (aN×eH)):Prop:=∀p_depth p_b0,FH (m p_depth p_b0) 153 [.ptr 0 0,.i_ p_depth] [zY p_b0] (fun r=>.dat (aN.lf1 r.1)) (fun r=>[zY r.2])
structure apE where
 m1:(p_depth:Int)→(p_b0:eH)→Option (aN×eH)
 ok1:aiQ m1
abbrev aiR(m:Int→eH→Option (aH×eH)):Prop:=∀p_depth p_b0,FH (m p_depth p_b0) 151 [.ptr 0 0,.i_ p_depth] [zY p_b0] (fun r=>.dat (aH.lf1 r.1)) (fun r=>[zY r.2])
structure apF where
 m1:(p_depth:Int)→(p_b0:eH)→Option (aH×eH)
 ok1:aiR m1
end
end Go.Proofs.YtflpefkohpjjpaaGreatDoor
set_option linter.unusedSimpArgs false
set_option linter.unusedVariables false
namespace Go.Proofs.YtflpefkohpjjpaaGreatDoor
open Go.RowKit
set_option maxRecDepth 20000
set_option maxHeartbeats 4000000
noncomputable section
abbrev aiS(m:Int→eH→Option (ak×eH)):Prop:=∀p_depth p_b0,FH (m p_depth p_b0) 43 [.ptr 0 0,.i_ p_depth] [zY p_b0] (fun r=>.dat (ak.lf1 r.1)) (fun r=>[zY r.2])
structure apG where
 m1:(p_depth:Int)→(p_b0:eH)→Option (ak×eH)
 ok1:aiS m1
def afE(p_w:ak):Mo (List ak):=
 .iB (p_w.au==8) (.ret (aX 1) (p_w.aY))<|
 .cl (VQ p_w.au) fun r0 _=>
 .iB (r0) (.say [.at_ 0 0,.pY 1 ([p_w].map ak.lf)] (ok1 (by simp[ak.aS]:[p_w].map ak.lf=[(ak.lf1 p_w)]))<|
 .ret (aX 1) ([p_w]))<|
 .ret ⟨[.nil 0 78,.tod 0],[0],[],0⟩ ([])
def amJ(p_w:ak):Option (List ak):=Mo.den (afE p_w)
theorem aiT(p_w:ak):FV (amJ p_w) 22 [.dat (ak.lf1 p_w)] (fun r=>.lf (.rows 78 (r.map ak.lf))):=bW Tryz.func22
def afF(p_a:ak)(p_b:ak):Mo (Bool):=
 .cl (Vy (bG.mk 0 0 ⟨#[]⟩ 0 p_a) (bG.mk 0 0 ⟨#[]⟩ 0 p_b)) fun r0 _=>
 .ret (aX 1) (r0)
def amK(p_a:ak)(p_b:ak):Option (Bool):=Mo.den (afF p_a p_b)
theorem aiU(p_a:ak)(p_b:ak):FV (amK p_a p_b) 46 [.dat (ak.lf1 p_a),.dat (ak.lf1 p_b)] .b_:=bW Tryz.func46
def yB(p_s1:List ak)(p_s2:List ak):(Int)→Mo ((Int)⊕(Unit⊕Unit)):=fun(v0)=>
 .iB (decide ((v0:Int)<(p_s1.length:Int))) (.gx ak.aS p_s1 v0 fun x0 _=>
 .gx ak.aS p_s2 v0 fun x1 _=>
 .cl (aiU x0 x1) fun r0 _=>
 .iB (!r0) (.rt [6] 0 (.inr (.inl ())))<|
 .rt [1,2,15,16,17] 0 (.inl (IntKind.wrap .i64 (v0+1))))<|
 .rt [] 0 (.inr (.inr (())))
def Lh(p_s1:List ak)(p_s2:List ak)(v0:Int):Option (Unit⊕Unit):=bP (fun v_=>(yB p_s1 p_s2 v_).den) FU (v0)
def ajR(p_s1:List ak)(p_s2:List ak):Mo (Bool):=
 .nu p_s1 ak.lf<|
 .nu p_s2 ak.lf<|
 .iB ((p_s1.length:Int) != (p_s2.length:Int)) (.rt [0] 0 (false))<|
 .nu p_s1 ak.lf<|
 .l2m [] Tryz.f45 0 [1,1,0,1,0] 0 (fun(v0)=>⟨[(1,.lf (.rows 78 (p_s2.map ak.lf))),(2,.raw (.func (.func 46) #[] #[])),(15,.lf (.rows 78 (p_s1.map ak.lf))),(16,.i_ (p_s1.length:Int)),(17,.i_ v0)],[]⟩) .ret (fun _=>⟨[(6,.b_ false)],[]⟩) (.exit 0) (fun _=>⟨[],[]⟩) (Lh p_s1 p_s2 0) (yB p_s1 p_s2) (0) (fun o0=>
 .rt [0] 0 (false)) fun o1=>
 .rt [0] 0 (true)
def Q46(p_s1:List ak)(p_s2:List ak):Option (Bool):=Mo.den (ajR p_s1 p_s2)
theorem amL(p_s1:List ak)(p_s2:List ak):FH (Q46 p_s1 p_s2) 45 [.lf (.rows 78 (p_s1.map ak.lf)),.lf (.rows 78 (p_s2.map ak.lf)),.raw (.func (.func 46) #[] #[])] [] .b_ (fun _=>[]):=dX Tryz.func45
def afG(p_a:List ak)(p_b:List ak):Mo (Bool):=
 .cH [] (amL p_a p_b) fun r0 _=>
 .ret (aX 1) (r0)
def amM(p_a:List ak)(p_b:List ak):Option (Bool):=Mo.den (afG p_a p_b)
theorem aiV(p_a:List ak)(p_b:List ak):FV (amM p_a p_b) 20 [.lf (.rows 78 (p_a.map ak.lf)),.lf (.rows 78 (p_b.map ak.lf))] .b_:=bW Tryz.func20
def afH(p_v:ah):Mo (Bool):=
 .sf Tryz.f173 0 [1,0] 0 8 1 [(1,.ptr 0 0),(2,.b_ false)] [aZ p_v] 10 (wM p_v) fun r0=>
 .sb Tryz.f173 0 [1,0] 8 5 1 [(1,.ptr 0 0),(2,.b_ false)] [aZ p_v] 10 15 r0 (wO p_v r0) fun r1=>
 .sb Tryz.f173 0 [1,0] 13 6 1 [(1,.ptr 0 0),(2,.b_ false)] [aZ p_v] 15 21 r1 (rJ p_v r1) fun r2=>
 .sk Tryz.f173 0 [1,0] 19 6 1 (fun r_=>⟨[(2,.b_ false),(27,.b_ r_)],[.dead]⟩) ⟨[(1,.ptr 0 0),(2,.b_ false),(21,.b_ r2)],[aZ p_v]⟩ (rM p_v r2) fun r3=>
 .sk Tryz.f173 0 [1,0] 25 1 1 (fun r_=>⟨[(2,.b_ r3)],[.dead]⟩) ⟨[(2,.b_ false),(27,.b_ r3)],[.dead]⟩ (fU r3) fun r4=>
 .ret (aX 1) (r3)
def amN(p_v:ah):Option (Bool):=Mo.den (afH p_v)
theorem aiW(p_v:ah):FV (amN p_v) 173 [.dat (ah.lf1 p_v)] .b_:=bW Tryz.func173
def yC(p_n:Int):(ByteArray×Int)→Mo ((ByteArray×Int)⊕(ByteArray)):=fun(v0,v1)=>
 .iB (decide ((v1:Int)<8)) (.say [.nums [IntKind.wrap .u8 (kR .u64 (dI .xor .u64 (IntKind.wrap .u64 p_n) 9223372036854775808) (IntKind.wrap .i64 (56-(IntKind.wrap .i64 (8*v1)))))]] ok0<|
 .grd ((0:Int)≤(IntKind.wrap .i64 (56-(IntKind.wrap .i64 (8*v1))))) fun h0=>
 .say [] (okc h0 (ok1 (by simp[lfI,lfK]:[((lfK .u8) (IntKind.wrap .u8 (kR .u64 (dI .xor .u64 (IntKind.wrap .u64 p_n) 9223372036854775808) (IntKind.wrap .i64 (56-(IntKind.wrap .i64 (8*v1)))))))]=[IntKind.wrap .u8 (kR .u64 (dI .xor .u64 (IntKind.wrap .u64 p_n) 9223372036854775808) (IntKind.wrap .i64 (56-(IntKind.wrap .i64 (8*v1)))))].map fun n=>[Lf.int .u8 n])))<|
 .grd (v0.size+(strOfNums [IntKind.wrap .u8 (kR .u64 (dI .xor .u64 (IntKind.wrap .u64 p_n) 9223372036854775808) (IntKind.wrap .i64 (56-(IntKind.wrap .i64 (8*v1)))))]).size≤9223372036854775807) fun h1=>
 .say [] (ok1 h1)<|
 .rt [3,4,5] 0 (.inl (v0++(strOfNums [IntKind.wrap .u8 (kR .u64 (dI .xor .u64 (IntKind.wrap .u64 p_n) 9223372036854775808) (IntKind.wrap .i64 (56-(IntKind.wrap .i64 (8*v1)))))]),IntKind.wrap .i64 (v1+1))))<|
 .rt [4] 0 (.inr (v0))
def afI(p_n:Int)(v0:ByteArray)(v1:Int):Option (ByteArray):=bP (fun v_=>(yC p_n v_).den) FU (v0,v1)
def ajS(p_n:Int):Mo (ByteArray):=
 .l1m [] Tryz.f250 0 [1,1,1,0,1,0] 0 (.exit 0) (fun(v0,v1)=>⟨[(3,.lf (.int .u64 (dI .xor .u64 (IntKind.wrap .u64 p_n) 9223372036854775808))),(4,.lf (.str v0)),(5,.i_ v1)],[]⟩) (fun r_=>⟨[(4,.lf (.str r_))],[]⟩) (afI p_n ⟨#[]⟩ 0) (yC p_n) (⟨#[]⟩,0) fun r0=>
 .ret (aX 1) (r0)
def Q77(p_n:Int):Option (ByteArray):=Mo.den (ajS p_n)
theorem amO(p_n:Int):FV (Q77 p_n) 250 [.i_ p_n] (fun r=>.lf (.str r)):=bW Tryz.func250
def PN(p_t:ByteArray)(v0:ByteArray)(v1:Int):Mo (ByteArray):=
 .grd ((0:Int)≤v1∧v1≤(IntKind.wrap .i64 (v1+1))∧(IntKind.wrap .i64 (v1+1))≤(p_t.size:Int)) fun h0=>
 .say [] (ok1 h0)<|
 .grd (v0.size+(p_t.extract v1.toNat (IntKind.wrap .i64 (v1+1)).toNat).size≤9223372036854775807) fun h1=>
 .say [] (ok1 h1)<|
 .ask (iw p_t v1) fun b0 h2=>
 .say [.byt b0] (ok1 (dL h2))<|
 .iB ((b0.toNat:Int)==0) (.grd ((v0++(p_t.extract v1.toNat (IntKind.wrap .i64 (v1+1)).toNat)).size+(⟨#[255]⟩:ByteArray).size≤9223372036854775807) fun h3=>
 .say [] (ok1 h3)<|
 .rt [0,3,4] 0 ((v0++(p_t.extract v1.toNat (IntKind.wrap .i64 (v1+1)).toNat))++⟨#[255]⟩))<|
 .rt [0,3,4] 0 (v0++(p_t.extract v1.toNat (IntKind.wrap .i64 (v1+1)).toNat))
def yD(p_t:ByteArray):(ByteArray×Int)→Mo ((ByteArray×Int)⊕(ByteArray)):=fun(v0,v1)=>
 .iB (decide ((v1:Int)<(p_t.size:Int))) (.jk Tryz.f251 0 [1,1,0,1,0,0,1,0] 8 (fun r_=>⟨[(0,.lf (.str p_t)),(3,.lf (.str r_)),(4,.i_ v1)],[]⟩) ⟨[(0,.lf (.str p_t)),(3,.lf (.str v0)),(4,.i_ v1)],[]⟩ (PN p_t v0 v1) fun r0=>
 .rt [0,3,4] 0 (.inl (r0,IntKind.wrap .i64 (v1+1))))<|
 .rt [3] 0 (.inr (v0))
def afJ(p_t:ByteArray)(v0:ByteArray)(v1:Int):Option (ByteArray):=bP (fun v_=>(yD p_t v_).den) FU (v0,v1)
def ajT(p_t:ByteArray):Mo (ByteArray):=
 .l1m [] Tryz.f251 0 [1,1,0,1,0] 0 (.exit 0) (fun(v0,v1)=>⟨[(0,.lf (.str p_t)),(3,.lf (.str v0)),(4,.i_ v1)],[]⟩) (fun r_=>⟨[(3,.lf (.str r_))],[]⟩) (afJ p_t ⟨#[]⟩ 0) (yD p_t) (⟨#[]⟩,0) fun r0=>
 .grd (r0.size+(⟨#[0,0]⟩:ByteArray).size≤9223372036854775807) fun h0=>
 .say [] (ok1 h0)<|
 .ret (aX 1) (r0++⟨#[0,0]⟩)
def Q64(p_t:ByteArray):Option (ByteArray):=Mo.den (ajT p_t)
theorem amP(p_t:ByteArray):FV (Q64 p_t) 251 [.lf (.str p_t)] (fun r=>.lf (.str r)):=bW Tryz.func251
abbrev Lj(m:ah→Option (ByteArray)):Prop:=∀p_v,FV (m p_v) 175 [.dat (ah.lf1 p_v)] (fun r=>.lf (.str r))
structure EX where
 m1:(p_v:ah)→Option (ByteArray)
 ok1:Lj m1
def PO(R_:EX)(p_v:ah):Mo (Bool):=
 .iB (p_v.au==3) (.rt [1,3,12,13] 2 (p_v.au==3))<|
 .iB (p_v.au==9) (.rt [1,3,12,13] 2 (p_v.au==9))<|
 .rt [1,3,12,13] 2 (p_v.au==10)
def PS(R_:EX)(p_v:ah):Mo (Bool):=
 .iB (p_v.au==4) (.rt [1,3,12,22] 2 (p_v.au==4))<|
 .iB (p_v.au==7) (.rt [1,3,12,22] 2 (p_v.au==7))<|
 .rt [1,3,12,22] 2 (p_v.au==8)
def uz(R_:EX)(p_v:ah):(ByteArray×Int)→Mo ((ByteArray×Int)⊕(ByteArray)):=fun(v0,v1)=>
 .nu p_v.aU ah.lf<|
 .iB (decide ((v1:Int)<(p_v.aU.length:Int))) (.gx ah.aS p_v.aU v1 fun x0 _=>
 .cl (R_.ok1 x0) fun r0 _=>
 .grd ((⟨#[1]⟩:ByteArray).size+r0.size≤9223372036854775807) fun h0=>
 .say [] (ok1 h0)<|
 .grd (v0.size+((⟨#[1]⟩:ByteArray)++r0).size≤9223372036854775807) fun h1=>
 .say [] (ok1 h1)<|
 .rt [1,3,4] 2 (.inl (v0++((⟨#[1]⟩:ByteArray)++r0),IntKind.wrap .i64 (v1+1))))<|
 .ret ⟨[.kill 0],[3],[],2⟩ (.inr (v0))
def Wv(R_:EX)(p_v:ah)(v0:ByteArray)(v1:Int):Option (ByteArray):=bP (fun v_=>(uz R_ p_v v_).den) FU (v0,v1)
def uD(R_:EX)(p_v:ah):(ByteArray×Int)→Mo ((ByteArray×Int)⊕(ByteArray)):=fun(v0,v1)=>
 .nu p_v.aT ay.lf<|
 .iB (decide ((v1:Int)<(p_v.aT.length:Int))) (.say [.order [(true,0),(true,1),(true,2),(true,3),(true,4),(true,5),(true,6),(true,7),(true,8),(true,9),(true,10),(true,11),(true,12),(true,13),(true,14),(false,15),(true,16),(true,17),(true,18)] none []] ok0<|
 .gx ay.aS p_v.aT v1 fun x0 _=>
 .grd ((⟨#[1]⟩:ByteArray).size+x0.fName.size≤9223372036854775807) fun h0=>
 .say [] (ok1 h0)<|
 .grd (((⟨#[1]⟩:ByteArray)++x0.fName).size+(⟨#[0]⟩:ByteArray).size≤9223372036854775807) fun h1=>
 .say [] (ok1 h1)<|
 .gx ay.aS p_v.aT v1 fun x1 _=>
 .cl (R_.ok1 x1.fValue) fun r0 _=>
 .grd ((((⟨#[1]⟩:ByteArray)++x0.fName)++⟨#[0]⟩).size+r0.size≤9223372036854775807) fun h2=>
 .say [] (ok1 h2)<|
 .grd (v0.size+((((⟨#[1]⟩:ByteArray)++x0.fName)++⟨#[0]⟩)++r0).size≤9223372036854775807) fun h3=>
 .say [] (ok1 h3)<|
 .rt [1,3,5] 2 (.inl (v0++((((⟨#[1]⟩:ByteArray)++x0.fName)++⟨#[0]⟩)++r0),IntKind.wrap .i64 (v1+1))))<|
 .ret ⟨[.kill 0],[3],[],2⟩ (.inr (v0))
def Wx(R_:EX)(p_v:ah)(v0:ByteArray)(v1:Int):Option (ByteArray):=bP (fun v_=>(uD R_ p_v v_).den) FU (v0,v1)
def IV(R_:EX)(p_v:ah):Mo (ByteArray):=
 .jk Tryz.f175 0 [1,1,0,1,0,0,1] 1 (fun r_=>⟨[(1,.ptr 0 0),(3,.lf (.str (strOfNums [IntKind.wrap .u8 p_v.au]))),(12,.i_ p_v.au),(13,.b_ r_)],[aZ p_v,.dead]⟩) ⟨[(1,.ptr 0 0),(3,.lf (.str (strOfNums [IntKind.wrap .u8 p_v.au]))),(12,.i_ p_v.au),(13,.lf (.bool (p_v.au==3)))],[aZ p_v,.dead]⟩ (PO R_ p_v) fun r0=>
 .iB (r0) (.cl (amO p_v.dD) fun r1 _=>
 .grd ((strOfNums [IntKind.wrap .u8 p_v.au]).size+r1.size≤9223372036854775807) fun h0=>
 .say [] (ok1 h0)<|
 .ret ⟨[.kill 0],[3],[],2⟩ ((strOfNums [IntKind.wrap .u8 p_v.au])++r1))<|
 .jk Tryz.f175 0 [1,1,0,1,0,1,1,0,1] 1 (fun r_=>⟨[(1,.ptr 0 0),(3,.lf (.str (strOfNums [IntKind.wrap .u8 p_v.au]))),(12,.i_ p_v.au),(22,.b_ r_)],[aZ p_v,.dead]⟩) ⟨[(1,.ptr 0 0),(3,.lf (.str (strOfNums [IntKind.wrap .u8 p_v.au]))),(12,.i_ p_v.au),(22,.lf (.bool (p_v.au==4)))],[aZ p_v,.dead]⟩ (PS R_ p_v) fun r2=>
 .iB (r2) (.cl (amP p_v.fText) fun r3 _=>
 .grd ((strOfNums [IntKind.wrap .u8 p_v.au]).size+r3.size≤9223372036854775807) fun h1=>
 .say [] (ok1 h1)<|
 .ret ⟨[.kill 0],[3],[],2⟩ ((strOfNums [IntKind.wrap .u8 p_v.au])++r3))<|
 .iB (p_v.au==6) (.l1m [] Tryz.f175 0 [1,1,0,1,0,1,1,1,1,1,0,0,1,0] 0 (.exit 1) (fun(v0,v1)=>⟨[(1,.ptr 0 0),(3,.lf (.str v0)),(4,.i_ v1)],[aZ p_v,.dead]⟩) (fun r_=>⟨[(3,.lf (.str r_))],[.dead,.dead]⟩) (Wv R_ p_v (strOfNums [IntKind.wrap .u8 p_v.au]) 0) (uz R_ p_v) ((strOfNums [IntKind.wrap .u8 p_v.au]),0) fun r4=>
 .grd (r4.size+(⟨#[0]⟩:ByteArray).size≤9223372036854775807) fun h2=>
 .say [] (ok1 h2)<|
 .rt [3] 2 (r4++⟨#[0]⟩))<|
 .iB (p_v.au==5) (.l1m [] Tryz.f175 0 [1,1,0,1,0,1,1,1,1,1,1,1,0,0,1,0] 0 (.exit 3) (fun(v2,v3)=>⟨[(1,.ptr 0 0),(3,.lf (.str v2)),(5,.i_ v3)],[aZ p_v,.dead]⟩) (fun r_=>⟨[(3,.lf (.str r_))],[.dead,.dead]⟩) (Wx R_ p_v (strOfNums [IntKind.wrap .u8 p_v.au]) 0) (uD R_ p_v) ((strOfNums [IntKind.wrap .u8 p_v.au]),0) fun r5=>
 .grd (r5.size+(⟨#[0]⟩:ByteArray).size≤9223372036854775807) fun h3=>
 .say [] (ok1 h3)<|
 .rt [3] 2 (r5++⟨#[0]⟩))<|
 .ret ⟨[.kill 0],[3],[],2⟩ (strOfNums [IntKind.wrap .u8 p_v.au])
def Wy(R_:EX)(p_v:ah):Mo (ByteArray):=
 .say [.nums [IntKind.wrap .u8 p_v.au]] (ok1 (by simp[lfI,lfK]:[((lfK .u8) (IntKind.wrap .u8 p_v.au))]=[IntKind.wrap .u8 p_v.au].map fun n=>[Lf.int .u8 n]))<|
 .jy [.kill 1] Tryz.f175 0 [1,1,0,1] 6 (.normal) (fun r_=>⟨[(3,.lf (.str r_))],[.dead,.dead]⟩) ⟨[(1,.ptr 0 0),(3,.lf (.str (strOfNums [IntKind.wrap .u8 p_v.au]))),(12,.i_ p_v.au)],[aZ p_v,.dead]⟩ (IV R_ p_v) fun r0=>
 .ret (aX 1) (r0)
theorem aiX(R_:EX):Lj fun p_v=>Mo.den (Wy R_ p_v):=fun _=>bW Tryz.func175
def sH:Nat→EX
 |0=>{ m1:=fun p_v=>none,ok1:=fun _ _ h=>(by cases h) }
 |n_+1=>{ m1:=fun p_v=>Mo.den (Wy (sH n_) p_v),ok1:=aiX (sH n_) }
def Q16(p_v:ah):Option (ByteArray):=(sH FU).m1 p_v
theorem afK:Lj Q16:=(sH FU).ok1
def aaw(p_s:ByteArray):(ByteArray×Int)→Mo ((ByteArray×Int)⊕(ByteArray)):=fun(v0,v1)=>
 .iB (decide ((v1:Int)<(p_s.size:Int))) (.ask (iw p_s v1) fun b0 h0=>
 .say [.byt b0,.nums [dI .xor .u8 (IntKind.max .u8) (b0.toNat:Int)]] (okc (dL h0) (ok1 (by simp[lfI,lfK]:[((lfK .u8) (dI .xor .u8 (IntKind.max .u8) (b0.toNat:Int)))]=[dI .xor .u8 (IntKind.max .u8) (b0.toNat:Int)].map fun n=>[Lf.int .u8 n])))<|
 .grd (v0.size+(strOfNums [dI .xor .u8 (IntKind.max .u8) (b0.toNat:Int)]).size≤9223372036854775807) fun h1=>
 .say [] (ok1 h1)<|
 .rt [0,3,4] 0 (.inl (v0++(strOfNums [dI .xor .u8 (IntKind.max .u8) (b0.toNat:Int)]),IntKind.wrap .i64 (v1+1))))<|
 .rt [3] 0 (.inr (v0))
def amQ(p_s:ByteArray):Mo (ByteArray):=
 .l1 Tryz.f174 0 [1,1,0,1,0] 0 (.exit 0) (fun(v0,v1)=>⟨[(0,.lf (.str p_s)),(3,.lf (.str v0)),(4,.i_ v1)],[]⟩) (fun r_=>⟨[(3,.lf (.str r_))],[]⟩) (aaw p_s) (⟨#[]⟩,0) fun r0=>
 .ret (aX 1) (r0)
def apw(p_s:ByteArray):Option (ByteArray):=Mo.den (amQ p_s)
theorem aiY(p_s:ByteArray):FV (apw p_s) 174 [.lf (.str p_s)] (fun r=>.lf (.str r)):=bW Tryz.func174
def PU(p_desc:List Bool)(p_l:List ah)(v0:ByteArray)(v1:Int):Mo (Bool):=
 .gx ah.aS p_l v1 fun x0 _=>
 .cl (aiW x0) fun r0 _=>
 .iG 16006 (!r0) (.gx ah.aS p_l v1 fun x1 _=>
 .cl (qF x1) fun r1 _=>
 .rt [0,1,6,7,32] 0 (!r1))<|
 .rt [0,1,6,7,32] 0 (false)
def PV(p_desc:List Bool)(p_l:List ah)(v0:ByteArray)(v1:Int):Mo (Unit⊕(ByteArray)):=
 .jk Tryz.f108 0 [1,1,1,0,1,0,0,1,0,0,0,0] 21 (fun r_=>⟨[(0,.lf (.rows 5 (p_l.map ah.lf))),(1,.lf (.rows 1 (p_desc.map lfB))),(6,.lf (.str v0)),(7,.i_ v1),(32,.b_ r_)],[]⟩) ⟨[(0,.lf (.rows 5 (p_l.map ah.lf))),(1,.lf (.rows 1 (p_desc.map lfB))),(6,.lf (.str v0)),(7,.i_ v1)],[]⟩ (PU p_desc p_l v0 v1) fun r0=>
 .iB (r0) (.rt [4,5] 0 (.inl ()))<|
 .ask (ig p_desc v1) fun x0 h0=>
 .say [.row (lfB x0)] (ok1 (dS (fun _=>rfl) h0:(0:Int)≤v1∧(p_desc.map lfB)[v1.toNat]?=some (lfB x0)))<|
 .iB (x0) (.gx ah.aS p_l v1 fun x1 _=>
 .cl (afK x1) fun r1 _=>
 .cl (aiY r1) fun r2 _=>
 .grd (v0.size+r2.size≤9223372036854775807) fun h1=>
 .say [] (ok1 h1)<|
 .rt [0,1,6,7] 0 (.inr ((v0++r2))))<|
 .gx ah.aS p_l v1 fun x2 _=>
 .cl (afK x2) fun r3 _=>
 .grd (v0.size+r3.size≤9223372036854775807) fun h2=>
 .say [] (ok1 h2)<|
 .rt [0,1,6,7] 0 (.inr ((v0++r3)))
def lD(p_desc:List Bool)(p_l:List ah):(ByteArray×Int)→Mo ((ByteArray×Int)⊕(Unit⊕(ByteArray))):=fun(v0,v1)=>
 .nu p_l ah.lf<|
 .iB (decide ((v1:Int)<(p_l.length:Int))) (.j2 [] Tryz.f108 0 [1,1,1,0,1,0,0,1,0] 8 .ret (fun _=>⟨[(4,.lf (.str ⟨#[]⟩)),(5,.i_ 8)],[]⟩) .normal (fun o_=>⟨[(0,.lf (.rows 5 (p_l.map ah.lf))),(1,.lf (.rows 1 (p_desc.map lfB))),(6,.lf (.str o_)),(7,.i_ v1)],[]⟩) ⟨[(0,.lf (.rows 5 (p_l.map ah.lf))),(1,.lf (.rows 1 (p_desc.map lfB))),(6,.lf (.str v0)),(7,.i_ v1)],[]⟩ (PV p_desc p_l v0 v1) (fun o0=>
 .rt [4,5] 0 (.inr (.inl ()))) fun o1=>
 .rt [0,1,6,7] 0 (.inl (o1,IntKind.wrap .i64 (v1+1))))<|
 .rt [6] 0 (.inr (.inr (v0)))
def Ll(p_desc:List Bool)(p_l:List ah)(v0:ByteArray)(v1:Int):Option (Unit⊕(ByteArray)):=bP (fun v_=>(lD p_desc p_l v_).den) FU (v0,v1)
def ajU(p_l:List ah)(p_desc:List Bool):Mo (ByteArray×Int):=
 .nu p_l ah.lf<|
 .nu p_desc lfB<|
 .iB ((p_l.length:Int) != (p_desc.length:Int)) (.ret (aX 2) (⟨#[]⟩,1))<|
 .l2m [] Tryz.f108 0 [1,1,1,0,1,0] 0 (fun(v0,v1)=>⟨[(0,.lf (.rows 5 (p_l.map ah.lf))),(1,.lf (.rows 1 (p_desc.map lfB))),(6,.lf (.str v0)),(7,.i_ v1)],[]⟩) .ret (fun _=>⟨[(4,.lf (.str ⟨#[]⟩)),(5,.i_ 8)],[]⟩) (.exit 0) (fun o_=>⟨[(6,.lf (.str o_))],[]⟩) (Ll p_desc p_l ⟨#[]⟩ 0) (lD p_desc p_l) (⟨#[]⟩,0) (fun o0=>
 .ret (aX 2) (⟨#[]⟩,8)) fun o1=>
 .ret (aX 2) (o1,0)
def Q30(p_l:List ah)(p_desc:List Bool):Option (ByteArray×Int):=Mo.den (ajU p_l p_desc)
theorem amR(p_l:List ah)(p_desc:List Bool):FV (Q30 p_l p_desc) 108 [.lf (.rows 5 (p_l.map ah.lf)),.lf (.rows 1 (p_desc.map lfB))] (fun r=>.tup [.lf (.str r.1),.i_ r.2]):=bW Tryz.func108
def afL(p_space:ByteArray)(p_id:ah):Mo (ByteArray):=
 .say [.at_ 4 5,.pY 1 ([ah.mk 4 0 p_space [] [],p_id].map ah.lf),.pY 2 ([false,false].map lfB)] (okc (by simp[ah.aS]:[ah.mk 4 0 p_space [] [],p_id].map ah.lf=[(ah.lf1 (ah.mk 4 0 p_space [] [])),(ah.lf1 p_id)]) (ok1 (by simp[lfB]:[false,false].map lfB=[(lfB false),(lfB false)])))<|
 .cl (amR [ah.mk 4 0 p_space [] [],p_id] [false,false]) fun r0 _=>
 .ret (aX 1) (r0.1)
def aiZ(p_space:ByteArray)(p_id:ah):Option (ByteArray):=Mo.den (afL p_space p_id)
theorem ai0(p_space:ByteArray)(p_id:ah):FV (aiZ p_space p_id) 54 [.lf (.str p_space),.dat (ah.lf1 p_id)] (fun r=>.lf (.str r)):=bW Tryz.func54
def PW(l0:List ByteArray)(p_w:ak)(r0:ByteArray)(v0:Int)(v1:Int):Mo (Bool):=
 .iG 24002 (decide ((0:Int)<v1)) (.ask (ig l0 (IntKind.wrap .i64 (v1-1))) fun x0 h0=>
 .say [.row (lfS x0)] (okc (iV lS_ h0) (ok1 ((dS lS_ h0).2)))<|
 .rt [3,4,5,6,7,53] 5 (!(Op.bytesLess (x0:ByteArray).toList (r0:ByteArray).toList||decide ((x0:ByteArray)=(r0:ByteArray)))))<|
 .rt [3,4,5,6,7,53] 5 (false)
def Eb(l0:List ByteArray)(p_w:ak)(r0:ByteArray)(v0:Int):(Int)→Mo ((Int)⊕(Int)):=fun(v1)=>
 .jk Tryz.f25 0 [1,1,1,1,1,0,1,0,0,1,0,0,1,1,1,0,0,0,0,0] 29 (fun r_=>⟨[(3,.own 3),(4,.own 4),(5,.i_ v0),(6,.lf (.str r0)),(7,.i_ v1),(53,.b_ r_)],[.dead,.dead,.dead,.row 49 78 (([p_w]++p_w.aY).map ak.lf),.row 9 1 (l0.map lfS)]⟩) ⟨[(3,.own 3),(4,.own 4),(5,.i_ v0),(6,.lf (.str r0)),(7,.i_ v1)],[.dead,.dead,.dead,.row 49 78 (([p_w]++p_w.aY).map ak.lf),.row 9 1 (l0.map lfS)]⟩ (PW l0 p_w r0 v0 v1) fun r1=>
 .iB (r1) (.rt [3,4,5,6,7] 5 (.inl (IntKind.wrap .i64 (v1-1))))<|
 .rt [3,4,5,6,7] 5 (.inr (v1))
def Lm(l0:List ByteArray)(p_w:ak)(r0:ByteArray)(v0:Int)(v1:Int):Option (Int):=bP (fun v_=>(Eb l0 p_w r0 v0 v_).den) FU (v1)
def zL(l0:List ByteArray)(p_w:ak)(r0:ByteArray)(r1:Int)(v0:Int):Mo (Bool):=
 .iG 28002 (decide ((0:Int)<r1)) (.ask (ig l0 (IntKind.wrap .i64 (r1-1))) fun x0 h0=>
 .say [.row (lfS x0)] (okc (iV lS_ h0) (ok1 ((dS lS_ h0).2)))<|
 .rt [3,4,5,6,7,66] 5 (decide ((x0:ByteArray)=(r0:ByteArray))))<|
 .rt [3,4,5,6,7,66] 5 (false)
def uF(l0:List ByteArray)(p_w:ak)(v0:Int):Mo (((List ByteArray))):=
 .ask (ig ([p_w]++p_w.aY) v0) fun x0 h0=>
 .say [.row (ak.lf1 x0)] (okc (iV ak.aS h0) (ok1 ((dS ak.aS h0).2)))<|
 .cl (AY x0.au) fun r0 _=>
 .iB (!r0) (.rt [3,4,5] 5 (l0))<|
 .ask (ig ([p_w]++p_w.aY) v0) fun x1 h1=>
 .say [] (okc (iV ak.aS h1) (ok1 ((dS ak.aS h1).2)))<|
 .ask (ig ([p_w]++p_w.aY) v0) fun x2 h2=>
 .say [] (okc (iV ak.aS h2) (ok1 ((dS ak.aS h2).2)))<|
 .ask (aiZ x1.fC x2.fO) fun r1 h3=>
 .say [.iD (.q 0 (.q 1 (.q 2 (.q 3 (.q 4 (.q 5 (.q 6 (.q 7 (.q 8 (.q 9 (.l 10 (.q 11 .fin)))))))))))) (some 10) [] [.row (ak.lf1 x1),.row (ak.lf1 x2),.res (.lf (.str r1))] [3,4,5,6] 5 [(3,.own 3),(4,.own 4),(5,.i_ v0),(6,.lf (.str r1))] [.dead,.dead,.dead,.row 49 78 (([p_w]++p_w.aY).map ak.lf),.row 9 1 (l0.map lfS)],.num l0.length] (okc (ai0 _ _ _ h3) (okc (rf_ ⟨[(3,.own 3),(4,.own 4),(5,.i_ v0),(6,.lf (.str r1))],[.dead,.dead,.dead,.row 49 78 (([p_w]++p_w.aY).map ak.lf),.row 9 1 (l0.map lfS)]⟩) (ok1 (ln_ l0 lfS))))<|
 .l1m [] Tryz.f25 0 [1,1,1,1,1,0,1,0,0,1,0,0,1,1,1,0,0] 0 (.exit 2) (fun(v1)=>⟨[(3,.own 3),(4,.own 4),(5,.i_ v0),(6,.lf (.str r1)),(7,.i_ v1)],[.dead,.dead,.dead,.row 49 78 (([p_w]++p_w.aY).map ak.lf),.row 9 1 (l0.map lfS)]⟩) (fun r_=>⟨[(3,.own 3),(4,.own 4),(5,.i_ v0),(6,.lf (.str r1)),(7,.i_ r_)],[.dead,.dead,.dead,.row 49 78 (([p_w]++p_w.aY).map ak.lf),.row 9 1 (l0.map lfS)]⟩) (Lm l0 p_w r1 v0 (l0.length:Int)) (Eb l0 p_w r1 v0) ((l0.length:Int)) fun r2=>
 .jk Tryz.f25 0 [1,1,1,1,1,0,1,0,0,1,0,0,1,1,1,1,0,0] 33 (fun r_=>⟨[(3,.own 3),(4,.own 4),(5,.i_ v0),(6,.lf (.str r1)),(7,.i_ r2),(66,.b_ r_)],[.dead,.dead,.dead,.row 49 78 (([p_w]++p_w.aY).map ak.lf),.row 9 1 (l0.map lfS)]⟩) ⟨[(3,.own 3),(4,.own 4),(5,.i_ v0),(6,.lf (.str r1)),(7,.i_ r2)],[.dead,.dead,.dead,.row 49 78 (([p_w]++p_w.aY).map ak.lf),.row 9 1 (l0.map lfS)]⟩ (zL l0 p_w r1 r2 v0) fun r3=>
 .iB (r3) (.rt [3,4,5] 5 (l0))<|
 .say [.at_ 32 3,.frz 4,.rows ((l0.take r2.toNat).map lfS),.rows ((l0.take r2.toNat).map lfS),.rows (((l0.take r2.toNat)++[r1]).map lfS),.rows ((l0.drop r2.toNat).map lfS),.rows ((((l0.take r2.toNat)++[r1])++(l0.drop r2.toNat)).map lfS)] (ok1 (by first|(simp[lfS];done)|exact BU _ _ _:(l0.take r2.toNat).map lfS=((l0.map lfS).take r2.toNat).drop (0:Int).toNat))<|
 .grd ((0:Int)≤0∧0≤r2∧r2≤(l0.length:Int)) fun h4=>
 .say [] (okc (by simpa using h4:(0:Int)≤0∧0≤r2∧r2≤((l0.map lfS).length:Int)) (ok1 (by simp[lfS]:(l0.take r2.toNat).map lfS=[]++((l0.take r2.toNat).map lfS))))<|
 .grd ((([]:List ByteArray).length+(l0.take r2.toNat).length)*16≤140737488355328) fun h5=>
 .say [] (okc (cq_ lfS h5) (ok1 (by simp[lfS]:((l0.take r2.toNat)++[r1]).map lfS=((l0.take r2.toNat).map lfS)++[(lfS r1)])))<|
 .grd (((l0.take r2.toNat).length+[r1].length)*16≤140737488355328) fun h6=>
 .say [] (okc (cp_ lfS h6) (ok1 (by first|(simp[lfS];done)|exact BU _ _ _:(l0.drop r2.toNat).map lfS=((l0.map lfS).take ((l0.map lfS).length:Int).toNat).drop r2.toNat)))<|
 .grd ((0:Int)≤r2∧r2≤(l0.length:Int)∧(l0.length:Int)≤(l0.length:Int)) fun h7=>
 .say [] (okc (by simpa using h7:(0:Int)≤r2∧r2≤((l0.map lfS).length:Int)∧((l0.map lfS).length:Int)≤((l0.map lfS).length:Int)) (ok1 (by simp[lfS]:(((l0.take r2.toNat)++[r1])++(l0.drop r2.toNat)).map lfS=(((l0.take r2.toNat)++[r1]).map lfS)++((l0.drop r2.toNat).map lfS))))<|
 .grd ((((l0.take r2.toNat)++[r1]).length+(l0.drop r2.toNat).length)*16≤140737488355328) fun h8=>
 .say [] (ok1 (by simpa using h8:((((l0.take r2.toNat)++[r1]).map lfS).length+((l0.drop r2.toNat).map lfS).length)*16≤140737488355328))<|
 .ret ⟨[],[3,4,5],[(8,4)],5⟩ (((l0.take r2.toNat)++[r1])++(l0.drop r2.toNat))
def yE(l0:List ByteArray)(p_w:ak)(v0:Int):Option (((List ByteArray))):=Mo.den (uF l0 p_w v0)
def pW(p_w:ak):(Int×(List ByteArray))→Mo ((Int×(List ByteArray))⊕((List ByteArray))):=fun(v0,l0)=>
 .nu ([p_w]++p_w.aY) ak.lf<|
 .iB (decide ((v0:Int)<(([p_w]++p_w.aY).length:Int))) (.jp Tryz.f25 0 [1,1,1,1,1,0,1,0,0,1,0] 8 [3,4,5] 5 (.normal) (fun r_=>⟨[(3,.own 3),(4,.own 4),(5,.i_ v0)],[.dead,.dead,.dead,.row 49 78 (([p_w]++p_w.aY).map ak.lf),.row 9 1 (r_.map lfS)]⟩) ⟨[(3,.own 3),(4,.own 4),(5,.i_ v0)],[.dead,.dead,.dead,.row 49 78 (([p_w]++p_w.aY).map ak.lf),.row 9 1 (l0.map lfS)]⟩ (yE l0 p_w v0) (jW (by kernel_rfl)) fun r0 _=>
 .rt [3,4,5] 5 (.inl (IntKind.wrap .i64 (v0+1),r0)))<|
 .ret ⟨[.kill 3],[4],[],5⟩ (.inr (l0))
def Lp(p_w:ak)(v0:Int)(l0:List ByteArray):Option (((List ByteArray))):=bP (fun v_=>(pW p_w v_).den) FU (v0,l0)
def ajV(p_w:ak):Mo (List ByteArray):=
 .say [.rows ([p_w].map ak.lf),.rows (([p_w]++p_w.aY).map ak.lf)] (ok1 (by simp[ak.aS]:[p_w].map ak.lf=[]++[(ak.lf1 p_w)]))<|
 .grd ((([]:List ak).length+[p_w].length)*1168≤140737488355328) fun h0=>
 .say [] (okc (by simp:(([]:List (List Lf)).length+[(ak.lf1 p_w)].length)*1168≤140737488355328) (ok1 (by simp[ak.aS]:([p_w]++p_w.aY).map ak.lf=([p_w].map ak.lf)++(p_w.aY.map ak.lf))))<|
 .grd (([p_w].length+p_w.aY.length)*1168≤140737488355328) fun h1=>
 .say [] (okc (by simpa using h1:(([p_w].map ak.lf).length+(p_w.aY.map ak.lf).length)*1168≤140737488355328) (ok1 (by simp[lfS]:(([]:List ByteArray).map lfS)=[])))<|
 .l1m [.kill 0,.kill 1,.mW 4 9 1,.je 4 (([]:List ByteArray).map lfS)] Tryz.f25 0 [1,1,1,1,1,0,1,0] 0 (.exit 0) (fun(v0,l0)=>⟨[(3,.own 3),(4,.own 4),(5,.i_ v0)],[.dead,.dead,.dead,.row 49 78 (([p_w]++p_w.aY).map ak.lf),.row 9 1 (l0.map lfS)]⟩) (fun r_=>⟨[(4,.own 4)],[.dead,.dead,.dead,.dead,.row 9 1 (r_.map lfS)]⟩) (Lp p_w 0 ([]:List ByteArray)) (pW p_w) (0,([]:List ByteArray)) fun r0=>
 .say [.at_ 0 0,.frz 4] ok0<|
 .ret (aX 1) (r0)
def Q10(p_w:ak):Option (List ByteArray):=Mo.den (ajV p_w)
theorem amS(p_w:ak):FV (Q10 p_w) 25 [.dat (ak.lf1 p_w)] (fun r=>.lf (.rows 1 (r.map lfS))):=bW Tryz.func25
def afM(p_a:bG)(p_b:bG):Mo (Bool):=
 .sk Tryz.f26 0 [1,0] 0 19 1 (fun r_=>⟨[(4,.b_ false),(23,.b_ r_)],[.dead,.dead]⟩) ⟨[(2,.ptr 0 0),(3,.ptr 1 0),(4,.b_ false)],[jB p_a,jB p_b]⟩ (uf p_a p_b) fun r0=>
 .sk Tryz.f26 0 [1,0] 19 1 1 (fun r_=>⟨[(4,.b_ r0)],[.dead,.dead]⟩) ⟨[(4,.b_ false),(23,.b_ r0)],[.dead,.dead]⟩ (ug r0) fun r1=>
 .ret (aX 1) (r0)
def amT(p_a:bG)(p_b:bG):Option (Bool):=Mo.den (afM p_a p_b)
theorem ai1(p_a:bG)(p_b:bG):FV (amT p_a p_b) 26 [.dat (bG.lf1 p_a),.dat (bG.lf1 p_b)] .b_:=bW Tryz.func26
def PX(p_e:bG)(p_f:bG):Mo (Bool):=
 .cl (ail p_e) fun r0 _=>
 .iG 4003 (!r0) (.rt [2,3,12] 2 (true))<|
 .cl (amB p_e) fun r1 _=>
 .rt [2,3,12] 2 (r1 != 0)
def TW(p_e:bG)(p_f:bG):Option (Bool):=Mo.den (PX p_e p_f)
theorem apx:EM (opsOf (Code.sub (bodyC Tryz.f9) [1,1,0])) [(true,0),(true,1),(true,3),(true,4),(false,2),(false,5),(false,6),(true,7),(true,8),(true,9),(true,11),(true,12),(false,10),(false,13),(false,14),(true,15),(true,16),(true,17),(true,18),(true,20),(true,21),(false,19),(false,22),(true,23),(true,24),(true,25),(false,26),(true,27),(true,28)] none=true:=by kernel_rfl
def ajW(p_e:bG)(p_f:bG):Mo (Bool):=
 .jp Tryz.f9 0 [1,0,0] 9 [2,3] 2 (.normal) (fun r_=>⟨[(2,.ptr 0 0),(3,.ptr 1 0),(12,.b_ r_)],[jB p_e,jB p_f]⟩) ⟨[(2,.ptr 0 0),(3,.ptr 1 0)],[jB p_e,jB p_f]⟩ (TW p_e p_f) (jW (by kernel_rfl)) fun r0 _=>
 .iB (r0) (.cl (VP) fun r1 _=>
 .ret (aX 1) (r1))<|
 .say [.qY [(true,0),(true,1),(true,3),(true,4),(false,2),(false,5),(false,6),(true,7),(true,8),(true,9),(true,11),(true,12),(false,10),(false,13),(false,14),(true,15),(true,16),(true,17),(true,18),(true,20),(true,21),(false,19),(false,22),(true,23),(true,24),(true,25),(false,26),(true,27),(true,28)] none []] (ok1 apx)<|
 .cl (VL p_e.dA) fun r2 _=>
 .cl (aiT p_e.dA) fun r3 _=>
 .cl (aiV r2 r3) fun r4 _=>
 .iG 8007 (r4) (.cl (aer p_e.dA) fun r5 _=>
 .cl (amS p_e.dA) fun r6 _=>
 .cl (ak1 r5 r6) fun r7 _=>
 .iG 8016 (r7) (.cl (KI p_e p_f) fun r8 _=>
 .cl (ai1 p_e p_f) fun r9 _=>
 .iG 8025 (r8==r9) (.cl (VP) fun r10 _=>
 .ret (aX 1) (r10))<|
 .ret (aX 1) (false))<|
 .ret (aX 1) (false))<|
 .ret (aX 1) (false)
def Q74(p_e:bG)(p_f:bG):Option (Bool):=Mo.den (ajW p_e p_f)
theorem amU(p_e:bG)(p_f:bG):FV (Q74 p_e p_f) 9 [.dat (bG.lf1 p_e),.dat (bG.lf1 p_f)] .b_:=bW Tryz.func9
end
end Go.Proofs.YtflpefkohpjjpaaGreatDoor
set_option linter.unusedSimpArgs false
set_option linter.unusedVariables false
namespace Go.Proofs.YtflpefkohpjjpaaGreatDoor
open Go.RowKit
def shB(n s:Int):Int:=IntKind.wrap .u8 (kR .u64 (dI .xor .u64 (IntKind.wrap .u64 n) 9223372036854775808) s)
def n8(n:Int):List Int:=((List.range 8).map fun j:Nat=>[shB n (56-8*(j:Int))]).flatten
def ktB(b:UInt8):List Int:=bif (b.toNat:Int)==0 then [(b.toNat:Int),255] else [(b.toNat:Int)]
def kt(s:ByteArray):List Int:=(s.data.toList.map ktB).flatten
mutual
def kb:ah→List Int
 |.mk k i t l d=>IntKind.wrap .u8 k::(bif k==3||(k==9||k==10) then n8 i else bif k==4||(k==7||k==8) then kt t++[0,0] else bif k==6 then kbL l++[0] else bif k==5 then kbD d++[0] else [])
def kbL:List ah→List Int
 |[]=>[]
 |x::r=>(1::kb x)++kbL r
def kbD:List ay→List Int
 |[]=>[]
 |.mk n v::r=>(1::(numsOf n++(0::kb v)))++kbD r
end
def kbE(v:ah):List Int:=1::kb v
def kbF(f:ay):List Int:=1::(numsOf f.fName++(0::kb f.fValue))
theorem afN:∀l:List ah,kbL l=(l.map kbE).flatten
 |[]=>by rw[kbL];rfl
 |x::r=>by rw[kbL,afN r];rfl
theorem afO:∀l:List ay,kbD l=(l.map kbF).flatten
 |[]=>by rw[kbD];rfl
 |.mk n v::r=>by rw[kbD,afO r];rfl
theorem afP(v:ah):kb v=IntKind.wrap .u8 v.au::(bif v.au==3||(v.au==9||v.au==10) then n8 v.dD else bif v.au==4||(v.au==7||v.au==8) then kt v.fText++[0,0] else bif v.au==6 then(v.aU.map kbE).flatten++[0] else bif v.au==5 then(v.aT.map kbF).flatten++[0] else []):=by
 cases v
 rw[kb,afN,afO];rfl
theorem amV(b:UInt8):(ktB b).length≤2:=by unfold ktB;cases (b.toNat:Int)==0<;>simp
theorem WA(s:ByteArray):(kt s).length≤2*s.size:=by
 have:∀l:List UInt8,((l.map ktB).flatten).length≤2*l.length:=by
  intro l
  induction l with
  |nil=>exact Nat.le_refl _
  |cons x r ih=>
   have:=amV x
   simp only[List.map_cons,List.flatten_cons,List.length_append,List.length_cons];omega
 have:=this s.data.toList
 unfold kt
 have e:s.data.toList.length=s.size:=rfl
 omega
theorem afQ(n:Int):(n8 n).length=8:=rfl
theorem aol(n:Nat):∀v:ah,aP v.lf1<n→(kb v).length+1≤12*aP v.lf1:=by
 induction n with
 |zero=>intro v h;omega
 |succ n ih=>
  intro v hlt
  have hp:=bQ v
  have hL:=uw kbE ah.lf v.aU fun x hx=>by
   have hm:=iK hx
   rw[ah.aS];exact ih x (by omega)
  have hD:=uw kbF ay.lf v.aT fun x hx=>by
   have hm:=fE hx
   rw[dY] at hm
   rw[ay.aS,dY]
   have:=ih x.fValue (by omega)
   unfold kbF
   simp only[List.length_cons,List.length_append,kT];omega
  have hT:=WA v.fText
  have hN:=afQ v.dD
  have key:∀(c:Bool) (a b:List Int) (m:Nat),a.length≤m→b.length≤m→(bif c then a else b).length≤m:=fun c a b m h1 h2=>by cases c<;>assumption
  rw[afP,List.length_cons]
  have:(bif v.au==3||(v.au==9||v.au==10) then n8 v.dD else bif v.au==4||(v.au==7||v.au==8) then kt v.fText++[0,0] else bif v.au==6 then(v.aU.map kbE).flatten++[0] else bif v.au==5 then(v.aT.map kbF).flatten++[0] else []).length≤12*aP v.lf1-2:=by
   refine key _ _ _ _ (by omega) (key _ _ _ _ ?_ (key _ _ _ _ ?_ (key _ _ _ _ ?_ ?_)))
   all_goals (simp only[List.length_append,List.length_cons,List.length_nil];omega)
  omega
theorem kb_le'(v:ah):(kb v).length+1≤12*aP v.lf1:=aol _ v (Nat.lt_succ_self _)
theorem PY(v:ah):((v.aU.map kbE).flatten).length≤12*bK (v.aU.map ah.lf):=uw kbE ah.lf v.aU fun x hx=>by
 rw[ah.aS];exact kb_le' x
theorem PZ(v:ah):((v.aT.map kbF).flatten).length≤12*bK (v.aT.map ay.lf):=uw kbF ay.lf v.aT fun x hx=>by
 rw[ay.aS,dY]
 have:=kb_le' x.fValue
 unfold kbF
 simp only[List.length_cons,List.length_append,kT];omega
theorem afR(R:kU)(v:ah)(l:List Int)(hl:l.length≤100000000000):ael R v 56 l=some (l++n8 v.dD):=by
 have key:Tot (ael R v 56 l) (fun q=>q=l++n8 v.dD):=by
  refine T.kL 8 (by omega) (fun k s=>s=(56-8*(k:Int),l++(((List.range 8).take k).map fun j:Nat=>[shB v.dD (56-8*(j:Int))]).flatten)) _ (by simp) ?_ ?_
  ·rintro k s hk rfl
   have hx:(List.range 8)[k]?=some k:=by rw[List.getElem?_range hk]
   have hf:=pV (fun j:Nat=>[shB v.dD (56-8*(j:Int))]) hx
   have h1:=qN (fun j:Nat=>[shB v.dD (56-8*(j:Int))]) (List.range 8) k
   have h2:(((List.range 8).map fun j:Nat=>[shB v.dD (56-8*(j:Int))]).flatten).length=8:=rfl
   unfold AQ
   simp only[Mo.den,aB,aG,aK,aF,aJ,decide_eq_true (show(0:Int)≤56-8*(k:Int) by omega),cond_true]
   rw[if_pos (by omega),if_pos (by rw[List.length_append];simp only[List.length_cons,List.length_nil];omega)]
   refine T.ret ?_
   show _=_
   rw[hf,w64 (by omega) (by omega),show(56-8*(k:Int)-8)=56-8*((k+1:Nat):Int) by omega,List.append_assoc];rfl
  ·rintro s rfl
   unfold AQ
   simp only[Mo.den,aB,aG,aK,aF,aJ,decide_eq_false (show ¬(0:Int)≤56-8*((8:Nat):Int) by omega),cond_false]
   exact T.ret rfl
 obtain⟨q,h,rfl⟩:=key
 exact h
theorem aax(n:Int):Q77 n=some (strOfNums (n8 n)):=by
 have hL:afI n ⟨#[]⟩ 0=some (⟨#[]⟩++strOfNums (((List.range 8).map fun j:Nat=>[shB n (56-8*(j:Int))]).flatten)):=by
  refine uy (List.range 8) (by decide) (fun j:Nat=>[shB n (56-8*(j:Int))]) 1000 (fun k x bs hx hbs=>?_) (fun bs=>?_) ⟨#[]⟩ (by show 0+8≤1000;decide)
  ·have hk:=lu hx
   rw[List.length_range] at hk
   rw[List.getElem?_range hk] at hx
   obtain rfl:=Option.some.inj hx
   unfold yC
   simp only[Mo.den,aB,aG,aK,aF,aJ,decide_eq_true (show(k:Int)<8 by omega),cond_true]
   rw[w64 (x:=8*(k:Int)) (by omega) (by omega),w64 (x:=56-8*(k:Int)) (by omega) (by omega),if_pos (by omega),strOfNums_size,if_pos (by simp only[List.length_cons,List.length_nil] at hbs ⊢;omega)];rfl
  ·unfold yC
   simp only[Mo.den,aB,aG,aK,aF,aJ]
   rfl
 simp only[Q77,ajS,Mo.den,aB,aG,aK,aF,aJ,hL,Option.bind_some]
 exact congrArg some ByteArray.empty_append
theorem aom(t:ByteArray)(k:Nat)(hk:k<t.size):t.extract k (k+1)=strOfNums [(t[k].toNat:Int)]:=by
 apply ByteArray.ext
 apply Array.ext'
 have hk':k<t.data.toList.length:=hk
 rw[ByteArray.data_extract,Array.toList_extract,List.extract_eq_take_drop,strOfNums_data,show k+1-k=1 by omega,List.drop_eq_getElem_cons hk']
 show [t.data.toList[k]]=[UInt8.ofNat ((t[k].toNat:Int)).toNat]
 rw[Int.toNat_natCast,UInt8.ofNat_toNat];rfl
theorem afS(R:kU)(v:ah)(l:List Int)(hl:l.length+(kt v.fText).length≤100000000000)(hs:v.fText.size≤100000000):aem R v 0 l=some (l++kt v.fText):=by
 refine Ea v.fText.data.toList hs ktB 100000000000 (fun k x bs hx hbs=>?_) (fun bs=>?_) l hl
 ·have hk:k<v.fText.size:=lu hx
  have hxk:v.fText[k]=x:=by rw[byte_at v.fText k hk] at hx;exact Option.some.inj hx
  unfold ktB at hbs ⊢
  unfold xW
  simp only[NT,Mo.den,aB,aG,aK,aF,aJ,iLt hk,cond_true,jv v.fText k hk,hxk,Option.bind_some]
  cases h0:(x.toNat:Int)==0 with
  |true=>
   rw[h0] at hbs
   simp only[cond_true,List.length_cons,List.length_nil] at hbs ⊢
   rw[if_pos (by omega),if_pos (by rw[List.length_append];simp only[List.length_cons,List.length_nil];omega),List.append_assoc];rfl
  |false=>
   rw[h0] at hbs
   simp only[cond_false,List.length_cons,List.length_nil] at hbs ⊢
   rw[if_pos (by omega)];rfl
 ·have e:((v.fText.data.toList.length:Nat):Int)=(v.fText.size:Int):=rfl
  unfold xW
  simp only[Mo.den,aB,aG,aK,aF,aJ,e,ltn,cond_false]
theorem aay(t:ByteArray)(hs:t.size≤100000000):Q64 t=some (strOfNums (kt t++[0,0])):=by
 have hk:=WA t
 have hL:afJ t ⟨#[]⟩ 0=some (⟨#[]⟩++strOfNums (kt t)):=by
  refine uy t.data.toList hs ktB 1000000000 (fun k x bs hx hbs=>?_) (fun bs=>?_) ⟨#[]⟩ (by show 0+(kt t).length≤_;omega)
  ·have hk:k<t.size:=lu hx
   have hxk:t[k]=x:=by rw[byte_at t k hk] at hx;exact Option.some.inj hx
   have hb:=aom t k hk
   rw[hxk] at hb
   unfold ktB at hbs ⊢
   unfold yD
   simp only[PN,Mo.den,aB,aG,aK,aF,aJ,iLt hk,cond_true,jv t k hk,hxk,Option.bind_some]
   rw[inc k (by omega),Int.toNat_natCast,Int.toNat_natCast,hb,strOfNums_size]
   cases h0:(x.toNat:Int)==0 with
   |true=>
    rw[h0] at hbs
    simp only[cond_true,List.length_cons,List.length_nil] at hbs ⊢
    rw[if_pos (by omega),if_pos (by omega),if_pos (by rw[ByteArray.size_append,strOfNums_size];show bs.size+1+1≤_;omega),Option.bind_some,ByteArray.append_assoc];rfl
   |false=>
    rw[h0] at hbs
    simp only[cond_false,List.length_cons,List.length_nil] at hbs ⊢
    rw[if_pos (by omega),if_pos (by omega),Option.bind_some]
  ·have e:((t.data.toList.length:Nat):Int)=(t.size:Int):=rfl
   unfold yD
   simp only[Mo.den,aB,aG,aK,aF,aJ,e,ltn,cond_false]
 simp only[Q64,ajT,Mo.den,aB,aG,aK,aF,aJ,hL,Option.bind_some]
 rw[show((⟨#[]⟩:ByteArray)++strOfNums (kt t))=strOfNums (kt t) from ByteArray.empty_append,if_pos (by rw[strOfNums_size];show _+2≤_;omega),sG];rfl
theorem k3(a b c:Bool):(bif a then a else bif b then b else c)=(a||(b||c)):=by cases a<;>cases b<;>rfl
theorem P5(n:Nat):∀(F:Nat) (v:ah),aP v.lf1<n→n≤F→aP v.lf1≤100000000→∀l:List Int,l.length+(kb v).length≤10000000000→(oK F).m2 v l=some (l++kb v):=by
 induction n with
 |zero=>intro F v h;omega
 |succ n ih=>
  intro F v hlt hF hb l hll
  obtain⟨F,rfl⟩:∃K,F=K+1:=⟨F-1,by omega⟩
  have hp:=bQ v
  have hl:=fG v.aU
  have hd:=fH v.aT
  have hT:=WA v.fText
  have hkl:=kb_le' v
  have hfl:=PY v
  have hfd:=PZ v
  have e1:(l++[IntKind.wrap .u8 v.au]).length=l.length+1:=by rw[List.length_append];rfl
  show Mo.den (aii (oK F) v l)=_
  rw[afP] at hll ⊢
  rw[List.length_cons] at hll
  unfold aii
  unfold NU
  simp only[Mo.den,aB,aG,aK,aF,aJ,VO,NS,jc,k3,bsm,Option.bind_some]
  rw[if_pos (by simp only[List.length_cons,List.length_nil];omega)]
  generalize (v.au==3||(v.au==9||v.au==10))=q1 at *
  generalize (v.au==4||(v.au==7||v.au==8))=q2 at *
  cases q1 with
  |true=>
   simp only[cond_true] at hll ⊢
   rw[afR _ v _ (by omega)]
   simp
  |false=>
  simp only[cond_false] at hll ⊢
  cases q2 with
  |true=>
   simp only[cond_true] at hll ⊢
   rw[List.length_append] at hll
   rw[afS _ v _ (by omega) (by omega)]
   simp only[Option.bind_some]
   rw[if_pos (by simp only[List.length_append,List.length_cons,List.length_nil];omega)]
   simp
  |false=>
  simp only[cond_false] at hll ⊢
  cases e6:v.au==6 with
  |true=>
   rw[e6] at hll
   simp only[cond_true] at hll ⊢
   rw[List.length_append] at hll
   have hL:aen (oK F) v 0 (l++[IntKind.wrap .u8 v.au])=some (l++[IntKind.wrap .u8 v.au]++(v.aU.map kbE).flatten):=by
    refine Ea v.aU (by omega) kbE 10000000000 (fun k x bs hx hbs=>?_) (fun bs=>by unfold xX;simp only[Mo.den,aB,aG,aK,aF,aJ,ltn,cond_false]) _ (by omega)
    have hm:=iK (iU hx)
    have hbs:bs.length+((kb x).length+1)≤10000000000:=hbs
    unfold xX
    simp only[Mo.den,aB,aG,aK,aF,aJ,ltt hx,gid hx,cond_true,Option.bind_some]
    rw[if_pos (by simp only[List.length_cons,List.length_nil];omega),ih F x (by omega) (by omega) (by omega) _ (by rw[List.length_append];show bs.length+1+_≤_;omega)]
    simp[kbE]
   rw[hL]
   simp only[Option.bind_some]
   rw[if_pos (by simp only[List.length_append,List.length_cons,List.length_nil];omega)]
   simp
  |false=>
  rw[e6] at hll
  simp only[cond_false] at hll ⊢
  cases e5:v.au==5 with
  |true=>
   rw[e5] at hll
   simp only[cond_true] at hll ⊢
   rw[List.length_append] at hll
   have hL:aeo (oK F) v 0 (l++[IntKind.wrap .u8 v.au])=some (l++[IntKind.wrap .u8 v.au]++(v.aT.map kbF).flatten):=by
    refine Ea v.aT (by omega) kbF 10000000000 (fun k x bs hx hbs=>?_) (fun bs=>by unfold xY;simp only[Mo.den,aB,aG,aK,aF,aJ,ltn,cond_false]) _ (by omega)
    have hm:=fE (iU hx)
    rw[dY] at hm
    unfold kbF at hbs
    simp only[List.length_cons,List.length_append,kT] at hbs
    unfold xY
    simp only[Mo.den,aB,aG,aK,aF,aJ,ltt hx,gid hx,cond_true,Option.bind_some]
    rw[if_pos (by simp only[List.length_cons,List.length_nil];omega),if_pos (by simp only[List.length_append,List.length_cons,List.length_nil];omega),if_pos (by simp only[List.length_append,List.length_cons,List.length_nil,kT];omega),ih F x.fValue (by omega) (by omega) (by omega) _ (by simp only[List.length_append,List.length_cons,List.length_nil,kT];omega)]
    simp[kbF]
   rw[hL]
   simp only[Option.bind_some]
   rw[if_pos (by simp only[List.length_append,List.length_cons,List.length_nil];omega)]
   simp
  |false=>
   simp
theorem WB(n:Nat):∀(F:Nat) (v:ah),aP v.lf1<n→n≤F→aP v.lf1≤100000000→(sH F).m1 v=some (strOfNums (kb v)):=by
 induction n with
 |zero=>intro F v h;omega
 |succ n ih=>
  intro F v hlt hF hb
  obtain⟨F,rfl⟩:∃K,F=K+1:=⟨F-1,by omega⟩
  have hp:=bQ v
  have hl:=fG v.aU
  have hd:=fH v.aT
  have hT:=WA v.fText
  have hfl:=PY v
  have hfd:=PZ v
  have hN:=afQ v.dD
  show Mo.den (Wy (sH F) v)=_
  rw[afP,Ba]
  have s1:(strOfNums [IntKind.wrap .u8 v.au]).size=1:=strOfNums_size _
  unfold Wy
  unfold IV
  simp only[Mo.den,aB,aG,aK,aF,aJ,PO,PS,jc,k3,bsm,Option.bind_some,aax,aay v.fText (by omega)]
  generalize (v.au==3||(v.au==9||v.au==10))=q1
  generalize (v.au==4||(v.au==7||v.au==8))=q2
  cases q1 with
  |true=>
   simp only[cond_true]
   rw[if_pos (by rw[s1,strOfNums_size];omega)]
  |false=>
  simp only[cond_false]
  cases q2 with
  |true=>
   simp only[cond_true]
   rw[if_pos (by rw[s1,strOfNums_size];simp only[List.length_append,List.length_cons,List.length_nil];omega)]
  |false=>
  simp only[cond_false]
  cases v.au==6 with
  |true=>
   simp only[cond_true]
   have hL:Wv (sH F) v (strOfNums [IntKind.wrap .u8 v.au]) 0=some (strOfNums [IntKind.wrap .u8 v.au]++strOfNums ((v.aU.map kbE).flatten)):=by
    refine uy v.aU (by omega) kbE 10000000000 (fun k x bs hx hbs=>?_) (fun bs=>by unfold uz;simp only[Mo.den,aB,aG,aK,aF,aJ,ltn,cond_false]) _ (by omega)
    have hm:=iK (iU hx)
    have hbs:bs.size+((kb x).length+1)≤10000000000:=hbs
    unfold uz
    simp only[Mo.den,aB,aG,aK,aF,aJ,ltt hx,gid hx,cond_true,Option.bind_some,ih F x (by omega) (by omega) (by omega),ByteArray.size_append,strOfNums_size]
    rw[if_pos (by show 1+_≤_;omega),if_pos (by show bs.size+(1+_)≤_;omega)]
    unfold kbE
    rw[Ba];rfl
   rw[hL]
   simp only[Option.bind_some,ByteArray.size_append,strOfNums_size]
   rw[if_pos (by show _+1≤_;simp only[List.length_cons,List.length_nil];omega),sG,ByteArray.append_assoc];rfl
  |false=>
  simp only[cond_false]
  cases v.au==5 with
  |true=>
   simp only[cond_true]
   have hL:Wx (sH F) v (strOfNums [IntKind.wrap .u8 v.au]) 0=some (strOfNums [IntKind.wrap .u8 v.au]++strOfNums ((v.aT.map kbF).flatten)):=by
    refine uy v.aT (by omega) kbF 10000000000 (fun k x bs hx hbs=>?_) (fun bs=>by unfold uD;simp only[Mo.den,aB,aG,aK,aF,aJ,ltn,cond_false]) _ (by omega)
    have hm:=fE (iU hx)
    rw[dY] at hm
    have hkx:=kb_le' x.fValue
    unfold kbF at hbs
    simp only[List.length_cons,List.length_append,kT] at hbs
    unfold uD
    simp only[Mo.den,aB,aG,aK,aF,aJ,ltt hx,gid hx,cond_true,Option.bind_some,ih F x.fValue (by omega) (by omega) (by omega),ByteArray.size_append,strOfNums_size]
    rw[if_pos (by show 1+_≤_;omega),if_pos (by show 1+_+1≤_;omega),if_pos (by show 1+_+1+_≤_;omega),if_pos (by show bs.size+(1+_+1+_)≤_;omega)]
    unfold kbF
    rw[Ba,sG,aiN,Ba 0]
    simp only[ByteArray.append_assoc];rfl
   rw[hL]
   simp only[Option.bind_some,ByteArray.size_append,strOfNums_size]
   rw[if_pos (by show _+1≤_;simp only[List.length_cons,List.length_nil];omega),sG,ByteArray.append_assoc];rfl
  |false=>
   simp only[cond_false]
   show some (strOfNums [IntKind.wrap .u8 v.au])=some (strOfNums [IntKind.wrap .u8 v.au]++ByteArray.empty)
   rw[ByteArray.append_empty]
end Go.Proofs.YtflpefkohpjjpaaGreatDoor
set_option linter.unusedSimpArgs false
set_option linter.unusedVariables false
namespace Go.Proofs.YtflpefkohpjjpaaGreatDoor
open Go.RowKit
noncomputable def afT(x:bn):List Int:=D8 kN x.cZ++(mO x.FY)
def afU(x:bn):Bool:=false||(false)
noncomputable def afV(x:bT):List Int:=jC x.fX++(jC x.fY)
def afW(x:bT):Bool:=false||(false)
mutual
noncomputable def WC:aO→List Int
 |.mk a0 a1 a2 a3 a4 a5 a6=>jC a0++(D8 kN a1++(kN a2++(D8 kN a3++(qO a4++(jC a5++((jC (a6.length:Int)++P6 a6)))))))
noncomputable def P6:List aO→List Int
 |[]=>[]
 |x::r=>WC x++P6 r
end
mutual
def WE:aO→Bool
 |.mk a0 a1 a2 a3 a4 a5 a6=>false||(false||(false||(false||(qP a4||(false||(P7 a6))))))
def P7:List aO→Bool
 |[]=>false
 |x::r=>WE x||P7 r
end
mutual
noncomputable def WG:aN→List Int
 |.mk a0 a1 a2 a3 a4 a5 a6 a7 a8=>jC a0++(D8 kN a1++(qO a2++(D8 qO a3++(jC a4++(jC a5++(jC a6.au++(D8 afV a6.cO++(jC a6.fR++(WC a7++((jC (a8.length:Int)++P8 a8)))))))))))
noncomputable def P8:List aN→List Int
 |[]=>[]
 |x::r=>WG x++P8 r
end
mutual
def WH:aN→Bool
 |.mk a0 a1 a2 a3 a4 a5 a6 a7 a8=>false||(false||(qP a2||(a3.any qP||(false||(false||(false||(a6.cO.any afW||(false||(WE a7||(P9 a8))))))))))
def P9:List aN→Bool
 |[]=>false
 |x::r=>WH x||P9 r
end
noncomputable def Qa(x:aQ):List Int:=kN x.fName++(jC x.au++(D8 afT x.fJ++(mO x.fF++(mO x.jh++(mO x.iF++(WG x.bF))))))
def Qb(x:aQ):Bool:=false||(false||(x.fJ.any afU||(false||(false||(false||(WH x.bF))))))
mutual
noncomputable def ai2:bD→List Int
 |.mk a0 a1=>kN a0++(zM a1)
noncomputable def Qc:List bD→List Int
 |[]=>[]
 |x::r=>ai2 x++Qc r
noncomputable def zM:aH→List Int
 |.mk a0 a1 a2 a3 a4 a5 a6 a7 a8 a9 a10 a11 a12=>jC a0++(mO a1++(qO a2++(mO a3++(qO a4++(D8 qO a5++(jC a6++(jC a7++(D8 kN a8++((jC (a9.length:Int)++Qc a9)++(mO a10++((jC (a11.length:Int)++Ec a11)++(mO a12))))))))))))
noncomputable def Ec:List aH→List Int
 |[]=>[]
 |x::r=>zM x++Ec r
end
mutual
def ai3:bD→Bool
 |.mk a0 a1=>false||(zN a1)
def Qd:List bD→Bool
 |[]=>false
 |x::r=>ai3 x||Qd r
def zN:aH→Bool
 |.mk a0 a1 a2 a3 a4 a5 a6 a7 a8 a9 a10 a11 a12=>false||(false||(qP a2||(false||(qP a4||(a5.any qP||(false||(false||(false||(Qd a9||(false||(Ed a11||(false))))))))))))
def Ed:List aH→Bool
 |[]=>false
 |x::r=>zN x||Ed r
end
noncomputable def afX(x:bU):List Int:=kN x.fName++(D8 Qa x.dw++(zM x.bC++(jC x.ku++(jC x.jr))))
def afY(x:bU):Bool:=false||(x.dw.any Qb||(zN x.bC||(false||(false))))
mutual
noncomputable def afZ:ak→List Int
 |.mk a0 a1 a2 a3 a4 a5 a6 a7 a8 a9 a10 a11=>jC a0++(kN a1++(qO a2++(qO a3++(qO a4++(afX a5++(Qa a6++(kN a7++(jC a8++((jC (a9.length:Int)++IW a9)++(D8 jC a10++(mO a11)))))))))))
noncomputable def IW:List ak→List Int
 |[]=>[]
 |x::r=>afZ x++IW r
end
mutual
def af0:ak→Bool
 |.mk a0 a1 a2 a3 a4 a5 a6 a7 a8 a9 a10 a11=>false||(false||(qP a2||(qP a3||(qP a4||(afY a5||(Qb a6||(false||(false||(IX a9||(false||(false)))))))))))
def IX:List ak→Bool
 |[]=>false
 |x::r=>af0 x||IX r
end
end Go.Proofs.YtflpefkohpjjpaaGreatDoor
set_option linter.unusedSimpArgs false
set_option linter.unusedVariables false
namespace Go.Proofs.YtflpefkohpjjpaaGreatDoor
open Go.RowKit
end Go.Proofs.YtflpefkohpjjpaaGreatDoor
set_option linter.unusedSimpArgs false
set_option linter.unusedVariables false
namespace Go.Proofs.YtflpefkohpjjpaaGreatDoor
open Go.RowKit
def At(s:ByteArray)(p:Nat)(e:List Int):Prop:=p≤s.size∧∃r,rest s p=(strOfNums e).data.toList++r
theorem TY(e:List Int):(strOfNums e).data.toList.length=e.length:=strOfNums_size e
theorem At.le{s:ByteArray}{p:Nat}{e:List Int}(h:At s p e):p+e.length≤s.size:=by
 obtain⟨h0,r,h⟩:=h
 have:=congrArg List.length h
 rw[pR,List.length_append,TY] at this;omega
theorem At.app{s:ByteArray}{p:Nat}{e e':List Int}(h:At s p (e++e')):At s p e∧At s (p+e.length) e':=by
 have hl:=h.le
 obtain⟨h0,r,h⟩:=h
 rw[sG,ByteArray.data_append,Array.toList_append,List.append_assoc] at h
 rw[List.length_append] at hl
 refine⟨⟨h0,_,h⟩,by omega,r,?_⟩
 rw[←IQ,h,←TY e,List.drop_left]
theorem At.hd{s:ByteArray}{p:Nat}{x:Int}{e:List Int}(h:At s p (x::e)):iw s (p:Int)=some (UInt8.ofNat x.toNat)∧At s (p+1) e:=by
 have hl:=h.le
 rw[List.length_cons] at hl
 have h2:=(At.app (e:=[x]) (e':=e) h).2
 obtain⟨h0,r,h⟩:=h
 rw[jv s p (by omega)]
 rw[aaz s p (by omega),strOfNums_data,List.map_cons,List.cons_append] at h
 injection h with h _
 exact⟨by rw[h],h2⟩
theorem At.cut{s:ByteArray}{p:Nat}{e:List Int}(h:At s p e):s.extract p (p+e.length)=strOfNums e:=by
 obtain⟨h0,r,h⟩:=h
 apply ByteArray.ext
 apply Array.ext'
 rw[ByteArray.data_extract,Array.toList_extract,List.extract_eq_take_drop,show p+e.length-p=e.length by omega]
 show(rest s p).take _=_
 rw[h,←TY e,List.take_left]
end Go.Proofs.YtflpefkohpjjpaaGreatDoor
set_option linter.unusedSimpArgs false
set_option linter.unusedVariables false
namespace Go.Proofs.YtflpefkohpjjpaaGreatDoor
open Go.RowKit
end Go.Proofs.YtflpefkohpjjpaaGreatDoor
set_option linter.unusedSimpArgs false
set_option linter.unusedVariables false
namespace Go.Proofs.YtflpefkohpjjpaaGreatDoor
open Go.RowKit
def Rt{α:Type}(F:aj→Option (α×aj))(e:List Int)(x:α)(d:Nat):Prop:=∀(s:ByteArray) (p lv:Nat),s.size≤100000000→At s p e→lv+d≤64→F ⟨s,(p:Int),(lv:Int),false⟩=some (x,⟨s,((p+e.length:Nat):Int),(lv:Int),false⟩)
theorem Rt.bind{α β:Type}{F:aj→Option (α×aj)}{G:α×aj→Option (β×aj)}{e e':List Int}{x:α}{y:β}{d:Nat}(h:Rt F e x d)(k:Rt (fun r=>G (x,r)) e' y d):Rt (fun r=>(F r).bind G) (e++e') y d:=by
 intro s p lv hs ha hd
 obtain⟨a1,a2⟩:=ha.app
 show(F _).bind G=_
 rw[h s p lv hs a1 hd]
 refine(k s (p+e.length) lv hs a2 hd).trans ?_
 rw[List.length_append,Nat.add_assoc]
theorem Rt.ret{α:Type}(x:α)(d:Nat):Rt (fun r=>some (x,r)) [] x d:=fun s p lv _ _ _=>rfl
theorem Rt.mono{α:Type}{F:aj→Option (α×aj)}{e:List Int}{x:α}{d d':Nat}(h:Rt F e x d)(hd:d≤d'):Rt F e x d':=fun s p lv hs ha hl=>h s p lv hs ha (by omega)
theorem Rt.to{α:Type}{F F':aj→Option (α×aj)}{e e':List Int}{x:α}{d:Nat}(h:Rt F e x d)(q:∀r,F' r=F r)(he:e=e'):Rt F' e' x d:=fun s p lv hs ha hl=>by
 subst he
 rw[q];exact h s p lv hs ha hl
end Go.Proofs.YtflpefkohpjjpaaGreatDoor
set_option linter.unusedSimpArgs false
set_option linter.unusedVariables false
namespace Go.Proofs.YtflpefkohpjjpaaGreatDoor
open Go.RowKit
theorem Ua{k i:Int}{t:ByteArray}(h:oD k i t=true):k=1∨k=2∨k=11∨k=3∨(k=10∧0≤i)∨(k=9∧(i=0∨i=1))∨(k=4∧t.size≤4096∧mX t=true)∨(k=7∧t.size≤4096)∨(k=8∧t.size=12)∨k=6∨k=5:=by
 unfold oD at h
 split at h
 ·omega
 ·split at h
  ·rw[Bool.or_eq_true,beq_iff_eq,beq_iff_eq] at h;exact .inr (.inr (.inr (.inr (.inr (.inl ⟨by assumption,h⟩)))))
  ·split at h
   ·exact .inr (.inr (.inr (.inr (.inl ⟨by assumption,of_decide_eq_true h⟩))))
   ·split at h
    ·rw[Bool.and_eq_true] at h;exact .inr (.inr (.inr (.inr (.inr (.inr (.inl ⟨by assumption,of_decide_eq_true h.1,h.2⟩))))))
    ·split at h
     ·exact .inr (.inr (.inr (.inr (.inr (.inr (.inr (.inl ⟨by assumption,of_decide_eq_true h⟩)))))))
     ·split at h
      ·exact .inr (.inr (.inr (.inr (.inr (.inr (.inr (.inr (.inl ⟨by assumption,of_decide_eq_true h⟩))))))))
      ·have:=of_decide_eq_true h;omega
end Go.Proofs.YtflpefkohpjjpaaGreatDoor
set_option linter.unusedSimpArgs false
set_option linter.unusedVariables false
namespace Go.Proofs.YtflpefkohpjjpaaGreatDoor
open Go.RowKit
abbrev lt8(a b:ByteArray):Prop:=a.data.toList<b.data.toList
theorem aon(a b:ByteArray):Op.bytesLess a.toList b.toList=decide (lt8 a b):=by
 rw[ByteArray.toList_eq,ByteArray.toList_eq];exact Go.Proofs.bytesLess_eq _ _
theorem Ub{a b:ByteArray}(h:a.data.toList=b.data.toList):a=b:=ByteArray.ext (Array.ext' h)
theorem Bc(a:ByteArray):¬lt8 a a:=List.lt_irrefl _
theorem zO{a b c:ByteArray}(h:lt8 a b)(k:lt8 b c):lt8 a c:=List.lt_trans h k
theorem WI(a b:ByteArray):lt8 a b∨a=b∨lt8 b a:=by
 by_cases h:lt8 a b
 ·exact .inl h
 ·by_cases k:lt8 b a
  ·exact .inr (.inr k)
  ·exact .inr (.inl (Ub (List.le_antisymm (List.not_lt.1 k) (List.not_lt.1 h))))
theorem ai4{l m:List ByteArray}(hl:l.Pairwise lt8)(hm:m.Pairwise lt8)(h:∀x,x∈l↔x∈m):l=m:=by
 have nd:∀{l:List ByteArray},l.Pairwise lt8→l.Nodup:=fun h=>h.imp fun {a b} hab=>by rintro rfl;exact Bc _ hab
 exact List.Perm.eq_of_pairwise (le:=lt8) (fun a b _ _ h k=>absurd (zO h k) (Bc a)) hl hm ((List.perm_ext_iff_of_nodup (nd hl) (nd hm)).2 h)
theorem Qe:∀(l:List (List UInt8)) (p:Option (List UInt8)),l.Pairwise (fun a b=>oU a b=true)→(∀q,p=some q→∀x∈l,oU q x=true)→
 (qp p l).Pairwise (·<·)∧(∀x,x∈qp p l↔x∈l∧p≠some x)
 |[],p,_,_=>by
  unfold qp
  exact⟨List.Pairwise.nil,fun x=>⟨fun h=>(by cases h),fun h=>h.1⟩⟩
 |y::r,p,hs,hp=>by
  obtain⟨h1,h2⟩:=List.pairwise_cons.1 hs
  obtain⟨i1,i2⟩:=Qe r (some y) h2 (fun q hq x hx=>by injection hq with hq;subst hq;exact h1 x hx)
  unfold qp
  by_cases hpy:p=some y
  ·rw[decide_eq_true hpy]
   simp only[cond_true]
   refine⟨i1,fun x=>(i2 x).trans ⟨fun⟨a,b⟩=>⟨List.mem_cons_of_mem _ a,by rw[hpy];exact b⟩,fun⟨a,b⟩=>?_⟩⟩
   rw[hpy] at b
   rcases List.mem_cons.1 a with rfl|a
   ·exact absurd rfl b
   ·exact⟨a,b⟩
  ·rw[decide_eq_false hpy]
   simp only[cond_false]
   have hlt:∀x∈qp (some y) r,y<x:=fun x hx=>by
    obtain⟨a,b⟩:=(i2 x).1 hx
    have h3:=h1 x a
    unfold oU at h3
    have h3:=of_decide_eq_true h3
    by_cases h4:y<x
    ·exact h4
    ·exact absurd (congrArg some (List.le_antisymm h3 (List.not_lt.1 h4))) b
   refine⟨List.pairwise_cons.2 ⟨hlt,i1⟩,fun x=>?_⟩
   rw[List.mem_cons,List.mem_cons,i2 x]
   constructor
   ·rintro(rfl|⟨a,b⟩)
    ·exact⟨.inl rfl,hpy⟩
    ·refine⟨.inr a,fun e=>?_⟩
     have h5:=hp x e y (List.mem_cons_self ..)
     have h6:=h1 x a
     exact b (congrArg some (F9 h6 h5))
   ·rintro⟨rfl|a,b⟩
    ·exact .inl rfl
    ·by_cases e:x=y
     ·exact .inl e
     ·exact .inr ⟨a,fun h=>e (Option.some.inj h).symm⟩
theorem apy(l:List (List UInt8)):mF (EP l)=l:=by
 unfold mF EP
 rw[List.map_map]
 conv=>rhs;rw[←List.map_id l]
 exact List.map_congr_left fun x _=>rfl
theorem af2(l:List ByteArray)(hl:l.length≤100000000):∃r,(aks l).bind agJ=some r∧r.Pairwise lt8∧(∀x,x∈r↔x∈l)∧r.length≤l.length:=by
 have hlen:(EP (Af (mF l))).length=l.length:=by rw[oW,(kS _).length_eq,jA]
 unfold aks
 rw[if_pos (by omega),Option.bind_some]
 unfold agJ
 rw[if_pos (by omega),apy]
 obtain⟨h1,h2⟩:=Qe (Af (mF l)) none (rG _) (fun q hq=>by cases hq)
 refine⟨_,rfl,?_,fun x=>?_,by rw[oW];have:=Au (Af (mF l)) none;rw[oW] at hlen;omega⟩
 ·unfold EP
  rw[List.pairwise_map]
  exact h1
 ·unfold EP
  rw[List.mem_map]
  constructor
  ·rintro⟨y,hy,rfl⟩
   have:=(kS _).mem_iff.1 ((h2 y).1 hy).1
   unfold mF at this
   obtain⟨z,hz,hzy⟩:=List.mem_map.1 this
   have:z=(⟨y.toArray⟩:ByteArray):=Ub hzy
   rw[←this];exact hz
  ·intro hx
   refine⟨x.data.toList,(h2 _).2 ⟨(kS _).mem_iff.2 (List.mem_map.2 ⟨x,hx,rfl⟩),fun h=>by cases h⟩,?_⟩
   exact Ub rfl
def txV(s:ByteArray):ah:=ah.mk 4 0 s [] []
def vP(w:ak):ByteArray:=strOfNums (kb (txV w.fC)++kb w.fO)
def chg(w:ak):Bool:=w.au==2||w.au==3
structure Ee (w:ak):Prop where
 s:pO (txV w.fC)=true
 k:pO w.fO=true
theorem af4{v:ah}(h:pO v=true):¬v.au=0:=fun h0=>by
 unfold pO at h
 simp only[Bool.and_eq_true] at h
 have:=h.2.2
 rw[Ld,Bool.and_eq_true,Bool.and_eq_true] at this
 have:=Ua this.1.2
 omega
theorem Ef{v:ah}(hb:aP v.lf1≤100000000)(h:pO v=true):aic v=some true:=by
 unfold aic aei
 simp only[Mo.den,aB,aG,aK,aF,aJ,show(v.au==0)=false by rw[beq_eq_false_iff_ne];exact af4 h,cond_false,aar v hb,h,Option.bind_some]
theorem WJ(s:ByteArray):aP (txV s).lf1=5+s.size:=by rw[bQ];rfl
theorem af5(A B:ah)(ha:aP A.lf1≤50000000)(hb:aP B.lf1≤50000000)(va:pO A=true)(vb':pO B=true):Q57 [A,B] [false,false]=some (strOfNums (kb A++kb B),0):=by
 have k1:=kb_le' A
 have k2:=kb_le' B
 have q1:Q3 A []=some (kb A):=by
  have:=P5 (aP A.lf1+1) FU A (Nat.lt_succ_self _) (by have:=gX;omega) (by omega) [] (by simp only[List.length_nil];omega)
  rw[List.nil_append] at this;exact this
 have q2:Q3 B (kb A)=some (kb A++kb B):=P5 (aP B.lf1+1) FU B (Nat.lt_succ_self _) (by have:=gX;omega) (by omega) (kb A) (by omega)
 have step:∀(k:Nat) (x:ah) (l r:List Int),[A,B][k]?=some x→aic x=some true→Q3 x l=some r→(kV [false,false] [A,B] ((k:Int),l)).den=some (.inl (((k+1:Nat):Int),r)):=fun k x l r hx h1 h2=>by
  have hk:=lu hx
  have hd:ig [false,false] (k:Int)=some false:=by
   rcases k with _|_|k
   ·rfl
   ·rfl
   ·exact absurd hk (by simp only[List.length_cons,List.length_nil];omega)
  unfold kV
  simp only[NV,Mo.den,aB,aG,aK,aF,aJ,ltt hx,gid hx,cond_true,Option.bind_some,h1,Bool.not_true,cond_false,h2,hd]
  rw[inc k (by simp only[List.length_cons,List.length_nil] at hk;omega)]
 have hend:∀l,(kV [false,false] [A,B] ((2:Nat),l)).den=some (.inr (.inr l)):=fun l=>by
  unfold kV
  simp only[Mo.den,aB,aG,aK,aF,aJ]
  rfl
 obtain⟨G,hG⟩:∃G,FU=G+3:=⟨FU-3,by have:=gX;omega⟩
 have hl:KF [false,false] [A,B] 0 []=some (.inr (kb A++kb B)):=by
  try unfold KF
  rw[hG,bP]
  have s0:=step 0 A [] (kb A) rfl (Ef (by omega) va) q1
  have s1:=step 1 B (kb A) (kb A++kb B) rfl (Ef (by omega) vb') q2
  show((kV [false,false] [A,B] (((0:Nat):Int),[])).den).bind _=_
  rw[s0,Option.bind_some]
  show bP _ (G+2) (((1:Nat):Int),kb A)=_
  rw[bP,s1,Option.bind_some]
  show bP _ (G+1) (((2:Nat):Int),kb A++kb B)=_
  rw[bP,hend];rfl
 unfold Q57 ajy
 simp only[Mo.den,aB,aG,aK,aF,aJ,hl,Option.bind_some]
 rfl
theorem aaA(A B:ah)(ha:aP A.lf1≤50000000)(hb:aP B.lf1≤50000000)(va:pO A=true)(vb':pO B=true):Q30 [A,B] [false,false]=some (strOfNums (kb A++kb B),0):=by
 have k1:=kb_le' A
 have k2:=kb_le' B
 have q1:Q16 A=some (strOfNums (kb A)):=WB (aP A.lf1+1) FU A (Nat.lt_succ_self _) (by have:=gX;omega) (by omega)
 have q2:Q16 B=some (strOfNums (kb B)):=WB (aP B.lf1+1) FU B (Nat.lt_succ_self _) (by have:=gX;omega) (by omega)
 have miss:∀x:ah,∃c,amN x=some c:=fun x=>by
  simp only[amN,afH,fU,rM,rJ,wO,wM,Mo.den,aB,aG,aK,aF,aJ,jc,Option.bind_some]
  exact⟨_,rfl⟩
 have step:∀(k:Nat) (x:ah) (s:ByteArray) (e:List Int),[A,B][k]?=some x→aP x.lf1≤50000000→pO x=true→s.size≤10000000000→e.length≤10000000000→Q16 x=some (strOfNums e)→(lD [false,false] [A,B] (s,(k:Int))).den=some (.inl (s++strOfNums e,((k+1:Nat):Int))):=fun k x s e hx hbx hv hs he h1=>by
  have hk:=lu hx
  obtain⟨c,hc⟩:=miss x
  have hd:ig [false,false] (k:Int)=some false:=by
   rcases k with _|_|k
   ·rfl
   ·rfl
   ·exact absurd hk (by simp only[List.length_cons,List.length_nil];omega)
  unfold lD
  simp only[PU,PV,Mo.den,aB,aG,aK,aF,aJ,ltt hx,gid hx,cond_true,Option.bind_some,hc,D7 x (by omega),hv,h1,Bool.not_true,hd]
  have e1:(bif !c then some false else some false)=some false:=by cases c<;>rfl
  rw[e1]
  simp only[Option.bind_some,cond_false]
  rw[strOfNums_size,if_pos (by omega),Option.bind_some,inc k (by simp only[List.length_cons,List.length_nil] at hk;omega)]
 have hend:∀s,(lD [false,false] [A,B] (s,((2:Nat):Int))).den=some (.inr (.inr s)):=fun l=>by
  unfold lD
  simp only[Mo.den,aB,aG,aK,aF,aJ]
  rfl
 obtain⟨G,hG⟩:∃G,FU=G+3:=⟨FU-3,by have:=gX;omega⟩
 have hl:Ll [false,false] [A,B] ⟨#[]⟩ 0=some (.inr (strOfNums (kb A++kb B))):=by
  try unfold Ll
  rw[hG,bP]
  have s0:=step 0 A ⟨#[]⟩ (kb A) rfl ha va (by decide) (by omega) q1
  rw[show(⟨#[]⟩:ByteArray)++strOfNums (kb A)=strOfNums (kb A) from ByteArray.empty_append] at s0
  have s1:=step 1 B (strOfNums (kb A)) (kb B) rfl hb vb' (by rw[strOfNums_size];omega) (by omega) q2
  show((lD [false,false] [A,B] (⟨#[]⟩,((0:Nat):Int))).den).bind _=_
  rw[s0,Option.bind_some]
  show bP _ (G+2) (strOfNums (kb A),((1:Nat):Int))=_
  rw[bP,s1,Option.bind_some]
  show bP _ (G+1) (strOfNums (kb A)++strOfNums (kb B),((2:Nat):Int))=_
  rw[bP,hend,sG];rfl
 unfold Q30 ajU
 simp only[Mo.den,aB,aG,aK,aF,aJ,hl,Option.bind_some]
 rfl
theorem ai5{s:ByteArray}(h:nameB s=true):pO (txV s)=true:=by
 have h0:0<s.size:=by
  rcases Nat.eq_zero_or_pos s.size with e|e
  ·rw[yV s e] at h;cases h
  ·exact e
 have h32:s.size≤32:=by
  rcases Nat.lt_or_ge 32 s.size with e|e
  ·rw[yU s e] at h;cases h
  ·exact e
 rw[vw s h0 h32,Bool.and_eq_true] at h
 have hu:mX s=true:=by
  unfold mX
  rw[Go.Lib.validD_ascii s.data.toList.length s.data.toList fun b hb=>by
   rw[List.take_length] at hb
   have:=List.all_eq_true.1 h.2 b hb
   unfold rE at this
   simp only[Bool.and_eq_true,decide_eq_true_eq] at this
   omega,List.drop_length]
  rfl
 have hl:oD 4 0 s=true:=by
  unfold oD
  rw[if_neg (by omega),if_neg (by omega),if_neg (by omega),if_pos rfl,hu,decide_eq_true (by omega)];rfl
 have hsnd:(txV s).snd=true:=by
  rw[Ld]
  show((yY 4 0 s 0 0&&oD 4 0 s)&&(ah.iP []&&ay.iP [] []))=true
  rw[hl,yA,zK];rfl
 unfold pO
 rw[hsnd];rfl
end Go.Proofs.YtflpefkohpjjpaaGreatDoor
set_option linter.unusedSimpArgs false
set_option linter.unusedVariables false
namespace Go.Proofs.YtflpefkohpjjpaaGreatDoor
open Go.RowKit
def jY(l:List ak)(s:ByteArray):Prop:=∃x∈l,chg x=true∧vP x=s
theorem Eh{l:List ak}{k:Nat}{y:ak}(hy:l[k]?=some y)(s:ByteArray):jY (l.take (k+1)) s↔jY (l.take k) s∨(chg y=true∧vP y=s):=by
 have hk:=lu hy
 rw[List.getElem?_eq_getElem hk] at hy
 obtain rfl:=Option.some.inj hy
 unfold jY
 rw[List.take_succ_eq_append_getElem hk]
 constructor
 ·rintro⟨x,hx,h⟩
  rcases List.mem_append.1 hx with hx|hx
  ·exact .inl ⟨x,hx,h⟩
  ·rw[List.mem_singleton] at hx;subst hx;exact .inr h
 ·rintro(⟨x,hx,h⟩|h)
  ·exact⟨x,List.mem_append_left _ hx,h⟩
  ·exact⟨_,List.mem_append_right _ (List.mem_singleton.2 rfl),h⟩
theorem af6{x:ak}(hb:aP x.lf1≤50000000-5)(h:Ee x):aiZ x.fC x.fO=some (vP x):=by
 have hp:=fK x
 have ht:=WJ x.fC
 have:=aaA (txV x.fC) x.fO (by omega) (by omega) h.s h.k
 unfold txV at this
 simp only[aiZ,afL,Mo.den,aB,aG,aK,aF,aJ,this,Option.bind_some]
 rfl
theorem aaB(out:List ByteArray)(w:ak)(s:ByteArray)(i:Int)(hl:out.length≤100000)(hs:out.Pairwise lt8):
 ∃k:Nat,Lm out w s i (out.length:Int)=some (k:Int)∧k≤out.length∧(∀j (h:j<out.length),k≤j→lt8 s out[j])∧∀(h:0<k) (h2:k-1<out.length),¬lt8 s out[k-1]:=by
 have key:Tot (Lm out w s i (out.length:Int)) (fun r=>∃k:Nat,r=(k:Int)∧k≤out.length∧(∀j (h:j<out.length),k≤j→lt8 s out[j])∧∀(h:0<k) (h2:k-1<out.length),¬lt8 s out[k-1]):=by
  try unfold Lm
  refine mY (fun v=>∃k:Nat,v=(k:Int)∧k≤out.length∧∀j (h:j<out.length),k≤j→lt8 s out[j]) (fun v=>v.toNat) _ ?_ FU _ ⟨out.length,rfl,Nat.le_refl _,fun j h1 h2=>by omega⟩ (mZ (by omega))
  rintro v ⟨k,rfl,h1,h2⟩
  unfold Eb
  simp only[PW,Mo.den,aB,aG,aK,aF,aJ]
  by_cases h0:0<k
  ·have e:IntKind.wrap .i64 ((k:Int)-1)=((k-1:Nat):Int):=by rw[w64 (by omega) (by omega)];omega
   rw[decide_eq_true (show(0:Int)<(k:Int) by omega),e,AZ _ _ (by omega)]
   simp only[cond_true,Option.bind_some,aon]
   by_cases hlt:lt8 s out[k-1]
   ·have c:(!(decide (lt8 out[k-1] s)||decide (out[k-1]=s)))=true:=by
     rw[decide_eq_false (fun h=>Bc _ (zO h hlt)),decide_eq_false (fun h=>by rw[h] at hlt;exact Bc _ hlt)];rfl
    rw[c]
    refine .inl ⟨_,rfl,⟨k-1,rfl,by omega,fun j hj hkj=>?_⟩,?_⟩
    ·by_cases ej:j=k-1
     ·subst ej;exact hlt
     ·exact h2 j hj (by omega)
    ·show(((k-1:Nat):Int)).toNat<((k:Nat):Int).toNat
     rw[Int.toNat_natCast,Int.toNat_natCast];omega
   ·have c:(!(decide (lt8 out[k-1] s)||decide (out[k-1]=s)))=false:=by
     rcases WI out[k-1] s with h|h|h
     ·rw[decide_eq_true h];rfl
     ·rw[decide_eq_true h,Bool.or_true];rfl
     ·exact absurd h hlt
    rw[c]
    exact .inr ⟨_,rfl,k,rfl,h1,h2,fun _ _=>hlt⟩
  ·rw[decide_eq_false (show ¬(0:Int)<(k:Int) by omega)]
   exact .inr ⟨_,rfl,k,rfl,h1,h2,fun h=>absurd h h0⟩
 obtain⟨r,hr,k,rfl,h⟩:=key
 exact⟨k,hr,h⟩
theorem aaC(w:ak)(hb:aP w.lf1≤50000000-5)(hn:w.aY.length≤1000)(hK:∀x∈[w]++w.aY,chg x=true→Ee x):
 ∃r,Q10 w=some r∧r.Pairwise lt8∧∀s,s∈r↔jY ([w]++w.aY) s:=by
 have hp:=fK w
 have hbx:∀x∈[w]++w.aY,aP x.lf1≤50000000-5:=fun x hx=>by
  rcases List.mem_append.1 hx with hx|hx
  ·rw[List.mem_singleton] at hx;subst hx;exact hb
  ·have:=jR hx;omega
 have hll:([w]++w.aY).length≤1001:=by rw[List.length_append];simp only[List.length_cons,List.length_nil];omega
 have key:Tot (Lp w 0 []) (fun r=>r.Pairwise lt8∧∀s,s∈r↔jY ([w]++w.aY) s):=by
  try unfold Lp
  refine T.kL ([w]++w.aY).length (by omega) (fun k v=>v.1=(k:Int)∧v.2.length≤k∧v.2.Pairwise lt8∧∀s,s∈v.2↔jY (([w]++w.aY).take k) s) _ ⟨rfl,Nat.le_refl _,List.Pairwise.nil,fun s=>⟨fun h=>(by cases h),fun⟨x,hx,_⟩=>(by cases hx)⟩⟩ ?_ ?_
  ·rintro k ⟨i,out⟩ hk ⟨hi,hlen,hs,hm⟩
   obtain rfl:i=(k:Int):=hi
   have hlen:out.length≤k:=hlen
   have hs:out.Pairwise lt8:=hs
   have hm:∀s,s∈out↔jY (([w]++w.aY).take k) s:=hm
   obtain⟨x,hx⟩:∃x,([w]++w.aY)[k]?=some x:=⟨_,List.getElem?_eq_getElem hk⟩
   have hmem:=iU hx
   have hkt:=Eh hx
   have hbk:=hbx _ hmem
   have hKk:=hK _ hmem
   have hch:aez x.au=some (chg x):=by
    simp only[aez,Tt,Mo.den,aB,aG,aK,aF,aJ,jc]
    unfold chg
    cases x.au==2<;>rfl
   have step:∀r:List ByteArray,yE out w (k:Int)=some r→(r.length≤k+1∧r.Pairwise lt8∧∀s,s∈r↔jY (([w]++w.aY).take (k+1)) s)→Tot ((pW w ((k:Int),out)).den) (LP (fun v=>v.1=((k+1:Nat):Int)∧v.2.length≤k+1∧v.2.Pairwise lt8∧∀s,s∈v.2↔jY (([w]++w.aY).take (k+1)) s) (fun r=>r.Pairwise lt8∧∀s,s∈r↔jY ([w]++w.aY) s)):=fun r hr h=>by
    unfold pW
    simp only[Mo.den,aB,aG,aK,aF,aJ]
    rw[ltt hx]
    simp only[cond_true,hr,Option.bind_some]
    exact T.ret ⟨inc k (by omega),h⟩
   cases hc:chg x with
   |false=>
    rw[hc] at hch
    refine step out ?_ ⟨by omega,hs,fun s=>(hm s).trans ((hkt s).trans ⟨fun h=>h.resolve_right (fun h=>by rw[hc] at h;cases h.1),.inl⟩).symm⟩
    simp only[yE,uF,Mo.den,aB,aG,aK,aF,aJ,gid hx,hch,Option.bind_some,Bool.not_false,cond_true]
   |true=>
    rw[hc] at hch
    have hKx:=af6 hbk (hKk hc)
    obtain⟨q,h5,q1,q2,q3⟩:=aaB out w (vP x) (k:Int) (by omega) hs
    have hin:∀s,jY (([w]++w.aY).take (k+1)) s↔(s∈out∨s=vP x):=fun s=>by
     rw[hkt s,hm s,hc]
     exact or_congr Iff.rfl ⟨fun h=>h.2.symm,fun h=>⟨rfl,h.symm⟩⟩
    by_cases hthere:∃(h0:0<q) (h2:q-1<out.length),out[q-1]=vP x
    ·obtain⟨h0,h2,he⟩:=hthere
     have e:IntKind.wrap .i64 ((q:Int)-1)=((q-1:Nat):Int):=by rw[w64 (by omega) (by omega)];omega
     have hg:ig out ((q-1:Nat):Int)=some (vP x):=by rw[AZ _ _ h2,he]
     refine step out ?_ ⟨by omega,hs,fun s=>((hin s).trans ⟨fun h=>h.elim (fun h=>h) (fun h=>by rw[h,←he];exact List.getElem_mem h2),.inl⟩).symm⟩
     simp only[yE,uF,zL,Mo.den,aB,aG,aK,aF,aJ,gid hx,hch,Option.bind_some,Bool.not_true,cond_false,hKx,h5,decide_eq_true (show(0:Int)<(q:Int) by omega),cond_true,e,hg,decide_true]
    ·have hJ:(bif decide ((0:Int)<(q:Int)) then(ig out (IntKind.wrap .i64 ((q:Int)-1))).bind fun a=>some (decide (a=vP x)) else some false)=some false:=by
      by_cases h0:0<q
      ·have e:IntKind.wrap .i64 ((q:Int)-1)=((q-1:Nat):Int):=by rw[w64 (by omega) (by omega)];omega
       rw[decide_eq_true (show(0:Int)<(q:Int) by omega),e,AZ _ _ (by omega)]
       simp only[cond_true,Option.bind_some]
       rw[decide_eq_false fun h=>hthere ⟨h0,by omega,h⟩]
      ·rw[decide_eq_false (show ¬(0:Int)<(q:Int) by omega)];rfl
     have pre:∀a∈out.take q,lt8 a (vP x):=fun a ha=>by
      obtain⟨j,hj,rfl⟩:=List.mem_take_iff_getElem.1 ha
      have hj1:j<q:=by omega
      have hq1:q-1<out.length:=by omega
      have hlast:lt8 out[q-1] (vP x):=by
       rcases WI out[q-1] (vP x) with h|h|h
       ·exact h
       ·exact absurd ⟨by omega,hq1,h⟩ hthere
       ·exact absurd h (q3 (by omega) hq1)
      by_cases ej:j=q-1
      ·subst ej;exact hlast
      ·exact zO (List.pairwise_iff_getElem.1 hs j (q-1) (by omega) hq1 (by omega)) hlast
     have post:∀a∈out.drop q,lt8 (vP x) a:=fun a ha=>by
      obtain⟨j,hj,rfl⟩:=List.mem_drop_iff_getElem.1 ha
      exact q2 _ (by omega) (by omega)
     refine step (out.take q++[vP x]++out.drop q) ?_ ⟨?_,?_,fun s=>?_⟩
     ·have l1:(out.take q).length=q:=by rw[List.length_take];omega
      have l2:(out.drop q).length=out.length-q:=List.length_drop
      simp only[yE,uF,zL,Mo.den,aB,aG,aK,aF,aJ,gid hx,hch,Option.bind_some,Bool.not_true,cond_false,hKx,h5,hJ,Int.toNat_natCast]
      rw[if_pos ⟨by omega,by omega,by omega⟩,if_pos (by rw[l1];simp only[List.length_nil];omega),if_pos (by rw[l1];simp only[List.length_cons,List.length_nil];omega),if_pos ⟨by omega,by omega,by omega⟩,if_pos (by rw[List.length_append,l1,l2];simp only[List.length_cons,List.length_nil];omega)]
     ·rw[List.length_append,List.length_append,List.length_take,List.length_drop];simp only[List.length_cons,List.length_nil];omega
     ·rw[List.append_assoc,List.pairwise_append]
      have hs2:=hs
      rw[←List.take_append_drop q out,List.pairwise_append] at hs2
      refine⟨hs2.1,List.pairwise_cons.2 ⟨post,hs2.2.1⟩,fun a ha b hb=>?_⟩
      rcases List.mem_cons.1 hb with rfl|hb
      ·exact pre a ha
      ·exact hs2.2.2 a ha b hb
     ·rw[hin s]
      conv=>rhs;rw[←List.take_append_drop q out]
      simp only[List.mem_append,List.mem_singleton]
      constructor
      ·rintro((h|h)|h)
       ·exact .inl (.inl h)
       ·exact .inr h
       ·exact .inl (.inr h)
      ·rintro((h|h)|h)
       ·exact .inl (.inl h)
       ·exact .inr h
       ·exact .inl (.inr h)
  ·rintro⟨i,out⟩ ⟨hi,hlen,hs,hm⟩
   obtain rfl:i=(([w]++w.aY).length:Int):=hi
   unfold pW
   simp only[Mo.den,aB,aG,aK,aF,aJ,ltn,cond_false]
   rw[List.take_length] at hm
   exact T.ret ⟨hs,hm⟩
 obtain⟨r,hr,h⟩:=key
 refine⟨r,?_,h⟩
 unfold Q10 ajV
 simp only[Mo.den,aB,aG,aK,aF,aJ,hr,Option.bind_some]
 rw[if_pos (by simp only[List.length_cons,List.length_nil];omega),if_pos (by simp only[List.length_cons,List.length_nil];omega)]
def lookW(w:ak):List ak:=bif w.au==8||w.au==9 then w.aY else [w]
theorem aaD(w:ak)(hb:aP w.lf1≤50000000-5)(hn:w.aY.length≤1000)(hK:∀x∈lookW w,chg x=true→Ee x):
 ∃r,Q22 w=some r∧r.Pairwise lt8∧(∀s,s∈r↔jY (lookW w) s)∧r.length≤1000:=by
 have hp:=fK w
 have hbx:∀x∈lookW w,aP x.lf1≤50000000-5:=fun x hx=>by
  unfold lookW at hx
  cases hq:w.au==8||w.au==9 with
  |true=>rw[hq] at hx;have:=jR (show x∈w.aY from hx);omega
  |false=>rw[hq] at hx;have hx:x∈[w]:=hx;rw[List.mem_singleton] at hx;subst hx;exact hb
 have hll:(lookW w).length≤1000:=by
  unfold lookW
  cases w.au==8||w.au==9
  ·exact Nat.le_of_lt (by simp)
  ·exact hn
 have h0:Ti w=some (w.au==8||w.au==9):=by
  simp only[Ti,NW,Mo.den,aB,aG,aK,aF,aJ,jc]
  cases w.au==8<;>rfl
 have h5:Tj w (w.au==8||w.au==9)=some (lookW w):=by
  simp only[Tj,NY,Mo.den,aB,aG,aK,aF,aJ,jc]
  rfl
 generalize lookW w=lw at *
 have key:Tot (KH lw 0 []) (fun r=>r.length≤1000∧∀s,s∈r↔jY lw s):=by
  try unfold KH
  refine T.kL lw.length (by omega) (fun k v=>v.1=(k:Int)∧v.2.length≤k∧∀s,s∈v.2↔jY (lw.take k) s) _ ⟨rfl,Nat.le_refl _,fun s=>⟨fun h=>(by cases h),fun⟨x,hx,_⟩=>(by cases hx)⟩⟩ ?_ ?_
  ·rintro k ⟨i,out⟩ hk ⟨hi,hlen,hm⟩
   obtain rfl:i=(k:Int):=hi
   have hlen:out.length≤k:=hlen
   have hm:∀s,s∈out↔jY (lw.take k) s:=hm
   obtain⟨x,hx⟩:∃x,lw[k]?=some x:=⟨_,List.getElem?_eq_getElem hk⟩
   have hmem:=iU hx
   have hkt:=Eh hx
   have hbk:=hbx _ hmem
   have hKk:=hK _ hmem
   have hJ10:∀v:Int,KG out lw v x=some (!chg x):=fun v=>by
    simp only[KG,GY,Mo.den,aB,aG,aK,aF,aJ,jc]
    unfold chg bne
    cases x.au==2<;>cases x.au==3<;>rfl
   have step:∀r:List ByteArray,AU out lw (k:Int)=some r→(r.length≤k+1∧∀s,s∈r↔jY (lw.take (k+1)) s)→Tot ((pz lw ((k:Int),out)).den) (LP (fun v=>v.1=((k+1:Nat):Int)∧v.2.length≤k+1∧∀s,s∈v.2↔jY (lw.take (k+1)) s) (fun r=>r.length≤1000∧∀s,s∈r↔jY lw s)):=fun r hr h=>by
    unfold pz
    simp only[Mo.den,aB,aG,aK,aF,aJ]
    rw[ltt hx]
    simp only[cond_true,hr,Option.bind_some]
    exact T.ret ⟨inc k (by omega),h⟩
   cases hc:chg x with
   |false=>
    refine step out ?_ ⟨by omega,fun s=>(hm s).trans ((hkt s).trans ⟨fun h=>h.resolve_right (fun h=>by rw[hc] at h;cases h.1),.inl⟩).symm⟩
    simp only[AU,zG,Mo.den,aB,aG,aK,aF,aJ,gid hx,hJ10,hc,Option.bind_some,Bool.not_false,cond_true]
   |true=>
    have hpx:=fK x
    have ht:=WJ x.fC
    have hE:=af5 (txV x.fC) x.fO (by omega) (by omega) (hKk hc).s (hKk hc).k
    have hE:Q57 [ah.mk 4 0 x.fC [] [],x.fO] [false,false]=some (vP x,0):=hE
    refine step (out++[vP x]) ?_ ⟨by rw[List.length_append];simp only[List.length_cons,List.length_nil];omega,fun s=>?_⟩
    ·simp only[AU,zG,Mo.den,aB,aG,aK,aF,aJ,gid hx,hJ10,hc,Option.bind_some,Bool.not_true,cond_false,hE,beq_self_eq_true,cond_true]
     rw[if_pos (by simp only[List.length_cons,List.length_nil];omega)]
    ·rw[hkt s,List.mem_append,List.mem_singleton,hm s,hc]
     exact or_congr Iff.rfl ⟨fun h=>⟨rfl,h.symm⟩,fun h=>h.2.symm⟩
  ·rintro⟨i,out⟩ ⟨hi,hlen,hm⟩
   obtain rfl:i=(lw.length:Int):=hi
   unfold pz
   simp only[Mo.den,aB,aG,aK,aF,aJ,ltn,cond_false]
   rw[List.take_length] at hm
   exact T.ret ⟨Nat.le_trans hlen hll,hm⟩
 obtain⟨l,hl,hlen,hm⟩:=key
 obtain⟨r,hr,hs,hm2,hrl⟩:=af2 l (by omega)
 refine⟨r,?_,hs,fun s=>(hm2 s).trans (hm s),by omega⟩
 obtain⟨m,hm3,hr⟩:=bV hr
 unfold Q22 ajz
 simp only[Mo.den,aB,aG,aK,aF,aJ,h0,h5,hl,hm3,hr,Option.bind_some]
end Go.Proofs.YtflpefkohpjjpaaGreatDoor
set_option linter.unusedSimpArgs false
set_option linter.unusedVariables false
namespace Go.Proofs.YtflpefkohpjjpaaGreatDoor
open Go.RowKit
end Go.Proofs.YtflpefkohpjjpaaGreatDoor
set_option linter.unusedSimpArgs false
set_option linter.unusedVariables false
namespace Go.Proofs.YtflpefkohpjjpaaGreatDoor
open Go.RowKit
end Go.Proofs.YtflpefkohpjjpaaGreatDoor
set_option linter.unusedSimpArgs false
set_option linter.unusedVariables false
namespace Go.Proofs.YtflpefkohpjjpaaGreatDoor
open Go.RowKit
theorem af7{α τ ε ω:Type}(l:List α)(P:α→Prop)(Q:ε→Prop)(at_:Nat→τ→Prop)(T:τ→Option (τ⊕(ε⊕ω)))
 (hs:∀(k:Nat) (x:α) (v:τ) (r:τ⊕(ε⊕ω)),l[k]?=some x→at_ k v→T v=some r→(∃v',r=.inl v'∧at_ (k+1) v'∧P x)∨∃e,r=.inr (.inl e)∧Q e)
 (he:∀(v:τ) (r:τ⊕(ε⊕ω)),at_ l.length v→T v=some r→∃w,r=.inr (.inr w)):
 ∀(m k F:Nat) (v:τ) (r:ε⊕ω),k+m=l.length→at_ k v→bP T F v=some r→(∃e,r=.inl e∧Q e)∨∃w,r=.inr w∧∀x∈l.drop k,P x:=by
 intro m
 induction m with
 |zero=>
  intro k F v r hk hv h
  obtain rfl:k=l.length:=by omega
  cases F with
  |zero=>cases h
  |succ F=>
   rw[bP] at h
   obtain⟨z,hz,h⟩:=bV h
   obtain⟨w,rfl⟩:=he v z hv hz
   have h:r=.inr w:=(Option.some.inj h).symm
   refine .inr ⟨w,h,fun x hx=>?_⟩
   rw[List.drop_length] at hx;cases hx
 |succ m ih=>
  intro k F v r hk hv h
  have hx:=List.getElem?_eq_getElem (show k<l.length by omega)
  cases F with
  |zero=>cases h
  |succ F=>
   rw[bP] at h
   obtain⟨z,hz,h⟩:=bV h
   rcases hs k _ v z hx hv hz with⟨v',rfl,a1,a2⟩|⟨e,rfl,a1⟩
   ·have h:bP T F v'=some r:=h
    rcases ih (k+1) F v' r (by omega) a1 h with⟨e,b1,b2⟩|⟨w,b1,b2⟩
    ·exact .inl ⟨e,b1,b2⟩
    ·refine .inr ⟨w,b1,fun x hx=>?_⟩
     rw[List.drop_eq_getElem_cons (show k<l.length by omega)] at hx
     rcases List.mem_cons.1 hx with rfl|hx
     ·exact a2
     ·exact b2 x hx
   ·exact .inl ⟨e,(Option.some.inj h).symm,a1⟩
end Go.Proofs.YtflpefkohpjjpaaGreatDoor
set_option linter.unusedSimpArgs false
set_option linter.unusedVariables false
namespace Go.Proofs.YtflpefkohpjjpaaGreatDoor
open Go.RowKit
end Go.Proofs.YtflpefkohpjjpaaGreatDoor
set_option linter.unusedSimpArgs false
set_option linter.unusedVariables false
namespace Go.Proofs.YtflpefkohpjjpaaGreatDoor
open Go.RowKit
theorem Uc(v:ah)(hb:aP v.lf1≤100000000):Q41 v=some (!(v.au==6)&&(!(v.au==1)&&(!(v.au==11)&&pO v))):=by
 simp only[Q41,aeE,fU,G7,Oi,Oh,Mo.den,aB,aG,aK,aF,aJ,D7 v hb,Option.bind_some,jc,aok,bne,Bool.and_assoc]
 congr 1
 ac_rfl
theorem Ud(w:ak)(h:Q7 w=some true):(¬w.au=10→¬w.au=12→w.eU=0)∧(¬w.au=8→¬w.au=9→w.aY=[]):=by
 unfold Q7 amc at h
 simp only[Mo.den,aB,aG,aK,aF,aJ] at h
 obtain⟨ix,_,h⟩:=bV h
 obtain⟨a1,_,h⟩:=bV h
 obtain⟨a2,_,h⟩:=bV h
 obtain⟨a3,_,h⟩:=bV h
 obtain⟨a4,_,h⟩:=bV h
 obtain⟨a5,_,h⟩:=bV h
 obtain⟨a6,_,h⟩:=bV h
 obtain⟨a7,h7,h⟩:=bV h
 obtain⟨a8,h8,h⟩:=bV h
 obtain⟨a9,h9,h⟩:=bV h
 obtain⟨_,_,h⟩:=bV h
 have e9:a9=true:=Option.some.inj h
 unfold DN at h9
 unfold DL at h8
 unfold DK at h7
 simp only[Mo.den,aB,aG,aK,aF,aJ,amb,Tv,Mo.den,aB,aG,aK,aF,aJ,jc,Option.bind_some] at h9 h8 h7
 have h9:=Option.some.inj h9
 have h8:=Option.some.inj h8
 have h7:=Option.some.inj h7
 rw[e9] at h9
 cases e8:a8 with
 |false=>rw[e8] at h9;cases h9
 |true=>
  rw[e8] at h8
  cases e7:a7 with
  |false=>rw[e7] at h8;cases h8
  |true=>
   rw[e7] at h8 h7
   simp only[cond_true] at h8
   refine⟨fun k1 k2=>?_,fun k1 k2=>?_⟩
   ·cases e6:a6 with
    |false=>rw[e6] at h7;cases h7
    |true=>
     rw[e6,show(w.au==10)=false from beq_eq_false_iff_ne.2 k1,show(w.au==12)=false from beq_eq_false_iff_ne.2 k2] at h7
     exact eq_of_beq h7
   ·rw[show(w.au==8)=false from beq_eq_false_iff_ne.2 k1,show(w.au==9)=false from beq_eq_false_iff_ne.2 k2] at h8
    exact len0 h8
end Go.Proofs.YtflpefkohpjjpaaGreatDoor
set_option linter.unusedSimpArgs false
set_option linter.unusedVariables false
namespace Go.Proofs.YtflpefkohpjjpaaGreatDoor
theorem aaE:anU=some true:=by kernel_rfl
end Go.Proofs.YtflpefkohpjjpaaGreatDoor
set_option linter.unusedSimpArgs false
set_option linter.unusedVariables false
namespace Go.Proofs.YtflpefkohpjjpaaGreatDoor
open Go.RowKit
theorem ai6(e:bG)(hb:aP e.lf1≤100000000):∃b,al5 e=some b:=by
 have hbe:=kZ e
 have hbw:=fK e.dA
 have hlw:=iM e.dA.aY
 have hI:∃c,Q48 e.dA.aY=some c:=by
  have hL:Tn e.dA.aY 0=some (afD (vO (fun k=>match e.dA.aY[k]? with|some x=>bif decide ((300:Int)<(x.aY.length:Int)) then some (k:Int) else none|none=>none) 0 e.dA.aY.length)):=by
   try unfold Tn
   refine TV _ e.dA.aY.length (by omega) (fun k hk=>?_) (by simp only[xZ,Mo.den,aB,aG,aK,aF,aJ,ltn,cond_false])
   obtain⟨x,hx⟩:∃x,e.dA.aY[k]?=some x:=⟨_,List.getElem?_eq_getElem hk⟩
   simp only[xZ,anV,aeu,Mo.den,aB,aG,aK,aF,aJ,ltt hx,gid hx,cond_true,Option.bind_some,hx]
   cases decide ((300:Int)<(x.aY.length:Int))<;>rfl
  unfold Q48 ajA
  simp only[Mo.den,aB,aG,aK,aF,aJ,hL,Option.bind_some]
  generalize vO _ 0 e.dA.aY.length=o
  cases o<;>exact⟨_,rfl⟩
 obtain⟨c,hc⟩:=hI
 unfold al5 aew anW aev
 simp only[Mo.den,aB,aG,aK,aF,aJ,hc,Option.bind_some,jc]
 exact⟨_,rfl⟩
end Go.Proofs.YtflpefkohpjjpaaGreatDoor
set_option linter.unusedSimpArgs false
set_option linter.unusedVariables false
namespace Go.Proofs.YtflpefkohpjjpaaGreatDoor
open Go.RowKit
theorem aaF(n:Nat):∀x:ak,aP x.lf1<n→aP x.lf1≤100000000→Ap ((qH n).m1 x) (wrL x.lf1):=by
 induction n with
 |zero=>intro x h _;omega
 |succ n ih=>
  intro x h hb
  have hl:=iM x.aY
  have hl1:=ny x.dK
  rw[fK] at h hb
  have hL:Ap (SH (qH n) x 0) (wrQ (x.aY.map ak.lf)):=by
   refine Ap.of' (fun b hb=>by unfold SH;rfl) (Ap.loop ak.lf x.aY (fun p b=>(qH n).m1 p b) _ (by omega) (fun x hx=>by have h1:=jR hx;exact(ih _ (by omega) (by omega)).to (by rw[ak.aS])) fun k s=>⟨fun y h=>?_,fun h=>?_⟩) rfl
   ·obtain⟨h1,h2⟩:=(dZ x.aY k).1 y h
    simp only[xQ,Mo.den,aB,aF,h1,h2,cond_true,Option.bind_some,Option.bind_assoc]
   ·simp only[xQ,Mo.den,aB,aF,(dZ x.aY k).2 h,cond_false]
  have hL2:Ap (SI (qH n) x 0) (wrQ (x.dK.map lfI)):=by
   refine Ap.of' (fun b hb=>by unfold SI;rfl) (Ap.loop lfI x.dK (fun p b=>Q6 p b) _ (by omega) (fun x hx=>(fD x).to (by simp only[lfI,wrL,wrF,ByteArray.append_empty])) fun k s=>⟨fun y h=>?_,fun h=>?_⟩) rfl
   ·obtain⟨h1,h2⟩:=(dZ x.dK k).1 y h
    simp only[xR,Mo.den,aB,aF,h1,h2,cond_true,Option.bind_some,Option.bind_assoc]
   ·simp only[xR,Mo.den,aB,aF,(dZ x.dK k).2 h,cond_false]
  refine Ap.of' (fun b hr=>?_) (Ap.bind (fD (x.au)) (Ap.bind (oL (x.fC)) (Ap.bind (nC (x.fO) (by omega)) (Ap.bind (nC (x.aT) (by omega)) (Ap.bind (nC (x.dG) (by omega)) (Ap.bind (DY (x.dh) (by omega)) (Ap.bind (yt (x.bf) (by omega)) (Ap.bind (oL (x.nN)) (Ap.bind (fD (x.eU)) (Ap.bind (fD ((x.aY.length:Int))) (Ap.bind hL (Ap.bind (fD ((x.dK.length:Int))) (Ap.bind hL2 (Ap.bind (mM (x.iQ)) Ap.nil)))))))))))))) ?_
  ·simp only[qH,adJ,Mo.den,aB,aF]
  ·simp only[ak.lf1,mJ,wrL,wrF,List.length_map,ByteArray.append_empty,ByteArray.append_assoc]
theorem af8(v:ak)(hb:aP v.lf1≤100000000):Ap (Q21 v) (wrL v.lf1):=aaF FU v (mZ (by omega)) hb
theorem af9(x:bG)(hb:aP x.lf1≤100000000):Ap (alS x) (wrL x.lf1):=by
 rw[kZ] at hb
 refine Ap.of' (fun b hb=>?_) (Ap.bind (fD (x.rD)) (Ap.bind (fD (x.eU)) (Ap.bind (oL (x.jV)) (Ap.bind (fD (x.ql)) (Ap.bind (af8 (x.dA) (by omega)) Ap.nil))))) ?_
 ·simp only[alS,adK,Mo.den,aB,aF]
 ·simp only[bG.lf1,mJ,wrL,wrF,ByteArray.append_empty,ByteArray.append_assoc]
theorem aga(x:bG)(hb:aP x.lf1≤100000000):adM x=some (wrL x.lf1):=by
 have h1:=vN x.lf1
 have h2:=af9 x hb ⟨⟨#[]⟩,false,true⟩ rfl (by show 0+_≤_;omega)
 simp only[adM,adL,Mo.den,aB,aG,aK,aF,aJ,h2,Option.bind_some]
 exact congrArg some ByteArray.empty_append
end Go.Proofs.YtflpefkohpjjpaaGreatDoor
set_option linter.unusedSimpArgs false
set_option linter.unusedVariables false
namespace Go.Proofs.YtflpefkohpjjpaaGreatDoor
open Go.RowKit
theorem aaG(f:Nat):∀v:ah,aP v.lf1<f→aP v.lf1≤100000000→Tot ((rX f).m1 v) (fun r=>r.size≤12*aP v.lf1):=by
 induction f with
 |zero=>intro v h;omega
 |succ f ih=>
  intro v h hb
  have hl:=fG v.aU
  have hd:=fH v.aT
  have hbv:=bQ v
  have e1:∀n,(DX n).size≤11:=um
  have hL:∀s0:ByteArray,s0.size≤100→Tot (Vt (rX f) v s0 0) (fun r=>r.size≤s0.size+12*bK (v.aU.map ah.lf)):=by
   intro s0 hs0
   refine T.kL v.aU.length (by omega) (fun k s=>s.2=(k:Int)∧s.1.size≤s0.size+12*bK ((v.aU.take k).map ah.lf)) _ ⟨rfl,by simp⟩ ?_ ?_
   ·rintro k ⟨s,i⟩ hk ⟨h1,h2⟩
    obtain rfl:i=(k:Int):=h1
    have h2:s.size≤s0.size+12*bK ((v.aU.take k).map ah.lf):=h2
    have hx:=List.getElem?_eq_getElem hk
    have hxb:=iK (iU hx)
    have ht:=DZ ah.lf hx
    have ht2:=uO ah.lf v.aU k
    rw[ah.aS] at ht
    simp only[tY,Mo.den,aB,aG,aK,aF,aJ,ltt hx,gid hx,cond_true,Option.bind_some]
    refine T.bind (ih _ (by omega) (by omega)) fun r hr=>T.grd (by omega) (T.ret ⟨inc k (by omega),?_⟩)
    show(s++r).size≤_
    rw[ByteArray.size_append];omega
   ·rintro⟨s,i⟩ ⟨h1,h2⟩
    obtain rfl:i=(v.aU.length:Int):=h1
    simp only[tY,Mo.den,aB,aG,aK,aF,aJ,ltn,cond_false]
    rw[List.take_length] at h2
    exact T.ret h2
  have hF:∀s0:ByteArray,s0.size≤100→Tot (Vu (rX f) v s0 0) (fun r=>r.size≤s0.size+12*bK (v.aT.map ay.lf)):=by
   intro s0 hs0
   refine T.kL v.aT.length (by omega) (fun k s=>s.2=(k:Int)∧s.1.size≤s0.size+12*bK ((v.aT.take k).map ay.lf)) _ ⟨rfl,by simp⟩ ?_ ?_
   ·rintro k ⟨s,i⟩ hk ⟨h1,h2⟩
    obtain rfl:i=(k:Int):=h1
    have h2:s.size≤s0.size+12*bK ((v.aT.take k).map ay.lf):=h2
    have hx:=List.getElem?_eq_getElem hk
    have hxb:=fE (iU hx)
    have ht:=DZ ay.lf hx
    have ht2:=uO ay.lf v.aT k
    rw[ay.aS] at ht
    have hf:=dY v.aT[k]
    have hn:=e1 (v.aT[k].fName.size:Int)
    simp only[tZ,Mo.den,aB,aG,aK,aF,aJ,ltt hx,gid hx,cond_true,Option.bind_some,KZ,ByteArray.size_append]
    refine T.grd (by omega) (T.grd (by omega) (T.bind (ih _ (by omega) (by omega)) fun r hr=>T.grd (by omega) (T.ret ⟨inc k (by omega),?_⟩)))
    show(s++DX _++v.aT[k].fName++r).size≤_
    simp only[ByteArray.size_append];omega
   ·rintro⟨s,i⟩ ⟨h1,h2⟩
    obtain rfl:i=(v.aT.length:Int):=h1
    simp only[tZ,Mo.den,aB,aG,aK,aF,aJ,ltn,cond_false]
    rw[List.take_length] at h2
    exact T.ret h2
  simp only[rX,ady,GV,NQ,NR,Mo.den,aB,aG,aK,aF,aJ,KZ,Option.bind_some,ByteArray.size_append,gJ]
  refine T.bind (R:=fun r=>r.size≤12*aP v.lf1) ?_ fun r hr=>T.ret hr
  have e2:=e1 v.dD
  have e3:=e1 (v.fText.size:Int)
  have e4:=e1 (v.aU.length:Int)
  have e5:=e1 (v.aT.length:Int)
  refine T.bind (R:=Any) (T.ite (fun _=>T.any) fun _=>T.any) fun _ _=>?_
  refine T.ite (fun _=>T.grd (by omega) (T.ret (by simp only[ByteArray.size_append,gJ];omega))) fun _=>?_
  refine T.ite (fun _=>T.grd (by omega) (T.ret (by simp only[ByteArray.size_append,gJ];omega))) fun _=>?_
  refine T.bind (R:=Any) (T.ite (fun _=>T.any) fun _=>T.any) fun _ _=>?_
  refine T.ite (fun _=>T.grd (by omega) (T.grd (by omega) (T.ret (by simp only[ByteArray.size_append,gJ];omega)))) fun _=>?_
  refine T.ite (fun _=>T.grd (by omega) (T.ret (by simp only[ByteArray.size_append,gJ];omega))) fun _=>?_
  refine T.ite (fun _=>T.grd (by omega) (T.bind (hL _ (by simp only[ByteArray.size_append,gJ];omega)) fun r hr=>T.ret (by simp only[ByteArray.size_append,gJ] at hr;omega))) fun _=>?_
  refine T.ite (fun _=>T.grd (by omega) (T.bind (hF _ (by simp only[ByteArray.size_append,gJ];omega)) fun r hr=>T.ret (by simp only[ByteArray.size_append,gJ] at hr;omega))) fun _=>?_
  exact T.ret (by simp only[gJ];omega)
theorem Lr(v:ah)(hb:aP v.lf1≤100000000):Tot (alM v) (fun r=>r.1.size≤12*aP v.lf1∧(r.2=0∨r.2=8)):=by
 simp only[alM,adz,Mo.den,aB,aG,aK,aF,aJ,Q17]
 refine T.bind (kH v hb) fun b _=>T.ite (fun _=>T.ret ⟨Nat.zero_le _,.inr rfl⟩) fun _=>?_
 exact T.bind (aaG FU v (by have:=gX;omega) hb) fun r hr=>T.ret ⟨hr,.inl rfl⟩
theorem Ue(v:ah)(hb:aP v.lf1≤100000000):Tot (amf v) (fun r=>r.2=0∨r.2=8):=by
 simp only[amf,aeF,Mo.den,aB,aG,aK,aF,aJ]
 exact T.bind (Lr v hb) fun r hr=>T.ret hr.2
theorem amW{α:Type}{l:List α}(h:0<l.length):ig l 0=some l[0]:=AZ l 0 h
theorem amX(v:ah)(hb:aP v.lf1≤100000000):Tot (Q67 v) (fun r=>r.2=true→0<v.aT.length):=by
 unfold Q67 ajC G9 G8 Ol Oj
 simp only[Mo.den,aB,aG,aK,aF,aJ]
 refine T.bind (R:=fun b=>b=false→0<v.aT.length) (T.bind (kH v hb) fun b _=>T.ite (fun _=>T.ret (by simp)) fun _=>T.ret fun h=>?_) fun b hb=>?_
 ·have h:¬(v.aT.length:Int)=0:=by simpa using h
  omega
 refine T.bind (R:=fun b=>b=false→0<v.aT.length) (T.ite (fun _=>T.ret (by simp)) fun h=>?_) fun c hc=>T.ite (fun _=>T.ret (by simp)) fun h=>?_
 ·rw[amW (hb h)];exact T.ret fun _=>hb h
 ·have h0:=hc h
  rw[amW h0]
  simp only[Option.bind_some]
  exact T.bind (R:=Any) (T.ite (fun _=>T.any) fun _=>T.any) fun _ _=>T.bind (R:=Any) (T.ite (fun _=>T.any) fun _=>T.any) fun _ _=>T.ite (fun _=>T.ret (by simp)) fun _=>T.ret fun _=>h0
theorem Storing_tot'(v:ah)(hb:aP v.lf1≤100000000):Tot (air v) (fun e=>e=0∨e=2→0<v.aT.length):=by
 simp only[air,aeG,Mo.den,aB,aG,aK,aF,aJ]
 refine T.bind (amX v hb) fun r hr=>T.ite (fun _=>T.ret (by omega)) fun h=>?_
 have h0:=hr (by simpa using h)
 exact T.bind (Ue v hb) fun r hr=>T.ite (fun _=>T.ret fun _=>h0) fun _=>T.ite (fun _=>T.ret fun _=>h0) fun _=>T.ret fun _=>h0
theorem Qg(v:ah)(hb:aP v.lf1≤100000000):Tot (air v) Any:=T.wk (Storing_tot' v hb)
theorem pX(a b:Int):Tot (ais a b) Any:=by
 simp only[ais,aeH,Mo.den,aB,aG,aK,aF,aJ]
 exact T.ite (fun _=>T.any) fun _=>T.ite (fun _=>T.any) fun _=>T.any
theorem IY(a b:ByteArray)(ha:a.size≤100000000)(hb:b.size≤100000000):Tot (Q80 a b) Any:=by
 unfold Q80 ajD Oo Om
 simp only[Mo.den,aB,aG,aK,aF,aJ]
 refine T.bind (R:=Any) ?_ (by rintro(r|r) _;exact T.any;exact T.bind (pX _ _) fun _ _=>T.any)
 refine T.aag (min a.size b.size) (by omega) _ (fun k hk=>?_) ?_
 ·simp only[iLt (show k<a.size by omega), iLt (show k<b.size by omega), cond_true, Option.bind_some, jv a k (by omega), jv b k (by omega)]
  exact T.ite (fun _=>T.bind (pX _ _) fun _ _=>T.ret trivial) fun _=>T.ret rfl
 ·have:(bif decide (((min a.size b.size:Nat):Int)<(a.size:Int)) then some (decide (((min a.size b.size:Nat):Int)<(b.size:Int))) else some false)=some false:=by
   by_cases h:a.size≤b.size
   ·rw[Nat.min_eq_left h,ltn];rfl
   ·rw[Nat.min_eq_right (by omega),ltn];cases decide ((b.size:Int)<(a.size:Int))<;>rfl
  rw[this];exact T.ret trivial
theorem Ls(f:Nat):∀a b:ah,aP a.lf1<f→aP a.lf1≤100000000→aP b.lf1≤100000000→Tot ((zH f).m1 a b) Any:=by
 induction f with
 |zero=>intro a b h;omega
 |succ f ih=>
  intro a b h ha hb
  have hla:=fG a.aU
  have hda:=fH a.aT
  have hlb:=fG b.aU
  have hdb:=fH b.aT
  have hav:=bQ a
  have hbv:=bQ b
  simp only[zH,Q15,aeJ,Hq,Ho,Hg,Hf,He,Ot,Oq,Mo.den,aB,aG,aK,aF,aJ]
  refine T.ite (fun _=>T.bind (pX _ _) fun _ _=>T.any) fun _=>?_
  refine T.bind (R:=Any) (T.ite (fun _=>T.any) fun _=>T.ite (fun _=>T.any) fun _=>T.any) fun _ _=>T.ite (fun _=>T.bind (pX _ _) fun _ _=>T.any) fun _=>?_
  refine T.bind (R:=Any) (T.ite (fun _=>T.any) fun _=>T.ite (fun _=>T.any) fun _=>T.any) fun _ _=>T.ite (fun _=>T.bind (IY _ _ (by omega) (by omega)) fun _ _=>T.any) fun _=>?_
  refine T.ite (fun _=>?_) fun _=>T.ite (fun _=>?_) fun _=>T.any
  ·refine T.bind (R:=Any) ?_ (by rintro(r|r) _;exact T.any;exact T.bind (pX _ _) fun _ _=>T.any)
   refine T.aag (min a.aU.length b.aU.length) (by omega) _ (fun k hk=>?_) ?_
   ·have hx:=List.getElem?_eq_getElem (show k<a.aU.length by omega)
    have hy:=List.getElem?_eq_getElem (show k<b.aU.length by omega)
    have hxb:=iK (iU hx)
    have hyb:=iK (iU hy)
    simp only[ltt hx,ltt hy,gid hx,gid hy,cond_true,Option.bind_some]
    exact T.bind (ih _ _ (by omega) (by omega) (by omega)) fun _ _=>T.ite (fun _=>T.ret trivial) fun _=>T.ret rfl
   ·have:(bif decide (((min a.aU.length b.aU.length:Nat):Int)<(a.aU.length:Int)) then some (decide (((min a.aU.length b.aU.length:Nat):Int)<(b.aU.length:Int))) else some false)=some false:=by
     by_cases h:a.aU.length≤b.aU.length
     ·rw[Nat.min_eq_left h,ltn];rfl
     ·rw[Nat.min_eq_right (by omega),ltn];cases decide ((b.aU.length:Int)<(a.aU.length:Int))<;>rfl
    rw[this];exact T.ret trivial
  ·refine T.bind (R:=Any) ?_ (by rintro(r|r) _;exact T.any;exact T.bind (pX _ _) fun _ _=>T.any)
   refine T.aag (min a.aT.length b.aT.length) (by omega) _ (fun k hk=>?_) ?_
   ·have hx:=List.getElem?_eq_getElem (show k<a.aT.length by omega)
    have hy:=List.getElem?_eq_getElem (show k<b.aT.length by omega)
    have hxb:=fE (iU hx)
    have hyb:=fE (iU hy)
    rw[dY] at hxb hyb
    simp only[ltt hx,ltt hy,gid hx,gid hy,cond_true,Option.bind_some]
    exact T.bind (IY _ _ (by omega) (by omega)) fun _ _=>T.bind (R:=Any) (T.ite (fun _=>T.bind (ih _ _ (by omega) (by omega) (by omega)) fun _ _=>T.any) fun _=>T.any) fun _ _=>T.ite (fun _=>T.ret trivial) fun _=>T.ret rfl
   ·have:(bif decide (((min a.aT.length b.aT.length:Nat):Int)<(a.aT.length:Int)) then some (decide (((min a.aT.length b.aT.length:Nat):Int)<(b.aT.length:Int))) else some false)=some false:=by
     by_cases h:a.aT.length≤b.aT.length
     ·rw[Nat.min_eq_left h,ltn];rfl
     ·rw[Nat.min_eq_right (by omega),ltn];cases decide ((b.aT.length:Int)<(a.aT.length:Int))<;>rfl
    rw[this];exact T.ret trivial
theorem Qh(a b:ah)(ha:aP a.lf1≤100000000)(hb:aP b.lf1≤100000000):Tot (Q15 a b) Any:=Ls FU a b (by have:=gX;omega) ha hb
theorem Ei(d k:ah)(hd:aP d.lf1≤100000000)(hk:aP k.lf1≤100000000):Tot (amh d k) Any:=by
 have hbv:=bQ d
 simp only[amh,aeK,Hr,Mo.den,aB,aG,aK,aF,aJ]
 refine T.bind (Storing_tot' d hd) fun e he=>T.bind (R:=fun b=>b=false→0<d.aT.length) (T.ite (fun _=>T.ret fun h=>he (.inr (by simpa using h))) fun h=>T.ret fun _=>he (.inl (by simpa using h))) fun b hb=>T.ite (fun _=>T.any) fun h=>?_
 have h0:=hb h
 have hm:=fE (List.getElem_mem h0)
 rw[dY] at hm
 rw[amW h0]
 simp only[Option.bind_some]
 exact T.bind (Qh _ _ (by omega) hk) fun _ _=>T.ite (fun _=>T.any) fun _=>T.bind (Qg d hd) fun _ _=>T.any
theorem Qi(d:bU)(hb:aP d.lf1≤100000000):Tot (al9 d) Any:=by
 have h1:=vN d.lf1
 have h2:=DY d hb ⟨⟨#[]⟩,false,true⟩ rfl (by show 0+_≤_;omega)
 have hz:aP (bU.mk ⟨#[]⟩ [] aH.z 0 0).lf1=25:=by kernel_rfl
 have h3:=vN (bU.mk ⟨#[]⟩ [] aH.z 0 0).lf1
 have h4:=DY (bU.mk ⟨#[]⟩ [] aH.z 0 0) (by omega) ⟨⟨#[]⟩,false,true⟩ rfl (by show 0+_≤_;omega)
 simp only[al9,aeA,GZ,Mo.den,aB,aG,aK,aF,aJ,h2,h4,Option.bind_some]
 exact T.bind (R:=Any) (T.ite (fun _=>T.any) fun _=>T.any) fun _ _=>T.ite (fun _=>T.any) fun _=>T.any
theorem Qj(d:aQ)(hb:aP d.lf1≤100000000):Tot (ama d) Any:=by
 have h1:=vN d.lf1
 have h2:=yt d hb ⟨⟨#[]⟩,false,true⟩ rfl (by show 0+_≤_;omega)
 have hz:aP aQ.z.lf1=31:=by kernel_rfl
 have h3:=vN aQ.z.lf1
 have h4:=yt aQ.z (by omega) ⟨⟨#[]⟩,false,true⟩ rfl (by show 0+_≤_;omega)
 simp only[ama,aeB,Mo.den,aB,aG,aK,aF,aJ,h2,h4,Option.bind_some]
 exact T.any
theorem EY(s:aH)(hb:aP s.lf1≤100000000):Tot (Tz s 0 []) (fun r=>bK (r.map lfS)≤100000000):=by
 have hl:=mQ s.dR
 rw[gQ] at hb
 have e:∀l:List bD,bK ((l.map bD.fName).map lfS)≤bK (l.map bD.lf):=by
  intro l
  induction l with
  |nil=>simp
  |cons x l ih=>simp only[List.map_cons,bK,bD.aS,pG,TA];omega
 have:Tot (Tz s 0 []) (fun r=>r=s.dR.map bD.fName):=by
  refine T.kL s.dR.length (by omega) (fun k v=>v=((k:Int),(s.dR.take k).map bD.fName)) _ rfl ?_ ?_
  ·rintro k v hk rfl
   have hx:=List.getElem?_eq_getElem hk
   simp only[yg,Mo.den,aB,aG,aK,aF,aJ,ltt hx,gid hx,cond_true,Option.bind_some]
   refine T.grd (by simp only[List.length_map,List.length_take,List.length_cons,List.length_nil];omega) (T.ret ?_)
   show _=_
   rw[inc k (by omega),List.take_succ_eq_append_getElem hk,List.map_append];rfl
  ·rintro v rfl
   simp only[yg,Mo.den,aB,aG,aK,aF,aJ,ltn,cond_false]
   exact T.ret (show _=_ by rw[List.take_length])
 refine T.mono this ?_
 rintro r rfl
 have:=e s.dR
 omega
theorem Ej(x:aQ):aP (aQ.abh x ⟨#[]⟩).lf1≤aP x.lf1:=by
 rw[iE,iE]
 show 6+0+bK (x.fJ.map bn.lf)+aP x.bF.lf1≤_
 omega
end Go.Proofs.YtflpefkohpjjpaaGreatDoor
