/- Walking over a row leaf by leaf. -/
import Derived.Test.YtbdcaeahocbkbaaGreatDoorQAOutP
import Derived.OpenShut
set_option linter.unusedSimpArgs false
set_option linter.unusedVariables false
namespace Go.Proofs.YtbdcaeahocbkbaaGreatDoor
open Go.RowKit
theorem WTr.len{P:Program}:∀(r:List Lf) (shs:List Shp),WTr P r shs→r.length=shs.length
 |[],shs,h=>by unfold WTr at h;rw[h];rfl
 |x::r,shs,h=>by
  unfold WTr at h
  obtain⟨s,q,rfl,_,h2⟩:=h
  rw[List.length_cons,List.length_cons,WTr.len r q h2]
theorem WTr.at_{P:Program}:∀(r:List Lf) (shs:List Shp),WTr P r shs→∀(o:Nat) (s:Shp),shs[o]?=some s→∃x,r[o]?=some x∧WTf P x s
 |[],shs,h,o,s,hs=>by unfold WTr at h;rw[h] at hs;simp at hs
 |x::r,shs,h,o,s,hs=>by
  unfold WTr at h
  obtain⟨s',q,rfl,h1,h2⟩:=h
  cases o with
  |zero=>
   obtain rfl:s'=s:=by simpa using hs
   exact⟨x,rfl,h1⟩
  |succ o=>simpa using WTr.at_ r q h2 o s (by simpa using hs)
theorem WTr.drop{P:Program}:∀(n:Nat) (r:List Lf) (shs:List Shp),WTr P r shs→WTr P (r.drop n) (shs.drop n)
 |0,r,shs,h=>by simpa using h
 |n+1,[],shs,h=>by unfold WTr at h;rw[h];simp[WTr]
 |n+1,x::r,shs,h=>by
  unfold WTr at h
  obtain⟨s,q,rfl,_,h2⟩:=h
  simpa using WTr.drop n r q h2
theorem WTr.take{P:Program}:∀(n:Nat) (r:List Lf) (shs:List Shp),WTr P r shs→WTr P (r.take n) (shs.take n)
 |0,r,shs,h=>by simp[WTr]
 |n+1,[],shs,h=>by unfold WTr at h;rw[h];simp[WTr]
 |n+1,x::r,shs,h=>by
  unfold WTr at h
  obtain⟨s,q,rfl,h1,h2⟩:=h
  rw[List.take_succ_cons,List.take_succ_cons]
  unfold WTr
  exact⟨s,q.take n,rfl,h1,WTr.take n r q h2⟩
theorem dU.drop{I:Gh}:∀(n:Nat) (r:List Lf) (cs:List Value),dU I r cs→dU I (r.drop n) (cs.drop n)
 |0,r,cs,h=>by simpa using h
 |n+1,[],cs,h=>by rw[show cs=[] from h];rfl
 |n+1,x::r,cs,⟨c,q,e,_,h2⟩=>by rw[e];simpa using dU.drop n r q h2
theorem dU.take{I:Gh}:∀(n:Nat) (r:List Lf) (cs:List Value),dU I r cs→dU I (r.take n) (cs.take n)
 |0,r,cs,h=>by simp[dU]
 |n+1,[],cs,h=>by rw[show cs=[] from h];rfl
 |n+1,x::r,cs,⟨c,q,e,h1,h2⟩=>by
  rw[e,List.take_succ_cons,List.take_succ_cons]
  exact⟨c,q.take n,rfl,h1,dU.take n r q h2⟩
theorem aiZ(n:Int)(h : -18446744073709551616≤n∧n≤18446744073709551616):(vM (zz n)).length≤10:=by
 refine UU 9 _ ?_
 have:zz n<590295810358705651712:=by unfold zz;split<;>omega
 exact Nat.lt_of_lt_of_le this (by decide)
theorem arY{k:IntKind}{n:Int}(h:(Lit.int k n).wf=true) : -18446744073709551616≤n∧n≤18446744073709551616:=by
 simp only[Lit.wf,Bool.and_eq_true,decide_eq_true_eq] at h
 have h1:∀k:IntKind,-18446744073709551616≤IntKind.min k∧IntKind.max k≤18446744073709551616:=by intro k;cases k<;>decide
 have:=h1 k
 omega
mutual
theorem ai0 {I:Gh}:∀(x:Lf) (v:Value),LRp I x v→(codeF x).length≤12*x.bulk
 |.int k n,v,h=>by have:=aiZ n (arY h.int.2);simp only[codeF,Lf.bulk];omega
 |.str s,v,h=>by
  have h2:=h.str.2
  unfold maxLen at h2
  have:=aiZ (s.size:Int) (by omega)
  have e:s.data.toList.length=s.size:=by simp
  simp only[codeF,Lf.bulk,List.length_append];omega
 |.bool b,v,h=>by simp[codeF,Lf.bulk]
 |.rows n l,v,h=>by
  unfold LRp at h
  obtain⟨a,c,_,h2,h3,h4⟩:=h
  unfold maxLen at h3
  have h5:=aiZ (l.length:Int) (by omega)
  have h6:(BG l).length≤12*bM l:=by
   cases hl:l with
   |nil=>simp[BG]
   |cons r q=>
    rw[←hl]
    obtain⟨b,off,_,hr⟩:=h4 (by rw[hl];simp)
    exact X9 b n off l hr
  simp only[codeF,Lf.bulk,List.length_append];omega
theorem X9 {I:Gh} (b n:Nat):∀(o:Nat) (l:List (List Lf)),RRp I b n o l→(BG l).length≤12*bM l
 |_,[],_=>by simp[BG]
 |o,r::q,h=>by
  unfold RRp at h
  have h1:=Ya b o r h.2.1
  have h2:=X9 b n (o+n) q h.2.2
  simp only[BG,bM,List.length_append];omega
theorem Ya {I:Gh} (b:Nat):∀(o:Nat) (r:List Lf),CRp I b o r→(oD r).length≤12*aW r
 |_,[],_=>by simp[oD]
 |o,x::r,h=>by
  unfold CRp at h
  obtain⟨⟨v,_,h1⟩,h2⟩:=h
  have h1:=ai0 x v h1
  have h2:=Ya b (o+1) r h2
  simp only[oD,aW,List.length_append];omega
end
theorem JZ(l:List (List Lf)):BG l=oD l.flatten:=by
 induction l with
 |nil=>rfl
 |cons r q ih=>rw[List.flatten_cons,zx];simp only[BG,ih]
theorem J3(l:List (List Lf)):bM l=aW l.flatten:=by
 induction l with
 |nil=>rfl
 |cons r q ih=>rw[List.flatten_cons,fO];simp only[bM,ih]
def StW(T L:List UInt8)(R:List Lf):Prop:=L.length+12*aW R≤562949953421312∧L++oD R=T
theorem StW.start{L:List UInt8}{r:List Lf}(h:L.length+12*aW r≤562949953421312):StW (L++oD r) L (r.drop 0++[]):=by simpa[StW] using h
theorem StW.len{T L:List UInt8}{R:List Lf}(h:StW T L R):L.length≤562949953421312:=by have:=h.1;omega
theorem StW.leaf{T L:List UInt8}{r R:List Lf}{o:Nat}{x:Lf}(h:StW T L (r.drop o++R))(hx:r[o]?=some x)(hc:(codeF x).length≤12*x.bulk):StW T (L++codeF x) (r.drop (o+1)++R):=by
 obtain⟨hlt,e⟩:=List.getElem?_eq_some_iff.1 hx
 rw[List.drop_eq_getElem_cons hlt,e] at h
 unfold StW at h ⊢
 simp only[List.cons_append,aW,oD,List.length_append] at h ⊢
 exact⟨by omega,by rw[List.append_assoc];exact h.2⟩
theorem StW.sub{T L:List UInt8}{r R:List Lf}{o:Nat}(n:Nat)(h:StW T L (r.drop o++R))(hc:(oD ((r.drop o).take n)).length≤12*aW ((r.drop o).take n)):
 L.length+12*aW ((r.drop o).take n)≤562949953421312∧StW T (L++oD ((r.drop o).take n)) (r.drop (o+n)++R):=by
 have e:r.drop o=(r.drop o).take n++r.drop (o+n):=by rw[←List.drop_drop,List.take_append_drop]
 rw[e] at h
 unfold StW at h ⊢
 rw[List.append_assoc,fO,zx] at h
 refine⟨by omega,?_,by rw[List.append_assoc];exact h.2⟩
 rw[List.length_append];omega
theorem StW.rows{T L:List UInt8}{r R:List Lf}{o n:Nat}{l:List (List Lf)}(h:StW T L (r.drop o++R))(hx:r[o]?=some (.rows n l))(hc:(vM (zz (l.length:Int))).length≤10):StW T (L++vM (zz (l.length:Int))) ((l.drop 0).flatten++(r.drop (o+1)++R)):=by
 obtain⟨hlt,e⟩:=List.getElem?_eq_some_iff.1 hx
 rw[List.drop_eq_getElem_cons hlt,e] at h
 unfold StW at h ⊢
 rw[List.drop_zero,zx,fO,←JZ,←J3]
 simp only[List.cons_append,aW,oD,codeF,Lf.bulk,List.length_append] at h ⊢
 exact⟨by omega,by rw[←h.2];simp only[List.append_assoc]⟩
theorem StW.slice{T L:List UInt8}{l:List (List Lf)}{R:List Lf}(h:L.length+12*(1+bM l)≤562949953421312)(hc:(vM (zz (l.length:Int))).length≤10):StW (L++(vM (zz (l.length:Int))++BG l)) (L++vM (zz (l.length:Int))) ((l.drop 0).flatten++[]):=by
 unfold StW
 rw[List.drop_zero,List.append_nil,←JZ,←J3,List.length_append,List.append_assoc]
 exact⟨by omega,rfl⟩
theorem StW.next{T L:List UInt8}{l:List (List Lf)}{R:List Lf}{j:Nat}{e:List Lf}(h:StW T L ((l.drop j).flatten++R))(hj:l[j]?=some e):StW T L (e.drop 0++((l.drop (j+1)).flatten++R)):=by
 obtain⟨hlt,he⟩:=List.getElem?_eq_some_iff.1 hj
 rw[List.drop_eq_getElem_cons hlt,he,List.flatten_cons,List.append_assoc] at h
 simpa using h
theorem StW.done{T L:List UInt8}{r R:List Lf}{o:Nat}(h:StW T L (r.drop o++R))(ho:r.length≤o):StW T L R:=by
 rw[List.drop_of_length_le ho,List.nil_append] at h;exact h
theorem StW.str{T L:List UInt8}{r R:List Lf}{o:Nat}{s:ByteArray}(h:StW T L (r.drop o++R))(hx:r[o]?=some (.str s)):s.size≤1125899906842000:=by
 obtain⟨hlt,e⟩:=List.getElem?_eq_some_iff.1 hx
 rw[List.drop_eq_getElem_cons hlt,e] at h
 unfold StW at h
 simp only[List.cons_append,aW,Lf.bulk] at h
 omega
theorem StW.row{T L:List UInt8}{r R:List Lf}(h:StW T L (r.drop 0++R)):L.length+12*aW r≤562949953421312:=by
 unfold StW at h
 rw[List.drop_zero,fO] at h
 omega
theorem StW.whole{T L:List UInt8}{r R:List Lf}(h:StW T L (r.drop 0++R))(hc:(oD r).length≤12*aW r):StW T (L++oD r) R:=by
 unfold StW at h ⊢
 rw[List.drop_zero,fO,zx] at h
 rw[List.length_append,List.append_assoc]
 exact⟨by omega,h.2⟩
end Go.Proofs.YtbdcaeahocbkbaaGreatDoor
