/- Reading values, plain. -/
import Derived.Test.YtflpefkohpjjpaaGreatDoorQNRdr1
import Derived.Test.YtflpefkohpjjpaaGreatDoorQNSnd
set_option linter.unusedSimpArgs false
set_option linter.unusedVariables false
namespace Go.Proofs.YtflpefkohpjjpaaGreatDoor
open Go.RowKit
def jA(s:ByteArray)(p n:Nat):Except Int (ByteArray×Nat):=if n≤s.size-p then .ok (s.extract p (p+n),p+n) else .error 5
def WY:Except Int (ByteArray×Nat)→Except Int (Value×Nat)
 |.error e=>.error e
 |.ok (t,q)=>.ok (.string t,q)
theorem wR(s:ByteArray)(p n:Nat):dL s p n=WY (jA s p n):=by
 unfold dL jA;split<;>rfl
def nH:Except Int (Int×Nat)→Except Int (Int×Nat)
 |.error e=>.error e
 |.ok (n,q)=>if 0≤n then .ok (n,q) else .error 4
def dH(s:ByteArray)(p:Nat):Except Int (Int×Nat):=nH (jq s p)
def textF(s:ByteArray):Except Int (Int×Nat)→Except Int (ByteArray×Nat)
 |.error e=>.error e
 |.ok (n,q)=>if n≤4096 then jA s q n.toNat else .error 2
def textS(s:ByteArray)(p:Nat):Except Int (ByteArray×Nat):=textF s (dH s p)
def iD(k:Nat)(i:Int)(t:ByteArray):Tr:=.mk k i t [] [] []
def UA(ns:List ByteArray)(n:ByteArray):Bool:=BD ns.reverse n
def rdL(f:Nat→Nat→Except Int (Tr×Nat×Nat)):Nat→Nat→Nat→List Tr→Except Int (List Tr×Nat×Nat)
 |0,p,bg,acc=>.ok (acc,p,bg)
 |n+1,p,bg,acc=>match f p bg with
  |.error e=>.error e
  |.ok (t,q,bg')=>rdL f n q bg' (acc++[t])
def rdF(s:ByteArray)(f:Nat→Nat→Except Int (Tr×Nat×Nat)):Nat→Nat→Nat→List ByteArray→List Tr→Except Int ((List ByteArray×List Tr)×Nat×Nat)
 |0,p,bg,ns,ds=>.ok ((ns,ds),p,bg)
 |n+1,p,bg,ns,ds=>match jq s p with
  |.error e=>.error e
  |.ok (m,q)=>if 1≤m∧m≤32 then(match jA s q m.toNat with
   |.error e=>.error e
   |.ok (nm,q2)=>if nameB nm&&!UA ns nm then(match f q2 bg with
    |.error e=>.error e
    |.ok (t,q3,bg')=>rdF s f n q3 bg' (ns++[nm]) (ds++[t])) else .error 4) else .error 4
def bM(s:ByteArray)(p:Nat):Nat:=(s.data.toList.getD p 0).toNat
def rdT(s:ByteArray):Nat→Nat→Nat→Except Int (Tr×Nat×Nat)
 |0,_,_=>.error 2
 |d+1,p,bg=>if 1024≤bg then .error 2 else if s.size≤p then .error 5 else
  if bM s p=1∨bM s p=2∨bM s p=11 then .ok (iD (bM s p) 0 ⟨#[]⟩,p+1,bg+1)
  else if bM s p=3 then(match jq s (p+1) with
   |.error e=>.error e
   |.ok (n,q)=>.ok (iD 3 n ⟨#[]⟩,q,bg+1))
  else if bM s p=10 then(match dH s (p+1) with
   |.error e=>.error e
   |.ok (n,q)=>.ok (iD 10 n ⟨#[]⟩,q,bg+1))
  else if bM s p=9 then(if s.size≤p+1 then .error 5 else if 1<bM s (p+1) then .error 4 else .ok (iD 9 (bM s (p+1)) ⟨#[]⟩,p+1+1,bg+1))
  else if bM s p=4 then(match textS s (p+1) with
   |.error e=>.error e
   |.ok (t,q)=>if rY t then .ok (iD 4 0 t,q,bg+1) else .error 4)
  else if bM s p=7 then(match textS s (p+1) with
   |.error e=>.error e
   |.ok (t,q)=>.ok (iD 7 0 t,q,bg+1))
  else if bM s p=8 then(match jA s (p+1) 12 with
   |.error e=>.error e
   |.ok (t,q)=>.ok (iD 8 0 t,q,bg+1))
  else if bM s p=6 then(match dH s (p+1) with
   |.error e=>.error e
   |.ok (n,q)=>match rdL (rdT s d) n.toNat q (bg+1) [] with
    |.error e=>.error e
    |.ok (l,q2,bg2)=>.ok (.mk 6 0 ⟨#[]⟩ l [] [],q2,bg2))
  else if bM s p=5 then(match dH s (p+1) with
   |.error e=>.error e
   |.ok (n,q)=>match rdF s (rdT s d) n.toNat q (bg+1) [] [] with
    |.error e=>.error e
    |.ok ((ns,ds),q2,bg2)=>.ok (.mk 5 0 ⟨#[]⟩ [] ns ds,q2,bg2))
  else .error 4
theorem lM{s:ByteArray}{p n:Nat}{t:ByteArray}{q:Nat}(hp:p≤s.size)(h:jA s p n=.ok (t,q)):p≤q∧q≤s.size∧t.size=n∧q=p+n:=by
 unfold jA at h
 split at h
 ·injection h with h;injection h with h1 h2
  subst h1 h2
  refine⟨by omega,by omega,?_,rfl⟩
  simp;omega
 ·cases h
theorem iZ{s:ByteArray}{p:Nat}{n:Int}{q:Nat}(hp:p≤s.size)(h:dH s p=.ok (n,q)):p<q∧q≤s.size∧0≤n∧n<9223372036854775808:=by
 unfold dH nH at h
 cases hn:jq s p with
 |error e=>rw[hn] at h;cases h
 |ok nq=>
  obtain⟨m,r⟩:=nq
  rw[hn] at h
  simp only at h
  split at h
  ·injection h with h;injection h with h1 h2
   subst h1 h2
   have h3:=oI hp hn
   have h4:=wQ hn
   unfold I64 at h4
   exact⟨h3.1,h3.2,by assumption,h4.2⟩
  ·cases h
theorem oJ{s:ByteArray}{p:Nat}{t:ByteArray}{q:Nat}(hp:p≤s.size)(h:textS s p=.ok (t,q)):p≤q∧q≤s.size∧t.size≤4096:=by
 unfold textS textF at h
 cases hn:dH s p with
 |error e=>rw[hn] at h;cases h
 |ok nq=>
  obtain⟨m,r⟩:=nq
  rw[hn] at h
  simp only at h
  have h3:=iZ hp hn
  split at h
  ·have h4:=lM h3.2.1 h
   exact⟨by omega,h4.2.1,by omega⟩
  ·cases h
end Go.Proofs.YtflpefkohpjjpaaGreatDoor
