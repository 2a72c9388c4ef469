/- utf8: what the reference's UTF8 asks at a byte, plain. -/
import Derived.Test.YtflpefkohpjjpaaGreatDoorQJ1
import Derived.Lib.ValidLaws
set_option linter.unusedSimpArgs false
set_option linter.unusedVariables false
namespace Go.Proofs.YtflpefkohpjjpaaGreatDoor
open Go.Lib
def ng(b:Nat):Option Nat:=if b<128 then some 0 else if 194≤b∧b≤223 then some 1 else if 224≤b∧b≤239 then some 2 else if 240≤b∧b≤244 then some 3 else none
def gI(b:Nat):Bool:=decide (128≤b)&&decide (b≤191)
def jX(l:List UInt8)(n:Nat):Bool:=decide (n≤l.length)&&(l.take n).all fun c=>gI c.toNat
def nO(b c:Nat):Bool:=(b==224&&decide (c<160))||(b==237&&decide (159<c))||(b==240&&decide (c<144))||(b==244&&decide (143<c))
theorem agL(l:List UInt8):jX l 0=true:=by simp[jX]
theorem agM(l:List UInt8):jX l 1=(decide (1≤l.length)&&gI (l.getD 0 0).toNat):=by
 cases l<;>simp[jX]
theorem agN(l:List UInt8):jX l 2=(decide (2≤l.length)&&gI (l.getD 0 0).toNat&&gI (l.getD 1 0).toNat):=by
 rcases l with _|⟨a,_|⟨b,r⟩⟩<;>simp[jX]
theorem agO(l:List UInt8):jX l 3=(decide (3≤l.length)&&gI (l.getD 0 0).toNat&&gI (l.getD 1 0).toNat&&gI (l.getD 2 0).toNat):=by
 rcases l with _|⟨a,_|⟨b,_|⟨c,r⟩⟩⟩<;>simp[jX,Bool.and_assoc]
def nT(l:List UInt8):Option Nat:=
 match ng (l.getD 0 0).toNat with
 |none=>none
 |some n=>if jX l.tail n&&!nO (l.getD 0 0).toNat (l.getD 1 0).toNat then some (n+1) else none
theorem Xj(n b0 b1 b2 b3:Nat)(h0:128≤b0)(h0':b0<256):checkN n b1 b2 b3 (firstT b0%8) (accLo (firstT b0/16)) (accHi (firstT b0/16))=
 match ng b0 with
 |none=>none
 |some k=>if(if k=1 then decide (2≤n)&&gI b1 else if k=2 then decide (3≤n)&&gI b1&&gI b2 else decide (4≤n)&&gI b1&&gI b2&&gI b3)&&!nO b0 b1 then some (k+1) else none:=by
 have d:¬b0<128:=by omega
 by_cases c0:b0<194
 ·simp[firstT,checkN,ng,d,c0,show ¬194≤b0 by omega,show ¬224≤b0 by omega,show ¬240≤b0 by omega]
 have key:∀k lo hi:Nat,firstT b0%8=k+1→accLo (firstT b0/16)=lo→accHi (firstT b0/16)=hi→ng b0=some k→(k=1∨k=2∨k=3)→
  ((gI b1&&!nO b0 b1)=(decide (lo≤b1)&&decide (b1≤hi)))→checkN n b1 b2 b3 (firstT b0%8) (accLo (firstT b0/16)) (accHi (firstT b0/16))=
  match ng b0 with
  |none=>none
  |some k=>if(if k=1 then decide (2≤n)&&gI b1 else if k=2 then decide (3≤n)&&gI b1&&gI b2 else decide (4≤n)&&gI b1&&gI b2&&gI b3)&&!nO b0 b1 then some (k+1) else none:=by
  intro k lo hi e1 e2 e3 e4 hk hc
  rw[e1,e2,e3,e4]
  have hc':(gI b1=true∧nO b0 b1=false)↔(lo≤b1∧b1≤hi):=by
   have:=congrArg (·=true) hc;simpa using this
  clear hc e1 e2 e3 e4
  generalize nO b0 b1=o at *
  generalize gI b1=c at *
  by_cases hh:lo≤b1∧b1≤hi
  ·obtain⟨rfl,rfl⟩:=hc'.2 hh
   have g1:¬b1<lo:=by omega
   have g2:¬hi<b1:=by omega
   clear hc'
   rcases hk with rfl|rfl|rfl<;>simp[checkN,gI,g1,g2]<;>(repeat' split)<;>first|rfl|(exfalso;omega)
  ·have g1:b1<lo∨hi<b1:=by omega
   have hf:(c&&!o)=false:=by
    cases c<;>cases o<;>simp at hc' ⊢
    exact hh hc'
   have hr:∀x:Bool,((x&&c)&&!o)=false:=by
    intro x;rw[Bool.and_assoc,hf,Bool.and_false]
   rcases hk with rfl|rfl|rfl
   ·simp only[if_true,hr,checkN];rw[if_pos (by rcases g1 with g|g<;>simp[g])];rfl
   ·have e:(decide (3≤n)&&c&&gI b2&&!o)=false:=by cases c<;>cases o<;>simp_all
    simp only[checkN];rcases g1 with g|g<;>simp[g]<;>(cases c<;>cases o<;>simp_all)
   ·have e:(decide (4≤n)&&c&&gI b2&&gI b3&&!o)=false:=by cases c<;>cases o<;>simp_all
    simp only[checkN];rcases g1 with g|g<;>simp[g]<;>(cases c<;>cases o<;>simp_all)
 by_cases c1:b0<224
 ·exact key 1 128 191 (by simp[firstT,d,c0,c1]) (by simp[firstT,accLo,d,c0,c1]) (by simp[firstT,accHi,d,c0,c1]) (by unfold ng;repeat (first|rw[if_neg (by omega)]|rw[if_pos (by omega)])) (by omega) (by simp[nO,gI,show ¬b0=224 by omega,show ¬b0=237 by omega,show ¬b0=240 by omega,show ¬b0=244 by omega])
 by_cases c2:b0=224
 ·subst c2;exact key 2 160 191 (by decide) (by decide) (by decide) (by decide) (by omega) (by simp[nO,gI];rw[Bool.eq_iff_iff];simp;omega)
 by_cases c3:b0<237
 ·exact key 2 128 191 (by simp[firstT,d,c0,c1,c2,c3]) (by simp[firstT,accLo,d,c0,c1,c2,c3]) (by simp[firstT,accHi,d,c0,c1,c2,c3]) (by unfold ng;repeat (first|rw[if_neg (by omega)]|rw[if_pos (by omega)])) (by omega) (by simp[nO,gI,show ¬b0=224 by omega,show ¬b0=237 by omega,show ¬b0=240 by omega,show ¬b0=244 by omega])
 by_cases c4:b0=237
 ·subst c4;exact key 2 128 159 (by decide) (by decide) (by decide) (by decide) (by omega) (by simp[nO,gI];rw[Bool.eq_iff_iff];simp;omega)
 by_cases c5:b0<240
 ·exact key 2 128 191 (by simp[firstT,d,c0,c1,c2,c3,c4,c5]) (by simp[firstT,accLo,d,c0,c1,c2,c3,c4,c5]) (by simp[firstT,accHi,d,c0,c1,c2,c3,c4,c5]) (by unfold ng;repeat (first|rw[if_neg (by omega)]|rw[if_pos (by omega)])) (by omega) (by simp[nO,gI,show ¬b0=224 by omega,show ¬b0=237 by omega,show ¬b0=240 by omega,show ¬b0=244 by omega])
 by_cases c6:b0=240
 ·subst c6;exact key 3 144 191 (by decide) (by decide) (by decide) (by decide) (by omega) (by simp[nO,gI];rw[Bool.eq_iff_iff];simp;omega)
 by_cases c7:b0<244
 ·exact key 3 128 191 (by simp[firstT,d,c0,c1,c2,c3,c4,c5,c6,c7]) (by simp[firstT,accLo,d,c0,c1,c2,c3,c4,c5,c6,c7]) (by simp[firstT,accHi,d,c0,c1,c2,c3,c4,c5,c6,c7]) (by unfold ng;repeat (first|rw[if_neg (by omega)]|rw[if_pos (by omega)])) (by omega) (by simp[nO,gI,show ¬b0=224 by omega,show ¬b0=237 by omega,show ¬b0=240 by omega,show ¬b0=244 by omega])
 by_cases c8:b0=244
 ·subst c8;exact key 3 128 143 (by decide) (by decide) (by decide) (by decide) (by omega) (by simp[nO,gI];rw[Bool.eq_iff_iff];simp;omega)
 ·simp[firstT,checkN,ng,d,c0,c1,c2,c3,c4,c5,c6,c7,c8,show ¬b0≤223 by omega,show ¬b0≤239 by omega,show ¬b0≤244 by omega]
theorem qw(l:List UInt8)(hne:l≠[]):validD l=match nT l with|none=>false|some k=>validD (l.drop k):=by
 by_cases h0:128≤(l.getD 0 0).toNat
 ·rw[validD_lead l hne h0,Xj _ _ _ _ _ h0 (l.getD 0 0).toNat_lt]
  unfold nT
  obtain⟨a,r,rfl⟩:∃a r,l=a::r:=by cases l with|nil=>exact absurd rfl hne|cons a r=>exact⟨a,r,rfl⟩
  simp only[List.getD_cons_zero,List.getD_cons_succ,List.tail_cons,List.length_cons] at h0 ⊢
  cases hu:ng a.toNat with
  |none=>rfl
  |some k=>
   have hk:k=1∨k=2∨k=3:=by
    unfold ng at hu
    split at hu
    ·omega
    ·split at hu
     ·injection hu with hu;omega
     ·split at hu
      ·injection hu with hu;omega
      ·split at hu
       ·injection hu with hu;omega
       ·cases hu
   rcases hk with rfl|rfl|rfl
   ·simp only[agM,if_true]
    rw[show(decide (2≤r.length+1))=decide (1≤r.length) by rw[decide_eq_decide];omega];rfl
   ·simp only[agN]
    rw[show(decide (3≤r.length+1))=decide (2≤r.length) by rw[decide_eq_decide];omega];rfl
   ·simp only[agO]
    rw[show(decide (4≤r.length+1))=decide (3≤r.length) by rw[decide_eq_decide];omega];rfl
 ·obtain⟨a, r, rfl⟩:∃a r, l=a::r:=by cases l with|nil=>exact absurd rfl hne|cons a r=>exact⟨a, r, rfl⟩
  have ha:a.toNat<128:=by simpa using h0
  rw[validD_cons a r ha]
  have hu:nT (a::r)=some 1:=by
   have hs:ng a.toNat=some 0:=by simp[ng,ha]
   have ho:nO a.toNat ((a::r).getD 1 0).toNat=false:=by simp[nO];omega
   simp only[nT,List.getD_cons_zero,hs,agL,ho];rfl
  rw[hu];rfl
end Go.Proofs.YtflpefkohpjjpaaGreatDoor
