/- codec: count, text, isName. -/
import Derived.Test.YtflpefkohpjjpaaGreatDoorQNRdT
import Derived.Test.YtflpefkohpjjpaaGreatDoorQNName
set_option linter.unusedSimpArgs false
set_option linter.unusedVariables false
namespace Go.Proofs.YtflpefkohpjjpaaGreatDoor
open Go.RowKit
set_option maxRecDepth 20000 in
set_option maxHeartbeats 1000000 in
theorem count_ok'(s:ByteArray)(rb p bg:Nat)(w:World)(hs:s.size≤1000000000000000)(hp:p≤s.size)(h:w.heap[rb]?=some (bP s p bg)):
 Calls Tryz.prog 286 #[.pointer (some ⟨rb,0,none⟩)] w (vg rb s bg w (asV (dH s p))):=by
 have H:=Lib.hid h
 clear h
 obtain⟨x,hx⟩:∃x,jq s p=x:=⟨_,rfl⟩
 obtain⟨r,hr⟩:∃r,dH s p=r:=⟨_,rfl⟩
 rw[hr]
 have HR:Hid (nH x=r):=by show _=_;rw[←hr,←hx];rfl
 have HX:=Lib.hid hx
 clear hr hx
 go_enter Tryz.func286,Tryz.ntmps286
 go_wp2_with fail
 refine(BO s rb p bg _ hs hp H.out).mono ?_
 rw[HX.out]
 cases x with
 |error c=>
  have e:=HR.out
  simp only[nH] at e
  subst e
  rintro e w1 ⟨rfl,g⟩
  exact⟨rfl,rfl,g⟩
 |ok nq=>
  obtain⟨n,q⟩:=nq
  rintro e w1 ⟨rfl,hb,g⟩
  have HB:=Lib.hid hb
  have HG:=Lib.hid g
  clear hb g
  by_cases h0:0≤n
  ·have d0:decide (0≤n)=true:=by simpa using h0
   have e:=HR.out
   simp only[nH,if_pos h0] at e
   subst e
   go_wp2_with fail
   refine(dQ _ _).mono ?_
   rintro e w2 ⟨rfl,rfl⟩
   go_wp2_with fail
   go_ret
   exact⟨rfl,HB.out,HG.out⟩
  ·have d0:decide (0≤n)=false:=by simpa using h0
   have e:=HR.out
   simp only[nH,if_neg h0] at e
   subst e
   go_wp2_with fail
   refine(iM _ _).mono ?_
   rintro e w2 ⟨rfl,rfl⟩
   exact⟨rfl,rfl,HG.out⟩
set_option maxRecDepth 20000 in
set_option maxHeartbeats 1000000 in
theorem text_ok'(s:ByteArray)(rb p bg:Nat)(w:World)(hs:s.size≤1000000000000000)(hp:p≤s.size)(h:w.heap[rb]?=some (bP s p bg)):
 Calls Tryz.prog 287 #[.pointer (some ⟨rb,0,none⟩)] w (vg rb s bg w (WY (textS s p))):=by
 have H:=Lib.hid h
 clear h
 obtain⟨x,hx⟩:∃x,dH s p=x:=⟨_,rfl⟩
 obtain⟨r,hr⟩:∃r,textS s p=r:=⟨_,rfl⟩
 rw[hr]
 have HR:Hid (textF s x=r):=by show _=_;rw[←hr,←hx];rfl
 have HQ:=Lib.hid (fun n q (he:x=.ok (n,q))=>iZ hp (hx.trans he))
 have HX:=Lib.hid hx
 clear hr hx
 go_enter Tryz.func287,Tryz.ntmps287
 go_wp2_with fail
 refine(count_ok' s rb p bg _ hs hp H.out).mono ?_
 rw[HX.out]
 cases x with
 |error c=>
  have e:=HR.out
  simp only[textF] at e
  subst e
  rintro e w1 ⟨rfl,g⟩
  exact⟨rfl,rfl,g⟩
 |ok nq=>
  obtain⟨n,q⟩:=nq
  have hq:=HQ.out n q rfl
  rintro e w1 ⟨rfl,hb,g⟩
  have HB:=Lib.hid hb
  have HG:=Lib.hid g
  clear hb g HQ
  obtain⟨m,rfl⟩:=Int.eq_ofNat_of_zero_le hq.2.2.1
  by_cases h0:(m:Int)≤4096
  ·have d0:decide ((m:Int)≤4096)=true:=by simpa using h0
   have e:=HR.out
   simp only[textF,if_pos h0,Int.toNat_natCast] at e
   have HT:=Lib.hid e
   clear e
   go_wp2_with fail
   refine(dQ _ _).mono ?_
   rintro e w2 ⟨rfl,rfl⟩
   go_wp2_with fail
   refine(wP s rb q bg m _ hs hq.2.1 (by omega) HB.out).mono ?_
   rw[wR,HT.out]
   cases r with
   |error c=>
    rintro e w3 ⟨rfl,g3⟩
    exact⟨rfl,rfl,aT HG.out g3⟩
   |ok tq=>
    obtain⟨t,q2⟩:=tq
    rintro e w3 ⟨rfl,hb3,g3⟩
    have HB3:=Lib.hid hb3
    have HG3:=Lib.hid (aT HG.out g3)
    clear hb3 g3
    go_wp2_with fail
    go_ret
    exact⟨rfl,HB3.out,HG3.out⟩
  ·have d0:decide ((m:Int)≤4096)=false:=by simpa using h0
   have e:=HR.out
   simp only[textF,if_neg h0] at e
   subst e
   go_wp2_with fail
   refine(iM _ _).mono ?_
   rintro e w2 ⟨rfl,rfl⟩
   exact⟨rfl,rfl,HG.out⟩
set_option maxRecDepth 20000 in
set_option maxHeartbeats 1000000 in
theorem BP(s:ByteArray)(w:World)(h0:1≤s.size)(h1:s.size≤32):Calls Tryz.prog 328 #[.string s] w fun e w'=>e=.returned (.bool (nameB s))∧w=w':=by
 rw[BA s (by omega) (by omega)]
 have z0:0<s.size:=by omega
 obtain⟨r,hr⟩:∃r,(!(s[0].toNat==36)&&s.data.toList.all fun c=>mV c.toNat)=r:=⟨_,rfl⟩
 rw[hr]
 have HR:=Lib.hid hr
 clear hr
 go_enter Tryz.func328,Tryz.ntmps328
 go_wp2_with fail
 go_loopw [6] (fun c wr=>∃k:Nat,k≤s.size∧c=.int .i64 k∧(∀i (hi:i<k) (hs:i<s.size),mV s[i].toNat=true)∧wr=w) (fun c _=>s.size-(intOf c).toNat)
 case atStart=>exact⟨0,by omega,rfl,fun i hi=>by omega,rfl⟩
 case round=>
  obtain⟨k,hk,rfl,hall,rfl⟩:=hrel
  by_cases hlt:k<s.size
  ·have hA:=Lib.hid hall
   clear hall
   obtain⟨b,hb⟩:∃b:Nat,s[k].toNat=b:=⟨_,rfl⟩
   have HBb:=Lib.hid hb
   by_cases hc:mV b=true
   ·have hc':33≤b∧b≤126∧¬b=46:=by simpa[mV, and_assoc] using hc
    have HC:=Lib.hid hc
    clear hc
    have e1:decide ((b:Int)<33)=false:=by simp;omega
    have e2:decide (126<(b:Int))=false:=by simp;omega
    have e3:((b:Int)==46)=false:=by simp;omega
    go_wp2_with fail
    refine⟨⟨k+1,by omega,by go_num,fun i hi hs=>?_,trivial⟩,by simp[intOf];omega⟩
    by_cases hik:i=k
    ·subst hik;rw[HBb.out];exact HC.out
    ·exact hA.out i (by omega) hs
   ·have hc0:mV b=false:=by simpa using hc
    have hrf:r=false:=by
     rw[←HR.out,Un s (fun c=>mV c.toNat) k hlt (by rw[HBb.out];exact hc0),Bool.and_false]
    subst hrf
    have hc':b<33∨126<b∨b=46:=by
     simp[mV] at hc0;omega
    clear hc hc0
    by_cases f1:b<33
    ·have e1:decide ((b:Int)<33)=true:=by simp;omega
     go_wp2_with fail
     go_ret
     exact⟨rfl,rfl⟩
    ·have e1:decide ((b:Int)<33)=false:=by simp;omega
     by_cases f2:126<b
     ·have e2:decide (126<(b:Int))=true:=by simp;omega
      go_wp2_with fail
      go_ret
      exact⟨rfl,rfl⟩
     ·have e2:decide (126<(b:Int))=false:=by simp;omega
      have e3:((b:Int)==46)=true:=by simp;omega
      go_wp2_with fail
      go_ret
      exact⟨rfl,rfl⟩
  ·have hrt:r=!(s[0].toNat==36):=by
    rw[←HR.out,OZ s (fun c=>mV c.toNat) (fun i hi=>hall i (by omega) hi),Bool.and_true]
   have hk2:k=s.size:=by omega
   subst hk2
   clear hall
   by_cases hd:s[0].toNat=36
   ·have e1:((s[0].toNat:Int) != 36)=false:=by simp;omega
    rw[beq_iff_eq.2 hd] at hrt
    simp only[Bool.not_true] at hrt
    subst hrt
    clear hd
    go_wp2_with fail
    go_ret
    exact⟨rfl,rfl⟩
   ·have e1:((s[0].toNat:Int) != 36)=true:=by simp;omega
    rw[beq_eq_false_iff_ne.2 hd] at hrt
    simp only[Bool.not_false] at hrt
    subst hrt
    clear hd
    go_wp2_with fail
    go_ret
    exact⟨rfl,rfl⟩
end Go.Proofs.YtflpefkohpjjpaaGreatDoor
