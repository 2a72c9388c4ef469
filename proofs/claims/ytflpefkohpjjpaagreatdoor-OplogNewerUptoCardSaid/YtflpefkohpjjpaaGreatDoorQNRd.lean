/- codec.ReadNum, docstoreref02.ReadNum. -/
import Derived.Test.YtflpefkohpjjpaaGreatDoorQNRdP
set_option linter.unusedSimpArgs false
set_option linter.unusedVariables false
namespace Go.Proofs.YtflpefkohpjjpaaGreatDoor
open Go.RowKit
theorem sJ{a b c a' b' c':Int}(h1:a=a')(h2:b=b')(h3:c=c'):Ending.returned (.tuple #[.int .i64 a,.int .i64 b,.int .i64 c])=.returned (.tuple #[.int .i64 a',.int .i64 b',.int .i64 c']):=by rw[h1,h2,h3]
def rdR(x:Int):Except Int (Nat×Nat)→Int×Int×Int
 |.error e=>(0,0,e)
 |.ok (u,k)=>(zL u,x+k,0)
theorem Jv(s:ByteArray)(a:Nat)(h:a≤s.size):rdV s (a:Int)=rdR a (rdN 0 0 (rest s a)):=by
 unfold rdV
 rw[if_neg (by omega),Int.toNat_natCast]
 cases rdN 0 0 (rest s a)<;>rfl
theorem Dq(s:ByteArray)(x:Int)(h:x<0∨(s.size:Int)<x):rdV s x=(0,0,1):=by unfold rdV;rw[if_pos h]
def Uy(r:Int×Int×Int)(w:World)(e:Ending)(w':World):Prop:=e=.returned (.tuple #[.int .i64 r.1,.int .i64 r.2.1,.int .i64 r.2.2])∧w=w'
set_option maxRecDepth 20000 in
set_option maxHeartbeats 2000000 in
theorem BL(s:ByteArray)(x:Int)(w:World)(hs:s.size≤maxLen):Calls Tryz.prog 86 #[.string s,.int .i64 x] w (Uy (rdV s x) w):=by
 unfold maxLen at hs
 by_cases h0:x<0
 ·rw[Dq s x (.inl h0)]
  have d0:decide (x<0)=true:=by simpa using h0
  go_enter Tryz.func86,Tryz.ntmps86
  go_wp2_with fail
  go_ret3
  exact⟨rfl,rfl⟩
 obtain⟨a,rfl⟩:=Int.eq_ofNat_of_zero_le (show 0≤x by omega)
 have d0:decide ((a:Int)<0)=false:=by simp
 by_cases h1:s.size<a
 ·rw[Dq s a (.inr (by omega))]
  have d1:decide (s.size<a)=true:=by simpa using h1
  clear h0
  go_enter Tryz.func86,Tryz.ntmps86
  go_wp2_with fail
  go_ret3
  exact⟨rfl,rfl⟩
 have d1:decide (s.size<a)=false:=by simpa using h1
 rw[Jv s a (by omega)]
 clear h0
 obtain⟨r,hr⟩:∃r,rdN 0 0 (rest s a)=r:=⟨_,rfl⟩
 rw[hr]
 have HR:=Lib.hid hr
 clear hr
 go_enter Tryz.func86,Tryz.ntmps86
 go_wp2_with fail
 go_loopw [7,8] (fun x i wr=>∃u k:Nat,k≤9∧a+k≤s.size∧x=.int .u64 u∧i=.int .i64 k∧Hid (u<128^k)∧Hid (rdN k u (rest s (a+k))=r)∧wr=w) (fun _ i _=>10-(intOf i).toNat)
 case atStart=>exact⟨0,0,by omega,by omega,rfl,rfl,by show 0<128^0;decide,HR,rfl⟩
 case round=>
  obtain⟨u,k,hk,hl,rfl,rfl,HU,HF,rfl⟩:=hrel
  by_cases he:a+k=s.size
  ·have hf:r=.error 5:=by rw[←HF.out, he, rest_end s s.size (Nat.le_refl _)];rfl
   subst hf
   have d2:((a:Int)+(k:Int)==(s.size:Int))=true:=beq_iff_eq.2 (by omega)
   clear he
   go_wp2_with fail
   go_ret3
   exact⟨rfl,rfl⟩
  have hlt:a+k<s.size:=by omega
  have d2:((a:Int)+(k:Int)==(s.size:Int))=false:=beq_eq_false_iff_ne.2 (by omega)
  have hF:=HF.out
  rw[EY s (a+k) hlt] at hF
  obtain⟨b,hb⟩:∃b:Nat,s[a+k].toNat=b:=⟨_,rfl⟩
  have hb2:b<256:=by rw[←hb];exact s[a+k].toNat_lt
  simp only[rdN,hb] at hF
  clear he HF
  by_cases hbad:(k=9∧1<b)∨(0<k∧b=0)
  ·rw[if_pos hbad] at hF
   subst hF
   rcases hbad with⟨h9,hb1⟩|⟨h0k,hb0⟩
   ·have d3:((k:Int)==9)=true:=beq_iff_eq.2 (by omega)
    have d4:decide (1<(b:Int))=true:=by simp;omega
    clear h9
    go_wp2_with fail
    go_ret3
    exact⟨rfl,rfl⟩
   ·have d4:decide (1<(b:Int))=false:=by simp;omega
    have d5:decide (0<(k:Int))=true:=by simp;omega
    have d6:((b:Int)==0)=true:=beq_iff_eq.2 (by omega)
    clear hb0
    by_cases h9:k=9
    ·have d3:((k:Int)==9)=true:=beq_iff_eq.2 (by omega)
     clear h9
     go_wp2_with fail
     go_ret3
     exact⟨rfl,rfl⟩
    ·have d3:((k:Int)==9)=false:=beq_eq_false_iff_ne.2 (by omega)
     clear h9
     go_wp2_with fail
     go_ret3
     exact⟨rfl,rfl⟩
  rw[if_neg hbad] at hF
  have hor:=Ux u b k HU.out hk hb2 (fun h=>by omega)
  have H64:=Lib.hid (Dp u b k HU.out hk (fun h=>by omega))
  have HU2:=Lib.hid (BK u b k HU.out)
  obtain⟨u',hu'⟩:∃u',u+b%128*128^k=u':=⟨_,rfl⟩
  rw[hu'] at hor H64 HU2 hF
  clear hu'
  have HF2:=Lib.hid hF
  clear hF
  have hg1:(k=9→b≤1)∧(0<k→0<b):=⟨fun h=>by omega,fun h=>by omega⟩
  clear hbad
  have go:∀b9 b1 b0 bz:Bool,((k:Int)==9)=b9→decide (1<(b:Int))=b1→decide (0<(k:Int))=b0→((b:Int)==0)=bz→True:=fun _ _ _ _ _ _ _ _=>trivial
  clear go
  by_cases hlo:b<128
  ·have hF:=HF2.out
   rw[if_pos hlo] at hF
   subst hF
   have d9:decide ((b:Int)<128)=true:=by simp;omega
   by_cases h9:k=9
   ·have d3:((k:Int)==9)=true:=beq_iff_eq.2 (by omega)
    have d4:decide (1<(b:Int))=false:=by simp;omega
    have d5:decide (0<(k:Int))=true:=by simp;omega
    have d6:((b:Int)==0)=false:=beq_eq_false_iff_ne.2 (by omega)
    have hg:=hg1.1 h9
    have h0k:0<k:=by omega
    clear h9 hg1
    go_wp2_with fail
    go_ret3
    exact⟨sJ (pK u' H64.out) (by simp[rdR];omega) rfl,rfl⟩
   ·have d3:((k:Int)==9)=false:=beq_eq_false_iff_ne.2 (by omega)
    by_cases h0k:0<k
    ·have d5:decide (0<(k:Int))=true:=by simp;omega
     have d6:((b:Int)==0)=false:=beq_eq_false_iff_ne.2 (by omega)
     clear h9 hg1
     go_wp2_with fail
     go_ret3
     exact⟨sJ (pK u' H64.out) (by simp[rdR];omega) rfl,rfl⟩
    ·have d5:decide (0<(k:Int))=false:=by simp;omega
     clear h9 hg1
     go_wp2_with fail
     go_ret3
     exact⟨sJ (pK u' H64.out) (by simp[rdR];omega) rfl,rfl⟩
  ·have hF:=HF2.out
   rw[if_neg hlo] at hF
   have HF3:=Lib.hid hF
   clear hF HF2
   have d9:decide ((b:Int)<128)=false:=by simp;omega
   have h9:¬k=9:=by omega
   have d3:((k:Int)==9)=false:=beq_eq_false_iff_ne.2 (by omega)
   have d6:((b:Int)==0)=false:=beq_eq_false_iff_ne.2 (by omega)
   clear hg1
   have hk8:k≤8:=by omega
   clear h9
   by_cases h0k:0<k
   ·have d5:decide (0<(k:Int))=true:=by simp;omega
    go_wp2_with fail
    exact⟨⟨u',k+1,by omega,by omega,rfl,by go_num,HU2,HF3,trivial⟩,by simp[intOf];omega⟩
   ·have d5:decide (0<(k:Int))=false:=by simp;omega
    go_wp2_with fail
    exact⟨⟨u',k+1,by omega,by omega,rfl,by go_num,HU2,HF3,trivial⟩,by simp[intOf];omega⟩
end Go.Proofs.YtflpefkohpjjpaaGreatDoor
