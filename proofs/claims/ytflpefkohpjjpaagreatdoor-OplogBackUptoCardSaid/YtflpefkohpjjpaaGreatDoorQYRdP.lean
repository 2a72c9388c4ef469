/- Reading integers, plain. -/
import Derived.Test.YtflpefkohpjjpaaGreatDoorQYNumP
import Derived.Test.YtflpefkohpjjpaaGreatDoorQYR1b
set_option linter.unusedSimpArgs false
set_option linter.unusedVariables false
namespace Go.Proofs.YtflpefkohpjjpaaGreatDoor
open Go.RowKit
def rdN(k u:Nat):List UInt8→Except Int (Nat×Nat)
 |[]=>.error 5
 |b::r=>if(k=9∧1<b.toNat)∨(0<k∧b.toNat=0) then .error 4
  else if b.toNat<128 then .ok (u+b.toNat%128*128^k,k+1) else rdN (k+1) (u+b.toNat%128*128^k) r
theorem akq(b:Nat)(h:b<256):bits .and .u8 (b:Int) 127=((b%128:Nat):Int):=by
 have:∀x:Fin 256,bits .and .u8 (x.1:Int) 127=((x.1%128:Nat):Int):=by decide +kernel
 exact this ⟨b,h⟩
theorem WM(k:Nat):128^k=2^(7*k):=by rw[Nat.pow_mul]
theorem agk(b k:Nat)(hk:k≤9)(h9:k=9→b≤1):IntKind.u64.wrap (((b%128:Nat):Int)*2^(7*k))=((b%128*128^k:Nat):Int)∧b%128*128^k<18446744073709551616:=by
 have hlt:b%128*128^k<18446744073709551616:=by
  rcases Nat.lt_or_ge k 9 with h|h
  ·have h1:128^k≤128^8:=Nat.pow_le_pow_right (by decide) (by omega)
   have h2:b%128*128^k≤127*128^8:=Nat.mul_le_mul (by omega) h1
   exact Nat.lt_of_le_of_lt h2 (by decide)
  ·obtain rfl:k=9:=by omega
   have h2:b%128*128^9≤1*128^9:=Nat.mul_le_mul_right _ (by have:=h9 rfl;omega)
   exact Nat.lt_of_le_of_lt h2 (by decide)
 refine⟨?_,hlt⟩
 rw[kY,show(2:Int)^(7*k)=((128^k:Nat):Int) by rw[WM];simp,←Int.natCast_mul]
 omega
theorem aby(u y k:Nat)(hu:u<128^k):u ||| y*128^k=u+y*128^k:=by
 rw[WM] at hu ⊢
 have:=Nat.shiftLeft_add_eq_or_of_lt hu y
 rw[Nat.shiftLeft_eq] at this
 rw[Nat.or_comm,←this,Nat.add_comm]
theorem agl(u b k:Nat)(hu:u<128^k)(hk:k≤9)(h9:k=9→b≤1):bits .or .u64 (u:Int) (IntKind.u64.wrap (((b%128:Nat):Int)*2^(7*k)))=((u+b%128*128^k:Nat):Int):=by
 obtain⟨h1,h2⟩:=agk b k hk h9
 have h3:u<18446744073709551616:=by
  have h4:128^k≤128^9:=Nat.pow_le_pow_right (by decide) hk
  have h5:(128^9:Nat)<18446744073709551616:=by decide
  omega
 rw[h1,bits_or_u64_nat _ _ h3 h2,aby u _ k hu]
theorem akr(u b k:Nat)(hu:u<128^k)(hk:k≤9)(hb:b<256)(h9:k=9→b≤1):bits .or .u64 (u:Int) (IntKind.u64.wrap (IntKind.u64.wrap (bits .and .u8 (b:Int) 127)*2^(7*k)))=((u+b%128*128^k:Nat):Int):=by
 rw[akq b hb,show IntKind.u64.wrap ((b%128:Nat):Int)=((b%128:Nat):Int) by rw[kY];omega]
 exact agl u b k hu hk h9
theorem abz(u b k:Nat)(hu:u<128^k):u+b%128*128^k<128^(k+1):=by
 have h1:b%128*128^k≤127*128^k:=Nat.mul_le_mul_right _ (by omega)
 rw[Nat.pow_succ];omega
theorem agm(u b k:Nat)(hu:u<128^k)(hk:k≤9)(h9:k=9→b≤1):U64 (u+b%128*128^k):=by
 unfold U64
 rcases Nat.lt_or_ge k 9 with h|h
 ·have h1:=abz u b k hu
  have h2:128^(k+1)≤128^9:=Nat.pow_le_pow_right (by decide) (by omega)
  have h3:(128^9:Nat)<18446744073709551616:=by decide
  omega
 ·obtain rfl:k=9:=by omega
  have h2:b%128*128^9≤1*128^9:=Nat.mul_le_mul_right _ (by have:=h9 rfl;omega)
  have h3:(1*128^9+128^9:Nat)=18446744073709551616:=by decide
  omega
theorem and1(u:Nat)(h:U64 u):bits .and .u64 (u:Int) 1=((u%2:Nat):Int):=by
 have:=bits_and_u64_nat u 1 h (by decide)
 rw[Nat.and_one_is_mod] at this
 exact this
theorem IY(s:ByteArray)(i:Nat)(h:i<s.size):rest s i=s[i]::rest s (i+1):=by
 unfold rest
 have h':i<s.data.toList.length:=by simpa using h
 rw[List.drop_eq_getElem_cons h']
 rfl
theorem rest_end(s:ByteArray)(i:Nat)(h:s.size≤i):rest s i=[]:=List.eq_nil_of_length_eq_zero (by rw[Qq];omega)
end Go.Proofs.YtflpefkohpjjpaaGreatDoor
