/- Integers in groups of seven bits, plain. -/
import Derived.Test.YtflpefkohpjjpaaGreatDoorQXBuf
import Derived.Test.YtflpefkohpjjpaaGreatDoorQX1
import Derived.Laws.BitsAllLaws
import Derived.Laws.Bits64
import Derived.Laws.Bits64b
import Derived.Laws.DeepNot64
set_option linter.unusedSimpArgs false
set_option linter.unusedVariables false
namespace Go.Proofs.YtflpefkohpjjpaaGreatDoor
open Go.RowKit
def zz(n:Int):Nat:=if 0≤n then(2*n).toNat else(-2*n-1).toNat
def awV(u:Nat):Int:=if u%2=0 then((u/2:Nat):Int) else -1-((u/2:Nat):Int)
theorem arH(n:Int):awV (zz n)=n:=by
 unfold awV zz
 split<;>split<;>omega
def U64(u:Nat):Prop:=u<18446744073709551616
theorem aby(n:Int)(h:I64 n):U64 (zz n):=by
 unfold I64 at h;unfold U64 zz;split<;>omega
def Pv(u:Nat):List UInt8:=if u<128 then [UInt8.ofNat u] else UInt8.ofNat (u%128+128)::Pv (u/128)
termination_by u
theorem J5{u:Nat}(h:u<128):Pv u=[UInt8.ofNat u]:=by rw[Pv,if_pos h]
theorem Yk{u:Nat}(h:¬u<128):Pv u=UInt8.ofNat (u%128+128)::Pv (u/128):=by rw[Pv,if_neg h]
theorem anD(u:Nat):1≤(Pv u).length:=by
 by_cases h:u<128
 ·rw[J5 h];simp
 ·rw[Yk h];simp
theorem ahg:∀(k u:Nat),u<128^(k+1)→(Pv u).length≤k+1
 |0,u,h=>by rw[J5 (by simpa using h)];simp
 |k+1,u,h=>by
  by_cases hu:u<128
  ·rw[J5 hu];simp
  ·rw[Yk hu]
   have:=ahg k (u/128) (by rw[Nat.pow_succ] at h;omega)
   simp;omega
theorem ug(u:Nat)(h:U64 u):(Pv u).length≤10:=ahg 9 u (by unfold U64 at h;omega)
theorem anE(u:Nat)(h:u<128):((UInt8.ofNat u).toNat:Int)=u:=by
 rw[UInt8.toNat_ofNat'];omega
theorem ahh(x:Nat)(h:x<18446744073709551616):18446744073709551615^^^ x=18446744073709551615-x:=by
 have h1:(BitVec.allOnes 64^^^ BitVec.ofNat 64 x).toNat=(~~~ BitVec.ofNat 64 x).toNat:=by rw[BitVec.allOnes_xor]
 rw[BitVec.toNat_xor,BitVec.toNat_not,BitVec.toNat_allOnes,BitVec.toNat_ofNat,Nat.mod_eq_of_lt h] at h1
 exact h1
theorem ng(x:Int):IntKind.u64.wrap x=x%18446744073709551616:=by
 simp[IntKind.wrap,IntKind.bits,IntKind.signed]
end Go.Proofs.YtflpefkohpjjpaaGreatDoor
