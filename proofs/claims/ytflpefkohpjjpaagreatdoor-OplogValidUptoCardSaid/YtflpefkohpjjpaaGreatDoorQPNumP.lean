/- Integers in groups of seven bits, plain. -/
import Derived.Test.YtflpefkohpjjpaaGreatDoorQPBuf
import Derived.Test.YtflpefkohpjjpaaGreatDoorQP1
import Derived.Laws.BitsAllLaws
import Derived.Laws.Bits64
import Derived.Laws.Bits64b
import Derived.Laws.DeepNot64
set_option linter.unusedSimpArgs false
set_option linter.unusedVariables false
namespace Go.Proofs.YtflpefkohpjjpaaGreatDoor
open Go.RowKit
def zz(n:Int):Nat:=if 0≤n then(2*n).toNat else(-2*n-1).toNat
def Na(u:Nat):Int:=if u%2=0 then((u/2:Nat):Int) else -1-((u/2:Nat):Int)
theorem amy(n:Int):Na (zz n)=n:=by
 unfold Na zz
 split<;>split<;>omega
def U64(u:Nat):Prop:=u<18446744073709551616
theorem ahW(n:Int)(h:I64 n):U64 (zz n):=by
 unfold I64 at h;unfold U64 zz;split<;>omega
theorem amA(u:Nat)(h:U64 u):I64 (Na u):=by
 unfold U64 at h;unfold I64 Na;split<;>omega
def Nb(u:Nat):List UInt8:=if u<128 then [UInt8.ofNat u] else UInt8.ofNat (u%128+128)::Nb (u/128)
termination_by u
theorem Ii{u:Nat}(h:u<128):Nb u=[UInt8.ofNat u]:=by rw[Nb,if_pos h]
theorem TP{u:Nat}(h:¬u<128):Nb u=UInt8.ofNat (u%128+128)::Nb (u/128):=by rw[Nb,if_neg h]
theorem ahX(u:Nat):1≤(Nb u).length:=by
 by_cases h:u<128
 ·rw[Ii h];simp
 ·rw[TP h];simp
theorem adx:∀(k u:Nat),u<128^(k+1)→(Nb u).length≤k+1
 |0,u,h=>by rw[Ii (by simpa using h)];simp
 |k+1,u,h=>by
  by_cases hu:u<128
  ·rw[Ii hu];simp
  ·rw[TP hu]
   have:=adx k (u/128) (by rw[Nat.pow_succ] at h;omega)
   simp;omega
theorem Ij(u:Nat)(h:U64 u):(Nb u).length≤10:=adx 9 u (by unfold U64 at h;omega)
theorem ahY(u:Nat)(h:u<128):((UInt8.ofNat u).toNat:Int)=u:=by
 rw[UInt8.toNat_ofNat'];omega
theorem ady(x:Nat)(h:x<18446744073709551616):18446744073709551615^^^ x=18446744073709551615-x:=by
 have h1:(BitVec.allOnes 64^^^ BitVec.ofNat 64 x).toNat=(~~~ BitVec.ofNat 64 x).toNat:=by rw[BitVec.allOnes_xor]
 rw[BitVec.toNat_xor,BitVec.toNat_not,BitVec.toNat_allOnes,BitVec.toNat_ofNat,Nat.mod_eq_of_lt h] at h1
 exact h1
theorem jT(x:Int):IntKind.u64.wrap x=x%18446744073709551616:=by
 simp[IntKind.wrap,IntKind.bits,IntKind.signed]
theorem ahZ(u:Nat)(h:U64 u):bits .xor .i64 ((u/2:Nat):Int) (-((u%2:Nat):Int))=Na u:=by
 unfold U64 at h
 unfold Na
 rcases Nat.mod_two_eq_zero_or_one u with e|e
 ·rw[e,if_pos rfl]
  show IntKind.i64.wrap ((BitVec.ofInt 64 ((u/2:Nat):Int)^^^ BitVec.ofInt 64 0).toNat:Int)=_
  have h1:BitVec.ofInt 64 0=0#64:=by decide
  rw[h1,BitVec.xor_zero,ofInt_u64 _ (by omega)]
  simp[IntKind.wrap,IntKind.bits,IntKind.signed]
  omega
 ·rw[e, if_neg (by decide)]
  have h2:=i64_not (u/2) (by omega)
  rw[←h2]
  show IntKind.i64.wrap ((BitVec.ofInt 64 ((u/2:Nat):Int)^^^ BitVec.ofInt 64 (-1)).toNat:Int)=IntKind.i64.wrap ((BitVec.ofInt 64 (-1)^^^ BitVec.ofInt 64 ((u/2:Nat):Int)).toNat:Int)
  rw[BitVec.xor_comm]
end Go.Proofs.YtflpefkohpjjpaaGreatDoor
