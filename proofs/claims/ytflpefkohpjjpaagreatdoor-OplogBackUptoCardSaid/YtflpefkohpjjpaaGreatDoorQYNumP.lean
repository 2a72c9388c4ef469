/- Integers in groups of seven bits, plain. -/
import Derived.Test.YtflpefkohpjjpaaGreatDoorQYBuf
import Derived.Test.YtflpefkohpjjpaaGreatDoorQY1
import Derived.Laws.BitsAllLaws
import Derived.Laws.Bits64
import Derived.Laws.Bits64b
import Derived.Laws.DeepNot64
set_option linter.unusedSimpArgs false
set_option linter.unusedVariables false
namespace Go.Proofs.YtflpefkohpjjpaaGreatDoor
open Go.RowKit
def zz(n:Int):Nat:=if 0≤n then(2*n).toNat else(-2*n-1).toNat
def agh(u:Nat):Int:=if u%2=0 then((u/2:Nat):Int) else -1-((u/2:Nat):Int)
theorem agi(n:Int):agh (zz n)=n:=by
 unfold agh zz
 split<;>split<;>omega
def U64(u:Nat):Prop:=u<18446744073709551616
theorem WJ(n:Int)(h:I64 n):U64 (zz n):=by
 unfold I64 at h;unfold U64 zz;split<;>omega
def yE(u:Nat):List UInt8:=if u<128 then [UInt8.ofNat u] else UInt8.ofNat (u%128+128)::yE (u/128)
termination_by u
theorem EH{u:Nat}(h:u<128):yE u=[UInt8.ofNat u]:=by rw[yE,if_pos h]
theorem MZ{u:Nat}(h:¬u<128):yE u=UInt8.ofNat (u%128+128)::yE (u/128):=by rw[yE,if_neg h]
theorem WL:∀(k u:Nat),u<128^(k+1)→(yE u).length≤k+1
 |0,u,h=>by rw[EH (by simpa using h)];simp
 |k+1,u,h=>by
  by_cases hu:u<128
  ·rw[EH hu];simp
  ·rw[MZ hu]
   have:=WL k (u/128) (by rw[Nat.pow_succ] at h;omega)
   simp;omega
theorem wI(u:Nat)(h:U64 u):(yE u).length≤10:=WL 9 u (by unfold U64 at h;omega)
theorem abw(u:Nat)(h:u<128):((UInt8.ofNat u).toNat:Int)=u:=by
 rw[UInt8.toNat_ofNat'];omega
theorem agj(x:Nat)(h:x<18446744073709551616):18446744073709551615^^^ x=18446744073709551615-x:=by
 have h1:(BitVec.allOnes 64^^^ BitVec.ofNat 64 x).toNat=(~~~ BitVec.ofNat 64 x).toNat:=by rw[BitVec.allOnes_xor]
 rw[BitVec.toNat_xor,BitVec.toNat_not,BitVec.toNat_allOnes,BitVec.toNat_ofNat,Nat.mod_eq_of_lt h] at h1
 exact h1
theorem kY(x:Int):IntKind.u64.wrap x=x%18446744073709551616:=by
 simp[IntKind.wrap,IntKind.bits,IntKind.signed]
theorem abx(u:Nat)(h:U64 u):bits .xor .i64 ((u/2:Nat):Int) (-((u%2:Nat):Int))=agh u:=by
 unfold U64 at h
 unfold agh
 rcases Nat.mod_two_eq_zero_or_one u with e|e
 ·rw[e,if_pos rfl]
  show IntKind.i64.wrap ((BitVec.ofInt 64 ((u/2:Nat):Int)^^^ BitVec.ofInt 64 0).toNat:Int)=_
  have h1:BitVec.ofInt 64 0=0#64:=by decide
  rw[h1,BitVec.xor_zero,ofInt_u64 _ (by omega)]
  simp[IntKind.wrap,IntKind.bits,IntKind.signed]
  omega
 ·rw[e, if_neg (by decide)]
  have h2:=i64_not (u/2) (by omega)
  rw[←h2]
  show IntKind.i64.wrap ((BitVec.ofInt 64 ((u/2:Nat):Int)^^^ BitVec.ofInt 64 (-1)).toNat:Int)=IntKind.i64.wrap ((BitVec.ofInt 64 (-1)^^^ BitVec.ofInt 64 ((u/2:Nat):Int)).toNat:Int)
  rw[BitVec.xor_comm]
end Go.Proofs.YtflpefkohpjjpaaGreatDoor
