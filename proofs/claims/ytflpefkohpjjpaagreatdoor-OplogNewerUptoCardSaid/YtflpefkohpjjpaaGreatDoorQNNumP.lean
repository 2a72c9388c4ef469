/- Integers in groups of seven bits, plain. -/
import Derived.Test.YtflpefkohpjjpaaGreatDoorQNBuf
import Derived.Test.YtflpefkohpjjpaaGreatDoorQN1
import Derived.Laws.BitsAllLaws
import Derived.Laws.Bits64
import Derived.Laws.Bits64b
import Derived.Laws.DeepNot64
set_option linter.unusedSimpArgs false
set_option linter.unusedVariables false
namespace Go.Proofs.YtflpefkohpjjpaaGreatDoor
open Go.RowKit
def zL(u:Nat):Int:=if u%2=0 then((u/2:Nat):Int) else -1-((u/2:Nat):Int)
def U64(u:Nat):Prop:=u<18446744073709551616
theorem Pe(u:Nat)(h:U64 u):I64 (zL u):=by
 unfold U64 at h;unfold I64 zL;split<;>omega
theorem qF(x:Int):IntKind.u64.wrap x=x%18446744073709551616:=by
 simp[IntKind.wrap,IntKind.bits,IntKind.signed]
theorem Jt(u:Nat)(h:U64 u):bits .xor .i64 ((u/2:Nat):Int) (-((u%2:Nat):Int))=zL u:=by
 unfold U64 at h
 unfold zL
 rcases Nat.mod_two_eq_zero_or_one u with e|e
 ·rw[e,if_pos rfl]
  show IntKind.i64.wrap ((BitVec.ofInt 64 ((u/2:Nat):Int)^^^ BitVec.ofInt 64 0).toNat:Int)=_
  have h1:BitVec.ofInt 64 0=0#64:=by decide
  rw[h1,BitVec.xor_zero,ofInt_u64 _ (by omega)]
  simp[IntKind.wrap,IntKind.bits,IntKind.signed]
  omega
 ·rw[e, if_neg (by decide)]
  have h2:=i64_not (u/2) (by omega)
  rw[←h2]
  show IntKind.i64.wrap ((BitVec.ofInt 64 ((u/2:Nat):Int)^^^ BitVec.ofInt 64 (-1)).toNat:Int)=IntKind.i64.wrap ((BitVec.ofInt 64 (-1)^^^ BitVec.ofInt 64 ((u/2:Nat):Int)).toNat:Int)
  rw[BitVec.xor_comm]
end Go.Proofs.YtflpefkohpjjpaaGreatDoor
