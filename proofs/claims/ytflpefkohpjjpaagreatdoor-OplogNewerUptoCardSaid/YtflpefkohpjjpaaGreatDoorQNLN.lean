/- OplogNewer returns true: Newer is a total preorder. -/
import Derived.Test.YtflpefkohpjjpaaGreatDoorQN6
import Derived.Test.YtflpefkohpjjpaaGreatDoorQN4
set_option linter.unusedSimpArgs false
set_option linter.unusedVariables false
namespace Go.Proofs.YtflpefkohpjjpaaGreatDoor
open Go.RowKit
def nB(a b:gK):Bool:=decide (b.f0<a.f0)||(a.f0==b.f0&&decide (b.f1≤a.f1))
theorem IB(a b:gK)(s t:ByteArray)(m n:Int)(v w:au):Q29 (aZ.mk a.f0 a.f1 s m v) (aZ.mk b.f0 b.f1 t n w)=some (nB a b):=by
 simp only[Q29,RS,zU,zT,Mo.den,zy,uQ,uS,zu,zx,nB]
 cases decide (b.f0<a.f0)<;>cases (a.f0==b.f0)<;>rfl
theorem RF(a:gK):nB a a=true:=by unfold nB;simp
theorem Om(a b:gK):nB a b=false→nB b a=true:=by
 unfold nB
 simp only[Bool.or_eq_false_iff,Bool.and_eq_false_iff,decide_eq_false_iff_not,beq_eq_false_iff_ne,Bool.or_eq_true,Bool.and_eq_true,decide_eq_true_eq,beq_iff_eq,ne_eq]
 omega
theorem Oo(a b c:gK):nB a b=true→nB b c=true→nB a c=true:=by
 unfold nB
 simp only[Bool.or_eq_true,Bool.and_eq_true,decide_eq_true_eq,beq_iff_eq]
 omega
theorem tX(a b c:gK):Q7 a b c=some true:=by
 simp only[Q7,Ye,Ap,Am,Ak,Es,Ep,Mo.den,zy,uQ,uS,zu,zx,IB,Iz,Option.bind_some,RF]
 have h1:=Om a b
 have h2:=Oo a b c
 cases hab:nB a b<;>cases hba:nB b a<;>cases hbc:nB b c<;>cases hac:nB a c<;>simp_all
end Go.Proofs.YtflpefkohpjjpaaGreatDoor
