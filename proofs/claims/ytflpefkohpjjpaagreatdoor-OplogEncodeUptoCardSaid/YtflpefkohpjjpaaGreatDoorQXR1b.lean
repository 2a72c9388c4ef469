/- docstoreref01: UTF8. -/
import Derived.Test.YtflpefkohpjjpaaGreatDoorQXR1a
import Derived.Test.YtflpefkohpjjpaaGreatDoorQXSnd
set_option linter.unusedSimpArgs false
set_option linter.unusedVariables false
namespace Go.Proofs.YtflpefkohpjjpaaGreatDoor
open Go.RowKit
open Go.Lib hiding intOf
theorem J6(s:ByteArray)(i:Nat)(h:i<s.size):rest s i≠[]:=by
 intro e;have:=zy s i;rw[e] at this;simp at this;omega
theorem U2(s:ByteArray)(i:Nat):(rest s i).tail=rest s (i+1):=by simp[rest]
theorem aiS(s:ByteArray)(i k:Nat):(rest s i).drop k=rest s (i+k):=by simp[rest]
theorem anF(s:ByteArray)(i:Nat)(h:i<s.size)(hu:rP s[i].toNat=none):validD (rest s i)=false:=by
 rw[wU _ (J6 s i h)]
 unfold tJ
 rw[show(rest s i).getD 0 0=s[i] from wG s i 0 h,hu]
theorem anG(s:ByteArray)(i n:Nat)(h:i<s.size)(hu:rP s[i].toNat=some n)(ht:nY (rest s (i+1)) n=false):validD (rest s i)=false:=by
 rw[wU _ (J6 s i h)]
 unfold tJ
 rw[show(rest s i).getD 0 0=s[i] from wG s i 0 h,hu]
 simp only[U2,ht,Bool.false_and]
 rfl
theorem arI(s:ByteArray)(i n c:Nat)(h:i<s.size)(hu:rP s[i].toNat=some n)(hc:((rest s i).getD 1 0).toNat=c)(ho:sZ s[i].toNat c=true):validD (rest s i)=false:=by
 rw[wU _ (J6 s i h)]
 unfold tJ
 rw[show(rest s i).getD 0 0=s[i] from wG s i 0 h,hu,hc,ho]
 simp
theorem avU(s:ByteArray)(i n c:Nat)(h:i<s.size)(hu:rP s[i].toNat=some n)(ht:nY (rest s (i+1)) n=true)(hc:((rest s i).getD 1 0).toNat=c)(ho:sZ s[i].toNat c=false):validD (rest s i)=validD (rest s (i+n+1)):=by
 rw[wU _ (J6 s i h)]
 unfold tJ
 rw[show(rest s i).getD 0 0=s[i] from wG s i 0 h,hu,hc,ho]
 simp only[U2,ht,Bool.not_false,Bool.and_self]
 simp only[if_true,aiS];rfl
theorem aiT(s:ByteArray)(i n:Nat)(ht:nY (rest s i) n=true):n≤s.size-i:=by
 unfold nY at ht
 simp only[Bool.and_eq_true,decide_eq_true_eq,zy] at ht
 exact ht.1
theorem aeD(b c:Nat)(h1:¬b=224)(h2:¬b=237)(h3:¬b=240)(h4:¬b=244):sZ b c=false:=by simp[sZ,h1,h2,h3,h4]
end Go.Proofs.YtflpefkohpjjpaaGreatDoor
