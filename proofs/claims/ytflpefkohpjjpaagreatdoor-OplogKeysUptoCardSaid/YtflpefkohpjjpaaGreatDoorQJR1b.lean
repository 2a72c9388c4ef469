/- docstoreref01: UTF8. -/
import Derived.Test.YtflpefkohpjjpaaGreatDoorQJR1a
import Derived.Test.YtflpefkohpjjpaaGreatDoorQJSnd
set_option linter.unusedSimpArgs false
set_option linter.unusedVariables false
namespace Go.Proofs.YtflpefkohpjjpaaGreatDoor
open Go.RowKit
open Go.Lib hiding intOf
theorem A8(s:ByteArray)(i:Nat)(h:i<s.size):rest s i≠[]:=by
 intro e;have:=pR s i;rw[e] at this;simp at this;omega
theorem IL(s:ByteArray)(i:Nat):(rest s i).tail=rest s (i+1):=by simp[rest]
theorem IQ(s:ByteArray)(i k:Nat):(rest s i).drop k=rest s (i+k):=by simp[rest]
theorem afy(s:ByteArray)(i:Nat)(h:i<s.size)(hu:ng s[i].toNat=none):validD (rest s i)=false:=by
 rw[qw _ (A8 s i h)]
 unfold nT
 rw[show(rest s i).getD 0 0=s[i] from pU s i 0 h,hu]
theorem afz(s:ByteArray)(i n:Nat)(h:i<s.size)(hu:ng s[i].toNat=some n)(ht:jX (rest s (i+1)) n=false):validD (rest s i)=false:=by
 rw[qw _ (A8 s i h)]
 unfold nT
 rw[show(rest s i).getD 0 0=s[i] from pU s i 0 h,hu]
 simp only[IL,ht,Bool.false_and]
 rfl
theorem aiL(s:ByteArray)(i n c:Nat)(h:i<s.size)(hu:ng s[i].toNat=some n)(hc:((rest s i).getD 1 0).toNat=c)(ho:nO s[i].toNat c=true):validD (rest s i)=false:=by
 rw[qw _ (A8 s i h)]
 unfold nT
 rw[show(rest s i).getD 0 0=s[i] from pU s i 0 h,hu,hc,ho]
 simp
theorem amH(s:ByteArray)(i n c:Nat)(h:i<s.size)(hu:ng s[i].toNat=some n)(ht:jX (rest s (i+1)) n=true)(hc:((rest s i).getD 1 0).toNat=c)(ho:nO s[i].toNat c=false):validD (rest s i)=validD (rest s (i+n+1)):=by
 rw[qw _ (A8 s i h)]
 unfold nT
 rw[show(rest s i).getD 0 0=s[i] from pU s i 0 h,hu,hc,ho]
 simp only[IL,ht,Bool.not_false,Bool.and_self]
 simp only[if_true,IQ];rfl
theorem aas(s:ByteArray)(i n:Nat)(ht:jX (rest s i) n=true):n≤s.size-i:=by
 unfold jX at ht
 simp only[Bool.and_eq_true,decide_eq_true_eq,pR] at ht
 exact ht.1
theorem TN(b c:Nat)(h1:¬b=224)(h2:¬b=237)(h3:¬b=240)(h4:¬b=244):nO b c=false:=by simp[nO,h1,h2,h3,h4]
end Go.Proofs.YtflpefkohpjjpaaGreatDoor
