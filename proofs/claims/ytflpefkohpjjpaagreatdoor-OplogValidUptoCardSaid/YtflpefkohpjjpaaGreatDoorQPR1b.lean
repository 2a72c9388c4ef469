/- docstoreref01: UTF8. -/
import Derived.Test.YtflpefkohpjjpaaGreatDoorQPR1a
import Derived.Test.YtflpefkohpjjpaaGreatDoorQPSnd
set_option linter.unusedSimpArgs false
set_option linter.unusedVariables false
namespace Go.Proofs.YtflpefkohpjjpaaGreatDoor
open Go.RowKit
open Go.Lib hiding intOf
theorem Ik(s:ByteArray)(i:Nat)(h:i<s.size):rest s i≠[]:=by
 intro e;have:=qG s i;rw[e] at this;simp at this;omega
theorem NT(s:ByteArray)(i:Nat):(rest s i).tail=rest s (i+1):=by simp[rest]
theorem afK(s:ByteArray)(i k:Nat):(rest s i).drop k=rest s (i+k):=by simp[rest]
theorem ah0(s:ByteArray)(i:Nat)(h:i<s.size)(hu:qF s[i].toNat=none):validD (rest s i)=false:=by
 rw[uX _ (Ik s i h)]
 unfold qZ
 rw[show(rest s i).getD 0 0=s[i] from tu s i 0 h,hu]
theorem ah1(s:ByteArray)(i n:Nat)(h:i<s.size)(hu:qF s[i].toNat=some n)(ht:mP (rest s (i+1)) n=false):validD (rest s i)=false:=by
 rw[uX _ (Ik s i h)]
 unfold qZ
 rw[show(rest s i).getD 0 0=s[i] from tu s i 0 h,hu]
 simp only[NT,ht,Bool.false_and]
 rfl
theorem amF(s:ByteArray)(i n c:Nat)(h:i<s.size)(hu:qF s[i].toNat=some n)(hc:((rest s i).getD 1 0).toNat=c)(ho:qU s[i].toNat c=true):validD (rest s i)=false:=by
 rw[uX _ (Ik s i h)]
 unfold qZ
 rw[show(rest s i).getD 0 0=s[i] from tu s i 0 h,hu,hc,ho]
 simp
theorem aqE(s:ByteArray)(i n c:Nat)(h:i<s.size)(hu:qF s[i].toNat=some n)(ht:mP (rest s (i+1)) n=true)(hc:((rest s i).getD 1 0).toNat=c)(ho:qU s[i].toNat c=false):validD (rest s i)=validD (rest s (i+n+1)):=by
 rw[uX _ (Ik s i h)]
 unfold qZ
 rw[show(rest s i).getD 0 0=s[i] from tu s i 0 h,hu,hc,ho]
 simp only[NT,ht,Bool.not_false,Bool.and_self]
 simp only[if_true,afK];rfl
theorem afL(s:ByteArray)(i n:Nat)(ht:mP (rest s i) n=true):n≤s.size-i:=by
 unfold mP at ht
 simp only[Bool.and_eq_true,decide_eq_true_eq,qG] at ht
 exact ht.1
theorem aaH(b c:Nat)(h1:¬b=224)(h2:¬b=237)(h3:¬b=240)(h4:¬b=244):qU b c=false:=by simp[qU,h1,h2,h3,h4]
end Go.Proofs.YtflpefkohpjjpaaGreatDoor
