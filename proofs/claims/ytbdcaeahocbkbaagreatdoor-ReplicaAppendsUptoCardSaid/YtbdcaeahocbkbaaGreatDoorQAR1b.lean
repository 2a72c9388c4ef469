/- docstoreref01: UTF8. -/
import Derived.Test.YtbdcaeahocbkbaaGreatDoorQAR1a
import Derived.Test.YtbdcaeahocbkbaaGreatDoorQASnd
set_option linter.unusedSimpArgs false
set_option linter.unusedVariables false
namespace Go.Proofs.YtbdcaeahocbkbaaGreatDoor
open Go.RowKit
open Go.Lib hiding intOf
theorem Jr(s:ByteArray)(i:Nat)(h:i<s.size):rest s i≠[]:=by
 intro e;have:=yV s i;rw[e] at this;simp at this;omega
theorem TN(s:ByteArray)(i:Nat):(rest s i).tail=rest s (i+1):=by simp[rest]
theorem ahP(s:ByteArray)(i k:Nat):(rest s i).drop k=rest s (i+k):=by simp[rest]
theorem amo(s:ByteArray)(i:Nat)(h:i<s.size)(hu:rF s[i].toNat=none):validD (rest s i)=false:=by
 rw[wK _ (Jr s i h)]
 unfold sK
 rw[show(rest s i).getD 0 0=s[i] from uY s i 0 h,hu]
theorem amq(s:ByteArray)(i n:Nat)(h:i<s.size)(hu:rF s[i].toNat=some n)(ht:nO (rest s (i+1)) n=false):validD (rest s i)=false:=by
 rw[wK _ (Jr s i h)]
 unfold sK
 rw[show(rest s i).getD 0 0=s[i] from uY s i 0 h,hu]
 simp only[TN,ht,Bool.false_and]
 rfl
theorem aqn(s:ByteArray)(i n c:Nat)(h:i<s.size)(hu:rF s[i].toNat=some n)(hc:((rest s i).getD 1 0).toNat=c)(ho:rP s[i].toNat c=true):validD (rest s i)=false:=by
 rw[wK _ (Jr s i h)]
 unfold sK
 rw[show(rest s i).getD 0 0=s[i] from uY s i 0 h,hu,hc,ho]
 simp
theorem auM(s:ByteArray)(i n c:Nat)(h:i<s.size)(hu:rF s[i].toNat=some n)(ht:nO (rest s (i+1)) n=true)(hc:((rest s i).getD 1 0).toNat=c)(ho:rP s[i].toNat c=false):validD (rest s i)=validD (rest s (i+n+1)):=by
 rw[wK _ (Jr s i h)]
 unfold sK
 rw[show(rest s i).getD 0 0=s[i] from uY s i 0 h,hu,hc,ho]
 simp only[TN,ht,Bool.not_false,Bool.and_self]
 simp only[if_true,ahP];rfl
theorem ahQ(s:ByteArray)(i n:Nat)(ht:nO (rest s i) n=true):n≤s.size-i:=by
 unfold nO at ht
 simp only[Bool.and_eq_true,decide_eq_true_eq,yV] at ht
 exact ht.1
theorem adX(b c:Nat)(h1:¬b=224)(h2:¬b=237)(h3:¬b=240)(h4:¬b=244):rP b c=false:=by simp[rP,h1,h2,h3,h4]
end Go.Proofs.YtbdcaeahocbkbaaGreatDoor
