/- Regions that draw their order, walked in one order, where an operation may panic: what the post asks of a panic may hang on the deferred calls and the world alone. -/
import Derived.Test.YtflpefkohpjjpaaGreatDoorQN2
set_option linter.unusedSimpArgs false
set_option linter.unusedVariables false
namespace Go.Proofs.YtflpefkohpjjpaaGreatDoor
open Go
def iQ(Pn:List PanicEntry→List Deferred→World→Prop)(Q:Exit→Act→World→Prop):Exit→Act→World→Prop
 |.panic c,a,w=>Pn c a.defers w
 |e,a,w=>Q e a w
section
variable {P:Program} {ops:Array Oper} {Q:Exit→Act→World→Prop} {S:World→Prop}
theorem iQ.imp{Pn:List PanicEntry→List Deferred→World→Prop}(h:∀c a w,Pn c a.defers w→Q (.panic c) a w):∀(e:Exit) (a:Act) (w:World),iQ Pn Q e a w→Q e a w:=fun e a w h'=>by
 cases e<;>first|exact h'|exact h _ _ _ h'
theorem lK(Pn:List PanicEntry→List Deferred→World→Prop)(S:World→Prop)(l:List (Bool×Nat)){id:Nat}{a:Act}{w:World}(hm:P.follows .mixedOrders=true)(hs:Region.noSelect ops=true)(hl:decide (l.length≤ops.size)=true)(hb:jh ops l (Array.replicate ops.size false)=true)
 (hP:∀c a w,Pn c a.defers w→Q (.panic c) a w) (hS:S w.drew) (h:jM P ops (iQ Pn Q) S l a w.drew):(Code.region id ops true).wp P Q a w:=
 Code.wp_mono (iQ.imp hP) (wp_region_held hm (jc hs (fun _ _ d _ _ h=>by cases d<;>exact h) l _ a _ ops.size (of_decide_eq_true hl) hb hS h))
theorem BM{Pn:List PanicEntry→List Deferred→World→Prop}{a:Act}{w:World}(h:Q .normal a w):jM P ops (iQ Pn Q) S [] a w:=h
end
end Go.Proofs.YtflpefkohpjjpaaGreatDoor
