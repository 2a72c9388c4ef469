/- What a statement hands over, as rows of leaves. -/
import Derived.Test.YtflpefkohpjjpaaGreatDoorQN1
import Derived.Test.YtflpefkohpjjpaaGreatDoorRows
import Derived.ChangeArms
import Derived.DataReads
import Derived.Test.YtflpefkohpjjpaaGreatDoorQN2
set_option linter.unusedSimpArgs false
set_option linter.unusedVariables false
namespace Go.Proofs.YtflpefkohpjjpaaGreatDoor
open Go.RowKit
inductive Shp where
 |int (k:IntKind)
 |str
 |bool
 |rows (e:TypeId)
deriving DecidableEq
def RP(P:Program)(g:TypeId→Option (List Shp))(tot:Nat):List Field→Nat→Option (List Shp)
 |[],o=>if o=tot then some [] else none
 |fl::rest,o=>if fl.offset=o then(g fl.type).bind fun a=>(RP P g tot rest (o+P.cellsOf fl.type)).map (a++·) else none
def flat(P:Program):Nat→TypeId→Option (List Shp)
 |0,_=>none
 |f+1,t=>match P.underlying t with
  |some .bool=>some [.bool]
  |some (.int k)=>some [.int k]
  |some .string=>some [.str]
  |some (.slice e)=>some [.rows e]
  |some (.struct fs)=>RP P (flat P f) (P.cellsOf t) fs.toList 0
  |_=>none
mutual
def WTf (P:Program):Lf→Shp→Prop
 |.int k _,s=>s=.int k
 |.str _,s=>s=.str
 |.bool _,s=>s=.bool
 |.rows n l,s=>∃e shs,s=.rows e∧flat P 12 e=some shs∧n=P.cellsOf e∧0<n∧WTq P shs l
def WTq (P:Program) (shs:List Shp):List (List Lf)→Prop
 |[]=>True
 |r::q=>WTr P r shs∧WTq P shs q
def WTr (P:Program):List Lf→List Shp→Prop
 |[],shs=>shs=[]
 |x::r,shs=>∃s q,shs=s::q∧WTf P x s∧WTr P r q
end
theorem WTq.mem{P:Program}{shs:List Shp}:∀{l:List (List Lf)},WTq P shs l→∀r∈l,WTr P r shs
 |[],_,r,h=>by cases h
 |x::q,h,r,hr=>by
  unfold WTq at h
  rcases List.mem_cons.1 hr with rfl|hr
  ·exact h.1
  ·exact WTq.mem h.2 r hr
theorem WTq.of{P:Program}{shs:List Shp}:∀{l:List (List Lf)},(∀r∈l,WTr P r shs)→WTq P shs l
 |[],_=>by unfold WTq;trivial
 |x::q,h=>by unfold WTq;exact⟨h x (by simp),WTq.of (fun r hr=>h r (by simp[hr]))⟩
theorem WTr.app{P:Program}:∀(r s:List Lf) (a b:List Shp),WTr P r a→WTr P s b→WTr P (r++s) (a++b)
 |[],s,a,b,h,k=>by unfold WTr at h;rw[h];exact k
 |x::r,s,a,b,h,k=>by
  unfold WTr at h
  obtain⟨sh,q,rfl,h1,h2⟩:=h
  show WTr P (x::(r++s)) (sh::(q++b))
  unfold WTr
  exact⟨sh,q++b,rfl,h1,WTr.app r s q b h2 k⟩
mutual
def Lf.bulk:Lf→Nat
 |.int _ _=>1
 |.str s=>s.size+1
 |.bool _=>1
 |.rows _ l=>1+uU l
def uU:List (List Lf)→Nat
 |[]=>0
 |r::q=>uV r+uU q
def uV:List Lf→Nat
 |[]=>0
 |x::r=>x.bulk+uV r
end
theorem Lf.Jo(x:Lf):1≤x.bulk:=by cases x<;>simp[Lf.bulk]
def I0(w:World):Gh:=fun b o=>w.cell? ⟨b,o,none⟩
theorem Us(w:World):Inv (I0 w) w:=fun _ _ _ h=>h
section
variable {H:Type} {enc:TypeId×Value→H} {P:Program} {w:World} {tys:List TypeId}
end
end Go.Proofs.YtflpefkohpjjpaaGreatDoor
set_option linter.unusedSimpArgs false
set_option linter.unusedVariables false
namespace Go.Proofs.YtflpefkohpjjpaaGreatDoor
open Go.RowKit
theorem WTr.nil(P:Program):WTr P [] []:=by unfold WTr;rfl
theorem WTr.cons{P:Program}{x:Lf}{s:Shp}{r:List Lf}{q:List Shp}(h:WTf P x s)(k:WTr P r q):WTr P (x::r) (s::q):=by unfold WTr;exact⟨s,q,rfl,h,k⟩
theorem WTf.int(P:Program)(k:IntKind)(n:Int):WTf P (.int k n) (.int k):=by unfold WTf;rfl
theorem WTf.str(P:Program)(s:ByteArray):WTf P (.str s) .str:=by unfold WTf;rfl
theorem WTf.bool(P:Program)(b:Bool):WTf P (.bool b) .bool:=by unfold WTf;rfl
theorem WTf.rows{P:Program}{n:Nat}{l:List (List Lf)}{e:TypeId}{shs:List Shp}(hf:flat P 12 e=some shs)(hn:n=P.cellsOf e)(h0:0<n)(h:WTq P shs l):WTf P (.rows n l) (.rows e):=by unfold WTf;exact⟨e,shs,rfl,hf,hn,h0,h⟩
theorem WTq.map{P:Program}{shs:List Shp}{α:Type}{f:α→List Lf}(l:List α)(h:∀x,WTr P (f x) shs):WTq P shs (l.map f):=WTq.of fun r hr=>by
 obtain⟨x,_,rfl⟩:=List.mem_map.1 hr;exact h x
theorem WTq.nil(P:Program)(shs:List Shp):WTq P shs []:=by unfold WTq;trivial
theorem WTq.cons{P:Program}{shs:List Shp}{r:List Lf}{q:List (List Lf)}(h:WTr P r shs)(k:WTq P shs q):WTq P shs (r::q):=by unfold WTq;exact⟨h,k⟩
end Go.Proofs.YtflpefkohpjjpaaGreatDoor
