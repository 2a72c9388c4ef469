/- What a statement hands over, as rows of leaves. -/
import Derived.Test.YtflpefkohpjjpaaGreatDoorQJ1
import Derived.Test.YtflpefkohpjjpaaGreatDoorRows
import Derived.ChangeArms
import Derived.DataReads
import Derived.Test.YtflpefkohpjjpaaGreatDoorQJ2
set_option linter.unusedSimpArgs false
set_option linter.unusedVariables false
namespace Go.Proofs.YtflpefkohpjjpaaGreatDoor
open Go.RowKit
inductive Shp where
 |int (k:IntKind)
 |str
 |bool
 |rows (e:TypeId)
deriving DecidableEq
def F6(P:Program)(g:TypeId→Option (List Shp))(tot:Nat):List Field→Nat→Option (List Shp)
 |[],o=>if o=tot then some [] else none
 |fl::rest,o=>if fl.offset=o then(g fl.type).bind fun a=>(F6 P g tot rest (o+P.cellsOf fl.type)).map (a++·) else none
def flat(P:Program):Nat→TypeId→Option (List Shp)
 |0,_=>none
 |f+1,t=>match P.underlying t with
  |some .bool=>some [.bool]
  |some (.int k)=>some [.int k]
  |some .string=>some [.str]
  |some (.slice e)=>some [.rows e]
  |some (.struct fs)=>F6 P (flat P f) (P.cellsOf t) fs.toList 0
  |_=>none
mutual
def WTf (P:Program):Lf→Shp→Prop
 |.int k _,s=>s=.int k
 |.str _,s=>s=.str
 |.bool _,s=>s=.bool
 |.rows n l,s=>∃e shs,s=.rows e∧flat P 12 e=some shs∧n=P.cellsOf e∧0<n∧WTq P shs l
def WTq (P:Program) (shs:List Shp):List (List Lf)→Prop
 |[]=>True
 |r::q=>WTr P r shs∧WTq P shs q
def WTr (P:Program):List Lf→List Shp→Prop
 |[],shs=>shs=[]
 |x::r,shs=>∃s q,shs=s::q∧WTf P x s∧WTr P r q
end
theorem WTq.mem{P:Program}{shs:List Shp}:∀{l:List (List Lf)},WTq P shs l→∀r∈l,WTr P r shs
 |[],_,r,h=>by cases h
 |x::q,h,r,hr=>by
  unfold WTq at h
  rcases List.mem_cons.1 hr with rfl|hr
  ·exact h.1
  ·exact WTq.mem h.2 r hr
theorem WTq.of{P:Program}{shs:List Shp}:∀{l:List (List Lf)},(∀r∈l,WTr P r shs)→WTq P shs l
 |[],_=>by unfold WTq;trivial
 |x::q,h=>by unfold WTq;exact⟨h x (by simp),WTq.of (fun r hr=>h r (by simp[hr]))⟩
theorem WTr.app{P:Program}:∀(r s:List Lf) (a b:List Shp),WTr P r a→WTr P s b→WTr P (r++s) (a++b)
 |[],s,a,b,h,k=>by unfold WTr at h;rw[h];exact k
 |x::r,s,a,b,h,k=>by
  unfold WTr at h
  obtain⟨sh,q,rfl,h1,h2⟩:=h
  show WTr P (x::(r++s)) (sh::(q++b))
  unfold WTr
  exact⟨sh,q++b,rfl,h1,WTr.app r s q b h2 k⟩
mutual
def Lf.bulk:Lf→Nat
 |.int _ _=>1
 |.str s=>s.size+1
 |.bool _=>1
 |.rows _ l=>1+bK l
def bK:List (List Lf)→Nat
 |[]=>0
 |r::q=>aP r+bK q
def aP:List Lf→Nat
 |[]=>0
 |x::r=>x.bulk+aP r
end
theorem fQ(r s:List Lf):aP (r++s)=aP r+aP s:=by
 induction r with
 |nil=>simp[aP]
 |cons x r ih=>simp only[List.cons_append,aP,ih];omega
theorem Lf.rF(x:Lf):1≤x.bulk:=by cases x<;>simp[Lf.bulk]
def I0(w:World):Gh:=fun b o=>w.cell? ⟨b,o,none⟩
theorem akp(w:World):Inv (I0 w) w:=fun _ _ _ h=>h
def okT(P:Program)(tys:List TypeId):Bool:=tys.all fun t=>match flat P 12 t with
 |some shs=>shs.all fun
  |.rows e=>tys.contains e&&decide (0<P.cellsOf e)
  |_=>true
 |none=>false
theorem UK{P:Program}{tys:List TypeId}(h:okT P tys=true){t:TypeId}(ht:t∈tys):∃shs,flat P 12 t=some shs∧∀e,Shp.rows e∈shs→e∈tys∧0<P.cellsOf e:=by
 have h1:=List.all_eq_true.1 h t ht
 cases hf:flat P 12 t with
 |none=>rw[hf] at h1;cases h1
 |some shs=>
  rw[hf] at h1
  refine⟨shs,rfl,fun e he=>?_⟩
  have h2:=List.all_eq_true.1 h1 _ he
  simp only[Bool.and_eq_true,List.contains_iff_mem,decide_eq_true_eq] at h2
  exact h2
theorem spot_none'{w:World}{a:Addr}{v:Value}(h:w.cell? a=some v):a=⟨a.block,a.off,none⟩:=by
 unfold World.cell? at h
 split at h
 ·split at h
  ·cases h
  ·rename_i hs
   obtain⟨b,o,s⟩:=a
   cases s
   ·rfl
   ·simp at hs
 ·cases h
section
variable {H:Type} {enc:TypeId×Value→H} {P:Program} {w:World} {tys:List TypeId}
def abn(P:Program)(w:World)(enc:TypeId×Value→H)(tys:List TypeId)(fuel:Nat):Prop:=
 ∀(f:Nat) (t:TypeId) (cs:List Value) (x:DataW H×List MemPlace) (shs:List Shp),DataW.trod enc P w 0 (fun _=>true) true fuel t cs=some x→flat P f t=some shs→(∀e,Shp.rows e∈shs→e∈tys∧0<P.cellsOf e)→
  ∃r,dB (I0 w) r cs∧WTr P r shs∧aP r≤Rows.uptoBulk x.1
theorem zV{n f tot:Nat}(ih:abn P w enc tys n)(cs:List Value):∀(fs:List Field) (xs:List (DataW H×List MemPlace)) (o:Nat) (shs:List Shp),
 (∀(i:Nat) (fl:Field),fs[i]?=some fl→DataW.trod enc P w 0 (fun _=>true) true n fl.type ((cs.drop fl.offset).take (P.cellsOf fl.type))=xs[i]?)→xs.length=fs.length→F6 P (flat P f) tot fs o=some shs→cs.length=tot→
 (∀e,Shp.rows e∈shs→e∈tys∧0<P.cellsOf e)→∃r,dB (I0 w) r (cs.drop o)∧WTr P r shs∧aP r≤Rows.uptoBulkAll (xs.map (·.1))
 |[],xs,o,shs,_,hl,hf,hc,_=>by
  unfold F6 at hf
  split at hf
  ·injection hf with hf
   refine⟨[],?_,by unfold WTr;exact hf.symm,by simp[aP]⟩
   show cs.drop o=[]
   exact List.drop_of_length_le (by omega)
  ·cases hf
 |fl::rest,xs,o,shs,hx,hl,hf,hc,hs=>by
  unfold F6 at hf
  split at hf
  ·rename_i ho
   subst ho
   cases ha:flat P f fl.type with
   |none=>rw[ha] at hf;cases hf
   |some a=>
    rw[ha,Option.bind_some] at hf
    cases hb:F6 P (flat P f) tot rest (fl.offset+P.cellsOf fl.type) with
    |none=>rw[hb] at hf;cases hf
    |some b=>
     rw[hb] at hf
     injection hf with hf
     subst hf
     cases xs with
     |nil=>simp at hl
     |cons y ys=>
      have h0:=hx 0 fl rfl
      rw[List.getElem?_cons_zero] at h0
      obtain⟨r,hr1,hr2,hr3⟩:=ih f fl.type _ y a h0 ha (fun e he=>hs e (by simp[he]))
      obtain⟨q,hq1,hq2,hq3⟩:=zV ih cs rest ys (fl.offset+P.cellsOf fl.type) b (fun i g hg=>by simpa using hx (i+1) g (by simpa using hg)) (by simpa using hl) hb hc (fun e he=>hs e (by simp[he]))
      refine⟨r++q,?_,WTr.app _ _ _ _ hr2 hq2,?_⟩
      ·have:=dB.app _ _ _ _ hr1 hq1
       rwa [←List.drop_drop,List.take_append_drop] at this
      ·rw[fQ];simp only[List.map_cons,Rows.uptoBulkAll];omega
  ·cases hf
theorem Cb{b off k:Nat}{shs:List Shp}:∀(elems:List (DataW H×List MemPlace)) (i0:Nat),
 (∀j y,elems[j]?=some y→∃r cs,dB (I0 w) r cs∧WTr P r shs∧aP r≤Rows.uptoBulk y.1∧cs.length=k∧∀q u,cs[q]?=some u→I0 w b (off+(i0+j)*k+q)=some u)→
 ∃l:List (List Lf),l.length=elems.length∧WTq P shs l∧RRp (I0 w) b k (off+i0*k) l∧bK l≤Rows.uptoBulkAll (elems.map (·.1))
 |[],i0,_=>⟨[],rfl,by unfold WTq;trivial,by unfold RRp;trivial,by simp[bK]⟩
 |y::ys,i0,h=>by
  obtain⟨r,cs,h1,h2,h3,h4,h5⟩:=h 0 y rfl
  obtain⟨l,g1,g2,g3,g4⟩:=Cb ys (i0+1) (fun j z hj=>by
   obtain⟨r,cs,h1,h2,h3,h4,h5⟩:=h (j+1) z (by simpa using hj)
   exact⟨r,cs,h1,h2,h3,h4,fun q u hq=>by have:=h5 q u hq;rwa [show i0+(j+1)=i0+1+j by omega] at this⟩)
  refine⟨r::l,by simp[g1],by unfold WTq;exact⟨h2,g2⟩,?_,by simp only[List.map_cons,bK,Rows.uptoBulkAll];omega⟩
  unfold RRp
  have hl:=dB.len r cs h1
  refine⟨by omega,CRp.of r _ cs h1 (fun q u hq=>h5 q u hq),?_⟩
  rwa [show off+i0*k+k=off+(i0+1)*k by rw[Nat.add_mul];omega]
theorem add_plain'(b o q:Nat):(⟨b,o,none⟩:Addr).add q=⟨b,o+q,none⟩:=by unfold Addr.add;split<;>simp_all
theorem bind_some'{α β:Type}{o:Option α}{f:α→Option β}{y:β}(h:o.bind f=some y):∃a,o=some a∧f a=some y:=by
 rw[Option.bind_eq_some_iff] at h;exact h
theorem agF(hok:okT P tys=true):∀fuel,abn P w enc tys fuel:=by
 intro fuel
 induction fuel using Nat.strongRecOn with
 |_ fuel ih=>
  intro f t cs x shs h hf hs
  cases f with
  |zero=>cases hf
  |succ f=>
   unfold flat at hf
   cases hu:P.underlying t with
   |none=>rw[hu] at hf;cases hf
   |some d=>
    rw[hu] at hf
    cases d with
    |bool=>
     injection hf with hf
     subst hf
     obtain⟨b,rfl,rfl⟩:=DataW.trod_bool hu h
     exact⟨[.bool b],⟨_,_,rfl,by unfold LRp;rfl,rfl⟩,by unfold WTr;exact⟨_,_,rfl,by unfold WTf;rfl,by unfold WTr;rfl⟩,by simp[aP,Lf.bulk,Rows.uptoBulk]⟩
    |int k=>
     injection hf with hf
     subst hf
     obtain⟨n,rfl,rfl,hwf⟩:=DataW.trod_int hu h
     exact⟨[.int k n],⟨_,_,rfl,by unfold LRp;exact⟨rfl,hwf⟩,rfl⟩,by unfold WTr;exact⟨_,_,rfl,by unfold WTf;rfl,by unfold WTr;rfl⟩,by simp[aP,Lf.bulk,Rows.uptoBulk]⟩
    |string=>
     injection hf with hf
     subst hf
     obtain⟨s,rfl,rfl,hsz⟩:=DataW.trod_string hu h
     exact⟨[.str s],⟨_,_,rfl,by unfold LRp;exact⟨rfl,hsz⟩,rfl⟩,by unfold WTr;exact⟨_,_,rfl,by unfold WTf;rfl,by unfold WTr;rfl⟩,by simp[aP,Lf.bulk,Rows.uptoBulk]⟩
    |slice e=>
     injection hf with hf
     subst hf
     obtain⟨he,hpos⟩:=hs e (by simp)
     obtain⟨she,hfe,hse⟩:=UK hok he
     rcases DataW.trod_slice hu h with⟨rfl,rfl⟩|⟨a,len,cap,elems,rest,m,rfl,rfl,rfl,-,hlc,hcm,hel,hat,-,-⟩
     ·refine⟨[.rows (P.cellsOf e) []], ⟨_, _, rfl, LRp.nil _ _, rfl⟩, ?_, by simp[aP, Lf.bulk, bK, Rows.uptoBulk]⟩
      unfold WTr
      exact⟨_,_,rfl,by unfold WTf;exact⟨e,she,rfl,hfe,rfl,hpos,by unfold WTq;trivial⟩,by unfold WTr;rfl⟩
     ·have each:∀j y,elems[j]?=some y→∃r cs,dB (I0 w) r cs∧WTr P r she∧aP r≤Rows.uptoBulk y.1∧cs.length=P.cellsOf e∧∀q u,cs[q]?=some u→w.cell? ((a.add (j*P.cellsOf e)).add q)=some u:=by
       intro j y hj
       have hjl:j<len:=by rw[←hel];exact(List.getElem?_eq_some_iff.1 hj).1
       obtain⟨cs',hc,hy⟩:=bind_some' ((hat j hjl).trans hj)
       obtain⟨r,h1,h2,h3⟩:=ih m (by omega) 12 e cs' y she hy hfe hse
       obtain⟨-,hcl,hcc⟩:=World.cells?_some hc
       exact⟨r,cs',h1,h2,h3,hcl,fun q u hq=>by rw[hcc q (by have:=(List.getElem?_eq_some_iff.1 hq).1;omega),hq]⟩
      cases elems with
      |nil=>
       have hl0:len=0:=by rw[←hel];rfl
       subst hl0
       refine⟨[.rows (P.cellsOf e) []],⟨_,_,rfl,?_,rfl⟩,?_,by simp[aP,Lf.bulk,bK,Rows.uptoBulk]⟩
       ·unfold LRp;exact⟨some a,cap,rfl,by simp,hcm,fun h=>absurd rfl h⟩
       ·unfold WTr
        exact⟨_,_,rfl,by unfold WTf;exact⟨e,she,rfl,hfe,rfl,hpos,by unfold WTq;trivial⟩,by unfold WTr;rfl⟩
      |cons y0 ys=>
       have ha:a=⟨a.block,a.off,none⟩:=by
        obtain⟨r,cs',_,_,_,hcl,hcc⟩:=each 0 y0 rfl
        have hlt:0<cs'.length:=by omega
        have:=hcc 0 cs'[0] (List.getElem?_eq_getElem hlt)
        simp only[Nat.zero_mul,Addr.add,if_true] at this
        exact spot_none' this
       obtain⟨b,off,sp⟩:=a
       simp only[Addr.mk.injEq,true_and] at ha
       subst ha
       obtain⟨l,l1,l2,l3,l4⟩:=Cb (w:=w) (b:=b) (off:=off) (k:=P.cellsOf e) (shs:=she) (P:=P) (y0::ys) 0 (fun j y hj=>by
        obtain⟨r,cs',h1,h2,h3,h4,h5⟩:=each j y hj
        refine⟨r,cs',h1,h2,h3,h4,fun q u hq=>?_⟩
        have:=h5 q u hq
        rw[add_plain',add_plain'] at this
        rw[Nat.zero_add];exact this)
       refine⟨[.rows (P.cellsOf e) l],⟨_,_,rfl,?_,rfl⟩,?_,?_⟩
       ·unfold LRp
        exact⟨_,cap,by rw[l1,hel],by omega,hcm,fun _=>⟨b,off,rfl,by simpa using l3⟩⟩
       ·unfold WTr
        exact⟨_,_,rfl,by unfold WTf;exact⟨e,she,rfl,hfe,rfl,hpos,l2⟩,by unfold WTr;rfl⟩
       ·simp only[aP,Lf.bulk,Rows.uptoBulk];omega
    |struct fs=>
     simp only at hf
     obtain⟨xs,n,rfl,rfl,hl,hlen,hx⟩:=DataW.trod_struct hu h
     obtain⟨r,h1,h2,h3⟩:=zV (ih n (by omega)) cs fs.toList xs 0 shs (fun i fl hi=>hx i fl (by simpa using hi)) (by simpa using hlen) hf hl hs
     exact⟨r,by simpa using h1,h2,by simp only[Rows.uptoBulk];omega⟩
    |_=>cases hf
end
end Go.Proofs.YtflpefkohpjjpaaGreatDoor
set_option linter.unusedSimpArgs false
set_option linter.unusedVariables false
namespace Go.Proofs.YtflpefkohpjjpaaGreatDoor
open Go.RowKit
theorem WTr.nil(P:Program):WTr P [] []:=by unfold WTr;rfl
theorem WTr.cons{P:Program}{x:Lf}{s:Shp}{r:List Lf}{q:List Shp}(h:WTf P x s)(k:WTr P r q):WTr P (x::r) (s::q):=by unfold WTr;exact⟨s,q,rfl,h,k⟩
theorem WTf.int(P:Program)(k:IntKind)(n:Int):WTf P (.int k n) (.int k):=by unfold WTf;rfl
theorem WTf.str(P:Program)(s:ByteArray):WTf P (.str s) .str:=by unfold WTf;rfl
theorem WTf.bool(P:Program)(b:Bool):WTf P (.bool b) .bool:=by unfold WTf;rfl
theorem WTf.rows{P:Program}{n:Nat}{l:List (List Lf)}{e:TypeId}{shs:List Shp}(hf:flat P 12 e=some shs)(hn:n=P.cellsOf e)(h0:0<n)(h:WTq P shs l):WTf P (.rows n l) (.rows e):=by unfold WTf;exact⟨e,shs,rfl,hf,hn,h0,h⟩
theorem WTq.map{P:Program}{shs:List Shp}{α:Type}{f:α→List Lf}(l:List α)(h:∀x,WTr P (f x) shs):WTq P shs (l.map f):=WTq.of fun r hr=>by
 obtain⟨x,_,rfl⟩:=List.mem_map.1 hr;exact h x
theorem WTq.nil(P:Program)(shs:List Shp):WTq P shs []:=by unfold WTq;trivial
theorem WTq.cons{P:Program}{shs:List Shp}{r:List Lf}{q:List (List Lf)}(h:WTr P r shs)(k:WTq P shs q):WTq P shs (r::q):=by unfold WTq;exact⟨h,k⟩
theorem WTr.cons_inv{P:Program}{r:List Lf}{s:Shp}{q:List Shp}(h:WTr P r (s::q)):∃x r',r=x::r'∧WTf P x s∧WTr P r' q:=by
 cases r with
 |nil=>unfold WTr at h;cases h
 |cons x r=>unfold WTr at h;obtain⟨s',q',e,h1,h2⟩:=h;injection e with e1 e2;subst e1 e2;exact⟨x,r,rfl,h1,h2⟩
theorem WTr.gU{P:Program}{r:List Lf}(h:WTr P r []):r=[]:=by
 cases r with
 |nil=>rfl
 |cons x r=>unfold WTr at h;obtain⟨s',q',e,h1,h2⟩:=h;cases e
theorem WTr.fV{P:Program}:∀{a:List Shp} {b:List Shp} {r:List Lf},WTr P r (a++b)→∃r1 r2,r=r1++r2∧WTr P r1 a∧WTr P r2 b
 |[],b,r,h=>⟨[],r,rfl,WTr.nil P,h⟩
 |s::a,b,r,h=>by
  obtain⟨x,r',rfl,h1,h2⟩:=WTr.cons_inv h
  obtain⟨r1,r2,rfl,h3,h4⟩:=WTr.fV h2
  exact⟨x::r1,r2,rfl,WTr.cons h1 h3,h4⟩
theorem WTf.gB{P:Program}{x:Lf}{k:IntKind}(h:WTf P x (.int k)):∃n,x=.int k n:=by
 cases x<;>unfold WTf at h
 ·rename_i k' n;injection h with h;subst h;exact⟨n,rfl⟩
 ·cases h
 ·cases h
 ·obtain⟨_,_,e,_⟩:=h;cases e
theorem WTf.lF{P:Program}{x:Lf}(h:WTf P x .str):∃s,x=.str s:=by
 cases x<;>unfold WTf at h
 ·cases h
 ·exact⟨_,rfl⟩
 ·cases h
 ·obtain⟨_,_,e,_⟩:=h;cases e
theorem WTf.kK{P:Program}{x:Lf}(h:WTf P x .bool):∃s,x=.bool s:=by
 cases x<;>unfold WTf at h
 ·cases h
 ·cases h
 ·exact⟨_,rfl⟩
 ·obtain⟨_,_,e,_⟩:=h;cases e
theorem WTf.gV{P:Program}{x:Lf}{e:TypeId}{n:Nat}{shs:List Shp}(hf:flat P 12 e=some shs)(hn:P.cellsOf e=n)(h:WTf P x (.rows e)):∃l,x=.rows n l∧WTq P shs l:=by
 cases x<;>unfold WTf at h
 ·cases h
 ·cases h
 ·cases h
 ·rename_i n' l;obtain⟨e',shs',e1,h1,h2,h3,h4⟩:=h;injection e1 with e1;subst e1
  rw[hf] at h1;injection h1 with h1;subst h1
  exact⟨l,by rw[h2,hn],h4⟩
theorem gG{P:Program}{shs:List Shp}{α:Type}{f:α→List Lf}{n:Nat}:∀{l:List (List Lf)},(∀r,aP r≤n→WTr P r shs→∃x,f x=r)→bK l≤n→WTq P shs l→∃m:List α,m.map f=l
 |[],_,_,_=>⟨[],rfl⟩
 |r::q,h,hb,hw=>by
  unfold bK at hb;unfold WTq at hw
  obtain⟨x,rfl⟩:=h r (by omega) hw.1
  obtain⟨m,rfl⟩:=gG (l:=q) h (by omega) hw.2
  exact⟨x::m,rfl⟩
theorem agG{P:Program}{r:List Lf}(h:WTr P r [.int .i64]):∃x,lfI x=r:=by
 obtain⟨x,r',rfl,k1,k2⟩:=WTr.cons_inv h
 obtain rfl:=WTr.gU k2
 obtain⟨n,rfl⟩:=WTf.gB k1
 exact⟨n,rfl⟩
theorem wJ{P:Program}{r:List Lf}(h:WTr P r [.str]):∃x,lfS x=r:=by
 obtain⟨x,r',rfl,k1,k2⟩:=WTr.cons_inv h
 obtain rfl:=WTr.gU k2
 obtain⟨n,rfl⟩:=WTf.lF k1
 exact⟨n,rfl⟩
def ah.sh:List Shp:=[.int .i64,.int .i64,.str,.rows 25,.rows 115]
def ay.sh:List Shp:=[.str]++(ah.sh)
theorem ah.Jp(n:Nat):(∀r,aP r≤n→WTr Tryz.prog r ah.sh→∃x:ah,x.lf=r)∧(∀r,aP r≤n→WTr Tryz.prog r ay.sh→∃x:ay,x.lf=r):=by
 induction n with
 |zero=>refine⟨?_,?_⟩<;>· intro r hb h;obtain⟨y,z,rfl,k,h⟩:=WTr.cons_inv h;have:=Lf.rF y;simp only[aP] at hb;omega
 |succ n ih=>
  refine⟨?_,?_⟩
  ·intro r hb h
   unfold ah.sh at h
   obtain⟨y0,z0,rfl,k0,h1⟩:=WTr.cons_inv h
   obtain⟨v0,rfl⟩:=WTf.gB k0
   obtain⟨y1,z1,rfl,k1,h2⟩:=WTr.cons_inv h1
   obtain⟨v1,rfl⟩:=WTf.gB k1
   obtain⟨y2,z2,rfl,k2,h3⟩:=WTr.cons_inv h2
   obtain⟨v2,rfl⟩:=WTf.lF k2
   obtain⟨y3,z3,rfl,k3,h4⟩:=WTr.cons_inv h3
   obtain⟨lv3,rfl,qv3⟩:=WTf.gV (n:=5) (shs:=ah.sh) (by kernel_rfl) (by kernel_rfl) k3
   obtain⟨y4,z4,rfl,k4,h5⟩:=WTr.cons_inv h4
   obtain⟨lv4,rfl,qv4⟩:=WTf.gV (n:=6) (shs:=ay.sh) (by kernel_rfl) (by kernel_rfl) k4
   obtain rfl:=WTr.gU h5
   simp only[fQ,aP,Lf.bulk] at hb
   obtain⟨v3,rfl⟩:=gG (f:=ah.lf) (n:=n) (fun r hb h=>ih.1 r hb h) (by omega) qv3
   obtain⟨v4,rfl⟩:=gG (f:=ay.lf) (n:=n) (fun r hb h=>ih.2 r hb h) (by omega) qv4
   exact⟨ah.mk v0 v1 v2 v3 v4,by rw[ah.aS];rfl⟩
  ·intro r hb h
   unfold ay.sh at h
   obtain⟨a0,b0,rfl,f0,hh0⟩:=WTr.fV h
   obtain⟨y0,z0,rfl,k0,h1⟩:=WTr.cons_inv f0
   obtain⟨v0,rfl⟩:=WTf.lF k0
   obtain rfl:=WTr.gU h1
   simp only[fQ,aP,Lf.bulk] at hb
   obtain⟨v1,ev1⟩:=ih.1 _ (by omega) hh0
   rw[ah.aS] at ev1
   subst ev1
   exact⟨ay.mk v0 v1,by rw[ay.aS];rfl⟩
theorem ah.ofW{r:List Lf}(h:WTr Tryz.prog r ah.sh):∃x:ah,x.lf=r:=(ah.Jp (aP r)).1 r (Nat.le_refl _) h
def bn.sh:List Shp:=[.rows 9,.bool]
theorem bn.ofW{r:List Lf}(h:WTr Tryz.prog r bn.sh):∃x:bn,x.lf=r:=by
 unfold bn.sh at h
 obtain⟨y0,z0,rfl,k0,h1⟩:=WTr.cons_inv h
 obtain⟨lv0,rfl,qv0⟩:=WTf.gV (n:=1) (shs:=[.str]) (by kernel_rfl) (by kernel_rfl) k0
 obtain⟨v0,rfl⟩:=gG (f:=lfS) (n:=bK lv0) (fun r _ h=>wJ h) (Nat.le_refl _) qv0
 obtain⟨y1,z1,rfl,k1,h2⟩:=WTr.cons_inv h1
 obtain⟨v1,rfl⟩:=WTf.kK k1
 obtain rfl:=WTr.gU h2
 exact⟨bn.mk v0 v1,by rw[bn.aS];rfl⟩
def bT.sh:List Shp:=[.int .i64,.int .i64]
theorem bT.ofW{r:List Lf}(h:WTr Tryz.prog r bT.sh):∃x:bT,x.lf=r:=by
 unfold bT.sh at h
 obtain⟨y0,z0,rfl,k0,h1⟩:=WTr.cons_inv h
 obtain⟨v0,rfl⟩:=WTf.gB k0
 obtain⟨y1,z1,rfl,k1,h2⟩:=WTr.cons_inv h1
 obtain⟨v1,rfl⟩:=WTf.gB k1
 obtain rfl:=WTr.gU h2
 exact⟨bT.mk v0 v1,by rw[bT.aS];rfl⟩
def dJ.sh:List Shp:=[.int .i64,.rows 229,.int .i64]
theorem dJ.ofW{r:List Lf}(h:WTr Tryz.prog r dJ.sh):∃x:dJ,x.lf=r:=by
 unfold dJ.sh at h
 obtain⟨y0,z0,rfl,k0,h1⟩:=WTr.cons_inv h
 obtain⟨v0,rfl⟩:=WTf.gB k0
 obtain⟨y1,z1,rfl,k1,h2⟩:=WTr.cons_inv h1
 obtain⟨lv1,rfl,qv1⟩:=WTf.gV (n:=2) (shs:=bT.sh) (by kernel_rfl) (by kernel_rfl) k1
 obtain⟨v1,rfl⟩:=gG (f:=bT.lf) (n:=bK lv1) (fun r _ h=>bT.ofW h) (Nat.le_refl _) qv1
 obtain⟨y2,z2,rfl,k2,h3⟩:=WTr.cons_inv h2
 obtain⟨v2,rfl⟩:=WTf.gB k2
 obtain rfl:=WTr.gU h3
 exact⟨dJ.mk v0 v1 v2,by rw[dJ.aS];rfl⟩
def aO.sh:List Shp:=[.int .i64,.rows 9,.str,.rows 9]++(ah.sh++([.int .i64,.rows 40]))
theorem aO.Jp(n:Nat):∀r,aP r≤n→WTr Tryz.prog r aO.sh→∃x:aO,x.lf=r:=by
 induction n with
 |zero=>intro r hb h;obtain⟨y,z,rfl,k,h⟩:=WTr.cons_inv h;have:=Lf.rF y;simp only[aP] at hb;omega
 |succ n ih=>
  intro r hb h
  unfold aO.sh at h
  obtain⟨a0,b0,rfl,f0,hh0⟩:=WTr.fV h
  obtain⟨y0,z0,rfl,k0,h1⟩:=WTr.cons_inv f0
  obtain⟨v0,rfl⟩:=WTf.gB k0
  obtain⟨y1,z1,rfl,k1,h2⟩:=WTr.cons_inv h1
  obtain⟨lv1,rfl,qv1⟩:=WTf.gV (n:=1) (shs:=[.str]) (by kernel_rfl) (by kernel_rfl) k1
  obtain⟨v1,rfl⟩:=gG (f:=lfS) (n:=bK lv1) (fun r _ h=>wJ h) (Nat.le_refl _) qv1
  obtain⟨y2,z2,rfl,k2,h3⟩:=WTr.cons_inv h2
  obtain⟨v2,rfl⟩:=WTf.lF k2
  obtain⟨y3,z3,rfl,k3,h4⟩:=WTr.cons_inv h3
  obtain⟨lv3,rfl,qv3⟩:=WTf.gV (n:=1) (shs:=[.str]) (by kernel_rfl) (by kernel_rfl) k3
  obtain⟨v3,rfl⟩:=gG (f:=lfS) (n:=bK lv3) (fun r _ h=>wJ h) (Nat.le_refl _) qv3
  obtain rfl:=WTr.gU h4
  obtain⟨a1,b1,rfl,f1,hh1⟩:=WTr.fV hh0
  obtain⟨v4,ev4⟩:=ah.ofW f1
  rw[ah.aS] at ev4
  subst ev4
  obtain⟨y5,z5,rfl,k5,h5⟩:=WTr.cons_inv hh1
  obtain⟨v5,rfl⟩:=WTf.gB k5
  obtain⟨y6,z6,rfl,k6,h6⟩:=WTr.cons_inv h5
  obtain⟨lv6,rfl,qv6⟩:=WTf.gV (n:=11) (shs:=aO.sh) (by kernel_rfl) (by kernel_rfl) k6
  obtain rfl:=WTr.gU h6
  simp only[fQ,aP,Lf.bulk] at hb
  obtain⟨v6,rfl⟩:=gG (f:=aO.lf) (n:=n) (fun r hb h=>ih r hb h) (by omega) qv6
  exact⟨aO.mk v0 v1 v2 v3 v4 v5 v6,by rw[aO.aS];rfl⟩
theorem aO.ofW{r:List Lf}(h:WTr Tryz.prog r aO.sh):∃x:aO,x.lf=r:=(aO.Jp (aP r)) r (Nat.le_refl _) h
def aN.sh:List Shp:=[.int .i64,.rows 9]++(ah.sh++([.rows 25,.int .i64,.int .i64]++(dJ.sh++(aO.sh++([.rows 43])))))
theorem aN.Jp(n:Nat):∀r,aP r≤n→WTr Tryz.prog r aN.sh→∃x:aN,x.lf=r:=by
 induction n with
 |zero=>intro r hb h;obtain⟨y,z,rfl,k,h⟩:=WTr.cons_inv h;have:=Lf.rF y;simp only[aP] at hb;omega
 |succ n ih=>
  intro r hb h
  unfold aN.sh at h
  obtain⟨a0,b0,rfl,f0,hh0⟩:=WTr.fV h
  obtain⟨y0,z0,rfl,k0,h1⟩:=WTr.cons_inv f0
  obtain⟨v0,rfl⟩:=WTf.gB k0
  obtain⟨y1,z1,rfl,k1,h2⟩:=WTr.cons_inv h1
  obtain⟨lv1,rfl,qv1⟩:=WTf.gV (n:=1) (shs:=[.str]) (by kernel_rfl) (by kernel_rfl) k1
  obtain⟨v1,rfl⟩:=gG (f:=lfS) (n:=bK lv1) (fun r _ h=>wJ h) (Nat.le_refl _) qv1
  obtain rfl:=WTr.gU h2
  obtain⟨a1,b1,rfl,f1,hh1⟩:=WTr.fV hh0
  obtain⟨v2,ev2⟩:=ah.ofW f1
  rw[ah.aS] at ev2
  subst ev2
  obtain⟨a2,b2,rfl,f2,hh2⟩:=WTr.fV hh1
  obtain⟨y3,z3,rfl,k3,h3⟩:=WTr.cons_inv f2
  obtain⟨lv3,rfl,qv3⟩:=WTf.gV (n:=5) (shs:=ah.sh) (by kernel_rfl) (by kernel_rfl) k3
  obtain⟨v3,rfl⟩:=gG (f:=ah.lf) (n:=bK lv3) (fun r _ h=>ah.ofW h) (Nat.le_refl _) qv3
  obtain⟨y4,z4,rfl,k4,h4⟩:=WTr.cons_inv h3
  obtain⟨v4,rfl⟩:=WTf.gB k4
  obtain⟨y5,z5,rfl,k5,h5⟩:=WTr.cons_inv h4
  obtain⟨v5,rfl⟩:=WTf.gB k5
  obtain rfl:=WTr.gU h5
  obtain⟨a3,b3,rfl,f3,hh3⟩:=WTr.fV hh2
  obtain⟨v6,ev6⟩:=dJ.ofW f3
  rw[dJ.aS] at ev6
  subst ev6
  obtain⟨a4,b4,rfl,f4,hh4⟩:=WTr.fV hh3
  obtain⟨v7,ev7⟩:=aO.ofW f4
  rw[aO.aS] at ev7
  subst ev7
  obtain⟨y8,z8,rfl,k8,h6⟩:=WTr.cons_inv hh4
  obtain⟨lv8,rfl,qv8⟩:=WTf.gV (n:=25) (shs:=aN.sh) (by kernel_rfl) (by kernel_rfl) k8
  obtain rfl:=WTr.gU h6
  simp only[fQ,aP,Lf.bulk] at hb
  obtain⟨v8,rfl⟩:=gG (f:=aN.lf) (n:=n) (fun r hb h=>ih r hb h) (by omega) qv8
  exact⟨aN.mk v0 v1 v2 v3 v4 v5 v6 v7 v8,by rw[aN.aS];rfl⟩
theorem aN.ofW{r:List Lf}(h:WTr Tryz.prog r aN.sh):∃x:aN,x.lf=r:=(aN.Jp (aP r)) r (Nat.le_refl _) h
def aQ.sh:List Shp:=[.str,.int .i64,.rows 149,.bool,.bool,.bool]++(aN.sh)
theorem aQ.ofW{r:List Lf}(h:WTr Tryz.prog r aQ.sh):∃x:aQ,x.lf=r:=by
 unfold aQ.sh at h
 obtain⟨a0,b0,rfl,f0,hh0⟩:=WTr.fV h
 obtain⟨y0,z0,rfl,k0,h1⟩:=WTr.cons_inv f0
 obtain⟨v0,rfl⟩:=WTf.lF k0
 obtain⟨y1,z1,rfl,k1,h2⟩:=WTr.cons_inv h1
 obtain⟨v1,rfl⟩:=WTf.gB k1
 obtain⟨y2,z2,rfl,k2,h3⟩:=WTr.cons_inv h2
 obtain⟨lv2,rfl,qv2⟩:=WTf.gV (n:=2) (shs:=bn.sh) (by kernel_rfl) (by kernel_rfl) k2
 obtain⟨v2,rfl⟩:=gG (f:=bn.lf) (n:=bK lv2) (fun r _ h=>bn.ofW h) (Nat.le_refl _) qv2
 obtain⟨y3,z3,rfl,k3,h4⟩:=WTr.cons_inv h3
 obtain⟨v3,rfl⟩:=WTf.kK k3
 obtain⟨y4,z4,rfl,k4,h5⟩:=WTr.cons_inv h4
 obtain⟨v4,rfl⟩:=WTf.kK k4
 obtain⟨y5,z5,rfl,k5,h6⟩:=WTr.cons_inv h5
 obtain⟨v5,rfl⟩:=WTf.kK k5
 obtain rfl:=WTr.gU h6
 obtain⟨v6,ev6⟩:=aN.ofW hh0
 rw[aN.aS] at ev6
 subst ev6
 exact⟨aQ.mk v0 v1 v2 v3 v4 v5 v6,by rw[aQ.aS];rfl⟩
def aH.sh:List Shp:=[.int .i64,.bool]++(ah.sh++([.bool]++(ah.sh++([.rows 25,.int .i64,.int .i64,.rows 9,.rows 224,.bool,.rows 31,.bool]))))
def bD.sh:List Shp:=[.str]++(aH.sh)
theorem aH.Jp(n:Nat):(∀r,aP r≤n→WTr Tryz.prog r aH.sh→∃x:aH,x.lf=r)∧(∀r,aP r≤n→WTr Tryz.prog r bD.sh→∃x:bD,x.lf=r):=by
 induction n with
 |zero=>refine⟨?_,?_⟩<;>· intro r hb h;obtain⟨y,z,rfl,k,h⟩:=WTr.cons_inv h;have:=Lf.rF y;simp only[aP] at hb;omega
 |succ n ih=>
  refine⟨?_,?_⟩
  ·intro r hb h
   unfold aH.sh at h
   obtain⟨a0,b0,rfl,f0,hh0⟩:=WTr.fV h
   obtain⟨y0,z0,rfl,k0,h1⟩:=WTr.cons_inv f0
   obtain⟨v0,rfl⟩:=WTf.gB k0
   obtain⟨y1,z1,rfl,k1,h2⟩:=WTr.cons_inv h1
   obtain⟨v1,rfl⟩:=WTf.kK k1
   obtain rfl:=WTr.gU h2
   obtain⟨a1,b1,rfl,f1,hh1⟩:=WTr.fV hh0
   obtain⟨v2,ev2⟩:=ah.ofW f1
   rw[ah.aS] at ev2
   subst ev2
   obtain⟨a2,b2,rfl,f2,hh2⟩:=WTr.fV hh1
   obtain⟨y3,z3,rfl,k3,h3⟩:=WTr.cons_inv f2
   obtain⟨v3,rfl⟩:=WTf.kK k3
   obtain rfl:=WTr.gU h3
   obtain⟨a3,b3,rfl,f3,hh3⟩:=WTr.fV hh2
   obtain⟨v4,ev4⟩:=ah.ofW f3
   rw[ah.aS] at ev4
   subst ev4
   obtain⟨y5,z5,rfl,k5,h4⟩:=WTr.cons_inv hh3
   obtain⟨lv5,rfl,qv5⟩:=WTf.gV (n:=5) (shs:=ah.sh) (by kernel_rfl) (by kernel_rfl) k5
   obtain⟨v5,rfl⟩:=gG (f:=ah.lf) (n:=bK lv5) (fun r _ h=>ah.ofW h) (Nat.le_refl _) qv5
   obtain⟨y6,z6,rfl,k6,h5⟩:=WTr.cons_inv h4
   obtain⟨v6,rfl⟩:=WTf.gB k6
   obtain⟨y7,z7,rfl,k7,h6⟩:=WTr.cons_inv h5
   obtain⟨v7,rfl⟩:=WTf.gB k7
   obtain⟨y8,z8,rfl,k8,h7⟩:=WTr.cons_inv h6
   obtain⟨lv8,rfl,qv8⟩:=WTf.gV (n:=1) (shs:=[.str]) (by kernel_rfl) (by kernel_rfl) k8
   obtain⟨v8,rfl⟩:=gG (f:=lfS) (n:=bK lv8) (fun r _ h=>wJ h) (Nat.le_refl _) qv8
   obtain⟨y9,z9,rfl,k9,h8⟩:=WTr.cons_inv h7
   obtain⟨lv9,rfl,qv9⟩:=WTf.gV (n:=22) (shs:=bD.sh) (by kernel_rfl) (by kernel_rfl) k9
   obtain⟨y10,z10,rfl,k10,h9⟩:=WTr.cons_inv h8
   obtain⟨v10,rfl⟩:=WTf.kK k10
   obtain⟨y11,z11,rfl,k11,h10⟩:=WTr.cons_inv h9
   obtain⟨lv11,rfl,qv11⟩:=WTf.gV (n:=21) (shs:=aH.sh) (by kernel_rfl) (by kernel_rfl) k11
   obtain⟨y12,z12,rfl,k12,h11⟩:=WTr.cons_inv h10
   obtain⟨v12,rfl⟩:=WTf.kK k12
   obtain rfl:=WTr.gU h11
   simp only[fQ,aP,Lf.bulk] at hb
   obtain⟨v9,rfl⟩:=gG (f:=bD.lf) (n:=n) (fun r hb h=>ih.2 r hb h) (by omega) qv9
   obtain⟨v11,rfl⟩:=gG (f:=aH.lf) (n:=n) (fun r hb h=>ih.1 r hb h) (by omega) qv11
   exact⟨aH.mk v0 v1 v2 v3 v4 v5 v6 v7 v8 v9 v10 v11 v12,by rw[aH.aS];rfl⟩
  ·intro r hb h
   unfold bD.sh at h
   obtain⟨a0,b0,rfl,f0,hh0⟩:=WTr.fV h
   obtain⟨y0,z0,rfl,k0,h1⟩:=WTr.cons_inv f0
   obtain⟨v0,rfl⟩:=WTf.lF k0
   obtain rfl:=WTr.gU h1
   simp only[fQ,aP,Lf.bulk] at hb
   obtain⟨v1,ev1⟩:=ih.1 _ (by omega) hh0
   rw[aH.aS] at ev1
   subst ev1
   exact⟨bD.mk v0 v1,by rw[bD.aS];rfl⟩
theorem aH.ofW{r:List Lf}(h:WTr Tryz.prog r aH.sh):∃x:aH,x.lf=r:=(aH.Jp (aP r)).1 r (Nat.le_refl _) h
def bU.sh:List Shp:=[.str,.rows 45]++(aH.sh++([.int .i64,.int .i64]))
theorem bU.ofW{r:List Lf}(h:WTr Tryz.prog r bU.sh):∃x:bU,x.lf=r:=by
 unfold bU.sh at h
 obtain⟨a0,b0,rfl,f0,hh0⟩:=WTr.fV h
 obtain⟨y0,z0,rfl,k0,h1⟩:=WTr.cons_inv f0
 obtain⟨v0,rfl⟩:=WTf.lF k0
 obtain⟨y1,z1,rfl,k1,h2⟩:=WTr.cons_inv h1
 obtain⟨lv1,rfl,qv1⟩:=WTf.gV (n:=31) (shs:=aQ.sh) (by kernel_rfl) (by kernel_rfl) k1
 obtain⟨v1,rfl⟩:=gG (f:=aQ.lf) (n:=bK lv1) (fun r _ h=>aQ.ofW h) (Nat.le_refl _) qv1
 obtain rfl:=WTr.gU h2
 obtain⟨a1,b1,rfl,f1,hh1⟩:=WTr.fV hh0
 obtain⟨v2,ev2⟩:=aH.ofW f1
 rw[aH.aS] at ev2
 subst ev2
 obtain⟨y3,z3,rfl,k3,h3⟩:=WTr.cons_inv hh1
 obtain⟨v3,rfl⟩:=WTf.gB k3
 obtain⟨y4,z4,rfl,k4,h4⟩:=WTr.cons_inv h3
 obtain⟨v4,rfl⟩:=WTf.gB k4
 obtain rfl:=WTr.gU h4
 exact⟨bU.mk v0 v1 v2 v3 v4,by rw[bU.aS];rfl⟩
def ak.sh:List Shp:=[.int .i64,.str]++(ah.sh++(ah.sh++(ah.sh++(bU.sh++(aQ.sh++([.str,.int .i64,.rows 49,.rows 3,.bool]))))))
theorem ak.Jp(n:Nat):∀r,aP r≤n→WTr Tryz.prog r ak.sh→∃x:ak,x.lf=r:=by
 induction n with
 |zero=>intro r hb h;obtain⟨y,z,rfl,k,h⟩:=WTr.cons_inv h;have:=Lf.rF y;simp only[aP] at hb;omega
 |succ n ih=>
  intro r hb h
  unfold ak.sh at h
  obtain⟨a0,b0,rfl,f0,hh0⟩:=WTr.fV h
  obtain⟨y0,z0,rfl,k0,h1⟩:=WTr.cons_inv f0
  obtain⟨v0,rfl⟩:=WTf.gB k0
  obtain⟨y1,z1,rfl,k1,h2⟩:=WTr.cons_inv h1
  obtain⟨v1,rfl⟩:=WTf.lF k1
  obtain rfl:=WTr.gU h2
  obtain⟨a1,b1,rfl,f1,hh1⟩:=WTr.fV hh0
  obtain⟨v2,ev2⟩:=ah.ofW f1
  rw[ah.aS] at ev2
  subst ev2
  obtain⟨a2,b2,rfl,f2,hh2⟩:=WTr.fV hh1
  obtain⟨v3,ev3⟩:=ah.ofW f2
  rw[ah.aS] at ev3
  subst ev3
  obtain⟨a3,b3,rfl,f3,hh3⟩:=WTr.fV hh2
  obtain⟨v4,ev4⟩:=ah.ofW f3
  rw[ah.aS] at ev4
  subst ev4
  obtain⟨a4,b4,rfl,f4,hh4⟩:=WTr.fV hh3
  obtain⟨v5,ev5⟩:=bU.ofW f4
  rw[bU.aS] at ev5
  subst ev5
  obtain⟨a5,b5,rfl,f5,hh5⟩:=WTr.fV hh4
  obtain⟨v6,ev6⟩:=aQ.ofW f5
  rw[aQ.aS] at ev6
  subst ev6
  obtain⟨y7,z7,rfl,k7,h3⟩:=WTr.cons_inv hh5
  obtain⟨v7,rfl⟩:=WTf.lF k7
  obtain⟨y8,z8,rfl,k8,h4⟩:=WTr.cons_inv h3
  obtain⟨v8,rfl⟩:=WTf.gB k8
  obtain⟨y9,z9,rfl,k9,h5⟩:=WTr.cons_inv h4
  obtain⟨lv9,rfl,qv9⟩:=WTf.gV (n:=78) (shs:=ak.sh) (by kernel_rfl) (by kernel_rfl) k9
  obtain⟨y10,z10,rfl,k10,h6⟩:=WTr.cons_inv h5
  obtain⟨lv10,rfl,qv10⟩:=WTf.gV (n:=1) (shs:=[.int .i64]) (by kernel_rfl) (by kernel_rfl) k10
  obtain⟨v10,rfl⟩:=gG (f:=lfI) (n:=bK lv10) (fun r _ h=>agG h) (Nat.le_refl _) qv10
  obtain⟨y11,z11,rfl,k11,h7⟩:=WTr.cons_inv h6
  obtain⟨v11,rfl⟩:=WTf.kK k11
  obtain rfl:=WTr.gU h7
  simp only[fQ,aP,Lf.bulk] at hb
  obtain⟨v9,rfl⟩:=gG (f:=ak.lf) (n:=n) (fun r hb h=>ih r hb h) (by omega) qv9
  exact⟨ak.mk v0 v1 v2 v3 v4 v5 v6 v7 v8 v9 v10 v11,by rw[ak.aS];rfl⟩
theorem ak.ofW{r:List Lf}(h:WTr Tryz.prog r ak.sh):∃x:ak,x.lf=r:=(ak.Jp (aP r)) r (Nat.le_refl _) h
def bG.sh:List Shp:=[.int .i64,.int .i64,.str,.int .i64]++(ak.sh)
theorem bG.ofW{r:List Lf}(h:WTr Tryz.prog r bG.sh):∃x:bG,x.lf=r:=by
 unfold bG.sh at h
 obtain⟨a0,b0,rfl,f0,hh0⟩:=WTr.fV h
 obtain⟨y0,z0,rfl,k0,h1⟩:=WTr.cons_inv f0
 obtain⟨v0,rfl⟩:=WTf.gB k0
 obtain⟨y1,z1,rfl,k1,h2⟩:=WTr.cons_inv h1
 obtain⟨v1,rfl⟩:=WTf.gB k1
 obtain⟨y2,z2,rfl,k2,h3⟩:=WTr.cons_inv h2
 obtain⟨v2,rfl⟩:=WTf.lF k2
 obtain⟨y3,z3,rfl,k3,h4⟩:=WTr.cons_inv h3
 obtain⟨v3,rfl⟩:=WTf.gB k3
 obtain rfl:=WTr.gU h4
 obtain⟨v4,ev4⟩:=ak.ofW hh0
 rw[ak.aS] at ev4
 subst ev4
 exact⟨bG.mk v0 v1 v2 v3 v4,by rw[bG.aS];rfl⟩
end Go.Proofs.YtflpefkohpjjpaaGreatDoor
