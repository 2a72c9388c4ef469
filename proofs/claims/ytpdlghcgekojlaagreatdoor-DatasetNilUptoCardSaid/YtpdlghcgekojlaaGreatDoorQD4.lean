/- What a statement hands over, as rows of leaves. -/
import Derived.Test.YtpdlghcgekojlaaGreatDoorQD1
import Derived.Test.YtpdlghcgekojlaaGreatDoorRows
import Derived.ChangeArms
import Derived.DataReads
import Derived.Test.YtpdlghcgekojlaaGreatDoorQD2
set_option linter.unusedSimpArgs false
set_option linter.unusedVariables false
namespace Go.Proofs.YtpdlghcgekojlaaGreatDoor
open Go.RowKit
inductive Shp where
 |int (k:IntKind)
 |str
 |bool
 |rows (e:TypeId)
deriving DecidableEq
def zG(P:Program)(g:TypeId→Option (List Shp))(tot:Nat):List Field→Nat→Option (List Shp)
 |[],o=>if o=tot then some [] else none
 |fl::rest,o=>if fl.offset=o then(g fl.type).bind fun a=>(zG P g tot rest (o+P.cellsOf fl.type)).map (a++·) else none
def flat(P:Program):Nat→TypeId→Option (List Shp)
 |0,_=>none
 |f+1,t=>match P.underlying t with
  |some .bool=>some [.bool]
  |some (.int k)=>some [.int k]
  |some .string=>some [.str]
  |some (.slice e)=>some [.rows e]
  |some (.struct fs)=>zG P (flat P f) (P.cellsOf t) fs.toList 0
  |_=>none
mutual
def WTf (P:Program):Lf→Shp→Prop
 |.int k _,s=>s=.int k
 |.str _,s=>s=.str
 |.bool _,s=>s=.bool
 |.rows n l,s=>∃e shs,s=.rows e∧flat P 12 e=some shs∧n=P.cellsOf e∧0<n∧WTq P shs l
def WTq (P:Program) (shs:List Shp):List (List Lf)→Prop
 |[]=>True
 |r::q=>WTr P r shs∧WTq P shs q
def WTr (P:Program):List Lf→List Shp→Prop
 |[],shs=>shs=[]
 |x::r,shs=>∃s q,shs=s::q∧WTf P x s∧WTr P r q
end
theorem WTq.mem{P:Program}{shs:List Shp}:∀{l:List (List Lf)},WTq P shs l→∀r∈l,WTr P r shs
 |[],_,r,h=>by cases h
 |x::q,h,r,hr=>by
  unfold WTq at h
  rcases List.mem_cons.1 hr with rfl|hr
  ·exact h.1
  ·exact WTq.mem h.2 r hr
theorem WTq.of{P:Program}{shs:List Shp}:∀{l:List (List Lf)},(∀r∈l,WTr P r shs)→WTq P shs l
 |[],_=>by unfold WTq;trivial
 |x::q,h=>by unfold WTq;exact⟨h x (by simp),WTq.of (fun r hr=>h r (by simp[hr]))⟩
theorem WTr.app{P:Program}:∀(r s:List Lf) (a b:List Shp),WTr P r a→WTr P s b→WTr P (r++s) (a++b)
 |[],s,a,b,h,k=>by unfold WTr at h;rw[h];exact k
 |x::r,s,a,b,h,k=>by
  unfold WTr at h
  obtain⟨sh,q,rfl,h1,h2⟩:=h
  show WTr P (x::(r++s)) (sh::(q++b))
  unfold WTr
  exact⟨sh,q++b,rfl,h1,WTr.app r s q b h2 k⟩
mutual
def Lf.bulk:Lf→Nat
 |.int _ _=>1
 |.str s=>s.size+1
 |.bool _=>1
 |.rows _ l=>1+gU l
def gU:List (List Lf)→Nat
 |[]=>0
 |r::q=>bV r+gU q
def bV:List Lf→Nat
 |[]=>0
 |x::r=>x.bulk+bV r
end
theorem gV(r s:List Lf):bV (r++s)=bV r+bV s:=by
 induction r with
 |nil=>simp[bV]
 |cons x r ih=>simp only[List.cons_append,bV,ih];omega
theorem Lf.kF(x:Lf):1≤x.bulk:=by cases x<;>simp[Lf.bulk]
def I0(w:World):Gh:=fun b o=>w.cell? ⟨b,o,none⟩
theorem acU(w:World):Inv (I0 w) w:=fun _ _ _ h=>h
def okT(P:Program)(tys:List TypeId):Bool:=tys.all fun t=>match flat P 12 t with
 |some shs=>shs.all fun
  |.rows e=>tys.contains e&&decide (0<P.cellsOf e)
  |_=>true
 |none=>false
theorem LC{P:Program}{tys:List TypeId}(h:okT P tys=true){t:TypeId}(ht:t∈tys):∃shs,flat P 12 t=some shs∧∀e,Shp.rows e∈shs→e∈tys∧0<P.cellsOf e:=by
 have h1:=List.all_eq_true.1 h t ht
 cases hf:flat P 12 t with
 |none=>rw[hf] at h1;cases h1
 |some shs=>
  rw[hf] at h1
  refine⟨shs,rfl,fun e he=>?_⟩
  have h2:=List.all_eq_true.1 h1 _ he
  simp only[Bool.and_eq_true,List.contains_iff_mem,decide_eq_true_eq] at h2
  exact h2
theorem spot_none'{w:World}{a:Addr}{v:Value}(h:w.cell? a=some v):a=⟨a.block,a.off,none⟩:=by
 unfold World.cell? at h
 split at h
 ·split at h
  ·cases h
  ·rename_i hs
   obtain⟨b,o,s⟩:=a
   cases s
   ·rfl
   ·simp at hs
 ·cases h
section
variable {H:Type} {enc:TypeId×Value→H} {P:Program} {w:World} {tys:List TypeId}
def Qw(P:Program)(w:World)(enc:TypeId×Value→H)(tys:List TypeId)(fuel:Nat):Prop:=
 ∀(f:Nat) (t:TypeId) (cs:List Value) (x:DataW H×List MemPlace) (shs:List Shp),DataW.trod enc P w 0 (fun _=>true) true fuel t cs=some x→flat P f t=some shs→(∀e,Shp.rows e∈shs→e∈tys∧0<P.cellsOf e)→
  ∃r,bg (I0 w) r cs∧WTr P r shs∧bV r≤Rows.uptoBulk x.1
theorem qP{n f tot:Nat}(ih:Qw P w enc tys n)(cs:List Value):∀(fs:List Field) (xs:List (DataW H×List MemPlace)) (o:Nat) (shs:List Shp),
 (∀(i:Nat) (fl:Field),fs[i]?=some fl→DataW.trod enc P w 0 (fun _=>true) true n fl.type ((cs.drop fl.offset).take (P.cellsOf fl.type))=xs[i]?)→xs.length=fs.length→zG P (flat P f) tot fs o=some shs→cs.length=tot→
 (∀e,Shp.rows e∈shs→e∈tys∧0<P.cellsOf e)→∃r,bg (I0 w) r (cs.drop o)∧WTr P r shs∧bV r≤Rows.uptoBulkAll (xs.map (·.1))
 |[],xs,o,shs,_,hl,hf,hc,_=>by
  unfold zG at hf
  split at hf
  ·injection hf with hf
   refine⟨[],?_,by unfold WTr;exact hf.symm,by simp[bV]⟩
   show cs.drop o=[]
   exact List.drop_of_length_le (by omega)
  ·cases hf
 |fl::rest,xs,o,shs,hx,hl,hf,hc,hs=>by
  unfold zG at hf
  split at hf
  ·rename_i ho
   subst ho
   cases ha:flat P f fl.type with
   |none=>rw[ha] at hf;cases hf
   |some a=>
    rw[ha,Option.bind_some] at hf
    cases hb:zG P (flat P f) tot rest (fl.offset+P.cellsOf fl.type) with
    |none=>rw[hb] at hf;cases hf
    |some b=>
     rw[hb] at hf
     injection hf with hf
     subst hf
     cases xs with
     |nil=>simp at hl
     |cons y ys=>
      have h0:=hx 0 fl rfl
      rw[List.getElem?_cons_zero] at h0
      obtain⟨r,hr1,hr2,hr3⟩:=ih f fl.type _ y a h0 ha (fun e he=>hs e (by simp[he]))
      obtain⟨q,hq1,hq2,hq3⟩:=qP ih cs rest ys (fl.offset+P.cellsOf fl.type) b (fun i g hg=>by simpa using hx (i+1) g (by simpa using hg)) (by simpa using hl) hb hc (fun e he=>hs e (by simp[he]))
      refine⟨r++q,?_,WTr.app _ _ _ _ hr2 hq2,?_⟩
      ·have:=bg.app _ _ _ _ hr1 hq1
       rwa [←List.drop_drop,List.take_append_drop] at this
      ·rw[gV];simp only[List.map_cons,Rows.uptoBulkAll];omega
  ·cases hf
theorem sW{b off k:Nat}{shs:List Shp}:∀(elems:List (DataW H×List MemPlace)) (i0:Nat),
 (∀j y,elems[j]?=some y→∃r cs,bg (I0 w) r cs∧WTr P r shs∧bV r≤Rows.uptoBulk y.1∧cs.length=k∧∀q u,cs[q]?=some u→I0 w b (off+(i0+j)*k+q)=some u)→
 ∃l:List (List Lf),l.length=elems.length∧WTq P shs l∧RRp (I0 w) b k (off+i0*k) l∧gU l≤Rows.uptoBulkAll (elems.map (·.1))
 |[],i0,_=>⟨[],rfl,by unfold WTq;trivial,by unfold RRp;trivial,by simp[gU]⟩
 |y::ys,i0,h=>by
  obtain⟨r,cs,h1,h2,h3,h4,h5⟩:=h 0 y rfl
  obtain⟨l,g1,g2,g3,g4⟩:=sW ys (i0+1) (fun j z hj=>by
   obtain⟨r,cs,h1,h2,h3,h4,h5⟩:=h (j+1) z (by simpa using hj)
   exact⟨r,cs,h1,h2,h3,h4,fun q u hq=>by have:=h5 q u hq;rwa [show i0+(j+1)=i0+1+j by omega] at this⟩)
  refine⟨r::l,by simp[g1],by unfold WTq;exact⟨h2,g2⟩,?_,by simp only[List.map_cons,gU,Rows.uptoBulkAll];omega⟩
  unfold RRp
  have hl:=bg.len r cs h1
  refine⟨by omega,CRp.of r _ cs h1 (fun q u hq=>h5 q u hq),?_⟩
  rwa [show off+i0*k+k=off+(i0+1)*k by rw[Nat.add_mul];omega]
theorem add_plain'(b o q:Nat):(⟨b,o,none⟩:Addr).add q=⟨b,o+q,none⟩:=by unfold Addr.add;split<;>simp_all
theorem bind_some'{α β:Type}{o:Option α}{f:α→Option β}{y:β}(h:o.bind f=some y):∃a,o=some a∧f a=some y:=by
 rw[Option.bind_eq_some_iff] at h;exact h
theorem Zn(hok:okT P tys=true):∀fuel,Qw P w enc tys fuel:=by
 intro fuel
 induction fuel using Nat.strongRecOn with
 |_ fuel ih=>
  intro f t cs x shs h hf hs
  cases f with
  |zero=>cases hf
  |succ f=>
   unfold flat at hf
   cases hu:P.underlying t with
   |none=>rw[hu] at hf;cases hf
   |some d=>
    rw[hu] at hf
    cases d with
    |bool=>
     injection hf with hf
     subst hf
     obtain⟨b,rfl,rfl⟩:=DataW.trod_bool hu h
     exact⟨[.bool b],⟨_,_,rfl,by unfold LRp;rfl,rfl⟩,by unfold WTr;exact⟨_,_,rfl,by unfold WTf;rfl,by unfold WTr;rfl⟩,by simp[bV,Lf.bulk,Rows.uptoBulk]⟩
    |int k=>
     injection hf with hf
     subst hf
     obtain⟨n,rfl,rfl,hwf⟩:=DataW.trod_int hu h
     exact⟨[.int k n],⟨_,_,rfl,by unfold LRp;exact⟨rfl,hwf⟩,rfl⟩,by unfold WTr;exact⟨_,_,rfl,by unfold WTf;rfl,by unfold WTr;rfl⟩,by simp[bV,Lf.bulk,Rows.uptoBulk]⟩
    |string=>
     injection hf with hf
     subst hf
     obtain⟨s,rfl,rfl,hsz⟩:=DataW.trod_string hu h
     exact⟨[.str s],⟨_,_,rfl,by unfold LRp;exact⟨rfl,hsz⟩,rfl⟩,by unfold WTr;exact⟨_,_,rfl,by unfold WTf;rfl,by unfold WTr;rfl⟩,by simp[bV,Lf.bulk,Rows.uptoBulk]⟩
    |slice e=>
     injection hf with hf
     subst hf
     obtain⟨he,hpos⟩:=hs e (by simp)
     obtain⟨she,hfe,hse⟩:=LC hok he
     rcases DataW.trod_slice hu h with⟨rfl,rfl⟩|⟨a,len,cap,elems,rest,m,rfl,rfl,rfl,-,hlc,hcm,hel,hat,-,-⟩
     ·refine⟨[.rows (P.cellsOf e) []], ⟨_, _, rfl, LRp.nil _ _, rfl⟩, ?_, by simp[bV, Lf.bulk, gU, Rows.uptoBulk]⟩
      unfold WTr
      exact⟨_,_,rfl,by unfold WTf;exact⟨e,she,rfl,hfe,rfl,hpos,by unfold WTq;trivial⟩,by unfold WTr;rfl⟩
     ·have each:∀j y,elems[j]?=some y→∃r cs,bg (I0 w) r cs∧WTr P r she∧bV r≤Rows.uptoBulk y.1∧cs.length=P.cellsOf e∧∀q u,cs[q]?=some u→w.cell? ((a.add (j*P.cellsOf e)).add q)=some u:=by
       intro j y hj
       have hjl:j<len:=by rw[←hel];exact(List.getElem?_eq_some_iff.1 hj).1
       obtain⟨cs',hc,hy⟩:=bind_some' ((hat j hjl).trans hj)
       obtain⟨r,h1,h2,h3⟩:=ih m (by omega) 12 e cs' y she hy hfe hse
       obtain⟨-,hcl,hcc⟩:=World.cells?_some hc
       exact⟨r,cs',h1,h2,h3,hcl,fun q u hq=>by rw[hcc q (by have:=(List.getElem?_eq_some_iff.1 hq).1;omega),hq]⟩
      cases elems with
      |nil=>
       have hl0:len=0:=by rw[←hel];rfl
       subst hl0
       refine⟨[.rows (P.cellsOf e) []],⟨_,_,rfl,?_,rfl⟩,?_,by simp[bV,Lf.bulk,gU,Rows.uptoBulk]⟩
       ·unfold LRp;exact⟨some a,cap,rfl,by simp,hcm,fun h=>absurd rfl h⟩
       ·unfold WTr
        exact⟨_,_,rfl,by unfold WTf;exact⟨e,she,rfl,hfe,rfl,hpos,by unfold WTq;trivial⟩,by unfold WTr;rfl⟩
      |cons y0 ys=>
       have ha:a=⟨a.block,a.off,none⟩:=by
        obtain⟨r,cs',_,_,_,hcl,hcc⟩:=each 0 y0 rfl
        have hlt:0<cs'.length:=by omega
        have:=hcc 0 cs'[0] (List.getElem?_eq_getElem hlt)
        simp only[Nat.zero_mul,Addr.add,if_true] at this
        exact spot_none' this
       obtain⟨b,off,sp⟩:=a
       simp only[Addr.mk.injEq,true_and] at ha
       subst ha
       obtain⟨l,l1,l2,l3,l4⟩:=sW (w:=w) (b:=b) (off:=off) (k:=P.cellsOf e) (shs:=she) (P:=P) (y0::ys) 0 (fun j y hj=>by
        obtain⟨r,cs',h1,h2,h3,h4,h5⟩:=each j y hj
        refine⟨r,cs',h1,h2,h3,h4,fun q u hq=>?_⟩
        have:=h5 q u hq
        rw[add_plain',add_plain'] at this
        rw[Nat.zero_add];exact this)
       refine⟨[.rows (P.cellsOf e) l],⟨_,_,rfl,?_,rfl⟩,?_,?_⟩
       ·unfold LRp
        exact⟨_,cap,by rw[l1,hel],by omega,hcm,fun _=>⟨b,off,rfl,by simpa using l3⟩⟩
       ·unfold WTr
        exact⟨_,_,rfl,by unfold WTf;exact⟨e,she,rfl,hfe,rfl,hpos,l2⟩,by unfold WTr;rfl⟩
       ·simp only[bV,Lf.bulk,Rows.uptoBulk];omega
    |struct fs=>
     simp only at hf
     obtain⟨xs,n,rfl,rfl,hl,hlen,hx⟩:=DataW.trod_struct hu h
     obtain⟨r,h1,h2,h3⟩:=qP (ih n (by omega)) cs fs.toList xs 0 shs (fun i fl hi=>hx i fl (by simpa using hi)) (by simpa using hlen) hf hl hs
     exact⟨r,by simpa using h1,h2,by simp only[Rows.uptoBulk];omega⟩
    |_=>cases hf
end
end Go.Proofs.YtpdlghcgekojlaaGreatDoor
set_option linter.unusedSimpArgs false
set_option linter.unusedVariables false
namespace Go.Proofs.YtpdlghcgekojlaaGreatDoor
open Go.RowKit
theorem WTr.nil(P:Program):WTr P [] []:=by unfold WTr;rfl
theorem WTr.cons{P:Program}{x:Lf}{s:Shp}{r:List Lf}{q:List Shp}(h:WTf P x s)(k:WTr P r q):WTr P (x::r) (s::q):=by unfold WTr;exact⟨s,q,rfl,h,k⟩
theorem WTf.int(P:Program)(k:IntKind)(n:Int):WTf P (.int k n) (.int k):=by unfold WTf;rfl
theorem WTf.str(P:Program)(s:ByteArray):WTf P (.str s) .str:=by unfold WTf;rfl
theorem WTf.bool(P:Program)(b:Bool):WTf P (.bool b) .bool:=by unfold WTf;rfl
theorem WTf.rows{P:Program}{n:Nat}{l:List (List Lf)}{e:TypeId}{shs:List Shp}(hf:flat P 12 e=some shs)(hn:n=P.cellsOf e)(h0:0<n)(h:WTq P shs l):WTf P (.rows n l) (.rows e):=by unfold WTf;exact⟨e,shs,rfl,hf,hn,h0,h⟩
theorem WTq.map{P:Program}{shs:List Shp}{α:Type}{f:α→List Lf}(l:List α)(h:∀x,WTr P (f x) shs):WTq P shs (l.map f):=WTq.of fun r hr=>by
 obtain⟨x,_,rfl⟩:=List.mem_map.1 hr;exact h x
theorem WTq.nil(P:Program)(shs:List Shp):WTq P shs []:=by unfold WTq;trivial
theorem WTq.cons{P:Program}{shs:List Shp}{r:List Lf}{q:List (List Lf)}(h:WTr P r shs)(k:WTq P shs q):WTq P shs (r::q):=by unfold WTq;exact⟨h,k⟩
theorem WTr.cons_inv{P:Program}{r:List Lf}{s:Shp}{q:List Shp}(h:WTr P r (s::q)):∃x r',r=x::r'∧WTf P x s∧WTr P r' q:=by
 cases r with
 |nil=>unfold WTr at h;cases h
 |cons x r=>unfold WTr at h;obtain⟨s',q',e,h1,h2⟩:=h;injection e with e1 e2;subst e1 e2;exact⟨x,r,rfl,h1,h2⟩
theorem WTr.cu{P:Program}{r:List Lf}(h:WTr P r []):r=[]:=by
 cases r with
 |nil=>rfl
 |cons x r=>unfold WTr at h;obtain⟨s',q',e,h1,h2⟩:=h;cases e
theorem WTr.bW{P:Program}:∀{a:List Shp} {b:List Shp} {r:List Lf},WTr P r (a++b)→∃r1 r2,r=r1++r2∧WTr P r1 a∧WTr P r2 b
 |[],b,r,h=>⟨[],r,rfl,WTr.nil P,h⟩
 |s::a,b,r,h=>by
  obtain⟨x,r',rfl,h1,h2⟩:=WTr.cons_inv h
  obtain⟨r1,r2,rfl,h3,h4⟩:=WTr.bW h2
  exact⟨x::r1,r2,rfl,WTr.cons h1 h3,h4⟩
theorem WTf.cO{P:Program}{x:Lf}{k:IntKind}(h:WTf P x (.int k)):∃n,x=.int k n:=by
 cases x<;>unfold WTf at h
 ·rename_i k' n;injection h with h;subst h;exact⟨n,rfl⟩
 ·cases h
 ·cases h
 ·obtain⟨_,_,e,_⟩:=h;cases e
theorem WTf.gJ{P:Program}{x:Lf}(h:WTf P x .str):∃s,x=.str s:=by
 cases x<;>unfold WTf at h
 ·cases h
 ·exact⟨_,rfl⟩
 ·cases h
 ·obtain⟨_,_,e,_⟩:=h;cases e
theorem WTf.iq{P:Program}{x:Lf}(h:WTf P x .bool):∃s,x=.bool s:=by
 cases x<;>unfold WTf at h
 ·cases h
 ·cases h
 ·exact⟨_,rfl⟩
 ·obtain⟨_,_,e,_⟩:=h;cases e
theorem WTf.dG{P:Program}{x:Lf}{e:TypeId}{n:Nat}{shs:List Shp}(hf:flat P 12 e=some shs)(hn:P.cellsOf e=n)(h:WTf P x (.rows e)):∃l,x=.rows n l∧WTq P shs l:=by
 cases x<;>unfold WTf at h
 ·cases h
 ·cases h
 ·cases h
 ·rename_i n' l;obtain⟨e',shs',e1,h1,h2,h3,h4⟩:=h;injection e1 with e1;subst e1
  rw[hf] at h1;injection h1 with h1;subst h1
  exact⟨l,by rw[h2,hn],h4⟩
theorem dw{P:Program}{shs:List Shp}{α:Type}{f:α→List Lf}{n:Nat}:∀{l:List (List Lf)},(∀r,bV r≤n→WTr P r shs→∃x,f x=r)→gU l≤n→WTq P shs l→∃m:List α,m.map f=l
 |[],_,_,_=>⟨[],rfl⟩
 |r::q,h,hb,hw=>by
  unfold gU at hb;unfold WTq at hw
  obtain⟨x,rfl⟩:=h r (by omega) hw.1
  obtain⟨m,rfl⟩:=dw (l:=q) h (by omega) hw.2
  exact⟨x::m,rfl⟩
theorem Zo{P:Program}{r:List Lf}(h:WTr P r [.int .i64]):∃x,lfI x=r:=by
 obtain⟨x,r',rfl,k1,k2⟩:=WTr.cons_inv h
 obtain rfl:=WTr.cu k2
 obtain⟨n,rfl⟩:=WTf.cO k1
 exact⟨n,rfl⟩
theorem mJ{P:Program}{r:List Lf}(h:WTr P r [.str]):∃x,lfS x=r:=by
 obtain⟨x,r',rfl,k1,k2⟩:=WTr.cons_inv h
 obtain rfl:=WTr.cu k2
 obtain⟨n,rfl⟩:=WTf.gJ k1
 exact⟨n,rfl⟩
def ah.sh:List Shp:=[.int .i64,.int .i64,.str,.rows 40,.rows 138]
def aF.sh:List Shp:=[.str]++(ah.sh)
theorem ah.CB(n:Nat):(∀r,bV r≤n→WTr Tryz.prog r ah.sh→∃x:ah,x.lf=r)∧(∀r,bV r≤n→WTr Tryz.prog r aF.sh→∃x:aF,x.lf=r):=by
 induction n with
 |zero=>refine⟨?_,?_⟩<;>· intro r hb h;obtain⟨y,z,rfl,k,h⟩:=WTr.cons_inv h;have:=Lf.kF y;simp only[bV] at hb;omega
 |succ n ih=>
  refine⟨?_,?_⟩
  ·intro r hb h
   unfold ah.sh at h
   obtain⟨y0,z0,rfl,k0,h1⟩:=WTr.cons_inv h
   obtain⟨v0,rfl⟩:=WTf.cO k0
   obtain⟨y1,z1,rfl,k1,h2⟩:=WTr.cons_inv h1
   obtain⟨v1,rfl⟩:=WTf.cO k1
   obtain⟨y2,z2,rfl,k2,h3⟩:=WTr.cons_inv h2
   obtain⟨v2,rfl⟩:=WTf.gJ k2
   obtain⟨y3,z3,rfl,k3,h4⟩:=WTr.cons_inv h3
   obtain⟨lv3,rfl,qv3⟩:=WTf.dG (n:=5) (shs:=ah.sh) (by kernel_rfl) (by kernel_rfl) k3
   obtain⟨y4,z4,rfl,k4,h5⟩:=WTr.cons_inv h4
   obtain⟨lv4,rfl,qv4⟩:=WTf.dG (n:=6) (shs:=aF.sh) (by kernel_rfl) (by kernel_rfl) k4
   obtain rfl:=WTr.cu h5
   simp only[gV,bV,Lf.bulk] at hb
   obtain⟨v3,rfl⟩:=dw (f:=ah.lf) (n:=n) (fun r hb h=>ih.1 r hb h) (by omega) qv3
   obtain⟨v4,rfl⟩:=dw (f:=aF.lf) (n:=n) (fun r hb h=>ih.2 r hb h) (by omega) qv4
   exact⟨ah.mk v0 v1 v2 v3 v4,by rw[ah.aW];rfl⟩
  ·intro r hb h
   unfold aF.sh at h
   obtain⟨a0,b0,rfl,f0,hh0⟩:=WTr.bW h
   obtain⟨y0,z0,rfl,k0,h1⟩:=WTr.cons_inv f0
   obtain⟨v0,rfl⟩:=WTf.gJ k0
   obtain rfl:=WTr.cu h1
   simp only[gV,bV,Lf.bulk] at hb
   obtain⟨v1,ev1⟩:=ih.1 _ (by omega) hh0
   rw[ah.aW] at ev1
   subst ev1
   exact⟨aF.mk v0 v1,by rw[aF.aW];rfl⟩
theorem ah.ofW{r:List Lf}(h:WTr Tryz.prog r ah.sh):∃x:ah,x.lf=r:=(ah.CB (bV r)).1 r (Nat.le_refl _) h
def dV.sh:List Shp:=[.rows 9,.bool]
theorem dV.ofW{r:List Lf}(h:WTr Tryz.prog r dV.sh):∃x:dV,x.lf=r:=by
 unfold dV.sh at h
 obtain⟨y0,z0,rfl,k0,h1⟩:=WTr.cons_inv h
 obtain⟨lv0,rfl,qv0⟩:=WTf.dG (n:=1) (shs:=[.str]) (by kernel_rfl) (by kernel_rfl) k0
 obtain⟨v0,rfl⟩:=dw (f:=lfS) (n:=gU lv0) (fun r _ h=>mJ h) (Nat.le_refl _) qv0
 obtain⟨y1,z1,rfl,k1,h2⟩:=WTr.cons_inv h1
 obtain⟨v1,rfl⟩:=WTf.iq k1
 obtain rfl:=WTr.cu h2
 exact⟨dV.mk v0 v1,by rw[dV.aW];rfl⟩
def dW.sh:List Shp:=[.int .i64,.int .i64]
theorem dW.ofW{r:List Lf}(h:WTr Tryz.prog r dW.sh):∃x:dW,x.lf=r:=by
 unfold dW.sh at h
 obtain⟨y0,z0,rfl,k0,h1⟩:=WTr.cons_inv h
 obtain⟨v0,rfl⟩:=WTf.cO k0
 obtain⟨y1,z1,rfl,k1,h2⟩:=WTr.cons_inv h1
 obtain⟨v1,rfl⟩:=WTf.cO k1
 obtain rfl:=WTr.cu h2
 exact⟨dW.mk v0 v1,by rw[dW.aW];rfl⟩
def dR.sh:List Shp:=[.int .i64,.rows 270,.int .i64]
theorem dR.ofW{r:List Lf}(h:WTr Tryz.prog r dR.sh):∃x:dR,x.lf=r:=by
 unfold dR.sh at h
 obtain⟨y0,z0,rfl,k0,h1⟩:=WTr.cons_inv h
 obtain⟨v0,rfl⟩:=WTf.cO k0
 obtain⟨y1,z1,rfl,k1,h2⟩:=WTr.cons_inv h1
 obtain⟨lv1,rfl,qv1⟩:=WTf.dG (n:=2) (shs:=dW.sh) (by kernel_rfl) (by kernel_rfl) k1
 obtain⟨v1,rfl⟩:=dw (f:=dW.lf) (n:=gU lv1) (fun r _ h=>dW.ofW h) (Nat.le_refl _) qv1
 obtain⟨y2,z2,rfl,k2,h3⟩:=WTr.cons_inv h2
 obtain⟨v2,rfl⟩:=WTf.cO k2
 obtain rfl:=WTr.cu h3
 exact⟨dR.mk v0 v1 v2,by rw[dR.aW];rfl⟩
def aO.sh:List Shp:=[.int .i64,.rows 9,.str,.rows 9]++(ah.sh++([.int .i64,.rows 55]))
theorem aO.CB(n:Nat):∀r,bV r≤n→WTr Tryz.prog r aO.sh→∃x:aO,x.lf=r:=by
 induction n with
 |zero=>intro r hb h;obtain⟨y,z,rfl,k,h⟩:=WTr.cons_inv h;have:=Lf.kF y;simp only[bV] at hb;omega
 |succ n ih=>
  intro r hb h
  unfold aO.sh at h
  obtain⟨a0,b0,rfl,f0,hh0⟩:=WTr.bW h
  obtain⟨y0,z0,rfl,k0,h1⟩:=WTr.cons_inv f0
  obtain⟨v0,rfl⟩:=WTf.cO k0
  obtain⟨y1,z1,rfl,k1,h2⟩:=WTr.cons_inv h1
  obtain⟨lv1,rfl,qv1⟩:=WTf.dG (n:=1) (shs:=[.str]) (by kernel_rfl) (by kernel_rfl) k1
  obtain⟨v1,rfl⟩:=dw (f:=lfS) (n:=gU lv1) (fun r _ h=>mJ h) (Nat.le_refl _) qv1
  obtain⟨y2,z2,rfl,k2,h3⟩:=WTr.cons_inv h2
  obtain⟨v2,rfl⟩:=WTf.gJ k2
  obtain⟨y3,z3,rfl,k3,h4⟩:=WTr.cons_inv h3
  obtain⟨lv3,rfl,qv3⟩:=WTf.dG (n:=1) (shs:=[.str]) (by kernel_rfl) (by kernel_rfl) k3
  obtain⟨v3,rfl⟩:=dw (f:=lfS) (n:=gU lv3) (fun r _ h=>mJ h) (Nat.le_refl _) qv3
  obtain rfl:=WTr.cu h4
  obtain⟨a1,b1,rfl,f1,hh1⟩:=WTr.bW hh0
  obtain⟨v4,ev4⟩:=ah.ofW f1
  rw[ah.aW] at ev4
  subst ev4
  obtain⟨y5,z5,rfl,k5,h5⟩:=WTr.cons_inv hh1
  obtain⟨v5,rfl⟩:=WTf.cO k5
  obtain⟨y6,z6,rfl,k6,h6⟩:=WTr.cons_inv h5
  obtain⟨lv6,rfl,qv6⟩:=WTf.dG (n:=11) (shs:=aO.sh) (by kernel_rfl) (by kernel_rfl) k6
  obtain rfl:=WTr.cu h6
  simp only[gV,bV,Lf.bulk] at hb
  obtain⟨v6,rfl⟩:=dw (f:=aO.lf) (n:=n) (fun r hb h=>ih r hb h) (by omega) qv6
  exact⟨aO.mk v0 v1 v2 v3 v4 v5 v6,by rw[aO.aW];rfl⟩
theorem aO.ofW{r:List Lf}(h:WTr Tryz.prog r aO.sh):∃x:aO,x.lf=r:=(aO.CB (bV r)) r (Nat.le_refl _) h
def aJ.sh:List Shp:=[.int .i64,.rows 9]++(ah.sh++([.rows 40,.int .i64,.int .i64]++(dR.sh++(aO.sh++([.rows 58])))))
theorem aJ.CB(n:Nat):∀r,bV r≤n→WTr Tryz.prog r aJ.sh→∃x:aJ,x.lf=r:=by
 induction n with
 |zero=>intro r hb h;obtain⟨y,z,rfl,k,h⟩:=WTr.cons_inv h;have:=Lf.kF y;simp only[bV] at hb;omega
 |succ n ih=>
  intro r hb h
  unfold aJ.sh at h
  obtain⟨a0,b0,rfl,f0,hh0⟩:=WTr.bW h
  obtain⟨y0,z0,rfl,k0,h1⟩:=WTr.cons_inv f0
  obtain⟨v0,rfl⟩:=WTf.cO k0
  obtain⟨y1,z1,rfl,k1,h2⟩:=WTr.cons_inv h1
  obtain⟨lv1,rfl,qv1⟩:=WTf.dG (n:=1) (shs:=[.str]) (by kernel_rfl) (by kernel_rfl) k1
  obtain⟨v1,rfl⟩:=dw (f:=lfS) (n:=gU lv1) (fun r _ h=>mJ h) (Nat.le_refl _) qv1
  obtain rfl:=WTr.cu h2
  obtain⟨a1,b1,rfl,f1,hh1⟩:=WTr.bW hh0
  obtain⟨v2,ev2⟩:=ah.ofW f1
  rw[ah.aW] at ev2
  subst ev2
  obtain⟨a2,b2,rfl,f2,hh2⟩:=WTr.bW hh1
  obtain⟨y3,z3,rfl,k3,h3⟩:=WTr.cons_inv f2
  obtain⟨lv3,rfl,qv3⟩:=WTf.dG (n:=5) (shs:=ah.sh) (by kernel_rfl) (by kernel_rfl) k3
  obtain⟨v3,rfl⟩:=dw (f:=ah.lf) (n:=gU lv3) (fun r _ h=>ah.ofW h) (Nat.le_refl _) qv3
  obtain⟨y4,z4,rfl,k4,h4⟩:=WTr.cons_inv h3
  obtain⟨v4,rfl⟩:=WTf.cO k4
  obtain⟨y5,z5,rfl,k5,h5⟩:=WTr.cons_inv h4
  obtain⟨v5,rfl⟩:=WTf.cO k5
  obtain rfl:=WTr.cu h5
  obtain⟨a3,b3,rfl,f3,hh3⟩:=WTr.bW hh2
  obtain⟨v6,ev6⟩:=dR.ofW f3
  rw[dR.aW] at ev6
  subst ev6
  obtain⟨a4,b4,rfl,f4,hh4⟩:=WTr.bW hh3
  obtain⟨v7,ev7⟩:=aO.ofW f4
  rw[aO.aW] at ev7
  subst ev7
  obtain⟨y8,z8,rfl,k8,h6⟩:=WTr.cons_inv hh4
  obtain⟨lv8,rfl,qv8⟩:=WTf.dG (n:=25) (shs:=aJ.sh) (by kernel_rfl) (by kernel_rfl) k8
  obtain rfl:=WTr.cu h6
  simp only[gV,bV,Lf.bulk] at hb
  obtain⟨v8,rfl⟩:=dw (f:=aJ.lf) (n:=n) (fun r hb h=>ih r hb h) (by omega) qv8
  exact⟨aJ.mk v0 v1 v2 v3 v4 v5 v6 v7 v8,by rw[aJ.aW];rfl⟩
theorem aJ.ofW{r:List Lf}(h:WTr Tryz.prog r aJ.sh):∃x:aJ,x.lf=r:=(aJ.CB (bV r)) r (Nat.le_refl _) h
def aP.sh:List Shp:=[.str,.int .i64,.rows 227,.bool,.bool,.bool]++(aJ.sh)
theorem aP.ofW{r:List Lf}(h:WTr Tryz.prog r aP.sh):∃x:aP,x.lf=r:=by
 unfold aP.sh at h
 obtain⟨a0,b0,rfl,f0,hh0⟩:=WTr.bW h
 obtain⟨y0,z0,rfl,k0,h1⟩:=WTr.cons_inv f0
 obtain⟨v0,rfl⟩:=WTf.gJ k0
 obtain⟨y1,z1,rfl,k1,h2⟩:=WTr.cons_inv h1
 obtain⟨v1,rfl⟩:=WTf.cO k1
 obtain⟨y2,z2,rfl,k2,h3⟩:=WTr.cons_inv h2
 obtain⟨lv2,rfl,qv2⟩:=WTf.dG (n:=2) (shs:=dV.sh) (by kernel_rfl) (by kernel_rfl) k2
 obtain⟨v2,rfl⟩:=dw (f:=dV.lf) (n:=gU lv2) (fun r _ h=>dV.ofW h) (Nat.le_refl _) qv2
 obtain⟨y3,z3,rfl,k3,h4⟩:=WTr.cons_inv h3
 obtain⟨v3,rfl⟩:=WTf.iq k3
 obtain⟨y4,z4,rfl,k4,h5⟩:=WTr.cons_inv h4
 obtain⟨v4,rfl⟩:=WTf.iq k4
 obtain⟨y5,z5,rfl,k5,h6⟩:=WTr.cons_inv h5
 obtain⟨v5,rfl⟩:=WTf.iq k5
 obtain rfl:=WTr.cu h6
 obtain⟨v6,ev6⟩:=aJ.ofW hh0
 rw[aJ.aW] at ev6
 subst ev6
 exact⟨aP.mk v0 v1 v2 v3 v4 v5 v6,by rw[aP.aW];rfl⟩
def aj.sh:List Shp:=[.int .i64,.bool]++(ah.sh++([.bool]++(ah.sh++([.rows 40,.int .i64,.int .i64,.rows 9,.rows 206,.bool,.rows 46,.bool]))))
def bC.sh:List Shp:=[.str]++(aj.sh)
theorem aj.CB(n:Nat):(∀r,bV r≤n→WTr Tryz.prog r aj.sh→∃x:aj,x.lf=r)∧(∀r,bV r≤n→WTr Tryz.prog r bC.sh→∃x:bC,x.lf=r):=by
 induction n with
 |zero=>refine⟨?_,?_⟩<;>· intro r hb h;obtain⟨y,z,rfl,k,h⟩:=WTr.cons_inv h;have:=Lf.kF y;simp only[bV] at hb;omega
 |succ n ih=>
  refine⟨?_,?_⟩
  ·intro r hb h
   unfold aj.sh at h
   obtain⟨a0,b0,rfl,f0,hh0⟩:=WTr.bW h
   obtain⟨y0,z0,rfl,k0,h1⟩:=WTr.cons_inv f0
   obtain⟨v0,rfl⟩:=WTf.cO k0
   obtain⟨y1,z1,rfl,k1,h2⟩:=WTr.cons_inv h1
   obtain⟨v1,rfl⟩:=WTf.iq k1
   obtain rfl:=WTr.cu h2
   obtain⟨a1,b1,rfl,f1,hh1⟩:=WTr.bW hh0
   obtain⟨v2,ev2⟩:=ah.ofW f1
   rw[ah.aW] at ev2
   subst ev2
   obtain⟨a2,b2,rfl,f2,hh2⟩:=WTr.bW hh1
   obtain⟨y3,z3,rfl,k3,h3⟩:=WTr.cons_inv f2
   obtain⟨v3,rfl⟩:=WTf.iq k3
   obtain rfl:=WTr.cu h3
   obtain⟨a3,b3,rfl,f3,hh3⟩:=WTr.bW hh2
   obtain⟨v4,ev4⟩:=ah.ofW f3
   rw[ah.aW] at ev4
   subst ev4
   obtain⟨y5,z5,rfl,k5,h4⟩:=WTr.cons_inv hh3
   obtain⟨lv5,rfl,qv5⟩:=WTf.dG (n:=5) (shs:=ah.sh) (by kernel_rfl) (by kernel_rfl) k5
   obtain⟨v5,rfl⟩:=dw (f:=ah.lf) (n:=gU lv5) (fun r _ h=>ah.ofW h) (Nat.le_refl _) qv5
   obtain⟨y6,z6,rfl,k6,h5⟩:=WTr.cons_inv h4
   obtain⟨v6,rfl⟩:=WTf.cO k6
   obtain⟨y7,z7,rfl,k7,h6⟩:=WTr.cons_inv h5
   obtain⟨v7,rfl⟩:=WTf.cO k7
   obtain⟨y8,z8,rfl,k8,h7⟩:=WTr.cons_inv h6
   obtain⟨lv8,rfl,qv8⟩:=WTf.dG (n:=1) (shs:=[.str]) (by kernel_rfl) (by kernel_rfl) k8
   obtain⟨v8,rfl⟩:=dw (f:=lfS) (n:=gU lv8) (fun r _ h=>mJ h) (Nat.le_refl _) qv8
   obtain⟨y9,z9,rfl,k9,h8⟩:=WTr.cons_inv h7
   obtain⟨lv9,rfl,qv9⟩:=WTf.dG (n:=22) (shs:=bC.sh) (by kernel_rfl) (by kernel_rfl) k9
   obtain⟨y10,z10,rfl,k10,h9⟩:=WTr.cons_inv h8
   obtain⟨v10,rfl⟩:=WTf.iq k10
   obtain⟨y11,z11,rfl,k11,h10⟩:=WTr.cons_inv h9
   obtain⟨lv11,rfl,qv11⟩:=WTf.dG (n:=21) (shs:=aj.sh) (by kernel_rfl) (by kernel_rfl) k11
   obtain⟨y12,z12,rfl,k12,h11⟩:=WTr.cons_inv h10
   obtain⟨v12,rfl⟩:=WTf.iq k12
   obtain rfl:=WTr.cu h11
   simp only[gV,bV,Lf.bulk] at hb
   obtain⟨v9,rfl⟩:=dw (f:=bC.lf) (n:=n) (fun r hb h=>ih.2 r hb h) (by omega) qv9
   obtain⟨v11,rfl⟩:=dw (f:=aj.lf) (n:=n) (fun r hb h=>ih.1 r hb h) (by omega) qv11
   exact⟨aj.mk v0 v1 v2 v3 v4 v5 v6 v7 v8 v9 v10 v11 v12,by rw[aj.aW];rfl⟩
  ·intro r hb h
   unfold bC.sh at h
   obtain⟨a0,b0,rfl,f0,hh0⟩:=WTr.bW h
   obtain⟨y0,z0,rfl,k0,h1⟩:=WTr.cons_inv f0
   obtain⟨v0,rfl⟩:=WTf.gJ k0
   obtain rfl:=WTr.cu h1
   simp only[gV,bV,Lf.bulk] at hb
   obtain⟨v1,ev1⟩:=ih.1 _ (by omega) hh0
   rw[aj.aW] at ev1
   subst ev1
   exact⟨bC.mk v0 v1,by rw[bC.aW];rfl⟩
theorem aj.ofW{r:List Lf}(h:WTr Tryz.prog r aj.sh):∃x:aj,x.lf=r:=(aj.CB (bV r)).1 r (Nat.le_refl _) h
def ak.sh:List Shp:=[.str,.rows 60]++(aj.sh++([.int .i64,.int .i64]))
theorem ak.ofW{r:List Lf}(h:WTr Tryz.prog r ak.sh):∃x:ak,x.lf=r:=by
 unfold ak.sh at h
 obtain⟨a0,b0,rfl,f0,hh0⟩:=WTr.bW h
 obtain⟨y0,z0,rfl,k0,h1⟩:=WTr.cons_inv f0
 obtain⟨v0,rfl⟩:=WTf.gJ k0
 obtain⟨y1,z1,rfl,k1,h2⟩:=WTr.cons_inv h1
 obtain⟨lv1,rfl,qv1⟩:=WTf.dG (n:=31) (shs:=aP.sh) (by kernel_rfl) (by kernel_rfl) k1
 obtain⟨v1,rfl⟩:=dw (f:=aP.lf) (n:=gU lv1) (fun r _ h=>aP.ofW h) (Nat.le_refl _) qv1
 obtain rfl:=WTr.cu h2
 obtain⟨a1,b1,rfl,f1,hh1⟩:=WTr.bW hh0
 obtain⟨v2,ev2⟩:=aj.ofW f1
 rw[aj.aW] at ev2
 subst ev2
 obtain⟨y3,z3,rfl,k3,h3⟩:=WTr.cons_inv hh1
 obtain⟨v3,rfl⟩:=WTf.cO k3
 obtain⟨y4,z4,rfl,k4,h4⟩:=WTr.cons_inv h3
 obtain⟨v4,rfl⟩:=WTf.cO k4
 obtain rfl:=WTr.cu h4
 exact⟨ak.mk v0 v1 v2 v3 v4,by rw[ak.aW];rfl⟩
def ay.sh:List Shp:=[.int .i64,.str]++(ah.sh++(ah.sh++(ah.sh++(ak.sh++(aP.sh++([.str,.int .i64,.rows 64,.rows 3,.bool]))))))
theorem ay.CB(n:Nat):∀r,bV r≤n→WTr Tryz.prog r ay.sh→∃x:ay,x.lf=r:=by
 induction n with
 |zero=>intro r hb h;obtain⟨y,z,rfl,k,h⟩:=WTr.cons_inv h;have:=Lf.kF y;simp only[bV] at hb;omega
 |succ n ih=>
  intro r hb h
  unfold ay.sh at h
  obtain⟨a0,b0,rfl,f0,hh0⟩:=WTr.bW h
  obtain⟨y0,z0,rfl,k0,h1⟩:=WTr.cons_inv f0
  obtain⟨v0,rfl⟩:=WTf.cO k0
  obtain⟨y1,z1,rfl,k1,h2⟩:=WTr.cons_inv h1
  obtain⟨v1,rfl⟩:=WTf.gJ k1
  obtain rfl:=WTr.cu h2
  obtain⟨a1,b1,rfl,f1,hh1⟩:=WTr.bW hh0
  obtain⟨v2,ev2⟩:=ah.ofW f1
  rw[ah.aW] at ev2
  subst ev2
  obtain⟨a2,b2,rfl,f2,hh2⟩:=WTr.bW hh1
  obtain⟨v3,ev3⟩:=ah.ofW f2
  rw[ah.aW] at ev3
  subst ev3
  obtain⟨a3,b3,rfl,f3,hh3⟩:=WTr.bW hh2
  obtain⟨v4,ev4⟩:=ah.ofW f3
  rw[ah.aW] at ev4
  subst ev4
  obtain⟨a4,b4,rfl,f4,hh4⟩:=WTr.bW hh3
  obtain⟨v5,ev5⟩:=ak.ofW f4
  rw[ak.aW] at ev5
  subst ev5
  obtain⟨a5,b5,rfl,f5,hh5⟩:=WTr.bW hh4
  obtain⟨v6,ev6⟩:=aP.ofW f5
  rw[aP.aW] at ev6
  subst ev6
  obtain⟨y7,z7,rfl,k7,h3⟩:=WTr.cons_inv hh5
  obtain⟨v7,rfl⟩:=WTf.gJ k7
  obtain⟨y8,z8,rfl,k8,h4⟩:=WTr.cons_inv h3
  obtain⟨v8,rfl⟩:=WTf.cO k8
  obtain⟨y9,z9,rfl,k9,h5⟩:=WTr.cons_inv h4
  obtain⟨lv9,rfl,qv9⟩:=WTf.dG (n:=78) (shs:=ay.sh) (by kernel_rfl) (by kernel_rfl) k9
  obtain⟨y10,z10,rfl,k10,h6⟩:=WTr.cons_inv h5
  obtain⟨lv10,rfl,qv10⟩:=WTf.dG (n:=1) (shs:=[.int .i64]) (by kernel_rfl) (by kernel_rfl) k10
  obtain⟨v10,rfl⟩:=dw (f:=lfI) (n:=gU lv10) (fun r _ h=>Zo h) (Nat.le_refl _) qv10
  obtain⟨y11,z11,rfl,k11,h7⟩:=WTr.cons_inv h6
  obtain⟨v11,rfl⟩:=WTf.iq k11
  obtain rfl:=WTr.cu h7
  simp only[gV,bV,Lf.bulk] at hb
  obtain⟨v9,rfl⟩:=dw (f:=ay.lf) (n:=n) (fun r hb h=>ih r hb h) (by omega) qv9
  exact⟨ay.mk v0 v1 v2 v3 v4 v5 v6 v7 v8 v9 v10 v11,by rw[ay.aW];rfl⟩
theorem ay.ofW{r:List Lf}(h:WTr Tryz.prog r ay.sh):∃x:ay,x.lf=r:=(ay.CB (bV r)) r (Nat.le_refl _) h
def aZ.sh:List Shp:=[.int .i64,.int .i64,.str,.int .i64]++(ay.sh)
theorem aZ.ofW{r:List Lf}(h:WTr Tryz.prog r aZ.sh):∃x:aZ,x.lf=r:=by
 unfold aZ.sh at h
 obtain⟨a0,b0,rfl,f0,hh0⟩:=WTr.bW h
 obtain⟨y0,z0,rfl,k0,h1⟩:=WTr.cons_inv f0
 obtain⟨v0,rfl⟩:=WTf.cO k0
 obtain⟨y1,z1,rfl,k1,h2⟩:=WTr.cons_inv h1
 obtain⟨v1,rfl⟩:=WTf.cO k1
 obtain⟨y2,z2,rfl,k2,h3⟩:=WTr.cons_inv h2
 obtain⟨v2,rfl⟩:=WTf.gJ k2
 obtain⟨y3,z3,rfl,k3,h4⟩:=WTr.cons_inv h3
 obtain⟨v3,rfl⟩:=WTf.cO k3
 obtain rfl:=WTr.cu h4
 obtain⟨v4,ev4⟩:=ay.ofW hh0
 rw[ay.aW] at ev4
 subst ev4
 exact⟨aZ.mk v0 v1 v2 v3 v4,by rw[aZ.aW];rfl⟩
def bf.sh:List Shp:=[.str]++(ah.sh++([.int .i64,.str]))
theorem bf.ofW{r:List Lf}(h:WTr Tryz.prog r bf.sh):∃x:bf,x.lf=r:=by
 unfold bf.sh at h
 obtain⟨a0,b0,rfl,f0,hh0⟩:=WTr.bW h
 obtain⟨y0,z0,rfl,k0,h1⟩:=WTr.cons_inv f0
 obtain⟨v0,rfl⟩:=WTf.gJ k0
 obtain rfl:=WTr.cu h1
 obtain⟨a1,b1,rfl,f1,hh1⟩:=WTr.bW hh0
 obtain⟨v1,ev1⟩:=ah.ofW f1
 rw[ah.aW] at ev1
 subst ev1
 obtain⟨y2,z2,rfl,k2,h2⟩:=WTr.cons_inv hh1
 obtain⟨v2,rfl⟩:=WTf.cO k2
 obtain⟨y3,z3,rfl,k3,h3⟩:=WTr.cons_inv h2
 obtain⟨v3,rfl⟩:=WTf.gJ k3
 obtain rfl:=WTr.cu h3
 exact⟨bf.mk v0 v1 v2 v3,by rw[bf.aW];rfl⟩
end Go.Proofs.YtpdlghcgekojlaaGreatDoor
