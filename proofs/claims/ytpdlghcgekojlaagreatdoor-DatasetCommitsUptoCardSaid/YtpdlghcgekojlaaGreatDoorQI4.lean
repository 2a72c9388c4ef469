/- What a statement hands over, as rows of leaves. -/
import Derived.Test.YtpdlghcgekojlaaGreatDoorQI1
import Derived.Test.YtpdlghcgekojlaaGreatDoorRows
import Derived.ChangeArms
import Derived.DataReads
import Derived.Test.YtpdlghcgekojlaaGreatDoorQI2
set_option linter.unusedSimpArgs false
set_option linter.unusedVariables false
namespace Go.Proofs.YtpdlghcgekojlaaGreatDoor
open Go.RowKit
inductive Shp where
 |int (k:IntKind)
 |str
 |bool
 |rows (e:TypeId)
deriving DecidableEq
def Iu(P:Program)(g:TypeId→Option (List Shp))(tot:Nat):List Field→Nat→Option (List Shp)
 |[],o=>if o=tot then some [] else none
 |fl::rest,o=>if fl.offset=o then(g fl.type).bind fun a=>(Iu P g tot rest (o+P.cellsOf fl.type)).map (a++·) else none
def flat(P:Program):Nat→TypeId→Option (List Shp)
 |0,_=>none
 |f+1,t=>match P.underlying t with
  |some .bool=>some [.bool]
  |some (.int k)=>some [.int k]
  |some .string=>some [.str]
  |some (.slice e)=>some [.rows e]
  |some (.struct fs)=>Iu P (flat P f) (P.cellsOf t) fs.toList 0
  |_=>none
mutual
def WTf (P:Program):Lf→Shp→Prop
 |.int k _,s=>s=.int k
 |.str _,s=>s=.str
 |.bool _,s=>s=.bool
 |.rows n l,s=>∃e shs,s=.rows e∧flat P 12 e=some shs∧n=P.cellsOf e∧0<n∧WTq P shs l
def WTq (P:Program) (shs:List Shp):List (List Lf)→Prop
 |[]=>True
 |r::q=>WTr P r shs∧WTq P shs q
def WTr (P:Program):List Lf→List Shp→Prop
 |[],shs=>shs=[]
 |x::r,shs=>∃s q,shs=s::q∧WTf P x s∧WTr P r q
end
theorem WTq.mem{P:Program}{shs:List Shp}:∀{l:List (List Lf)},WTq P shs l→∀r∈l,WTr P r shs
 |[],_,r,h=>by cases h
 |x::q,h,r,hr=>by
  unfold WTq at h
  rcases List.mem_cons.1 hr with rfl|hr
  ·exact h.1
  exact WTq.mem h.2 r hr
theorem WTq.of{P:Program}{shs:List Shp}:∀{l:List (List Lf)},(∀r∈l,WTr P r shs)→WTq P shs l
 |[],_=>by unfold WTq;trivial
 |x::q,h=>by unfold WTq;exact⟨h x (by simp),WTq.of (fun r hr=>h r (by simp[hr]))⟩
theorem WTr.app{P:Program}:∀(r s:List Lf) (a b:List Shp),WTr P r a→WTr P s b→WTr P (r++s) (a++b)
 |[],s,a,b,h,k=>by unfold WTr at h;rw[h];exact k
 |x::r,s,a,b,h,k=>by
  unfold WTr at h
  obtain⟨sh,q,rfl,h1,h2⟩:=h
  show WTr P (x::(r++s)) (sh::(q++b))
  unfold WTr
  exact⟨sh,q++b,rfl,h1,WTr.app r s q b h2 k⟩
mutual
def Lf.bulk:Lf→Nat
 |.int _ _=>1
 |.str s=>s.size+1
 |.bool _=>1
 |.rows _ l=>1+bQ l
def bQ:List (List Lf)→Nat
 |[]=>0
 |r::q=>aU r+bQ q
def aU:List Lf→Nat
 |[]=>0
 |x::r=>x.bulk+aU r
end
theorem fF(r s:List Lf):aU (r++s)=aU r+aU s:=by
 induction r with
 |nil=>simp[aU]
 |cons x r ih=>simp only[List.cons_append,aU,ih];omega
theorem Lf.uS(x:Lf):1≤x.bulk:=by cases x<;>simp[Lf.bulk]
def I0(w:World):Gh:=fun b o=>w.cell? ⟨b,o,none⟩
theorem ajb(w:World):Inv (I0 w) w:=fun _ _ _ h=>h
def okT(P:Program)(tys:List TypeId):Bool:=tys.all fun t=>match flat P 12 t with
 |some shs=>shs.all fun
  |.rows e=>tys.contains e&&decide (0<P.cellsOf e)
  |_=>true
 |none=>false
theorem Wq{P:Program}{tys:List TypeId}(h:okT P tys=true){t:TypeId}(ht:t∈tys):∃shs,flat P 12 t=some shs∧∀e,Shp.rows e∈shs→e∈tys∧0<P.cellsOf e:=by
 have h1:=List.all_eq_true.1 h t ht
 cases hf:flat P 12 t with
 |none=>rw[hf] at h1;cases h1
 |some shs=>
  rw[hf] at h1
  refine⟨shs,rfl,fun e he=>?_⟩
  have h2:=List.all_eq_true.1 h1 _ he
  simp only[Bool.and_eq_true,List.contains_iff_mem,decide_eq_true_eq] at h2
  exact h2
theorem spot_none'{w:World}{a:Addr}{v:Value}(h:w.cell? a=some v):a=⟨a.block,a.off,none⟩:=by
 unfold World.cell? at h
 split at h
 ·split at h
  ·cases h
  rename_i hs
  obtain⟨b,o,s⟩:=a
  cases s
  ·rfl
  simp at hs
 cases h
section
variable {H:Type} {enc:TypeId×Value→H} {P:Program} {w:World} {tys:List TypeId}
def abg(P:Program)(w:World)(enc:TypeId×Value→H)(tys:List TypeId)(fuel:Nat):Prop:=
 ∀(f:Nat) (t:TypeId) (cs:List Value) (x:DataW H×List MemPlace) (shs:List Shp),DataW.trod enc P w 0 (fun _=>true) true fuel t cs=some x→flat P f t=some shs→(∀e,Shp.rows e∈shs→e∈tys∧0<P.cellsOf e)→
  ∃r,bV (I0 w) r cs∧WTr P r shs∧aU r≤Rows.uptoBulk x.1
theorem CV{n f tot:Nat}(ih:abg P w enc tys n)(cs:List Value):∀(fs:List Field) (xs:List (DataW H×List MemPlace)) (o:Nat) (shs:List Shp),
 (∀(i:Nat) (fl:Field),fs[i]?=some fl→DataW.trod enc P w 0 (fun _=>true) true n fl.type ((cs.drop fl.offset).take (P.cellsOf fl.type))=xs[i]?)→xs.length=fs.length→Iu P (flat P f) tot fs o=some shs→cs.length=tot→
 (∀e,Shp.rows e∈shs→e∈tys∧0<P.cellsOf e)→∃r,bV (I0 w) r (cs.drop o)∧WTr P r shs∧aU r≤Rows.uptoBulkAll (xs.map (·.1))
 |[],xs,o,shs,_,hl,hf,hc,_=>by
  unfold Iu at hf
  split at hf
  ·injection hf with hf
   refine⟨[],?_,by unfold WTr;exact hf.symm,by simp[aU]⟩
   show cs.drop o=[]
   exact List.drop_of_length_le (by omega)
  cases hf
 |fl::rest,xs,o,shs,hx,hl,hf,hc,hs=>by
  unfold Iu at hf
  split at hf
  ·rename_i ho
   subst ho
   cases ha:flat P f fl.type with
   |none=>rw[ha] at hf;cases hf
   |some a=>
    rw[ha,Option.bind_some] at hf
    cases hb:Iu P (flat P f) tot rest (fl.offset+P.cellsOf fl.type) with
    |none=>rw[hb] at hf;cases hf
    |some b=>
     rw[hb] at hf
     injection hf with hf
     subst hf
     cases xs with
     |nil=>simp at hl
     |cons y ys=>
      have h0:=hx 0 fl rfl
      rw[List.getElem?_cons_zero] at h0
      obtain⟨r,hr1,hr2,hr3⟩:=ih f fl.type _ y a h0 ha (fun e he=>hs e (by simp[he]))
      obtain⟨q,hq1,hq2,hq3⟩:=CV ih cs rest ys (fl.offset+P.cellsOf fl.type) b (fun i g hg=>by simpa using hx (i+1) g (by simpa using hg)) (by simpa using hl) hb hc (fun e he=>hs e (by simp[he]))
      refine⟨r++q,?_,WTr.app _ _ _ _ hr2 hq2,?_⟩
      ·have:=bV.app _ _ _ _ hr1 hq1
       rwa [←List.drop_drop,List.take_append_drop] at this
      rw[fF];simp only[List.map_cons,Rows.uptoBulkAll];omega
  cases hf
theorem ED{b off k:Nat}{shs:List Shp}:∀(elems:List (DataW H×List MemPlace)) (i0:Nat),
 (∀j y,elems[j]?=some y→∃r cs,bV (I0 w) r cs∧WTr P r shs∧aU r≤Rows.uptoBulk y.1∧cs.length=k∧∀q u,cs[q]?=some u→I0 w b (off+(i0+j)*k+q)=some u)→
 ∃l:List (List Lf),l.length=elems.length∧WTq P shs l∧RRp (I0 w) b k (off+i0*k) l∧bQ l≤Rows.uptoBulkAll (elems.map (·.1))
 |[],i0,_=>⟨[],rfl,by unfold WTq;trivial,by unfold RRp;trivial,by simp[bQ]⟩
 |y::ys,i0,h=>by
  obtain⟨r,cs,h1,h2,h3,h4,h5⟩:=h 0 y rfl
  obtain⟨l,g1,g2,g3,g4⟩:=ED ys (i0+1) (fun j z hj=>by
   obtain⟨r,cs,h1,h2,h3,h4,h5⟩:=h (j+1) z (by simpa using hj)
   exact⟨r,cs,h1,h2,h3,h4,fun q u hq=>by have:=h5 q u hq;rwa [show i0+(j+1)=i0+1+j by omega] at this⟩)
  refine⟨r::l,by simp[g1],by unfold WTq;exact⟨h2,g2⟩,?_,by simp only[List.map_cons,bQ,Rows.uptoBulkAll];omega⟩
  unfold RRp
  have hl:=bV.len r cs h1
  refine⟨by omega,CRp.of r _ cs h1 (fun q u hq=>h5 q u hq),?_⟩
  rwa [show off+i0*k+k=off+(i0+1)*k by rw[Nat.add_mul];omega]
theorem add_plain'(b o q:Nat):(⟨b,o,none⟩:Addr).add q=⟨b,o+q,none⟩:=by unfold Addr.add;split<;>simp_all
theorem bind_some'{α β:Type}{o:Option α}{f:α→Option β}{y:β}(h:o.bind f=some y):∃a,o=some a∧f a=some y:=by
 rw[Option.bind_eq_some_iff] at h;exact h
theorem afN(hok:okT P tys=true):∀fuel,abg P w enc tys fuel:=by
 intro fuel
 induction fuel using Nat.strongRecOn with
 |_ fuel ih=>
  intro f t cs x shs h hf hs
  cases f with
  |zero=>cases hf
  |succ f=>
   unfold flat at hf
   cases hu:P.underlying t with
   |none=>rw[hu] at hf;cases hf
   |some d=>
    rw[hu] at hf
    cases d with
    |bool=>
     injection hf with hf
     subst hf
     obtain⟨b,rfl,rfl⟩:=DataW.trod_bool hu h
     exact⟨[.bool b],⟨_,_,rfl,by unfold LRp;rfl,rfl⟩,by unfold WTr;exact⟨_,_,rfl,by unfold WTf;rfl,by unfold WTr;rfl⟩,by simp[aU,Lf.bulk,Rows.uptoBulk]⟩
    |int k=>
     injection hf with hf
     subst hf
     obtain⟨n,rfl,rfl,hwf⟩:=DataW.trod_int hu h
     exact⟨[.int k n],⟨_,_,rfl,by unfold LRp;exact⟨rfl,hwf⟩,rfl⟩,by unfold WTr;exact⟨_,_,rfl,by unfold WTf;rfl,by unfold WTr;rfl⟩,by simp[aU,Lf.bulk,Rows.uptoBulk]⟩
    |string=>
     injection hf with hf
     subst hf
     obtain⟨s,rfl,rfl,hsz⟩:=DataW.trod_string hu h
     exact⟨[.str s],⟨_,_,rfl,by unfold LRp;exact⟨rfl,hsz⟩,rfl⟩,by unfold WTr;exact⟨_,_,rfl,by unfold WTf;rfl,by unfold WTr;rfl⟩,by simp[aU,Lf.bulk,Rows.uptoBulk]⟩
    |slice e=>
     injection hf with hf
     subst hf
     obtain⟨he,hpos⟩:=hs e (by simp)
     obtain⟨she,hfe,hse⟩:=Wq hok he
     rcases DataW.trod_slice hu h with⟨rfl,rfl⟩|⟨a,len,cap,elems,rest,m,rfl,rfl,rfl,-,hlc,hcm,hel,hat,-,-⟩
     ·refine⟨[.rows (P.cellsOf e) []], ⟨_, _, rfl, LRp.nil _ _, rfl⟩, ?_, by simp[aU, Lf.bulk, bQ, Rows.uptoBulk]⟩
      unfold WTr
      exact⟨_,_,rfl,by unfold WTf;exact⟨e,she,rfl,hfe,rfl,hpos,by unfold WTq;trivial⟩,by unfold WTr;rfl⟩
     have each:∀j y,elems[j]?=some y→∃r cs,bV (I0 w) r cs∧WTr P r she∧aU r≤Rows.uptoBulk y.1∧cs.length=P.cellsOf e∧∀q u,cs[q]?=some u→w.cell? ((a.add (j*P.cellsOf e)).add q)=some u:=by
      intro j y hj
      have hjl:j<len:=by rw[←hel];exact(List.getElem?_eq_some_iff.1 hj).1
      obtain⟨cs',hc,hy⟩:=bind_some' ((hat j hjl).trans hj)
      obtain⟨r,h1,h2,h3⟩:=ih m (by omega) 12 e cs' y she hy hfe hse
      obtain⟨-,hcl,hcc⟩:=World.cells?_some hc
      exact⟨r,cs',h1,h2,h3,hcl,fun q u hq=>by rw[hcc q (by have:=(List.getElem?_eq_some_iff.1 hq).1;omega),hq]⟩
     cases elems with
     |nil=>
      have hl0:len=0:=by rw[←hel];rfl
      subst hl0
      refine⟨[.rows (P.cellsOf e) []],⟨_,_,rfl,?_,rfl⟩,?_,by simp[aU,Lf.bulk,bQ,Rows.uptoBulk]⟩
      ·unfold LRp;exact⟨some a,cap,rfl,by simp,hcm,fun h=>absurd rfl h⟩
      unfold WTr
      exact⟨_,_,rfl,by unfold WTf;exact⟨e,she,rfl,hfe,rfl,hpos,by unfold WTq;trivial⟩,by unfold WTr;rfl⟩
     |cons y0 ys=>
      have ha:a=⟨a.block,a.off,none⟩:=by
       obtain⟨r,cs',_,_,_,hcl,hcc⟩:=each 0 y0 rfl
       have hlt:0<cs'.length:=by omega
       have:=hcc 0 cs'[0] (List.getElem?_eq_getElem hlt)
       simp only[Nat.zero_mul,Addr.add,if_true] at this
       exact spot_none' this
      obtain⟨b,off,sp⟩:=a
      simp only[Addr.mk.injEq,true_and] at ha
      subst ha
      obtain⟨l,l1,l2,l3,l4⟩:=ED (w:=w) (b:=b) (off:=off) (k:=P.cellsOf e) (shs:=she) (P:=P) (y0::ys) 0 (fun j y hj=>by
       obtain⟨r,cs',h1,h2,h3,h4,h5⟩:=each j y hj
       refine⟨r,cs',h1,h2,h3,h4,fun q u hq=>?_⟩
       have:=h5 q u hq
       rw[add_plain',add_plain'] at this
       rw[Nat.zero_add];exact this)
      refine⟨[.rows (P.cellsOf e) l],⟨_,_,rfl,?_,rfl⟩,?_,?_⟩
      ·unfold LRp
       exact⟨_,cap,by rw[l1,hel],by omega,hcm,fun _=>⟨b,off,rfl,by simpa using l3⟩⟩
      ·unfold WTr
       exact⟨_,_,rfl,by unfold WTf;exact⟨e,she,rfl,hfe,rfl,hpos,l2⟩,by unfold WTr;rfl⟩
      simp only[aU,Lf.bulk,Rows.uptoBulk];omega
    |struct fs=>
     simp only at hf
     obtain⟨xs,n,rfl,rfl,hl,hlen,hx⟩:=DataW.trod_struct hu h
     obtain⟨r,h1,h2,h3⟩:=CV (ih n (by omega)) cs fs.toList xs 0 shs (fun i fl hi=>hx i fl (by simpa using hi)) (by simpa using hlen) hf hl hs
     exact⟨r,by simpa using h1,h2,by simp only[Rows.uptoBulk];omega⟩
    |_=>cases hf
end
end Go.Proofs.YtpdlghcgekojlaaGreatDoor
namespace Go.Proofs.YtpdlghcgekojlaaGreatDoor
open Go.RowKit
theorem WTr.nil(P:Program):WTr P [] []:=by unfold WTr;rfl
theorem WTr.cons{P:Program}{x:Lf}{s:Shp}{r:List Lf}{q:List Shp}(h:WTf P x s)(k:WTr P r q):WTr P (x::r) (s::q):=by unfold WTr;exact⟨s,q,rfl,h,k⟩
theorem WTf.int(P:Program)(k:IntKind)(n:Int):WTf P (.int k n) (.int k):=by unfold WTf;rfl
theorem WTf.str(P:Program)(s:ByteArray):WTf P (.str s) .str:=by unfold WTf;rfl
theorem WTf.bool(P:Program)(b:Bool):WTf P (.bool b) .bool:=by unfold WTf;rfl
theorem WTf.rows{P:Program}{n:Nat}{l:List (List Lf)}{e:TypeId}{shs:List Shp}(hf:flat P 12 e=some shs)(hn:n=P.cellsOf e)(h0:0<n)(h:WTq P shs l):WTf P (.rows n l) (.rows e):=by unfold WTf;exact⟨e,shs,rfl,hf,hn,h0,h⟩
theorem WTq.map{P:Program}{shs:List Shp}{α:Type}{f:α→List Lf}(l:List α)(h:∀x,WTr P (f x) shs):WTq P shs (l.map f):=WTq.of fun r hr=>by
 obtain⟨x,_,rfl⟩:=List.mem_map.1 hr;exact h x
theorem WTq.nil(P:Program)(shs:List Shp):WTq P shs []:=by unfold WTq;trivial
theorem WTq.cons{P:Program}{shs:List Shp}{r:List Lf}{q:List (List Lf)}(h:WTr P r shs)(k:WTq P shs q):WTq P shs (r::q):=by unfold WTq;exact⟨h,k⟩
theorem WTr.cons_inv{P:Program}{r:List Lf}{s:Shp}{q:List Shp}(h:WTr P r (s::q)):∃x r',r=x::r'∧WTf P x s∧WTr P r' q:=by
 cases r with
 |nil=>unfold WTr at h;cases h
 |cons x r=>unfold WTr at h;obtain⟨s',q',e,h1,h2⟩:=h;injection e with e1 e2;subst e1 e2;exact⟨x,r,rfl,h1,h2⟩
theorem WTr.fO{P:Program}{r:List Lf}(h:WTr P r []):r=[]:=by
 cases r with
 |nil=>rfl
 |cons x r=>unfold WTr at h;obtain⟨s',q',e,h1,h2⟩:=h;cases e
theorem WTr.fE{P:Program}:∀{a:List Shp} {b:List Shp} {r:List Lf},WTr P r (a++b)→∃r1 r2,r=r1++r2∧WTr P r1 a∧WTr P r2 b
 |[],b,r,h=>⟨[],r,rfl,WTr.nil P,h⟩
 |s::a,b,r,h=>by
  obtain⟨x,r',rfl,h1,h2⟩:=WTr.cons_inv h
  obtain⟨r1,r2,rfl,h3,h4⟩:=WTr.fE h2
  exact⟨x::r1,r2,rfl,WTr.cons h1 h3,h4⟩
theorem WTf.fQ{P:Program}{x:Lf}{k:IntKind}(h:WTf P x (.int k)):∃n,x=.int k n:=by
 cases x<;>unfold WTf at h
 ·rename_i k' n;injection h with h;subst h;exact⟨n,rfl⟩
 ·cases h
 ·cases h
 obtain⟨_,_,e,_⟩:=h;cases e
theorem WTf.lH{P:Program}{x:Lf}(h:WTf P x .str):∃s,x=.str s:=by
 cases x<;>unfold WTf at h
 ·cases h
 ·exact⟨_,rfl⟩
 ·cases h
 obtain⟨_,_,e,_⟩:=h;cases e
theorem WTf.l9{P:Program}{x:Lf}(h:WTf P x .bool):∃s,x=.bool s:=by
 cases x<;>unfold WTf at h
 ·cases h
 ·cases h
 ·exact⟨_,rfl⟩
 obtain⟨_,_,e,_⟩:=h;cases e
theorem WTf.fP{P:Program}{x:Lf}{e:TypeId}{n:Nat}{shs:List Shp}(hf:flat P 12 e=some shs)(hn:P.cellsOf e=n)(h:WTf P x (.rows e)):∃l,x=.rows n l∧WTq P shs l:=by
 cases x<;>unfold WTf at h
 ·cases h
 ·cases h
 ·cases h
 rename_i n' l;obtain⟨e',shs',e1,h1,h2,h3,h4⟩:=h;injection e1 with e1;subst e1
 rw[hf] at h1;injection h1 with h1;subst h1
 exact⟨l,by rw[h2,hn],h4⟩
theorem fG{P:Program}{shs:List Shp}{α:Type}{f:α→List Lf}{n:Nat}:∀{l:List (List Lf)},(∀r,aU r≤n→WTr P r shs→∃x,f x=r)→bQ l≤n→WTq P shs l→∃m:List α,m.map f=l
 |[],_,_,_=>⟨[],rfl⟩
 |r::q,h,hb,hw=>by
  unfold bQ at hb;unfold WTq at hw
  obtain⟨x,rfl⟩:=h r (by omega) hw.1
  obtain⟨m,rfl⟩:=fG (l:=q) h (by omega) hw.2
  exact⟨x::m,rfl⟩
theorem afO{P:Program}{r:List Lf}(h:WTr P r [.int .i64]):∃x,lfI x=r:=by
 obtain⟨x,r',rfl,k1,k2⟩:=WTr.cons_inv h
 obtain rfl:=WTr.fO k2
 obtain⟨n,rfl⟩:=WTf.fQ k1
 exact⟨n,rfl⟩
theorem zA{P:Program}{r:List Lf}(h:WTr P r [.str]):∃x,lfS x=r:=by
 obtain⟨x,r',rfl,k1,k2⟩:=WTr.cons_inv h
 obtain rfl:=WTr.fO k2
 obtain⟨n,rfl⟩:=WTf.lH k1
 exact⟨n,rfl⟩
def aj.sh:List Shp:=[.int .i64,.int .i64,.str,.rows 40,.rows 138]
def aF.sh:List Shp:=[.str]++(aj.sh)
theorem aj.LM(n:Nat):(∀r,aU r≤n→WTr Tryz.prog r aj.sh→∃x:aj,x.lf=r)∧(∀r,aU r≤n→WTr Tryz.prog r aF.sh→∃x:aF,x.lf=r):=by
 induction n with
 |zero=>refine⟨?_,?_⟩<;>· intro r hb h;obtain⟨y,z,rfl,k,h⟩:=WTr.cons_inv h;have:=Lf.uS y;simp only[aU] at hb;omega
 |succ n ih=>
  refine⟨?_,?_⟩
  ·intro r hb h
   unfold aj.sh at h
   obtain⟨y0,z0,rfl,k0,h1⟩:=WTr.cons_inv h
   obtain⟨v0,rfl⟩:=WTf.fQ k0
   obtain⟨y1,z1,rfl,k1,h2⟩:=WTr.cons_inv h1
   obtain⟨v1,rfl⟩:=WTf.fQ k1
   obtain⟨y2,z2,rfl,k2,h3⟩:=WTr.cons_inv h2
   obtain⟨v2,rfl⟩:=WTf.lH k2
   obtain⟨y3,z3,rfl,k3,h4⟩:=WTr.cons_inv h3
   obtain⟨lv3,rfl,qv3⟩:=WTf.fP (n:=5) (shs:=aj.sh) (by kernel_rfl) (by kernel_rfl) k3
   obtain⟨y4,z4,rfl,k4,h5⟩:=WTr.cons_inv h4
   obtain⟨lv4,rfl,qv4⟩:=WTf.fP (n:=6) (shs:=aF.sh) (by kernel_rfl) (by kernel_rfl) k4
   obtain rfl:=WTr.fO h5
   simp only[fF,aU,Lf.bulk] at hb
   obtain⟨v3,rfl⟩:=fG (f:=aj.lf) (n:=n) (fun r hb h=>ih.1 r hb h) (by omega) qv3
   obtain⟨v4,rfl⟩:=fG (f:=aF.lf) (n:=n) (fun r hb h=>ih.2 r hb h) (by omega) qv4
   exact⟨aj.mk v0 v1 v2 v3 v4,by rw[aj.aY];rfl⟩
  intro r hb h
  unfold aF.sh at h
  obtain⟨a0,b0,rfl,f0,hh0⟩:=WTr.fE h
  obtain⟨y0,z0,rfl,k0,h1⟩:=WTr.cons_inv f0
  obtain⟨v0,rfl⟩:=WTf.lH k0
  obtain rfl:=WTr.fO h1
  simp only[fF,aU,Lf.bulk] at hb
  obtain⟨v1,ev1⟩:=ih.1 _ (by omega) hh0
  rw[aj.aY] at ev1
  subst ev1
  exact⟨aF.mk v0 v1,by rw[aF.aY];rfl⟩
theorem aj.ofW{r:List Lf}(h:WTr Tryz.prog r aj.sh):∃x:aj,x.lf=r:=(aj.LM (aU r)).1 r (Nat.le_refl _) h
def bU.sh:List Shp:=[.rows 9,.bool]
theorem bU.ofW{r:List Lf}(h:WTr Tryz.prog r bU.sh):∃x:bU,x.lf=r:=by
 unfold bU.sh at h
 obtain⟨y0,z0,rfl,k0,h1⟩:=WTr.cons_inv h
 obtain⟨lv0,rfl,qv0⟩:=WTf.fP (n:=1) (shs:=[.str]) (by kernel_rfl) (by kernel_rfl) k0
 obtain⟨v0,rfl⟩:=fG (f:=lfS) (n:=bQ lv0) (fun r _ h=>zA h) (Nat.le_refl _) qv0
 obtain⟨y1,z1,rfl,k1,h2⟩:=WTr.cons_inv h1
 obtain⟨v1,rfl⟩:=WTf.l9 k1
 obtain rfl:=WTr.fO h2
 exact⟨bU.mk v0 v1,by rw[bU.aY];rfl⟩
def dB.sh:List Shp:=[.int .i64,.int .i64]
theorem dB.ofW{r:List Lf}(h:WTr Tryz.prog r dB.sh):∃x:dB,x.lf=r:=by
 unfold dB.sh at h
 obtain⟨y0,z0,rfl,k0,h1⟩:=WTr.cons_inv h
 obtain⟨v0,rfl⟩:=WTf.fQ k0
 obtain⟨y1,z1,rfl,k1,h2⟩:=WTr.cons_inv h1
 obtain⟨v1,rfl⟩:=WTf.fQ k1
 obtain rfl:=WTr.fO h2
 exact⟨dB.mk v0 v1,by rw[dB.aY];rfl⟩
def dS.sh:List Shp:=[.int .i64,.rows 270,.int .i64]
theorem dS.ofW{r:List Lf}(h:WTr Tryz.prog r dS.sh):∃x:dS,x.lf=r:=by
 unfold dS.sh at h
 obtain⟨y0,z0,rfl,k0,h1⟩:=WTr.cons_inv h
 obtain⟨v0,rfl⟩:=WTf.fQ k0
 obtain⟨y1,z1,rfl,k1,h2⟩:=WTr.cons_inv h1
 obtain⟨lv1,rfl,qv1⟩:=WTf.fP (n:=2) (shs:=dB.sh) (by kernel_rfl) (by kernel_rfl) k1
 obtain⟨v1,rfl⟩:=fG (f:=dB.lf) (n:=bQ lv1) (fun r _ h=>dB.ofW h) (Nat.le_refl _) qv1
 obtain⟨y2,z2,rfl,k2,h3⟩:=WTr.cons_inv h2
 obtain⟨v2,rfl⟩:=WTf.fQ k2
 obtain rfl:=WTr.fO h3
 exact⟨dS.mk v0 v1 v2,by rw[dS.aY];rfl⟩
def bf.sh:List Shp:=[.int .i64,.rows 9,.str,.rows 9]++(aj.sh++([.int .i64,.rows 55]))
theorem bf.LM(n:Nat):∀r,aU r≤n→WTr Tryz.prog r bf.sh→∃x:bf,x.lf=r:=by
 induction n with
 |zero=>intro r hb h;obtain⟨y,z,rfl,k,h⟩:=WTr.cons_inv h;have:=Lf.uS y;simp only[aU] at hb;omega
 |succ n ih=>
  intro r hb h
  unfold bf.sh at h
  obtain⟨a0,b0,rfl,f0,hh0⟩:=WTr.fE h
  obtain⟨y0,z0,rfl,k0,h1⟩:=WTr.cons_inv f0
  obtain⟨v0,rfl⟩:=WTf.fQ k0
  obtain⟨y1,z1,rfl,k1,h2⟩:=WTr.cons_inv h1
  obtain⟨lv1,rfl,qv1⟩:=WTf.fP (n:=1) (shs:=[.str]) (by kernel_rfl) (by kernel_rfl) k1
  obtain⟨v1,rfl⟩:=fG (f:=lfS) (n:=bQ lv1) (fun r _ h=>zA h) (Nat.le_refl _) qv1
  obtain⟨y2,z2,rfl,k2,h3⟩:=WTr.cons_inv h2
  obtain⟨v2,rfl⟩:=WTf.lH k2
  obtain⟨y3,z3,rfl,k3,h4⟩:=WTr.cons_inv h3
  obtain⟨lv3,rfl,qv3⟩:=WTf.fP (n:=1) (shs:=[.str]) (by kernel_rfl) (by kernel_rfl) k3
  obtain⟨v3,rfl⟩:=fG (f:=lfS) (n:=bQ lv3) (fun r _ h=>zA h) (Nat.le_refl _) qv3
  obtain rfl:=WTr.fO h4
  obtain⟨a1,b1,rfl,f1,hh1⟩:=WTr.fE hh0
  obtain⟨v4,ev4⟩:=aj.ofW f1
  rw[aj.aY] at ev4
  subst ev4
  obtain⟨y5,z5,rfl,k5,h5⟩:=WTr.cons_inv hh1
  obtain⟨v5,rfl⟩:=WTf.fQ k5
  obtain⟨y6,z6,rfl,k6,h6⟩:=WTr.cons_inv h5
  obtain⟨lv6,rfl,qv6⟩:=WTf.fP (n:=11) (shs:=bf.sh) (by kernel_rfl) (by kernel_rfl) k6
  obtain rfl:=WTr.fO h6
  simp only[fF,aU,Lf.bulk] at hb
  obtain⟨v6,rfl⟩:=fG (f:=bf.lf) (n:=n) (fun r hb h=>ih r hb h) (by omega) qv6
  exact⟨bf.mk v0 v1 v2 v3 v4 v5 v6,by rw[bf.aY];rfl⟩
theorem bf.ofW{r:List Lf}(h:WTr Tryz.prog r bf.sh):∃x:bf,x.lf=r:=(bf.LM (aU r)) r (Nat.le_refl _) h
def aS.sh:List Shp:=[.int .i64,.rows 9]++(aj.sh++([.rows 40,.int .i64,.int .i64]++(dS.sh++(bf.sh++([.rows 58])))))
theorem aS.LM(n:Nat):∀r,aU r≤n→WTr Tryz.prog r aS.sh→∃x:aS,x.lf=r:=by
 induction n with
 |zero=>intro r hb h;obtain⟨y,z,rfl,k,h⟩:=WTr.cons_inv h;have:=Lf.uS y;simp only[aU] at hb;omega
 |succ n ih=>
  intro r hb h
  unfold aS.sh at h
  obtain⟨a0,b0,rfl,f0,hh0⟩:=WTr.fE h
  obtain⟨y0,z0,rfl,k0,h1⟩:=WTr.cons_inv f0
  obtain⟨v0,rfl⟩:=WTf.fQ k0
  obtain⟨y1,z1,rfl,k1,h2⟩:=WTr.cons_inv h1
  obtain⟨lv1,rfl,qv1⟩:=WTf.fP (n:=1) (shs:=[.str]) (by kernel_rfl) (by kernel_rfl) k1
  obtain⟨v1,rfl⟩:=fG (f:=lfS) (n:=bQ lv1) (fun r _ h=>zA h) (Nat.le_refl _) qv1
  obtain rfl:=WTr.fO h2
  obtain⟨a1,b1,rfl,f1,hh1⟩:=WTr.fE hh0
  obtain⟨v2,ev2⟩:=aj.ofW f1
  rw[aj.aY] at ev2
  subst ev2
  obtain⟨a2,b2,rfl,f2,hh2⟩:=WTr.fE hh1
  obtain⟨y3,z3,rfl,k3,h3⟩:=WTr.cons_inv f2
  obtain⟨lv3,rfl,qv3⟩:=WTf.fP (n:=5) (shs:=aj.sh) (by kernel_rfl) (by kernel_rfl) k3
  obtain⟨v3,rfl⟩:=fG (f:=aj.lf) (n:=bQ lv3) (fun r _ h=>aj.ofW h) (Nat.le_refl _) qv3
  obtain⟨y4,z4,rfl,k4,h4⟩:=WTr.cons_inv h3
  obtain⟨v4,rfl⟩:=WTf.fQ k4
  obtain⟨y5,z5,rfl,k5,h5⟩:=WTr.cons_inv h4
  obtain⟨v5,rfl⟩:=WTf.fQ k5
  obtain rfl:=WTr.fO h5
  obtain⟨a3,b3,rfl,f3,hh3⟩:=WTr.fE hh2
  obtain⟨v6,ev6⟩:=dS.ofW f3
  rw[dS.aY] at ev6
  subst ev6
  obtain⟨a4,b4,rfl,f4,hh4⟩:=WTr.fE hh3
  obtain⟨v7,ev7⟩:=bf.ofW f4
  rw[bf.aY] at ev7
  subst ev7
  obtain⟨y8,z8,rfl,k8,h6⟩:=WTr.cons_inv hh4
  obtain⟨lv8,rfl,qv8⟩:=WTf.fP (n:=25) (shs:=aS.sh) (by kernel_rfl) (by kernel_rfl) k8
  obtain rfl:=WTr.fO h6
  simp only[fF,aU,Lf.bulk] at hb
  obtain⟨v8,rfl⟩:=fG (f:=aS.lf) (n:=n) (fun r hb h=>ih r hb h) (by omega) qv8
  exact⟨aS.mk v0 v1 v2 v3 v4 v5 v6 v7 v8,by rw[aS.aY];rfl⟩
theorem aS.ofW{r:List Lf}(h:WTr Tryz.prog r aS.sh):∃x:aS,x.lf=r:=(aS.LM (aU r)) r (Nat.le_refl _) h
def aW.sh:List Shp:=[.str,.int .i64,.rows 227,.bool,.bool,.bool]++(aS.sh)
theorem aW.ofW{r:List Lf}(h:WTr Tryz.prog r aW.sh):∃x:aW,x.lf=r:=by
 unfold aW.sh at h
 obtain⟨a0,b0,rfl,f0,hh0⟩:=WTr.fE h
 obtain⟨y0,z0,rfl,k0,h1⟩:=WTr.cons_inv f0
 obtain⟨v0,rfl⟩:=WTf.lH k0
 obtain⟨y1,z1,rfl,k1,h2⟩:=WTr.cons_inv h1
 obtain⟨v1,rfl⟩:=WTf.fQ k1
 obtain⟨y2,z2,rfl,k2,h3⟩:=WTr.cons_inv h2
 obtain⟨lv2,rfl,qv2⟩:=WTf.fP (n:=2) (shs:=bU.sh) (by kernel_rfl) (by kernel_rfl) k2
 obtain⟨v2,rfl⟩:=fG (f:=bU.lf) (n:=bQ lv2) (fun r _ h=>bU.ofW h) (Nat.le_refl _) qv2
 obtain⟨y3,z3,rfl,k3,h4⟩:=WTr.cons_inv h3
 obtain⟨v3,rfl⟩:=WTf.l9 k3
 obtain⟨y4,z4,rfl,k4,h5⟩:=WTr.cons_inv h4
 obtain⟨v4,rfl⟩:=WTf.l9 k4
 obtain⟨y5,z5,rfl,k5,h6⟩:=WTr.cons_inv h5
 obtain⟨v5,rfl⟩:=WTf.l9 k5
 obtain rfl:=WTr.fO h6
 obtain⟨v6,ev6⟩:=aS.ofW hh0
 rw[aS.aY] at ev6
 subst ev6
 exact⟨aW.mk v0 v1 v2 v3 v4 v5 v6,by rw[aW.aY];rfl⟩
def aA.sh:List Shp:=[.int .i64,.bool]++(aj.sh++([.bool]++(aj.sh++([.rows 40,.int .i64,.int .i64,.rows 9,.rows 206,.bool,.rows 46,.bool]))))
def cu.sh:List Shp:=[.str]++(aA.sh)
theorem aA.LM(n:Nat):(∀r,aU r≤n→WTr Tryz.prog r aA.sh→∃x:aA,x.lf=r)∧(∀r,aU r≤n→WTr Tryz.prog r cu.sh→∃x:cu,x.lf=r):=by
 induction n with
 |zero=>refine⟨?_,?_⟩<;>· intro r hb h;obtain⟨y,z,rfl,k,h⟩:=WTr.cons_inv h;have:=Lf.uS y;simp only[aU] at hb;omega
 |succ n ih=>
  refine⟨?_,?_⟩
  ·intro r hb h
   unfold aA.sh at h
   obtain⟨a0,b0,rfl,f0,hh0⟩:=WTr.fE h
   obtain⟨y0,z0,rfl,k0,h1⟩:=WTr.cons_inv f0
   obtain⟨v0,rfl⟩:=WTf.fQ k0
   obtain⟨y1,z1,rfl,k1,h2⟩:=WTr.cons_inv h1
   obtain⟨v1,rfl⟩:=WTf.l9 k1
   obtain rfl:=WTr.fO h2
   obtain⟨a1,b1,rfl,f1,hh1⟩:=WTr.fE hh0
   obtain⟨v2,ev2⟩:=aj.ofW f1
   rw[aj.aY] at ev2
   subst ev2
   obtain⟨a2,b2,rfl,f2,hh2⟩:=WTr.fE hh1
   obtain⟨y3,z3,rfl,k3,h3⟩:=WTr.cons_inv f2
   obtain⟨v3,rfl⟩:=WTf.l9 k3
   obtain rfl:=WTr.fO h3
   obtain⟨a3,b3,rfl,f3,hh3⟩:=WTr.fE hh2
   obtain⟨v4,ev4⟩:=aj.ofW f3
   rw[aj.aY] at ev4
   subst ev4
   obtain⟨y5,z5,rfl,k5,h4⟩:=WTr.cons_inv hh3
   obtain⟨lv5,rfl,qv5⟩:=WTf.fP (n:=5) (shs:=aj.sh) (by kernel_rfl) (by kernel_rfl) k5
   obtain⟨v5,rfl⟩:=fG (f:=aj.lf) (n:=bQ lv5) (fun r _ h=>aj.ofW h) (Nat.le_refl _) qv5
   obtain⟨y6,z6,rfl,k6,h5⟩:=WTr.cons_inv h4
   obtain⟨v6,rfl⟩:=WTf.fQ k6
   obtain⟨y7,z7,rfl,k7,h6⟩:=WTr.cons_inv h5
   obtain⟨v7,rfl⟩:=WTf.fQ k7
   obtain⟨y8,z8,rfl,k8,h7⟩:=WTr.cons_inv h6
   obtain⟨lv8,rfl,qv8⟩:=WTf.fP (n:=1) (shs:=[.str]) (by kernel_rfl) (by kernel_rfl) k8
   obtain⟨v8,rfl⟩:=fG (f:=lfS) (n:=bQ lv8) (fun r _ h=>zA h) (Nat.le_refl _) qv8
   obtain⟨y9,z9,rfl,k9,h8⟩:=WTr.cons_inv h7
   obtain⟨lv9,rfl,qv9⟩:=WTf.fP (n:=22) (shs:=cu.sh) (by kernel_rfl) (by kernel_rfl) k9
   obtain⟨y10,z10,rfl,k10,h9⟩:=WTr.cons_inv h8
   obtain⟨v10,rfl⟩:=WTf.l9 k10
   obtain⟨y11,z11,rfl,k11,h10⟩:=WTr.cons_inv h9
   obtain⟨lv11,rfl,qv11⟩:=WTf.fP (n:=21) (shs:=aA.sh) (by kernel_rfl) (by kernel_rfl) k11
   obtain⟨y12,z12,rfl,k12,h11⟩:=WTr.cons_inv h10
   obtain⟨v12,rfl⟩:=WTf.l9 k12
   obtain rfl:=WTr.fO h11
   simp only[fF,aU,Lf.bulk] at hb
   obtain⟨v9,rfl⟩:=fG (f:=cu.lf) (n:=n) (fun r hb h=>ih.2 r hb h) (by omega) qv9
   obtain⟨v11,rfl⟩:=fG (f:=aA.lf) (n:=n) (fun r hb h=>ih.1 r hb h) (by omega) qv11
   exact⟨aA.mk v0 v1 v2 v3 v4 v5 v6 v7 v8 v9 v10 v11 v12,by rw[aA.aY];rfl⟩
  intro r hb h
  unfold cu.sh at h
  obtain⟨a0,b0,rfl,f0,hh0⟩:=WTr.fE h
  obtain⟨y0,z0,rfl,k0,h1⟩:=WTr.cons_inv f0
  obtain⟨v0,rfl⟩:=WTf.lH k0
  obtain rfl:=WTr.fO h1
  simp only[fF,aU,Lf.bulk] at hb
  obtain⟨v1,ev1⟩:=ih.1 _ (by omega) hh0
  rw[aA.aY] at ev1
  subst ev1
  exact⟨cu.mk v0 v1,by rw[cu.aY];rfl⟩
theorem aA.ofW{r:List Lf}(h:WTr Tryz.prog r aA.sh):∃x:aA,x.lf=r:=(aA.LM (aU r)).1 r (Nat.le_refl _) h
def ak.sh:List Shp:=[.str,.rows 60]++(aA.sh++([.int .i64,.int .i64]))
theorem ak.ofW{r:List Lf}(h:WTr Tryz.prog r ak.sh):∃x:ak,x.lf=r:=by
 unfold ak.sh at h
 obtain⟨a0,b0,rfl,f0,hh0⟩:=WTr.fE h
 obtain⟨y0,z0,rfl,k0,h1⟩:=WTr.cons_inv f0
 obtain⟨v0,rfl⟩:=WTf.lH k0
 obtain⟨y1,z1,rfl,k1,h2⟩:=WTr.cons_inv h1
 obtain⟨lv1,rfl,qv1⟩:=WTf.fP (n:=31) (shs:=aW.sh) (by kernel_rfl) (by kernel_rfl) k1
 obtain⟨v1,rfl⟩:=fG (f:=aW.lf) (n:=bQ lv1) (fun r _ h=>aW.ofW h) (Nat.le_refl _) qv1
 obtain rfl:=WTr.fO h2
 obtain⟨a1,b1,rfl,f1,hh1⟩:=WTr.fE hh0
 obtain⟨v2,ev2⟩:=aA.ofW f1
 rw[aA.aY] at ev2
 subst ev2
 obtain⟨y3,z3,rfl,k3,h3⟩:=WTr.cons_inv hh1
 obtain⟨v3,rfl⟩:=WTf.fQ k3
 obtain⟨y4,z4,rfl,k4,h4⟩:=WTr.cons_inv h3
 obtain⟨v4,rfl⟩:=WTf.fQ k4
 obtain rfl:=WTr.fO h4
 exact⟨ak.mk v0 v1 v2 v3 v4,by rw[ak.aY];rfl⟩
def ay.sh:List Shp:=[.int .i64,.str]++(aj.sh++(aj.sh++(aj.sh++(ak.sh++(aW.sh++([.str,.int .i64,.rows 64,.rows 3,.bool]))))))
theorem ay.LM(n:Nat):∀r,aU r≤n→WTr Tryz.prog r ay.sh→∃x:ay,x.lf=r:=by
 induction n with
 |zero=>intro r hb h;obtain⟨y,z,rfl,k,h⟩:=WTr.cons_inv h;have:=Lf.uS y;simp only[aU] at hb;omega
 |succ n ih=>
  intro r hb h
  unfold ay.sh at h
  obtain⟨a0,b0,rfl,f0,hh0⟩:=WTr.fE h
  obtain⟨y0,z0,rfl,k0,h1⟩:=WTr.cons_inv f0
  obtain⟨v0,rfl⟩:=WTf.fQ k0
  obtain⟨y1,z1,rfl,k1,h2⟩:=WTr.cons_inv h1
  obtain⟨v1,rfl⟩:=WTf.lH k1
  obtain rfl:=WTr.fO h2
  obtain⟨a1,b1,rfl,f1,hh1⟩:=WTr.fE hh0
  obtain⟨v2,ev2⟩:=aj.ofW f1
  rw[aj.aY] at ev2
  subst ev2
  obtain⟨a2,b2,rfl,f2,hh2⟩:=WTr.fE hh1
  obtain⟨v3,ev3⟩:=aj.ofW f2
  rw[aj.aY] at ev3
  subst ev3
  obtain⟨a3,b3,rfl,f3,hh3⟩:=WTr.fE hh2
  obtain⟨v4,ev4⟩:=aj.ofW f3
  rw[aj.aY] at ev4
  subst ev4
  obtain⟨a4,b4,rfl,f4,hh4⟩:=WTr.fE hh3
  obtain⟨v5,ev5⟩:=ak.ofW f4
  rw[ak.aY] at ev5
  subst ev5
  obtain⟨a5,b5,rfl,f5,hh5⟩:=WTr.fE hh4
  obtain⟨v6,ev6⟩:=aW.ofW f5
  rw[aW.aY] at ev6
  subst ev6
  obtain⟨y7,z7,rfl,k7,h3⟩:=WTr.cons_inv hh5
  obtain⟨v7,rfl⟩:=WTf.lH k7
  obtain⟨y8,z8,rfl,k8,h4⟩:=WTr.cons_inv h3
  obtain⟨v8,rfl⟩:=WTf.fQ k8
  obtain⟨y9,z9,rfl,k9,h5⟩:=WTr.cons_inv h4
  obtain⟨lv9,rfl,qv9⟩:=WTf.fP (n:=78) (shs:=ay.sh) (by kernel_rfl) (by kernel_rfl) k9
  obtain⟨y10,z10,rfl,k10,h6⟩:=WTr.cons_inv h5
  obtain⟨lv10,rfl,qv10⟩:=WTf.fP (n:=1) (shs:=[.int .i64]) (by kernel_rfl) (by kernel_rfl) k10
  obtain⟨v10,rfl⟩:=fG (f:=lfI) (n:=bQ lv10) (fun r _ h=>afO h) (Nat.le_refl _) qv10
  obtain⟨y11,z11,rfl,k11,h7⟩:=WTr.cons_inv h6
  obtain⟨v11,rfl⟩:=WTf.l9 k11
  obtain rfl:=WTr.fO h7
  simp only[fF,aU,Lf.bulk] at hb
  obtain⟨v9,rfl⟩:=fG (f:=ay.lf) (n:=n) (fun r hb h=>ih r hb h) (by omega) qv9
  exact⟨ay.mk v0 v1 v2 v3 v4 v5 v6 v7 v8 v9 v10 v11,by rw[ay.aY];rfl⟩
theorem ay.ofW{r:List Lf}(h:WTr Tryz.prog r ay.sh):∃x:ay,x.lf=r:=(ay.LM (aU r)) r (Nat.le_refl _) h
def bD.sh:List Shp:=[.int .i64,.int .i64,.str,.int .i64]++(ay.sh)
theorem bD.ofW{r:List Lf}(h:WTr Tryz.prog r bD.sh):∃x:bD,x.lf=r:=by
 unfold bD.sh at h
 obtain⟨a0,b0,rfl,f0,hh0⟩:=WTr.fE h
 obtain⟨y0,z0,rfl,k0,h1⟩:=WTr.cons_inv f0
 obtain⟨v0,rfl⟩:=WTf.fQ k0
 obtain⟨y1,z1,rfl,k1,h2⟩:=WTr.cons_inv h1
 obtain⟨v1,rfl⟩:=WTf.fQ k1
 obtain⟨y2,z2,rfl,k2,h3⟩:=WTr.cons_inv h2
 obtain⟨v2,rfl⟩:=WTf.lH k2
 obtain⟨y3,z3,rfl,k3,h4⟩:=WTr.cons_inv h3
 obtain⟨v3,rfl⟩:=WTf.fQ k3
 obtain rfl:=WTr.fO h4
 obtain⟨v4,ev4⟩:=ay.ofW hh0
 rw[ay.aY] at ev4
 subst ev4
 exact⟨bD.mk v0 v1 v2 v3 v4,by rw[bD.aY];rfl⟩
def lS.sh:List Shp:=[.rows 66,.rows 64,.int .i64,.int .i64,.int .i64]
theorem lS.ofW{r:List Lf}(h:WTr Tryz.prog r lS.sh):∃x:lS,x.lf=r:=by
 unfold lS.sh at h
 obtain⟨y0,z0,rfl,k0,h1⟩:=WTr.cons_inv h
 obtain⟨lv0,rfl,qv0⟩:=WTf.fP (n:=82) (shs:=bD.sh) (by kernel_rfl) (by kernel_rfl) k0
 obtain⟨v0,rfl⟩:=fG (f:=bD.lf) (n:=bQ lv0) (fun r _ h=>bD.ofW h) (Nat.le_refl _) qv0
 obtain⟨y1,z1,rfl,k1,h2⟩:=WTr.cons_inv h1
 obtain⟨lv1,rfl,qv1⟩:=WTf.fP (n:=78) (shs:=ay.sh) (by kernel_rfl) (by kernel_rfl) k1
 obtain⟨v1,rfl⟩:=fG (f:=ay.lf) (n:=bQ lv1) (fun r _ h=>ay.ofW h) (Nat.le_refl _) qv1
 obtain⟨y2,z2,rfl,k2,h3⟩:=WTr.cons_inv h2
 obtain⟨v2,rfl⟩:=WTf.fQ k2
 obtain⟨y3,z3,rfl,k3,h4⟩:=WTr.cons_inv h3
 obtain⟨v3,rfl⟩:=WTf.fQ k3
 obtain⟨y4,z4,rfl,k4,h5⟩:=WTr.cons_inv h4
 obtain⟨v4,rfl⟩:=WTf.fQ k4
 obtain rfl:=WTr.fO h5
 exact⟨lS.mk v0 v1 v2 v3 v4,by rw[lS.aY];rfl⟩
end Go.Proofs.YtpdlghcgekojlaaGreatDoor
