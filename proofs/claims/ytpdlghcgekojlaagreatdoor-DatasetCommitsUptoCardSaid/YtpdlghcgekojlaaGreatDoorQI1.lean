/- Small lemmas over any world: the preorder Ext (nothing that was there has turned), and helpers for the walks. -/
import Derived.Test.YtpdlghcgekojlaaGreatDoorProg
import Derived.WalkKit
import Derived.WalkSpells
import Derived.WalkLawsBesides
import Derived.Lib.Hide
import Derived.Laws.BytesArg
import Derived.Laws.IdiomStrings
import Derived.Deep.MidRow
import Derived.OpenShut
import Derived.Maps.Own
import Derived.Maps.Views
import Derived.Laws.Pointers
import Derived.Laws.StructEq
import Derived.Lib.SliceRun
import Derived.Lib.AppendStr
set_option linter.unusedSimpArgs false
set_option linter.unusedVariables false
namespace Go.Proofs.YtpdlghcgekojlaaGreatDoor
open Go.RowKit
def Ext(w w':World):Prop:=Below w.heap.size w w'
theorem Ext.refl(w:World):Ext w w:=Below.refl _ _
theorem Ext.size{w w':World}(h:Ext w w'):w.heap.size≤w'.heap.size:=Below.size h
theorem Ext.below{w w':World}(h:Ext w w'):Below w.heap.size w w':=h
theorem Ext.trans{a b c:World}(h:Ext a b)(k:Ext b c):Ext a c:=Below.trans h (Below.mono k h.size)
theorem Ext.alloc{a w:World}(h:Ext a w)(o:Obj):Ext a (w.alloc o):=Below.alloc h h.size o
theorem Ext.drew{a w:World}(h:Ext a w):Ext a w.drew:=Below.drew h
theorem Ext.setCell{a w:World}(h:Ext a w){p:Addr}(hp:a.heap.size≤p.block)(u:Value):Ext a (w.setCell p u):=Below.setCell h hp u
theorem Ext.cells{W w1:World}(hb:Ext W w1):(∀b o,b<W.heap.size→w1.cell? ⟨b,o,none⟩=W.cell? ⟨b,o,none⟩):=
 fun b o h=>Below.cell hb (p:=⟨b,o,none⟩) h
theorem Ext.amO{w w1:World}{cs:Array Value}{t:TypeId}(h:Ext (w.alloc (.cells cs t)) w1)(j:Nat):w1.cell? ⟨w.heap.size,j,none⟩=cs[j]?:=by
 rw[h.cells w.heap.size j (by simp)];exact World.cell?_alloc_mark w cs t (0,0) j
theorem Ext.aax{w w1:World}{o:Obj}(h:Ext (w.alloc o) w1):Ext w w1:=((Ext.refl w).alloc o).trans h
theorem Ext.lt{w w1:World}{o:Obj}(h:Ext (w.alloc o) w1):w.heap.size<w1.heap.size:=by have:=h.size;simp at this;omega
theorem Ext.grown{a w w':World}{row:Option Nat}(h:Ext a w)(hg:w.grownBy w' row)(hr:∀k,row=some k→a.heap.size≤k):Ext a w':=Below.grown h hg h.size hr
theorem VF{w:World}{g:Nat}{t:TypeId}{cs:Array Value}(h:w.heap[g]?=some (.cells cs t (0,0)))(i:Nat)(u:Value):(w.setCell ⟨g,i,none⟩ u).heap[g]?=some (.cells (cs.setIfInBounds i u) t (0,0)):=by
 simp[World.setCell,Array.getElem?_modify,h]
theorem lq{w:World}{g:Nat}{t:TypeId}{cs:Array Value}(h:w.heap[g]?=some (.cells cs t (0,0)))(j:Nat):w.cell? ⟨g,j,none⟩=cs[j]?:=cell_of_row w g j _ _ _ h
theorem yR{w:World}{g:Nat}{t:TypeId}{cs:Array Value}(h:w.heap[g]?=some (.cells cs t (0,0)))(j:Nat):w.frozen? ⟨g,j,none⟩=false:=by simp[World.frozen?,h]
theorem KW{w:World}{g:Nat}{o:Obj}(h:w.heap[g]?=some o):g<w.heap.size:=by
 grind
theorem rU{w w':World}{g:Nat}{o:Obj}(h:w.heap[g]?=some o)(he:Ext w w'):w'.heap[g]?=some o:=(he.below.block g (KW h)).trans h
theorem add_plain(g j:Nat):(⟨g,0,none⟩:Addr).add j=⟨g,j,none⟩:=by unfold Addr.add;split<;>simp_all
theorem Dq{P:Program}{w:World}{base n:Nat}{v:Value}{l:List Int}(src e dst:TypeId)(hs:P.underlying src=some (.slice e))(he:P.underlying e=some (.int .u8))(hd:P.underlying dst=some .string)
 (ho:w.ownsRow base e 1 v n (l.map (Value.int .u8))):(convert src dst v).run P w=.ok (.string (strOfNums l)) w:=by
 have hlen:l.length=n:=by have:=ho.1;simpa using this
 rcases ho.2 with⟨rfl,hn⟩|⟨g,cap,cur,rfl,_⟩
 ·have hl:l=[]:=List.eq_nil_of_length_eq_zero (by omega)
  subst hl
  exact run_convert_bytes_nil w src e hs he 0 0 dst hd
 refine run_convert_bytes_arg w src e hs he g 0 n cap l hlen (fun i hi=>?_) dst hd
 have:=ho.cells (g:=g) rfl i (.int .u8 (l.getD i 0)) (by simp[List.getD,List.getElem?_eq_getElem (show i<l.length by omega)])
 rw[add_plain] at this
 grind
end Go.Proofs.YtpdlghcgekojlaaGreatDoor
namespace Go.Proofs.YtpdlghcgekojlaaGreatDoor
open Go.RowKit
inductive Tr where
 |mk (k i:Int) (s:ByteArray) (l:List Tr) (ns:List ByteArray) (ds:List Tr)
namespace Tr
def kind:Tr→Int|.mk k _ _ _ _ _=>k
def int:Tr→Int|.mk _ i _ _ _ _=>i
mutual
def sz:Tr→Nat|.mk _ _ _ l _ ds=>1+szL l+szL ds
def szL:List Tr→Nat|[]=>0|t::r=>sz t+szL r
end
end Tr
def I64(n:Int):Prop := -9223372036854775808≤n∧n<9223372036854775808
mutual
def AZ (w:World):Tr→Value→Prop
 |.mk k i s l ns ds,v=>∃(la:Option Addr) (lc:Nat) (da:Option Addr) (dc:Nat),v=.agg #[.int .i64 k,.int .i64 i,.string s,.slice la l.length lc,.slice da ds.length dc]∧(s.size≤maxLen∧I64 k∧I64 i)∧
  (l.length≤lc∧l.length*80≤140737488351232)∧lc≤maxLen∧(ds.length≤dc∧ds.length*96≤140737488351232)∧dc≤maxLen∧ns.length=ds.length∧yS w la 0 l∧yg w da 0 ns ds
def yS (w:World) (a:Option Addr):Nat→List Tr→Prop
 |_,[]=>True
 |o,t::r=>(∃b off c0 c1 c2 c3 c4,a=some ⟨b,off,none⟩∧w.cell? ⟨b,off+o,none⟩=some c0∧w.cell? ⟨b,off+o+1,none⟩=some c1∧w.cell? ⟨b,off+o+2,none⟩=some c2∧w.cell? ⟨b,off+o+3,none⟩=some c3∧w.cell? ⟨b,off+o+4,none⟩=some c4∧AZ w t (.agg #[c0,c1,c2,c3,c4]))∧yS w a (o+5) r
def yg (w:World) (a:Option Addr):Nat→List ByteArray→List Tr→Prop
 |_,_,[]=>True
 |_,[],_::_=>False
 |o,n::nr,t::r=>(∃b off c0 c1 c2 c3 c4,a=some ⟨b,off,none⟩∧n.size≤maxLen∧w.cell? ⟨b,off+o,none⟩=some (.string n)∧w.cell? ⟨b,off+o+1,none⟩=some c0∧w.cell? ⟨b,off+o+2,none⟩=some c1∧w.cell? ⟨b,off+o+3,none⟩=some c2∧w.cell? ⟨b,off+o+4,none⟩=some c3∧w.cell? ⟨b,off+o+5,none⟩=some c4∧AZ w t (.agg #[c0,c1,c2,c3,c4]))∧yg w a (o+6) nr r
end
theorem Ext.keep{w w':World}(h:Ext w w'){p:Addr}{v:Value}(hc:w.cell? p=some v):w'.cell? p=some v:=
 (Below.cell h (World.block_lt_of_cell? w p hc)).trans hc
mutual
theorem AZ.ext {w w':World} (h:Ext w w'):∀(t:Tr) (v:Value),AZ w t v→AZ w' t v
 |.mk k i s l ns ds,v,hv=>by
  unfold AZ at hv ⊢
  obtain⟨la,lc,da,dc,h1,h2,h3,h4,h5,h6,h7,h8,h9⟩:=hv
  exact⟨la,lc,da,dc,h1,h2,h3,h4,h5,h6,h7,yS.ext h la 0 l h8,yg.ext h da 0 ns ds h9⟩
theorem yS.ext {w w':World} (h:Ext w w') (a:Option Addr):∀(o:Nat) (l:List Tr),yS w a o l→yS w' a o l
 |_,[],_=>by unfold yS;trivial
 |o,t::r,hl=>by
  unfold yS at hl ⊢
  obtain⟨⟨b,off,c0,c1,c2,c3,c4,h0,h1,h2,h3,h4,h5,h6⟩,hr⟩:=hl
  exact⟨⟨b,off,c0,c1,c2,c3,c4,h0,h.keep h1,h.keep h2,h.keep h3,h.keep h4,h.keep h5,AZ.ext h t _ h6⟩,yS.ext h a (o+5) r hr⟩
theorem yg.ext {w w':World} (h:Ext w w') (a:Option Addr):∀(o:Nat) (ns:List ByteArray) (l:List Tr),yg w a o ns l→yg w' a o ns l
 |_,_,[],_=>by unfold yg;trivial
 |_,[],_::_,hl=>by unfold yg at hl;exact hl.elim
 |o,n::nr,t::r,hl=>by
  unfold yg at hl ⊢
  obtain⟨⟨b,off,c0,c1,c2,c3,c4,h0,hn,h1,h2,h3,h4,h5,h6,h7⟩,hr⟩:=hl
  exact⟨⟨b,off,c0,c1,c2,c3,c4,h0,hn,h.keep h1,h.keep h2,h.keep h3,h.keep h4,h.keep h5,h.keep h6,AZ.ext h t _ h7⟩,yg.ext h a (o+6) nr r hr⟩
end
theorem yS.at_{w:World}{a:Option Addr}:∀(l:List Tr) (o j:Nat) (t:Tr),yS w a o l→l[j]?=some t→
 ∃b off c0 c1 c2 c3 c4,a=some ⟨b,off,none⟩∧w.cell? ⟨b,off+(o+j*5),none⟩=some c0∧w.cell? ⟨b,off+(o+j*5)+1,none⟩=some c1∧w.cell? ⟨b,off+(o+j*5)+2,none⟩=some c2∧w.cell? ⟨b,off+(o+j*5)+3,none⟩=some c3∧w.cell? ⟨b,off+(o+j*5)+4,none⟩=some c4∧AZ w t (.agg #[c0,c1,c2,c3,c4])
 |[],_,j,t,_,hj=>by simp at hj
 |x::r,o,0,t,hl,hj=>by
  unfold yS at hl
  simp_all
 |x::r,o,j+1,t,hl,hj=>by
  unfold yS at hl
  have:=yS.at_ r (o+5) j t hl.2 (by simpa using hj)
  rw[show o+(j+1)*5=o+5+j*5 by omega]
  exact this
theorem yg.at_{w:World}{a:Option Addr}:∀(ns:List ByteArray) (l:List Tr) (o j:Nat) (n:ByteArray) (t:Tr),yg w a o ns l→ns[j]?=some n→l[j]?=some t→
 ∃b off c0 c1 c2 c3 c4,a=some ⟨b,off,none⟩∧n.size≤maxLen∧w.cell? ⟨b,off+(o+j*6),none⟩=some (.string n)∧w.cell? ⟨b,off+(o+j*6)+1,none⟩=some c0∧w.cell? ⟨b,off+(o+j*6)+2,none⟩=some c1∧w.cell? ⟨b,off+(o+j*6)+3,none⟩=some c2∧w.cell? ⟨b,off+(o+j*6)+4,none⟩=some c3∧w.cell? ⟨b,off+(o+j*6)+5,none⟩=some c4∧AZ w t (.agg #[c0,c1,c2,c3,c4])
 |ns,[],_,j,_,t,_,_,hj=>by simp at hj
 |[],x::r,_,j,_,t,hl,hn,_=>by simp at hn
 |m::nr,x::r,o,0,n,t,hl,hn,hj=>by
  unfold yg at hl
  simp_all
 |m::nr,x::r,o,j+1,n,t,hl,hn,hj=>by
  unfold yg at hl
  have:=yg.at_ nr r (o+6) j n t hl.2 (by simpa using hn) (by simpa using hj)
  rw[show o+(j+1)*6=o+6+j*6 by omega]
  exact this
theorem AZ.shape{w:World}{t:Tr}{v:Value}(h:AZ w t v):∃(k i:Int) (s:ByteArray) (la:Option Addr) (ln lc:Nat) (da:Option Addr) (dn dc:Nat),v=.agg #[.int .i64 k,.int .i64 i,.string s,.slice la ln lc,.slice da dn dc]:=by
 cases t
 unfold AZ at h
 grind
end Go.Proofs.YtpdlghcgekojlaaGreatDoor
namespace Go.Proofs.YtpdlghcgekojlaaGreatDoor
open Go.RowKit
theorem Ext.only{a w:World}(h:Ext a w)(row:Option Nat):a.grownBy w row:=⟨h.below.os,h.below.tape,h.below.output,h.size,fun i hi _=>h.below.block i hi⟩
theorem KX{a w:World}{g:Nat}(h:a.grownBy w (some g)){p:Addr}(hp:p.block=g∨a.heap.size≤p.block)(u:Value):a.grownBy (w.setCell p u) (some g):=
 ⟨h.os, h.tape, h.output, by simpa[World.setCell] using h.size, fun i hi hne=>(Below.heap_setCell w p u i (by
  rintro rfl
  rcases hp with hp|hp
  ·exact hne (by rw[hp])
  omega)).trans (h.block i hi hne)⟩
theorem yh{a b c:World}{row:Option Nat}(h:a.grownBy b row)(k:b.grownBy c row):a.grownBy c row:=
 ⟨k.os.trans h.os,k.tape.trans h.tape,k.output.trans h.output,Nat.le_trans h.size k.size,fun i hi hne=>(k.block i (Nat.lt_of_lt_of_le hi h.size) hne).trans (h.block i hi hne)⟩
inductive Lf where
 |int (k:IntKind) (n:Int)
 |str (s:ByteArray)
 |bool (b:Bool)
 |rows (n:Nat) (l:List (List Lf))
def Gh:=Nat→Nat→Option Value
def Inv(I:Gh)(w:World):Prop:=∀b o v,I b o=some v→w.cell? ⟨b,o,none⟩=some v
def Av(I:Gh)(b:Nat):Prop:=∀o,I b o=none
def Le(I I':Gh):Prop:=∀b o v,I b o=some v→I' b o=some v
theorem Le.refl(I:Gh):Le I I:=fun _ _ _ h=>h
theorem Le.trans{I J K:Gh}(h:Le I J)(k:Le J K):Le I K:=fun b o v e=>k b o v (h b o v e)
mutual
def LRp (I:Gh):Lf→Value→Prop
 |.int k n,v=>v=.int k n∧(Lit.int k n).wf=true
 |.str s,v=>v=.string s∧s.size≤maxLen
 |.bool b,v=>v=.bool b
 |.rows n l,v=>∃a c,v=.slice a l.length c∧l.length≤c∧c≤maxLen∧(l≠[]→∃b off,a=some ⟨b,off,none⟩∧RRp I b n off l)
def RRp (I:Gh) (b n:Nat):Nat→List (List Lf)→Prop
 |_,[]=>True
 |o,r::q=>r.length=n∧CRp I b o r∧RRp I b n (o+n) q
def CRp (I:Gh) (b:Nat):Nat→List Lf→Prop
 |_,[]=>True
 |o,x::r=>(∃v,I b o=some v∧LRp I x v)∧CRp I b (o+1) r
end
mutual
theorem LRp.mono {I J:Gh} (h:Le I J):∀(x:Lf) (v:Value),LRp I x v→LRp J x v
 |.int k n,v,hv=>by unfold LRp at hv ⊢;exact hv
 |.str s,v,hv=>by unfold LRp at hv ⊢;exact hv
 |.bool b,v,hv=>by unfold LRp at hv ⊢;exact hv
 |.rows n l,v,hv=>by
  unfold LRp at hv ⊢
  obtain⟨a,c,h1,h2,h3,h4⟩:=hv
  refine⟨a,c,h1,h2,h3,fun hl=>?_⟩
  obtain⟨b,off,e,hr⟩:=h4 hl
  exact⟨b,off,e,RRp.mono h b n off l hr⟩
theorem RRp.mono {I J:Gh} (h:Le I J) (b n:Nat):∀(o:Nat) (l:List (List Lf)),RRp I b n o l→RRp J b n o l
 |_,[],_=>by unfold RRp;trivial
 |o,r::q,hl=>by
  unfold RRp at hl ⊢
  exact⟨hl.1,CRp.mono h b o r hl.2.1,RRp.mono h b n (o+n) q hl.2.2⟩
theorem CRp.mono {I J:Gh} (h:Le I J) (b:Nat):∀(o:Nat) (r:List Lf),CRp I b o r→CRp J b o r
 |_,[],_=>by unfold CRp;trivial
 |o,x::r,hl=>by
  unfold CRp at hl ⊢
  obtain⟨⟨v,h1,h2⟩,h3⟩:=hl
  exact⟨⟨v,h _ _ _ h1,LRp.mono h x v h2⟩,CRp.mono h b (o+1) r h3⟩
end
def bV(I:Gh):List Lf→List Value→Prop
 |[],cs=>cs=[]
 |x::r,cs=>∃c q,cs=c::q∧LRp I x c∧bV I r q
theorem bV.mono{I J:Gh}(h:Le I J):∀(r:List Lf) (cs:List Value),bV I r cs→bV J r cs
 |[],_,hv=>hv
 |x::r,_,⟨c,q,e,h1,h2⟩=>⟨c,q,e,LRp.mono h x c h1,bV.mono h r q h2⟩
theorem bV.len{I:Gh}:∀(r:List Lf) (cs:List Value),bV I r cs→cs.length=r.length
 |[],cs,h=>by rw[show cs=[] from h];rfl
 |x::r,_,⟨c,q,e,_,h2⟩=>by rw[e,List.length_cons,List.length_cons,bV.len r q h2]
theorem bV.at_{I:Gh}:∀(r:List Lf) (cs:List Value),bV I r cs→∀(j:Nat) (x:Lf),r[j]?=some x→∃c,cs[j]?=some c∧LRp I x c
 |[],_,_,j,x,hj=>by simp at hj
 |y::r,_,⟨c,q,e,h1,h2⟩,0,x,hj=>by
  grind
 |y::r,_,⟨c,q,e,h1,h2⟩,j+1,x,hj=>by
  obtain⟨c',h3,h4⟩:=bV.at_ r q h2 j x (by simpa using hj)
  grind
theorem bV.app{I:Gh}:∀(r s:List Lf) (cs ds:List Value),bV I r cs→bV I s ds→bV I (r++s) (cs++ds)
 |[],s,cs,ds,h,k=>by rw[show cs=[] from h];exact k
 |x::r,s,cs,ds,⟨c,q,e,h1,h2⟩,k=>⟨c,q++ds,by rw[e];rfl,h1,bV.app r s q ds h2 k⟩
theorem bV.split{I:Gh}:∀(r s:List Lf) (cs:List Value),bV I (r++s) cs→∃ds es,cs=ds++es∧bV I r ds∧bV I s es
 |[],s,cs,h=>⟨[],cs,rfl,rfl,h⟩
 |x::r,s,cs,⟨c,q,e,h1,h2⟩=>by
  obtain⟨ds,es,e2,h3,h4⟩:=bV.split r s q h2
  exact⟨c::ds,es,by rw[e,e2];rfl,⟨c,ds,rfl,h1,h3⟩,h4⟩
theorem CRp.vals{I:Gh}{b:Nat}:∀(r:List Lf) (o:Nat),CRp I b o r→∃cs,bV I r cs∧∀j v,cs[j]?=some v→I b (o+j)=some v
 |[],_,_=>⟨[],rfl,fun j v h=>by simp at h⟩
 |x::r,o,h=>by
  unfold CRp at h
  obtain⟨⟨v,h1,h2⟩,h3⟩:=h
  obtain⟨cs,h4,h5⟩:=CRp.vals r (o+1) h3
  refine⟨v::cs,⟨v,cs,rfl,h2,h4⟩,fun j u hj=>?_⟩
  grind
theorem CRp.of{I:Gh}{b:Nat}:∀(r:List Lf) (o:Nat) (cs:List Value),bV I r cs→(∀j v,cs[j]?=some v→I b (o+j)=some v)→CRp I b o r
 |[],_,_,_,_=>by unfold CRp;trivial
 |x::r,o,_,⟨c,q,e,h1,h2⟩,hc=>by
  subst e
  unfold CRp
  exact⟨⟨c,hc 0 c rfl,h1⟩,CRp.of r (o+1) q h2 (fun j v hj=>by have:=hc (j+1) v (by simpa using hj);rwa [show o+(j+1)=o+1+j by omega] at this)⟩
theorem RRp.at_{I:Gh}{b n:Nat}:∀(l:List (List Lf)) (o j:Nat) (r:List Lf),RRp I b n o l→l[j]?=some r→r.length=n∧CRp I b (o+j*n) r
 |[],_,j,r,_,hj=>by simp at hj
 |x::q,o,0,r,h,hj=>by
  unfold RRp at h
  grind
 |x::q,o,j+1,r,h,hj=>by
  unfold RRp at h
  have:=RRp.at_ q (o+n) j r h.2.2 (by simpa using hj)
  grind
theorem RRp.of{I:Gh}{b n:Nat}:∀(l:List (List Lf)) (o:Nat),(∀j r,l[j]?=some r→r.length=n∧CRp I b (o+j*n) r)→RRp I b n o l
 |[],_,_=>by unfold RRp;trivial
 |x::q,o,h=>by
  unfold RRp
  have h0:=h 0 x rfl
  exact⟨h0.1, by simpa using h0.2, RRp.of q (o+n) (fun j r hj=>by
   have:=h (j+1) r (by simpa using hj)
   rwa [show o+(j+1)*n=o+n+j*n by rw[Nat.add_mul];omega] at this)⟩
theorem LRp.elem{I:Gh}{n:Nat}{l:List (List Lf)}{v:Value}(h:LRp I (.rows n l) v)(j:Nat)(r:List Lf)(hj:l[j]?=some r):
 ∃b off c cs,v=.slice (some ⟨b,off,none⟩) l.length c∧l.length≤c∧c≤maxLen∧r.length=n∧bV I r cs∧(∀q u,cs[q]?=some u→I b (off+j*n+q)=some u):=by
 unfold LRp at h
 obtain⟨a,c,rfl,h2,h3,h4⟩:=h
 have hne:l≠[]:=by rintro rfl;simp at hj
 obtain⟨b,off,rfl,hr⟩:=h4 hne
 obtain⟨h5,h6⟩:=RRp.at_ l off j r hr hj
 obtain⟨cs,h7,h8⟩:=CRp.vals r _ h6
 exact⟨b,off,c,cs,rfl,h2,h3,h5,h7,h8⟩
theorem LRp.slice{I:Gh}{n:Nat}{l:List (List Lf)}{v:Value}(h:LRp I (.rows n l) v):∃a c,v=.slice a l.length c∧l.length≤c∧c≤maxLen:=by
 unfold LRp at h
 grind
theorem LRp.nil(I:Gh)(n:Nat):LRp I (.rows n []) (.slice none 0 0):=by
 unfold LRp
 exact⟨none,0,rfl,Nat.le_refl _,by unfold maxLen;omega,fun h=>absurd rfl h⟩
theorem LRp.int{I:Gh}{k:IntKind}{n:Int}{v:Value}(h:LRp I (.int k n) v):v=.int k n∧(Lit.int k n).wf=true:=by unfold LRp at h;exact h
theorem LRp.str{I:Gh}{s:ByteArray}{v:Value}(h:LRp I (.str s) v):v=.string s∧s.size≤maxLen:=by unfold LRp at h;exact h
theorem LRp.bool{I:Gh}{b:Bool}{v:Value}(h:LRp I (.bool b) v):v=.bool b:=by unfold LRp at h;exact h
theorem LRp.one{I:Gh}:∀(x:Lf) (v:Value),LRp I x v→v.oneCell'=true
 |.int k n,v,h=>by rw[h.int.1];rfl
 |.str s,v,h=>by rw[h.str.1];rfl
 |.bool b,v,h=>by rw[h.bool];rfl
 |.rows n l,v,h=>by obtain⟨a,c,rfl,_⟩:=h.slice;rfl
theorem bV.one{I:Gh}:∀(r:List Lf) (cs:List Value),bV I r cs→∀u∈cs,u.oneCell'=true
 |[],_,h,u,hu=>by rw[show _=[] from h] at hu;cases hu
 |x::r,_,⟨c,q,e,h1,h2⟩,u,hu=>by
  rw[e] at hu
  rcases List.mem_cons.1 hu with rfl|hu
  ·exact LRp.one x _ h1
  exact bV.one r q h2 u hu
theorem Inv.lt{I:Gh}{w:World}(h:Inv I w){b o:Nat}{v:Value}(e:I b o=some v):b<w.heap.size:=World.block_lt_of_cell? w ⟨b,o,none⟩ (h b o v e)
theorem Inv.av{I:Gh}{w:World}(h:Inv I w){b:Nat}(hb:w.heap.size≤b):Av I b:=fun o=>by
 cases e:I b o with
 |none=>rfl
 |some v=>have:=h.lt e;omega
theorem Inv.ext{I:Gh}{w w':World}(h:Inv I w)(k:Ext w w'):Inv I w':=fun b o v e=>k.keep (h b o v e)
theorem Inv.drew{I:Gh}{w:World}(h:Inv I w):Inv I w.drew:=h
theorem Inv.alloc{I:Gh}{w:World}(h:Inv I w)(o:Obj):Inv I (w.alloc o):=h.ext ((Ext.refl w).alloc o)
theorem oJ{w w':World}{b:Nat}(h:w'.heap[b]?=w.heap[b]?)(o:Nat):w'.cell? ⟨b,o,none⟩=w.cell? ⟨b,o,none⟩:=by
 unfold World.cell?;simp only[h]
theorem Inv.setCell{I:Gh}{w:World}(h:Inv I w){p:Addr}(hp:Av I p.block)(u:Value):Inv I (w.setCell p u):=fun b o v e=>by
 rw[oJ (Below.heap_setCell w p u b (fun h=>by subst h;rw[hp o] at e;cases e)) o];exact h b o v e
theorem Inv.only{I:Gh}{w w':World}(h:Inv I w){g:Nat}(k:w.grownBy w' (some g))(hg:Av I g):Inv I w':=fun b o v e=>by
 rw[oJ (k.block b (h.lt e) (fun h=>by injection h with h;subst h;rw[hg o] at e;cases e)) o];exact h b o v e
theorem Inv.grown{I:Gh}{w w':World}(h:Inv I w){row:Option Nat}(k:w.grownBy w' row)(hg:∀g,row=some g→Av I g):Inv I w':=fun b o v e=>by
 rw[oJ (k.block b (h.lt e) (fun h=>by rw[hg b h.symm o] at e;cases e)) o];exact h b o v e
structure Gr (I I':Gh) (w w':World):Prop where
 le:Le I I'
 fresh:∀b o v,I' b o=some v→I b o=none→w.heap.size≤b
 inv:Inv I' w'
 ext:Ext w w'
theorem Gr.uF{I:Gh}{w w':World}(h:Inv I w)(k:Ext w w'):Gr I I w w':=⟨Le.refl I,fun b o v e f=>(by rw[f] at e;cases e),h.ext k,k⟩
theorem Gr.refl{I:Gh}{w:World}(h:Inv I w):Gr I I w w:=Gr.uF h (Ext.refl w)
theorem Gr.trans{I J K:Gh}{a b c:World}(h:Gr I J a b)(k:Gr J K b c):Gr I K a c:=
 ⟨h.le.trans k.le,fun b' o v e f=>by
  cases hj:J b' o with
  |none=>have:=k.fresh b' o v e hj;have:=h.ext.size;omega
  |some u=>exact h.fresh b' o u hj f,k.inv,h.ext.trans k.ext⟩
theorem Gr.av{I I':Gh}{w w':World}(h:Gr I I' w w'){b:Nat}(hb:b<w.heap.size)(ha:Av I b):Av I' b:=fun o=>by
 cases e:I' b o with
 |none=>rfl
 |some v=>have:=h.fresh b o v e (ha o);omega
theorem Gr.akX{I I':Gh}{w w' w2:World}(h:Gr I I' w w')(k:Ext w' w2):Gr I I' w w2:=⟨h.le,h.fresh,h.inv.ext k,h.ext.trans k⟩
theorem Gr.pre{I I':Gh}{a w w':World}(h:Gr I I' w w')(k:Ext a w):Gr I I' a w':=⟨h.le,fun b o v e f=>Nat.le_trans k.size (h.fresh b o v e f),h.inv,k.trans h.ext⟩
def yT(I:Gh)(g n:Nat)(cs:List Value):Gh:=fun b o=>if b=g then(if o<n then cs[o]? else none) else I b o
theorem vV{I:Gh}{g:Nat}(h:Av I g)(n:Nat)(cs:List Value):Le I (yT I g n cs):=fun b o v e=>by
 unfold yT
 by_cases hb:b=g
 ·subst hb;rw[h o] at e;cases e
 grind
theorem NY{I:Gh}{w:World}(h:Inv I w){g n:Nat}{cs:List Value}(hc:∀j v,j<n→cs[j]?=some v→w.cell? ⟨g,j,none⟩=some v):Inv (yT I g n cs) w:=fun b o v e=>by
 unfold yT at e
 by_cases hb:b=g
 ·grind
 rw[if_neg hb] at e;exact h b o v e
theorem VG{I:Gh}{w w':World}(hi:Inv I w'){g n:Nat}{cs:List Value}(ha:Av I g)(hg:w.heap.size≤g)(he:Ext w w')(hc:∀j v,j<n→cs[j]?=some v→w'.cell? ⟨g,j,none⟩=some v):Gr I (yT I g n cs) w w':=
 ⟨vV ha n cs,fun b o v e f=>(by
  unfold yT at e
  by_cases hb:b=g
  ·subst hb;exact hg
  rw[if_neg hb,f] at e;cases e),NY hi hc,he⟩
theorem KY{I:Gh}{g n:Nat}{cs:List Value}{j:Nat}{v:Value}(hj:j<n)(h:cs[j]?=some v):yT I g n cs g j=some v:=by unfold yT;rw[if_pos rfl,if_pos hj];exact h
theorem DJ{I:Gh}{g n:Nat}:∀(l:List (List Lf)) (o:Nat) (cs:List Value),(∀r∈l,r.length=n)→bV I l.flatten cs→(∀j v,cs[j]?=some v→I g (o+j)=some v)→RRp I g n o l
 |[],_,_,_,_,_=>by unfold RRp;trivial
 |r::q,o,cs,hl,hv,hc=>by
  rw[List.flatten_cons] at hv
  obtain⟨ds,es,rfl,h1,h2⟩:=bV.split r q.flatten cs hv
  have hd:ds.length=n:=by rw[bV.len r ds h1];exact hl r (by simp)
  unfold RRp
  refine⟨hl r (by simp),CRp.of r o ds h1 (fun j v hj=>hc j v (by rw[List.getElem?_append_left (List.getElem?_eq_some_iff.1 hj).1];exact hj)),DJ q (o+n) es (fun r hr=>hl r (by simp[hr])) h2 (fun j v hj=>?_)⟩
  have:=hc (n+j) v (by rw[List.getElem?_append_right (by omega)];rw[hd];simpa using hj)
  grind
def Acc(I:Gh)(w:World)(base:Nat)(e:TypeId)(n:Nat)(x:Value)(l:List (List Lf)):Prop:=
 ∃xs,w.ownsRow base e n x l.length xs∧bV I l.flatten xs∧(∀r∈l,r.length=n)∧∀g,x.ownBlock=some g→Av I g
theorem Acc.nil(I:Gh)(w:World)(base:Nat)(e:TypeId)(n:Nat):Acc I w base e n (.slice none 0 0) []:=⟨[],World.ownsRow_nil w base e n,rfl,(fun r h=>by cases h),(fun g h=>by cases h)⟩
theorem Acc.shape{I:Gh}{w:World}{base:Nat}{e:TypeId}{n:Nat}{x:Value}{l:List (List Lf)}(h:Acc I w base e n x l):∃a c,x=.slice a l.length c:=by
 obtain⟨xs,h1,_⟩:=h
 rcases h1.2 with⟨rfl,h0⟩|⟨g,cap,cur,rfl,_⟩
 all_goals grind
theorem Acc.done{I:Gh}{w w0:World}{base:Nat}{e:TypeId}{n:Nat}{x:Value}{l:List (List Lf)}(h:Acc I w base e n x l)(hi:Inv I w)(hb:w0.heap.size≤base)(he:Ext w0 w):
 ∃I',Gr I I' w0 w∧LRp I' (.rows n l) x:=by
 obtain⟨xs,h1,h2,h3,h4⟩:=h
 rcases h1.2 with⟨rfl,h0⟩|⟨g,cap,cur,rfl,hg,hblk,hn,hm,hsz,htk⟩
 ·obtain rfl:l=[]:=List.eq_nil_of_length_eq_zero h0
  exact⟨I,⟨Le.refl I,fun b o v e f=>(by rw[f] at e;cases e),hi,he⟩,LRp.nil I n⟩
 have hxl:xs.length=l.length*n:=h1.1
 have hc:∀j v,j<l.length*n→xs[j]?=some v→w.cell? ⟨g,j,none⟩=some v:=fun j v hj hv=>by
  rw[lq hblk j]
  grind
 refine⟨yT I g (l.length*n) xs,VG hi (h4 g rfl) (by omega) he hc,?_⟩
 unfold LRp
 refine⟨_,cap,rfl,hn,hm,fun _=>⟨g,0,rfl,DJ l 0 xs h3 (bV.mono (vV (h4 g rfl) _ _) _ _ h2) (fun j v hj=>?_)⟩⟩
 rw[Nat.zero_add]
 exact KY (by have:=(List.getElem?_eq_some_iff.1 hj).1;omega) hj
inductive AV where
 |lf (x:Lf)
 |dat (r:List Lf)
 |dp (r:List Lf) (off:Nat)
 |ptr (b off:Nat)
 |pY (b n j off:Nat)
 |own (b:Nat)
 |agg (l:List AV)
 |tup (l:List AV)
 |bK (n:Nat)
 |raw (v:Value)
 |mp (b:Nat)
 |clo (f:FuncId) (l:List AV)
 |hnd (b:Nat) (o:Option Nat)
 |any
structure Env where
 ok:Nat→Prop
 m:Nat→Nat
 sv:Nat→Value
 I:Gh
 im:Nat→Nat→Option Nat
 fp:Nat→Nat→Prop
structure Env.le (e e':Env):Prop where
 ok:∀b,e.ok b→e'.ok b
 m:∀b,e.ok b→e'.m b=e.m b
 sv:∀b,e.ok b→e'.sv b=e.sv b
 I:Le e.I e'.I
 im:∀b,e.ok b→∀j v,e.im b j=some v→e'.im b j=some v
theorem Env.le.refl(e:Env):e.le e:=⟨fun _ h=>h,fun _ _=>rfl,fun _ _=>rfl,Le.refl _,fun _ _ _ _ h=>h⟩
theorem Env.le.trans{a b c:Env}(h:a.le b)(k:b.le c):a.le c:=
 ⟨fun x hx=>k.ok x (h.ok x hx),fun x hx=>(k.m x (h.ok x hx)).trans (h.m x hx),fun x hx=>(k.sv x (h.ok x hx)).trans (h.sv x hx),h.I.trans k.I,fun x hx j v hv=>k.im x (h.ok x hx) j v (h.im x hx j v hv)⟩
mutual
def VR (e:Env):AV→Value→Prop
 |.lf x,v=>LRp e.I x v
 |.dat r,v=>∃cs,v=.agg cs.toArray∧bV e.I r cs
 |.dp r off,v=>∃b o,v=.pointer (some ⟨b,o+off,none⟩)∧CRp e.I b o r
 |.ptr b off,v=>e.ok b∧v=.pointer (some ⟨e.m b,off,none⟩)
 |.pY b n j off,v=>e.ok b∧∃g l c,e.sv b=.slice (some ⟨g,0,none⟩) l c∧v=.pointer (some ⟨g,j*n+off,none⟩)
 |.own b,v=>e.ok b∧v=e.sv b∧∃a l c,v=.slice a l c
 |.agg l,v=>∃cs,v=.agg cs.toArray∧VRs e l cs
 |.tup l,v=>∃cs,v=.tuple cs.toArray∧VRs e l cs
 |.bK _,v=>v=.slice none 0 0
 |.raw u,v=>v=u
 |.mp b,v=>e.ok b∧v=.map (some (e.m b))
 |.clo f l,v=>∃cs,v=.func (.func f) #[] cs.toArray∧VRs e l cs
 |.hnd b o,v=>e.ok b∧match o with
  |some j=>∃r,e.im b j=some r∧v=.map (some r)
  |none=>v=.map none
 |.any,_=>True
def VRs (e:Env):List AV→List Value→Prop
 |[],cs=>cs=[]
 |x::r,cs=>∃c q,cs=c::q∧VR e x c∧VRs e r q
end
mutual
theorem VR.mono {e e':Env} (h:e.le e'):∀(x:AV) (v:Value),VR e x v→VR e' x v
 |.lf x,v,hv=>by unfold VR at hv ⊢;exact LRp.mono h.I _ _ hv
 |.dat r,v,hv=>by
  unfold VR at hv ⊢
  obtain⟨cs,e1,h1⟩:=hv
  exact⟨cs,e1,bV.mono h.I _ _ h1⟩
 |.dp r off,v,hv=>by
  unfold VR at hv ⊢
  obtain⟨b,o,e1,h1⟩:=hv
  exact⟨b,o,e1,CRp.mono h.I _ _ _ h1⟩
 |.ptr b off,v,hv=>by
  unfold VR at hv ⊢
  exact⟨h.ok b hv.1,by rw[h.m b hv.1];exact hv.2⟩
 |.pY b n j off,v,hv=>by
  unfold VR at hv ⊢
  exact⟨h.ok b hv.1,by rw[h.sv b hv.1];exact hv.2⟩
 |.own b,v,hv=>by
  unfold VR at hv ⊢
  exact⟨h.ok b hv.1,by rw[h.sv b hv.1];exact hv.2⟩
 |.agg l,v,hv=>by
  unfold VR at hv ⊢
  obtain⟨cs,e1,h1⟩:=hv
  exact⟨cs,e1,VRs.mono h _ _ h1⟩
 |.tup l,v,hv=>by
  unfold VR at hv ⊢
  obtain⟨cs,e1,h1⟩:=hv
  exact⟨cs,e1,VRs.mono h _ _ h1⟩
 |.bK n,v,hv=>by unfold VR at hv ⊢;exact hv
 |.raw u,v,hv=>by unfold VR at hv ⊢;exact hv
 |.mp b,v,hv=>by
  unfold VR at hv ⊢
  exact⟨h.ok b hv.1,by rw[h.m b hv.1];exact hv.2⟩
 |.clo f l,v,hv=>by
  unfold VR at hv ⊢
  obtain⟨cs,e1,h1⟩:=hv
  exact⟨cs,e1,VRs.mono h _ _ h1⟩
 |.hnd b o,v,hv=>by
  unfold VR at hv ⊢
  cases o with
  |none=>exact⟨h.ok b hv.1,hv.2⟩
  |some j=>
   obtain⟨k,r,h1,h2⟩:=hv
   exact⟨h.ok b k,r,h.im b k j r h1,h2⟩
 |.any,v,hv=>by unfold VR;trivial
theorem VRs.mono {e e':Env} (h:e.le e'):∀(l:List AV) (cs:List Value),VRs e l cs→VRs e' l cs
 |[],cs,hv=>by unfold VRs at hv ⊢;exact hv
 |x::r,cs,hv=>by
  unfold VRs at hv ⊢
  obtain⟨c,q,e1,h1,h2⟩:=hv
  exact⟨c,q,e1,VR.mono h _ _ h1,VRs.mono h _ _ h2⟩
end
theorem VRs.len{e:Env}:∀(l:List AV) (cs:List Value),VRs e l cs→cs.length=l.length
 |[],cs,h=>by unfold VRs at h;rw[h];rfl
 |x::r,cs,h=>by
  unfold VRs at h
  obtain⟨c,q,rfl,_,h2⟩:=h
  simp[VRs.len r q h2]
theorem VRs.at_{e:Env}:∀(l:List AV) (cs:List Value),VRs e l cs→∀(j:Nat) (x:AV),l[j]?=some x→∃c,cs[j]?=some c∧VR e x c
 |[],cs,h,j,x,hj=>by simp at hj
 |y::r,cs,h,j,x,hj=>by
  unfold VRs at h
  obtain⟨c,q,rfl,h1,h2⟩:=h
  cases j with
  |zero=>
   grind
  |succ j=>
   obtain⟨c', h3, h4⟩:=VRs.at_ r q h2 j x (by simpa using hj)
   grind
theorem VRs.app{e:Env}:∀(l m:List AV) (cs ds:List Value),VRs e l cs→VRs e m ds→VRs e (l++m) (cs++ds)
 |[],m,cs,ds,h,k=>by unfold VRs at h;rw[h];exact k
 |x::r,m,cs,ds,h,k=>by
  unfold VRs at h
  obtain⟨c,q,rfl,h1,h2⟩:=h
  rw[List.cons_append,List.cons_append]
  unfold VRs
  exact⟨c,q++ds,rfl,h1,VRs.app r m q ds h2 k⟩
theorem VRs.take{e:Env}:∀(n:Nat) (l:List AV) (cs:List Value),VRs e l cs→VRs e (l.take n) (cs.take n)
 |0,l,cs,h=>by simp only[List.take_zero];unfold VRs;rfl
 |n+1,[],cs,h=>by unfold VRs at h;rw[h];simp only[List.take_nil];unfold VRs;rfl
 |n+1,x::r,cs,h=>by
  unfold VRs at h
  obtain⟨c,q,rfl,h1,h2⟩:=h
  simp only[List.take_succ_cons]
  unfold VRs
  exact⟨c,q.take n,rfl,h1,VRs.take n r q h2⟩
theorem VRs.drop{e:Env}:∀(n:Nat) (l:List AV) (cs:List Value),VRs e l cs→VRs e (l.drop n) (cs.drop n)
 |0,l,cs,h=>by simp only[List.drop_zero];exact h
 |n+1,[],cs,h=>by unfold VRs at h;rw[h];simp only[List.drop_nil];unfold VRs;rfl
 |n+1,x::r,cs,h=>by
  unfold VRs at h
  obtain⟨c,q,rfl,h1,h2⟩:=h
  simp only[List.drop_succ_cons]
  exact VRs.drop n r q h2
theorem VRs.one{e:Env}{x:AV}{v:Value}(h:VR e x v):VRs e [x] [v]:=by
 unfold VRs;exact⟨v,[],rfl,h,by unfold VRs;rfl⟩
theorem VRs.cons{e:Env}{x:AV}{v:Value}{l:List AV}{cs:List Value}(h:VR e x v)(k:VRs e l cs):VRs e (x::l) (v::cs):=by
 unfold VRs;exact⟨v,cs,rfl,h,k⟩
theorem VRs.nil{e:Env}:VRs e [] []:=by rfl
theorem VR.lf{e:Env}{x:Lf}{v:Value}:VR e (.lf x) v↔LRp e.I x v:=by rfl
theorem VR.dat{e:Env}{r:List Lf}{v:Value}:VR e (.dat r) v↔∃cs,v=.agg cs.toArray∧bV e.I r cs:=by rfl
theorem VR.agg{e:Env}{l:List AV}{v:Value}:VR e (.agg l) v↔∃cs,v=.agg cs.toArray∧VRs e l cs:=by rfl
theorem VR.tup{e:Env}{l:List AV}{v:Value}:VR e (.tup l) v↔∃cs,v=.tuple cs.toArray∧VRs e l cs:=by rfl
theorem VR.clo{e:Env}{f:FuncId}{l:List AV}{v:Value}:VR e (.clo f l) v↔∃cs,v=.func (.func f) #[] cs.toArray∧VRs e l cs:=by rfl
theorem VRs.A8{e:Env}:∀(r:List Lf) (cs:List Value),bV e.I r cs↔VRs e (r.map .lf) cs
 |[],cs=>by show cs=[]↔_;rw[List.map_nil];unfold VRs;exact Iff.rfl
 |x::r,cs=>by
  rw[List.map_cons]
  unfold VRs
  constructor
  ·rintro⟨c,q,e1,h1,h2⟩;exact⟨c,q,e1,VR.lf.2 h1,(VRs.A8 r q).1 h2⟩
  rintro⟨c,q,e1,h1,h2⟩;exact⟨c,q,e1,VR.lf.1 h1,(VRs.A8 r q).2 h2⟩
def lfs:List AV→Option (List Lf)
 |[]=>some []
 |.lf x::r=>match lfs r with
  |some q=>some (x::q)
  |none=>none
 |.bK n::r=>match lfs r with
  |some q=>some (.rows n []::q)
  |none=>none
 |_::_=>none
theorem KZ{e:Env}:∀(l:List AV) (r:List Lf) (cs:List Value),lfs l=some r→VRs e l cs→bV e.I r cs
 |[],r,cs,h,k=>by
  simp[lfs] at h;subst h
  unfold VRs at k;exact k
 |x::q,r,cs,h,k=>by
  unfold VRs at k
  obtain⟨c,s,rfl,k1,k2⟩:=k
  cases x<;>simp only[lfs] at h<;>try cases h
  ·cases hq:lfs q with
   |none=>grind
   |some p=>
    rw[hq] at h;injection h with h;subst h
    exact⟨c,s,rfl,VR.lf.1 k1,KZ q p s hq k2⟩
  cases hq:lfs q with
  |none=>grind
  |some p=>
   rw[hq] at h;injection h with h;subst h
   unfold VR at k1
   subst k1
   exact⟨_,s,rfl,LRp.nil _ _,KZ q p s hq k2⟩
def AV.n1:AV→AV
 |.agg [.lf x]=>.dat [x]
 |y=>y
theorem VR.n1{e:Env}{x:AV}{v:Value}(h:VR e x v):VR e x.n1 v:=by
 unfold AV.n1
 split
 ·obtain⟨cs,e1,h1⟩:=VR.agg.1 h
  exact VR.dat.2 ⟨cs,e1,(VRs.A8 _ cs).2 h1⟩
 exact h
def AV.toD:AV→Option AV
 |.lf x=>some (.lf x)
 |.dat r=>some (.dat r)
 |.dp r off=>some (.dp r off)
 |.agg l=>match lfs l with
  |some r=>some (.dat r)
  |none=>none
 |.bK n=>some (.lf (.rows n []))
 |.raw (.func fn a b)=>some (.raw (.func fn a b))
 |_=>none
theorem VR.toD{e:Env}{x y:AV}{v:Value}(h:x.toD=some y)(hv:VR e x v):VR e y v:=by
 unfold AV.toD at h
 split at h
 ·grind
 ·grind
 ·grind
 ·split at h
  ·rename_i r hr
   injection h with h
   subst h
   obtain⟨cs,e1,h1⟩:=VR.agg.1 hv
   exact VR.dat.2 ⟨cs,e1,KZ _ r cs hr h1⟩
  cases h
 ·injection h with h;subst h
  unfold VR at hv
  subst hv
  rw[VR.lf];exact LRp.nil _ _
 all_goals grind
def AV.aay:AV→AV
 |.bK n=>.lf (.rows n [])
 |x=>x
theorem VRs.aay{e:Env}:∀(l:List AV) (cs:List Value),VRs e l cs→VRs e (l.map AV.aay) cs
 |[],cs,h=>h
 |x::r,cs,h=>by
  unfold VRs at h
  obtain⟨c,q,rfl,h1,h2⟩:=h
  rw[List.map_cons]
  refine VRs.cons ?_ (VRs.aay r q h2)
  cases x<;>first|exact h1|skip
  unfold VR at h1
  subst h1
  show VR e (.lf (.rows _ [])) _
  rw[VR.lf];exact LRp.nil _ _
def AV.asT(v:AV):AV:=match v.toD with
 |some d=>d
 |none=>v
theorem VR.asT{e:Env}{x:AV}{v:Value}(h:VR e x v):VR e x.asT v:=by
 unfold AV.asT
 split
 ·rename_i d hd;exact VR.toD hd h
 exact h
def AV.asD(v:AV):AV:=match v.toD with
 |some d=>d
 |none=>match v with
  |.agg l=>.agg (l.map AV.aay)
  |v=>v
theorem VR.asD{e:Env}{x:AV}{v:Value}(h:VR e x v):VR e x.asD v:=by
 unfold AV.asD
 split
 ·rename_i d hd;exact VR.toD hd h
 split
 ·rename_i l _
  obtain⟨cs,e1,h1⟩:=VR.agg.1 h
  exact VR.agg.2 ⟨cs,e1,VRs.aay l cs h1⟩
 exact h
def AV.aaz:AV→Bool
 |.lf _|.dat _|.dp _ _|.raw _|.bK _=>true
 |_=>false
def AV.isD:AV→Bool
 |.tup l=>l.all AV.aaz
 |x=>x.aaz
theorem VR.NZ{e e':Env}(hI:e'.I=e.I){x:AV}(hx:x.aaz=true){v:Value}(h:VR e x v):VR e' x v:=by
 cases x<;>simp[AV.aaz] at hx
 ·rw[VR.lf] at h ⊢;rw[hI];exact h
 ·rw[VR.dat] at h ⊢;rw[hI];exact h
 ·unfold VR at h ⊢;rw[hI];exact h
 ·unfold VR at h ⊢;exact h
 unfold VR at h ⊢;exact h
theorem VRs.NZ{e e':Env}(hI:e'.I=e.I):∀(l:List AV) (cs:List Value),(l.all AV.aaz)=true→VRs e l cs→VRs e' l cs
 |[],cs,_,h=>by unfold VRs at h ⊢;exact h
 |x::r,cs,hx,h=>by
  unfold VRs at h ⊢
  obtain⟨c,q,e1,h1,h2⟩:=h
  rw[List.all_cons,Bool.and_eq_true] at hx
  exact⟨c,q,e1,VR.NZ hI hx.1 h1,VRs.NZ hI r q hx.2 h2⟩
theorem VR.free{e e':Env}(hI:e'.I=e.I){x:AV}(hx:x.isD=true){v:Value}(h:VR e x v):VR e' x v:=by
 cases x<;>simp only[AV.isD] at hx
 case tup l=>
  obtain⟨cs,e1,h1⟩:=VR.tup.1 h
  exact VR.tup.2 ⟨cs,e1,VRs.NZ hI l cs hx h1⟩
 all_goals first|exact VR.NZ hI rfl h|cases hx
theorem ae8{x y:AV}(h:x.toD=some y):y.isD=true:=by
 unfold AV.toD at h
 split at h
 ·injection h with h;subst h;rfl
 ·injection h with h;subst h;rfl
 ·injection h with h;subst h;rfl
 ·split at h
  ·injection h with h;subst h;rfl
  cases h
 ·injection h with h;subst h;rfl
 ·injection h with h;subst h;rfl
 cases h
def AV.G8:AV→Bool
 |.lf _|.dp _ _|.ptr _ _|.pY _ _ _ _|.bK _|.own _|.mp _|.clo _ _|.hnd _ _=>true
 |.raw v=>v.oneCell'
 |_=>false
theorem VR.one{e:Env}{x:AV}(hx:x.G8=true){v:Value}(h:VR e x v):v.oneCell'=true:=by
 cases x<;>simp only[AV.G8] at hx<;>try cases hx
 ·exact LRp.one _ _ (VR.lf.1 h)
 ·unfold VR at h;obtain⟨b,o,rfl,_⟩:=h;rfl
 ·unfold VR at h;rw[h.2];rfl
 ·unfold VR at h;obtain⟨_,g,l,c,_,rfl⟩:=h;rfl
 ·unfold VR at h;obtain⟨_,_,a,l,c,rfl⟩:=h;rfl
 ·unfold VR at h;rw[h];rfl
 ·unfold VR at h;rw[h];exact hx
 ·unfold VR at h;rw[h.2];rfl
 ·obtain⟨cs,rfl,_⟩:=VR.clo.1 h;rfl
 unfold VR at h
 rename_i b o
 cases o with
 |none=>rw[h.2];rfl
 |some j=>obtain⟨_,r,_,rfl⟩:=h;rfl
inductive TD where
 |int (k:IntKind)
 |bool
 |str
 |slice (e:TypeId)
 |struct (fs:List (Nat×Nat×Bool))
 |map (k e:TypeId)
 |arr (e:TypeId) (n:Nat)
 |ptr
 |other
structure TI where
 t:TypeId
 d:TD
 size:Nat
 bytes:Nat
 z:Option AV
abbrev TT:=List TI
def jm:TT→TypeId→Option TI
 |[],_=>none
 |i::r,t=>match Nat.beq i.t t with
  |true=>some i
  |false=>jm r t
def fsb(P:Program):List (Nat×Nat×Bool)→List Field→Bool
 |[],[]=>true
 |(o,n,g)::r,f::q=>decide (f.offset=o)&&decide (P.cellsOf f.type=n)&&decide (0<n)&&(P.info? f.type).isSome&&(match P.underlying f.type with|some d=>d.isRow==g|none=>false)&&fsb P r q
 |_,_=>false
def tdb(P:Program)(t:TypeId):TD→Bool
 |.int k=>match P.underlying t with|some (.int k')=>decide (k'=k)|_=>false
 |.bool=>match P.underlying t with|some .bool=>true|_=>false
 |.str=>match P.underlying t with|some .string=>true|_=>false
 |.slice e=>match P.underlying t with|some (.slice e')=>decide (e'=e)|_=>false
 |.struct fs=>match P.underlying t with|some (.struct gs)=>fsb P fs gs.toList|_=>false
 |.map k e=>match P.underlying t with|some (.map k' e')=>decide (k'=k)&&decide (e'=e)|_=>false
 |.arr e n=>match P.underlying t with|some (.array n' e')=>decide (n'=n)&&decide (e'=e)|_=>false
 |.ptr=>match P.underlying t with|some (.pointer _)=>true|_=>false
 |.other=>match P.underlying t with|some d=>!d.isRow|none=>false
def zb1:AV→Value→Bool
 |.lf (.int k n),.int k' n'=>decide (k'=k)&&decide (n'=n)&&(Lit.int k n).wf
 |.lf (.str s),.string s'=>decide (s.size=0)&&decide (s'.size=0)
 |.lf (.bool b),.bool b'=>b'==b
 |.bK _,.slice none 0 0=>true
 |.raw (.pointer none),.pointer none=>true
 |.raw (.map none),.map none=>true
 |_,_=>false
def zbs:List AV→List Value→Bool
 |[],[]=>true
 |x::r,v::q=>zb1 x v&&zbs r q
 |_,_=>false
def zb:AV→Value→Bool
 |.agg l,.agg cs=>zbs l cs.toList
 |x,v=>zb1 x v
def tib(P:Program)(i:TI):Bool:=
 match P.info? i.t with
 |some ti=>decide (ti.size=i.size)&&decide (ti.bytes=i.bytes)&&tdb P i.t i.d&&(match i.z with
  |some z=>match ti.zero with
   |some v=>zb z v&&decide (v.cells.size=i.size)
   |none=>false
  |none=>true)
 |none=>false
def ttb(P:Program)(tt:TT):Bool:=tt.all (tib P)
theorem aaA{tt:TT}{t:TypeId}{i:TI}(h:jm tt t=some i):i∈tt∧i.t=t:=by
 induction tt with
 |nil=>cases h
 |cons j r ih=>
  unfold jm at h
  split at h
  all_goals simp_all
theorem VH{x:AV}{v:Value}(h:zb1 x v=true)(e:Env):VR e x v:=by
 unfold zb1 at h
 split at h
 ·simp only[Bool.and_eq_true,decide_eq_true_eq] at h
  obtain⟨⟨rfl,rfl⟩,h3⟩:=h
  rw[VR.lf];unfold LRp;exact⟨rfl,h3⟩
 ·simp only[Bool.and_eq_true,decide_eq_true_eq] at h
  rename_i s s'
  have:s'=s:=by
   simp_all
  subst this
  rw[VR.lf];unfold LRp;exact⟨rfl,by rw[h.1];omega⟩
 ·rw[VR.lf];unfold LRp;rw[eq_of_beq h]
 ·unfold VR;rfl
 ·unfold VR;rfl
 ·unfold VR;rfl
 cases h
theorem VI:∀{l:List AV} {cs:List Value},zbs l cs=true→∀e:Env,VRs e l cs
 |[],[],_,e=>VRs.nil
 |[],_::_,h,e=>by simp[zbs] at h
 |_::_,[],h,e=>by simp[zbs] at h
 |x::r,v::q,h,e=>by
  simp only[zbs,Bool.and_eq_true] at h
  exact VRs.cons (VH h.1 e) (VI h.2 e)
theorem aiH{x:AV}{v:Value}(h:zb x v=true)(e:Env):VR e x v:=by
 unfold zb at h
 split at h
 ·rename_i l cs
  exact VR.agg.2 ⟨cs.toList,by simp,VI h e⟩
 exact VH h e
structure rV (P:Program) (i:TI):Prop where
 info:∃ti,P.info? i.t=some ti∧ti.size=i.size∧ti.bytes=i.bytes∧∀z,i.z=some z→∃v,ti.zero=some v∧v.cells.size=i.size∧∀e:Env,VR e z v
 d:tdb P i.t i.d=true
theorem gG{P:Program}{tt:TT}(h:ttb P tt=true){t:TypeId}{i:TI}(hi:jm tt t=some i):rV P i∧i.t=t:=by
 obtain⟨h1,h2⟩:=aaA hi
 have h3:=List.all_eq_true.1 h i h1
 refine⟨?_,h2⟩
 unfold tib at h3
 split at h3
 ·rename_i ti hti
  simp only[Bool.and_eq_true,decide_eq_true_eq] at h3
  obtain⟨⟨⟨h4,h5⟩,h6⟩,h7⟩:=h3
  refine⟨⟨ti,hti,h4,h5,fun z hz=>?_⟩,h6⟩
  rw[hz] at h7
  simp only at h7
  split at h7
  ·rename_i v hv
   simp only[Bool.and_eq_true,decide_eq_true_eq] at h7
   exact⟨v,hv,h7.2,fun e=>aiH h7.1 e⟩
  cases h7
 cases h3
def CP(x:AV)(o n:Nat)(g:Bool):Option AV:=
 match x with
 |.dat r=>match g with
  |true=>match Nat.ble (o+n) r.length with
   |true=>some (.dat ((r.drop o).take n))
   |false=>none
  |false=>match r[o]? with
   |some y=>some (.lf y)
   |none=>none
 |.agg l=>match g with
  |true=>match Nat.ble (o+n) l.length with
   |true=>some (.agg ((l.drop o).take n))
   |false=>none
  |false=>l[o]?
 |_=>none
theorem bV.VJ{I:Gh}:∀(n:Nat) (l:List Lf) (cs:List Value),bV I l cs→bV I (l.drop n) (cs.drop n)
 |0,l,cs,h=>by simp only[List.drop_zero];exact h
 |n+1,[],cs,h=>by
  have:cs=[]:=h
  grind
 |n+1,x::r,cs,h=>by
  obtain⟨c,q,rfl,h1,h2⟩:=h
  simp only[List.drop_succ_cons]
  exact bV.VJ n r q h2
theorem bV.takeN{I:Gh}:∀(n:Nat) (l:List Lf) (cs:List Value),bV I l cs→bV I (l.take n) (cs.take n)
 |0,l,cs,h=>by simp only[List.take_zero];rfl
 |n+1,[],cs,h=>by
  have:cs=[]:=h
  grind
 |n+1,x::r,cs,h=>by
  obtain⟨c,q,rfl,h1,h2⟩:=h
  simp only[List.take_succ_cons]
  exact⟨c,q.take n,rfl,h1,bV.takeN n r q h2⟩
theorem Ia{e:Env}{x y:AV}{cs:List Value}{o n:Nat}(h:VR e x (.agg cs.toArray))(hp:CP x o n true=some y):o+n≤cs.length∧VR e y (.agg ((cs.drop o).take n).toArray):=by
 unfold CP at hp
 split at hp
 ·simp only at hp
  split at hp
  ·rename_i r _ hb
   injection hp with hp
   subst hp
   obtain⟨ds,e1,h1⟩:=VR.dat.1 h
   have e2:cs=ds:=by injection e1 with e1;exact List.toArray_inj e1
   subst e2
   have hl:=bV.len r cs h1
   have hb:=Nat.le_of_ble_eq_true hb
   exact⟨by omega,VR.dat.2 ⟨_,rfl,bV.takeN n _ _ (bV.VJ o _ _ h1)⟩⟩
  cases hp
 ·simp only at hp
  split at hp
  ·rename_i l _ hb
   injection hp with hp
   subst hp
   obtain⟨ds,e1,h1⟩:=VR.agg.1 h
   have e2:cs=ds:=by injection e1 with e1;exact List.toArray_inj e1
   subst e2
   have hl:=VRs.len l cs h1
   have hb:=Nat.le_of_ble_eq_true hb
   exact⟨by omega,VR.agg.2 ⟨_,rfl,VRs.take n _ _ (VRs.drop o _ _ h1)⟩⟩
  cases hp
 cases hp
theorem Ib{e:Env}{x y:AV}{cs:List Value}{o n:Nat}(h:VR e x (.agg cs.toArray))(hp:CP x o n false=some y):∃u,cs[o]?=some u∧VR e y u:=by
 unfold CP at hp
 split at hp
 ·simp only at hp
  split at hp
  ·rename_i r _ z hz
   injection hp with hp
   subst hp
   obtain⟨ds,e1,h1⟩:=VR.dat.1 h
   have e2:cs=ds:=by injection e1 with e1;exact List.toArray_inj e1
   subst e2
   obtain⟨c,h2,h3⟩:=bV.at_ r cs h1 o z hz
   exact⟨c,h2,VR.lf.2 h3⟩
  cases hp
 ·simp only at hp
  rename_i l
  obtain⟨ds,e1,h1⟩:=VR.agg.1 h
  have e2:cs=ds:=by injection e1 with e1;exact List.toArray_inj e1
  subst e2
  exact VRs.at_ l cs h1 o y hp
 cases hp
structure Rsc where
 At:Gh→World→Nat→(Nat→Option Nat)→(Nat→Prop)→Value→Prop
 mono:∀{I I':Gh} {w w':World} {g:Nat} {im:Nat→Option Nat} {F:Nat→Prop} {v:Value},At I w g im F v→Le I I'→(∀x,F x→w'.heap[x]?=w.heap[x]?)→At I' w' g im F v
 lt:∀{I:Gh} {w:World} {g:Nat} {im:Nat→Option Nat} {F:Nat→Prop} {v:Value},At I w g im F v→∀x,F x→x<w.heap.size
inductive Slot where
 |box (ty:TypeId) (cs:AV)
 |row (ty:TypeId) (n:Nat) (l:List (List Lf))
 |dead
 |free
 |map (P:Program) (k et:TypeId) (l:List (ByteArray×Lf))
 |res (R:Rsc) (lk:Option Nat)
inductive RT where
 |fin
 |q (i:Nat) (r:RT)
 |l (i:Nat) (r:RT)
 |alt (i:Nat) (ri r:RT)
inductive Ans where
 |br (b:Bool)
 |gd (j:Nat) (b:Bool)
 |row (r:List Lf)
 |rows (l:List (List Lf))
 |num (n:Nat)
 |byt (b:UInt8)
 |nums (xs:List Int)
 |res (v:AV)
 |iO (bs:List Nat) (v:AV) (H:List Slot)
 |opH (bs:List Nat) (v:AV) (H:List Slot)
 |gho (bs:List Nat) (H:List Slot)
 |slot (b:Nat)
 |frz (b:Nat)
 |Tj (b:Nat) (l:List (List Lf))
 |norm (b:Nat)
 |resv (n:Nat)
 |nil (t n:Nat)
 |yU (t:Nat) (ty:TypeId) (n:Nat)
 |XW (b o:Nat) (ty:TypeId)
 |order (l:List (Bool×Nat)) (L:Option Nat) (ch:List Nat)
 |nZ (l:List (Bool×Nat)) (L:Option Nat) (ch:List Nat)
 |tod (t:Nat)
 |kill (b:Nat)
 |mvn (b:Nat)
 |akY (t o:Nat) (ty:TypeId)
 |lQ (b:Nat) (l:List (List Lf))
 |at_ (n i:Nat)
 |both (a b:List Ans)
 |eG (t:RT) (L:Option Nat) (ch:List Nat) (aq:List Ans) (keys:List Nat) (k:Nat) (T:List (Nat×AV)) (H:List Slot)
 |seg (id:Nat) (gs:List Ans) (m:Nat) (keys:List Nat) (k:Nat) (T:List (Nat×AV)) (H:List Slot)
 |part (gs:List Ans) (kind:Nat) (keys:List Nat) (k:Nat) (x:Exit) (T:List (Nat×AV)) (H:List Slot)
def Lf.wfL:Lf→Prop
 |.int k n=>(Lit.int k n).wf=true
 |.str s=>s.size≤maxLen
 |.bool _=>True
 |.rows _ _=>False
def N7:Lf→DataW Unit
 |.int k n=>.lit (.int k n)
 |.bool b=>.lit (.bool b)
 |.str s=>.lit (.string s.data.toList)
 |.rows _ _=>.map []
def mapD:List (ByteArray×Lf)→DataW Unit
 |[]=>.map []
 |(s,x)::r=>(mapD r).put (.string s.data.toList) (N7 x)
def lk:List (Nat×AV)→Nat→Option AV
 |[],_=>none
 |(k,v)::r,t=>match Nat.beq k t with
  |true=>some v
  |false=>lk r t
def ofV:Value→Option AV
 |.int k n=>match (Lit.int k n).wf with
  |true=>some (.lf (.int k n))
  |false=>none
 |.string s=>match Nat.ble s.size maxLen with
  |true=>some (.lf (.str s))
  |false=>none
 |.bool b=>some (.lf (.bool b))
 |v=>some (.raw v)
def ev(T:List (Nat×AV)):Operand→Option AV
 |.tmp t=>lk T t
 |.const v=>ofV v
 |.func f=>some (.raw (.func (.func f) #[] #[]))
 |.global _=>none
def iP(e:Env)(T:List (Nat×AV))(tmps:Array Value):Prop:=∀t v,lk T t=some v→∃u,tmps[t]?=some u∧VR e v u
theorem ae9{v:Value}{x:AV}(h:ofV v=some x)(e:Env):VR e x v:=by
 unfold ofV at h
 split at h
 ·split at h
  ·rename_i hw
   injection h with h;subst h
   rw[VR.lf];unfold LRp;exact⟨rfl,hw⟩
  cases h
 ·split at h
  ·rename_i hw
   injection h with h;subst h
   rw[VR.lf];unfold LRp;exact⟨rfl,Nat.le_of_ble_eq_true hw⟩
  cases h
 ·injection h with h;subst h
  rfl
 injection h with h;subst h
 rfl
theorem dh{e:Env}{T:List (Nat×AV)}{a:Act}(hT:iP e T a.tmps){o:Operand}{x:AV}(h:ev T o=some x):VR e x (a.eval o):=by
 cases o with
 |tmp t=>
  obtain⟨u,h1,h2⟩:=hT t x h
  show VR e x (a.tmps.getD t undef)
  simp_all
 |const v=>exact ae9 h e
 |global g=>cases h
 |func f=>injection h with h;subst h;unfold VR;rfl
def aaB(z:Option AV):AV→AV
 |.raw (.slice none 0 0)=>match z with
  |some (.bK n)=>.bK n
  |_=>.raw (.slice none 0 0)
 |v=>v
def evN(z:Option AV)(T:List (Nat×AV))(o:Operand):Option AV:=(ev T o).map (aaB z)
theorem VR.aaB{e:Env}{z:Option AV}{x:AV}{v:Value}(h:VR e x v):VR e (aaB z x) v:=by
 unfold Proofs.YtpdlghcgekojlaaGreatDoor.aaB
 split
 ·split
  ·unfold VR at h ⊢;exact h
  exact h
 exact h
theorem La{e:Env}{z:Option AV}{T:List (Nat×AV)}{a:Act}(hT:iP e T a.tmps){o:Operand}{x:AV}(h:evN z T o=some x):VR e x (a.eval o):=by
 unfold evN at h
 rw[Option.map_eq_some_iff] at h
 obtain⟨y,h1,rfl⟩:=h
 exact(dh hT h1).aaB
def HV(e:Env)(C:Nat→List Value)(b:Nat):Slot→Prop
 |.box _ cs=>e.ok b∧VR e cs (.agg (C b).toArray)
 |.row _ n l=>e.ok b∧bV e.I l.flatten (C b)∧(∀r∈l,r.length=n)∧l.length≤maxLen∧((e.sv b=.slice none 0 0∧l=[])∨∃g c,e.sv b=.slice (some ⟨g,0,none⟩) l.length c)
 |.dead=>True
 |.free=>¬e.ok b
 |.map _ _ _ l=>e.ok b∧∀p∈l,p.2.wfL
 |.res _ _=>e.ok b
def HW(e:Env)(C:Nat→List Value)(w:World)(b:Nat):Slot→Prop
 |.box ty _=>w.heap[e.m b]?=some (.cells (C b).toArray ty (0,0))
 |.row ty n l=>w.ownsRow 0 ty n (e.sv b) l.length (C b)
 |.map P k et l=>w.ownsMap P k (plainElem P et) (e.m b) l.length (mapD l)
 |.res R lk=>∃v,R.At e.I w (e.m b) (e.im b) (e.fp b) v∧∀b',lk=some b'→e.ok b'∧e.sv b'=v
 |_=>True
def HVs(e:Env)(C:Nat→List Value)(H:List Slot):Prop:=∀b s,H[b]?=some s→HV e C b s
def HWs(e:Env)(C:Nat→List Value)(w:World)(H:List Slot):Prop:=∀b s,H[b]?=some s→HW e C w b s
def Slot.live:Slot→Prop
 |.box _ _=>True
 |.row _ _ _=>True
 |.map _ _ _ _=>True
 |_=>False
def HWq(e:Env)(C:Nat→List Value)(w:World)(H:List Slot):Prop:=∀b s,H[b]?=some s→s.live→HW e C w b s
def dN:List Prop→Prop
 |[]=>True
 |p::r=>p∧dN r
theorem dN.app:∀{l m:List Prop},dN (l++m)→dN l∧dN m
 |[],m,h=>⟨trivial,h⟩
 |p::r,m,h=>⟨⟨h.1,(dN.app h.2).1⟩,(dN.app h.2).2⟩
def gW(op:BinOp)(k:IntKind)(a b:Int):Int:=match op with
 |.and=>k.wrap (BitVec.ofInt k.bits a &&& BitVec.ofInt k.bits b).toNat
 |.or=>k.wrap (BitVec.ofInt k.bits a ||| BitVec.ofInt k.bits b).toNat
 |.xor=>k.wrap (BitVec.ofInt k.bits a^^^ BitVec.ofInt k.bits b).toNat
 |_=>k.wrap (BitVec.ofInt k.bits a &&& ~~~BitVec.ofInt k.bits b).toNat
def afa(k:IntKind)(a b:Int):Int:=k.wrap (a*2^min b.toNat k.bits)
def qy(k:IntKind)(a b:Int):Int:=a.fdiv (2^min b.toNat k.bits)
def Lc(op:BinOp):AV→AV→Option (AV×List Prop)
 |.lf (.int k a),.lf (.int _ b)=>match op with
  |.shl=>some (.lf (.int k (afa k a b)),[0≤b])
  |.shr=>some (.lf (.int k (qy k a b)),[0≤b])
  |_=>none
 |_,_=>none
def aiI(op:BinOp):AV→AV→Option (AV×List Prop)
 |.lf (.int k a),.lf (.int k' b)=>match decide (k=k') with
  |true=>match op with
   |.add=>some (.lf (.int k (k.wrap (a+b))),[])
   |.sub=>some (.lf (.int k (k.wrap (a-b))),[])
   |.mul=>some (.lf (.int k (k.wrap (a*b))),[])
   |.quo=>some (.lf (.int k (k.wrap (a.tdiv b))),[b≠0])
   |.rem=>some (.lf (.int k (a.tmod b)),[b≠0])
   |.eql=>some (.lf (.bool (a==b)),[])
   |.neq=>some (.lf (.bool (a != b)),[])
   |.lss=>some (.lf (.bool (decide (a<b))),[])
   |.leq=>some (.lf (.bool (decide (a≤b))),[])
   |.gtr=>some (.lf (.bool (decide (b<a))),[])
   |.geq=>some (.lf (.bool (decide (b≤a))),[])
   |.and=>some (.lf (.int k (gW .and k a b)),[])
   |.or=>some (.lf (.int k (gW .or k a b)),[])
   |.xor=>some (.lf (.int k (gW .xor k a b)),[])
   |.andNot=>some (.lf (.int k (gW .andNot k a b)),[])
   |_=>none
  |false=>none
 |.lf (.str a),.lf (.str b)=>match op with
  |.add=>some (.lf (.str (a++b)),[a.size+b.size≤9223372036854775807])
  |.eql=>some (.lf (.bool (decide (a=b))),[])
  |.neq=>some (.lf (.bool (!decide (a=b))),[])
  |.lss=>some (.lf (.bool (Op.bytesLess a.toList b.toList)),[])
  |.gtr=>some (.lf (.bool (!(Op.bytesLess a.toList b.toList||decide (a=b)))),[])
  |.leq=>some (.lf (.bool (Op.bytesLess a.toList b.toList||decide (a=b))),[])
  |.geq=>some (.lf (.bool (!Op.bytesLess a.toList b.toList)),[])
  |_=>none
 |.lf (.bool a),.lf (.bool b)=>match op with
  |.eql=>some (.lf (.bool (a==b)),[])
  |.neq=>some (.lf (.bool (!(a==b))),[])
  |_=>none
 |_,_=>none
def bin(op:BinOp)(x y:AV):Option (AV×List Prop):=match op with
 |.shl=>Lc .shl x y
 |.shr=>Lc .shr x y
 |op=>aiI op x y
theorem VR.int{e:Env}{k:IntKind}{n:Int}{v:Value}(h:VR e (.lf (.int k n)) v):v=.int k n∧(Lit.int k n).wf=true:=(VR.lf.1 h).int
theorem VR.str{e:Env}{s:ByteArray}{v:Value}(h:VR e (.lf (.str s)) v):v=.string s∧s.size≤maxLen:=(VR.lf.1 h).str
theorem VR.bool{e:Env}{b:Bool}{v:Value}(h:VR e (.lf (.bool b)) v):v=.bool b:=(VR.lf.1 h).bool
theorem VR.mkInt{e:Env}{k:IntKind}{n:Int}(h:(Lit.int k n).wf=true):VR e (.lf (.int k n)) (.int k n):=by rw[VR.lf];unfold LRp;exact⟨rfl,h⟩
theorem VR.mkStr{e:Env}{s:ByteArray}(h:s.size≤maxLen):VR e (.lf (.str s)) (.string s):=by rw[VR.lf];unfold LRp;exact⟨rfl,h⟩
theorem VR.jd{e:Env}{b:Bool}:VR e (.lf (.bool b)) (.bool b):=by rfl
theorem IntKind.CQ(k:IntKind):k.min≤0:=by cases k<;>decide
theorem IntKind.CS(k:IntKind):0≤k.max:=by cases k<;>decide
theorem afb{k:IntKind}{a:Int}(b:Int)(h:(Lit.int k a).wf=true):(Lit.int k (a.tmod b)).wf=true:=by
 have hm:=IntKind.CQ k
 have hx:=IntKind.CS k
 simp only[Lit.wf,Bool.and_eq_true,decide_eq_true_eq] at h ⊢
 rcases Int.le_total 0 a with ha|ha
 ·have h1:=Int.tmod_nonneg b ha
  have h2:a.tmod b≤a:=by
   have:=Int.natAbs_tmod a b
   have h3:(a.tmod b).natAbs≤a.natAbs:=by rw[this];exact Nat.mod_le _ _
   omega
  omega
 have h1:0≤(-a).tmod b:=Int.tmod_nonneg b (by omega)
 rw[Int.neg_tmod] at h1
 have h2:a≤a.tmod b:=by
  have:=Int.natAbs_tmod a b
  have h3:(a.tmod b).natAbs≤a.natAbs:=by rw[this];exact Nat.mod_le _ _
  omega
 omega
theorem vW(a b:ByteArray):(a.toList==b.toList)=decide (a=b):=by
 rw[ByteArray.toList_eq,ByteArray.toList_eq,Bool.eq_iff_iff,beq_iff_eq,decide_eq_true_eq]
 constructor
 ·intro h
  rcases a with⟨⟨a⟩⟩;rcases b with⟨⟨b⟩⟩
  grind
 grind
theorem cZ{α β:Type}{a c:α}{b d:β}(h:some (a,b)=some (c,d)):a=c∧b=d:=by
 grind
theorem afc{P:Program}{t:TypeId}{op:BinOp}{x y z:AV}{p:List Prop}(h:aiI op x y=some (z,p))(hp:dN p){e:Env}{u v:Value}(hx:VR e x u)(hy:VR e y v)
 (hb:(∃a,x=.lf (.bool a))→P.underlying t=some .bool):∃r,VR e z r∧(∀w,(binOp op t u v).run P w=.ok r w)∧(∀a b w,(eqGuard op t a b u v).run P w=.ok () w):=by
 unfold aiI at h
 split at h
 ·rename_i k a k' b
  obtain⟨rfl,ha⟩:=hx.int
  obtain⟨rfl,hb'⟩:=hy.int
  have hg:∀o o' w,(eqGuard op t o o' (.int k a) (.int k' b)).run P w=.ok () w:=fun o o' w=>by cases op<;>simp[eqGuard]
  split at h
  ·rename_i hk
   have hk:=of_decide_eq_true hk
   subst hk
   cases op<;>simp only at h
   case add=>obtain⟨rfl,rfl⟩:=cZ h;exact⟨_,VR.mkInt (wf_wrap _ _),fun w=>by simp[binOp,Op.intArith],hg⟩
   case sub=>obtain⟨rfl,rfl⟩:=cZ h;exact⟨_,VR.mkInt (wf_wrap _ _),fun w=>by simp[binOp,Op.intArith],hg⟩
   case mul=>obtain⟨rfl,rfl⟩:=cZ h;exact⟨_,VR.mkInt (wf_wrap _ _),fun w=>by simp[binOp,Op.intArith],hg⟩
   case quo=>obtain⟨rfl,rfl⟩:=cZ h;exact⟨_,VR.mkInt (wf_wrap _ _),fun w=>by simp[binOp,Op.intDiv,hp.1],hg⟩
   case rem=>obtain⟨rfl,rfl⟩:=cZ h;exact⟨_,VR.mkInt (afb _ ha),fun w=>by simp[binOp,Op.intDiv,hp.1],hg⟩
   case eql=>obtain⟨rfl,rfl⟩:=cZ h;exact⟨_,VR.jd,fun w=>by simp[binOp,Op.intCmp],hg⟩
   case neq=>obtain⟨rfl,rfl⟩:=cZ h;exact⟨_,VR.jd,fun w=>by simp[binOp,Op.intCmp],hg⟩
   case lss=>obtain⟨rfl,rfl⟩:=cZ h;exact⟨_,VR.jd,fun w=>by simp[binOp,Op.intCmp],hg⟩
   case leq=>obtain⟨rfl,rfl⟩:=cZ h;exact⟨_,VR.jd,fun w=>by simp[binOp,Op.intCmp],hg⟩
   case gtr=>obtain⟨rfl,rfl⟩:=cZ h;exact⟨_,VR.jd,fun w=>by simp[binOp,Op.intCmp],hg⟩
   case geq=>obtain⟨rfl,rfl⟩:=cZ h;exact⟨_,VR.jd,fun w=>by simp[binOp,Op.intCmp],hg⟩
   case and=>obtain⟨rfl,rfl⟩:=cZ h;exact⟨_,VR.mkInt (wf_wrap _ _),fun w=>by simp[binOp,Op.intBits,gW],hg⟩
   case or=>obtain⟨rfl,rfl⟩:=cZ h;exact⟨_,VR.mkInt (wf_wrap _ _),fun w=>by simp[binOp,Op.intBits,gW],hg⟩
   case xor=>obtain⟨rfl,rfl⟩:=cZ h;exact⟨_,VR.mkInt (wf_wrap _ _),fun w=>by simp[binOp,Op.intBits,gW],hg⟩
   case andNot=>obtain⟨rfl,rfl⟩:=cZ h;exact⟨_,VR.mkInt (wf_wrap _ _),fun w=>by simp[binOp,Op.intBits,gW],hg⟩
   all_goals grind
  cases h
 ·rename_i a b
  obtain⟨rfl,ha⟩:=hx.str
  obtain⟨rfl,hb'⟩:=hy.str
  have hg:∀o o' w,(eqGuard op t o o' (.string a) (.string b)).run P w=.ok () w:=fun o o' w=>by cases op<;>simp[eqGuard]
  cases op<;>simp only at h
  case add=>obtain⟨rfl,rfl⟩:=cZ h;exact⟨_,VR.mkStr (by rw[ByteArray.size_append];unfold maxLen;exact hp.1),fun w=>by simp only[binOp];exact run_string_add_sum w a b hp.1,hg⟩
  case eql=>obtain⟨rfl,rfl⟩:=cZ h;exact⟨_,VR.jd,fun w=>by simp[binOp,Op.stringOp,vW],hg⟩
  case neq=>obtain⟨rfl,rfl⟩:=cZ h;exact⟨_,VR.jd,fun w=>by simp[binOp,Op.stringOp,vW],hg⟩
  case lss=>obtain⟨rfl,rfl⟩:=cZ h;exact⟨_,VR.jd,fun w=>by simp[binOp,Op.stringOp,vW],hg⟩
  case leq=>obtain⟨rfl,rfl⟩:=cZ h;exact⟨_,VR.jd,fun w=>by simp[binOp,Op.stringOp,vW],hg⟩
  case gtr=>obtain⟨rfl,rfl⟩:=cZ h;exact⟨_,VR.jd,fun w=>by simp[binOp,Op.stringOp,vW],hg⟩
  case geq=>obtain⟨rfl,rfl⟩:=cZ h;exact⟨_,VR.jd,fun w=>by simp[binOp,Op.stringOp,vW],hg⟩
  all_goals grind
 ·rename_i a b
  have hu:=hx.bool
  have hv:=hy.bool
  subst hu hv
  have hbb:=hb ⟨_,rfl⟩
  have hg:∀o o' w,(eqGuard op t o o' (.bool a) (.bool b)).run P w=.ok () w:=fun o o' w=>by cases op<;>simp[eqGuard]
  have hq:∀w,(Op.equal t (.bool a) (.bool b)).run P w=.ok (a==b) w:=fun w=>run_equal_bool w t a b hbb
  cases op<;>simp only at h
  case eql=>obtain⟨rfl,rfl⟩:=cZ h;exact⟨_,VR.jd,fun w=>by simp only[binOp,Sem.run_bind,hq,Result.andThen_ok,Sem.run_pure],hg⟩
  case neq=>obtain⟨rfl,rfl⟩:=cZ h;exact⟨_,VR.jd,fun w=>by simp only[binOp,Sem.run_bind,hq,Result.andThen_ok,Sem.run_pure],hg⟩
  all_goals grind
 cases h
theorem aiJ{k:IntKind}{a:Int}(n:Nat)(h:(Lit.int k a).wf=true):(Lit.int k (a.fdiv (2^n))).wf=true:=by
 have hm:=IntKind.CQ k
 have hx:=IntKind.CS k
 simp only[Lit.wf,Bool.and_eq_true,decide_eq_true_eq] at h ⊢
 have hp:(0:Int)<2^n:=Int.pow_pos (by decide)
 rw[Int.fdiv_eq_ediv_of_nonneg _ (Int.le_of_lt hp)]
 rcases Int.le_total 0 a with ha|ha
 ·have h1:=Int.ediv_nonneg ha (Int.le_of_lt hp)
  have h2:=Int.ediv_le_self (2^n) ha
  omega
 have h1:a≤a/2^n:=by
  rw[Int.le_ediv_iff_mul_le hp]
  have:a*(2^n)≤a*1:=Int.mul_le_mul_of_nonpos_left ha (by omega)
  omega
 have h2:a/2^n≤0:=by
  rcases Int.lt_or_le 0 (a/2^n) with h3|h3
  ·have:=(Int.le_ediv_iff_mul_le (a:=1) (b:=a) hp).1 h3
   omega
  exact h3
 omega
theorem aiK{P:Program}{t:TypeId}{op:BinOp}{x y z:AV}{p:List Prop}(h:bin op x y=some (z,p))(hp:dN p){e:Env}{u v:Value}(hx:VR e x u)(hy:VR e y v)
 (hb:(∃a,x=.lf (.bool a))→P.underlying t=some .bool):∃r,VR e z r∧(∀w,(binOp op t u v).run P w=.ok r w)∧(∀a b w,(eqGuard op t a b u v).run P w=.ok () w):=by
 have sh:∀{op:BinOp},(op=.shl∨op=.shr)→Lc op x y=some (z,p)→∃r,VR e z r∧(∀w,(binOp op t u v).run P w=.ok r w)∧(∀a b w,(eqGuard op t a b u v).run P w=.ok () w):=by
  intro op ho h
  unfold Lc at h
  split at h
  ·rename_i k a k' b
   obtain⟨rfl,ha⟩:=hx.int
   obtain⟨rfl,hb'⟩:=hy.int
   rcases ho with rfl|rfl
   ·obtain⟨rfl,rfl⟩:=cZ h
    have hn:=Int.not_lt.2 hp.1
    exact⟨_,VR.mkInt (wf_wrap _ _),fun w=>by simp[binOp,Op.shift,hn,afa],fun o o' w=>by simp[eqGuard]⟩
   obtain⟨rfl,rfl⟩:=cZ h
   have hn:=Int.not_lt.2 hp.1
   exact⟨_,VR.mkInt (aiJ _ ha),fun w=>by simp[binOp,Op.shift,hn,qy],fun o o' w=>by simp[eqGuard]⟩
  cases h
 unfold bin at h
 split at h
 ·grind
 ·grind
 exact afc h hp hx hy hb
def afd:Option TypeDesc→Bool
 |some (.int .i64)=>true
 |_=>false
def aaC(P:Program)(t:TypeId):Bool:=!P.stoodInHeld t&&!P.eqGuardType P.depth t&&match P.underlying t with
 |some (.struct fs)=>match fs.toList with
  | [f, g] => Nat.beq f.offset 0 && Nat.beq g.offset 1 && f.name != "_" && g.name != "_" && afd (P.underlying f.type) && afd (P.underlying g.type)
  |_=>false
 |_=>false
def aaD(op:BinOp):AV→AV→Option Bool
 |.dat [.int .i64 a,.int .i64 b],.dat [.int .i64 c,.int .i64 d]=>match op with
  |.eql=>some (a==c&&b==d)
  |.neq=>some (!(a==c&&b==d))
  |_=>none
 |_,_=>none
def Tn(x:AV)(o:Nat)(v:AV):Option AV:=
 match x with
 |.dat r=>match v with
  |.dat s=>match Nat.ble (o+s.length) r.length with
   |true=>some (.dat (r.take o++s++r.drop (o+s.length)))
   |false=>none
  |.lf y=>match Nat.ble (o+1) r.length with
   |true=>some (.dat (r.take o++[y]++r.drop (o+1)))
   |false=>none
  |.agg s=>match Nat.ble (o+s.length) r.length with
   |true=>some (.agg ((r.map .lf).take o++s++(r.map .lf).drop (o+s.length)))
   |false=>none
  |.tup _=>none
  |v=>match v.G8&&Nat.ble (o+1) r.length with
   |true=>some (.agg ((r.map .lf).take o++[v]++(r.map .lf).drop (o+1)))
   |false=>none
 |.agg l=>match v with
  |.dat s=>match Nat.ble (o+s.length) l.length with
   |true=>some (.agg (l.take o++s.map .lf++l.drop (o+s.length)))
   |false=>none
  |.agg s=>match Nat.ble (o+s.length) l.length with
   |true=>some (.agg (l.take o++s++l.drop (o+s.length)))
   |false=>none
  |.tup _=>none
  |v=>match v.G8&&Nat.ble (o+1) l.length with
   |true=>some (.agg (l.take o++[v]++l.drop (o+1)))
   |false=>none
 |_=>none
theorem cells_one{v:Value}(h:v.oneCell'=true):v.cells=#[v]:=by cases v<;>first|rfl|cases h
theorem bV.upd{I:Gh}{r s:List Lf}{cs ds:List Value}(h:bV I r cs)(k:bV I s ds)(o:Nat):bV I (r.take o++s++r.drop (o+s.length)) (cs.take o++ds++cs.drop (o+ds.length)):=by
 rw[←bV.len s ds k]
 exact bV.app _ _ _ _ (bV.app _ _ _ _ (bV.takeN _ _ _ h) k) (bV.VJ _ _ _ h)
theorem VRs.upd{e:Env}{r s:List AV}{cs ds:List Value}(h:VRs e r cs)(k:VRs e s ds)(o:Nat):VRs e (r.take o++s++r.drop (o+s.length)) (cs.take o++ds++cs.drop (o+ds.length)):=by
 rw[←VRs.len s ds k]
 exact VRs.app _ _ _ _ (VRs.app _ _ _ _ (VRs.take _ _ _ h) k) (VRs.drop _ _ _ h)
theorem Ld{a b:List Value}(h:Value.agg a.toArray=.agg b.toArray):a=b:=by grind
def AV.N8:AV→Bool
 |.dat _=>true
 |.agg l=>l.all AV.G8
 |.tup _=>false
 |v=>v.G8
theorem Lh{e:Env}{x v y:AV}{o:Nat}{cs:List Value}{u:Value}(h:Tn x o v=some y)(hx:VR e x (.agg cs.toArray))(hv:VR e v u):
 o+u.cells.size≤cs.length∧VR e y (.agg (cs.take o++u.cells.toList++cs.drop (o+u.cells.toList.length)).toArray):=by
 have single:∀(l:List AV),VRs e l cs→(v.G8&&Nat.ble (o+1) l.length)=true→(some (AV.agg (l.take o++[v]++l.drop (o+1)))=some y)→o+u.cells.size≤cs.length∧VR e y (.agg (cs.take o++u.cells.toList++cs.drop (o+u.cells.toList.length)).toArray):=fun l hl hb he=>by
  rw[Bool.and_eq_true] at hb
  injection he with he
  subst he
  have h1:=Nat.le_of_ble_eq_true hb.2
  have h2:=VRs.len _ _ hl
  rw[cells_one (VR.one hb.1 hv)]
  exact⟨by simpa using by omega,VR.agg.2 ⟨_,rfl,VRs.upd (s:=[v]) (ds:=[u]) hl (VRs.one hv) o⟩⟩
 unfold Tn at h
 split at h
 ·rename_i r
  obtain⟨ds,e1,h1⟩:=VR.dat.1 hx
  obtain rfl:=Ld e1
  have hl:=bV.len _ _ h1
  split at h
  ·rename_i s
   split at h
   ·rename_i hb
    injection h with h
    subst h
    obtain⟨es,rfl,h2⟩:=VR.dat.1 hv
    have hl2:=bV.len _ _ h2
    have hb:=Nat.le_of_ble_eq_true hb
    exact⟨by simp[Value.cells];omega,VR.dat.2 ⟨_,rfl,by simpa[Value.cells] using bV.upd h1 h2 o⟩⟩
   cases h
  ·rename_i z
   split at h
   ·rename_i hb
    injection h with h
    subst h
    have hb:=Nat.le_of_ble_eq_true hb
    have h2:=VR.lf.1 hv
    rw[cells_one (LRp.one _ _ h2)]
    exact⟨by simpa using by omega,VR.dat.2 ⟨_,rfl,bV.upd (s:=[z]) (ds:=[u]) h1 ⟨u,[],rfl,h2,rfl⟩ o⟩⟩
   cases h
  ·rename_i s
   split at h
   ·rename_i hb
    injection h with h
    subst h
    obtain⟨es,rfl,h2⟩:=VR.agg.1 hv
    have hl2:=VRs.len _ _ h2
    have hb:=Nat.le_of_ble_eq_true hb
    exact⟨by simp[Value.cells];omega,VR.agg.2 ⟨_,rfl,by simpa[Value.cells] using VRs.upd ((VRs.A8 _ _).1 h1) h2 o⟩⟩
   cases h
  ·cases h
  split at h
  ·rename_i hb
   exact single (r.map .lf) ((VRs.A8 _ _).1 h1) (by simpa using hb) h
  cases h
 ·rename_i l
  obtain⟨ds,e1,h1⟩:=VR.agg.1 hx
  obtain rfl:=Ld e1
  have hl:=VRs.len _ _ h1
  split at h
  ·rename_i s
   split at h
   ·rename_i hb
    injection h with h
    subst h
    obtain⟨es,rfl,h2⟩:=VR.dat.1 hv
    have hl2:=bV.len _ _ h2
    have hb:=Nat.le_of_ble_eq_true hb
    have:=VRs.upd h1 ((VRs.A8 _ _).1 h2) o
    rw[List.length_map] at this
    exact⟨by simp[Value.cells];omega,VR.agg.2 ⟨_,rfl,by simpa[Value.cells] using this⟩⟩
   cases h
  ·rename_i s
   split at h
   ·rename_i hb
    injection h with h
    subst h
    obtain⟨es,rfl,h2⟩:=VR.agg.1 hv
    have hl2:=VRs.len _ _ h2
    have hb:=Nat.le_of_ble_eq_true hb
    exact⟨by simp[Value.cells];omega,VR.agg.2 ⟨_,rfl,by simpa[Value.cells] using VRs.upd h1 h2 o⟩⟩
   cases h
  all_goals grind
 cases h
def TI.isS(i:TI):Bool:=match i.d with
 |.struct _=>true
 |.arr _ _=>true
 |_=>false
def TI.isT(i:TI):Bool:=match i.d with
 |.struct _=>true
 |_=>false
def vX(tt:TT)(t:TypeId)(j:Nat):Option (Nat×Nat×Bool):=match jm tt t with
 |some i=>match i.d with
  |.struct fs=>fs[j]?
  |_=>none
 |none=>none
def jQ(tt:TT)(t:TypeId):Option (TypeId×Nat):=match jm tt t with
 |some i=>match i.d with
  |.slice e=>match jm tt e with
   |some j=>some (e,j.size)
   |none=>none
  |_=>none
 |none=>none
def Lj(tt:TT)(t:TypeId):Option (TypeId×Nat×Nat):=match jm tt t with
 |some i=>match i.d with
  |.arr e n=>match jm tt e with
   |some j=>some (e,j.size,n)
   |none=>none
  |_=>none
 |none=>none
def Ic(i:TI)(cs:AV)(p:Nat):Option AV:=match i.isS with
 |true=>CP cs p i.size true
 |false=>CP cs p 1 false
def AV.width:AV→Option Nat
 |.dat r=>some r.length
 |.agg l=>some l.length
 |.tup _=>none
 |v=>match v.G8 with
  |true=>some 1
  |false=>none
def D9(tt:TT)(t:TypeId)(T:List (Nat×AV)):AV→List (Nat×Operand)→Option AV
 |x,[]=>some x
 |x,(j,o)::r=>match vX tt t j with
  |some (off,n,_)=>match evN (match x with|.agg l=>l[off]?|_=>none) T o with
   |some v=>match v.width with
    |some m=>match Nat.beq m n with
     |true=>match Tn x off v with
      |some y=>D9 tt t T y r
      |none=>none
     |false=>none
    |none=>none
   |none=>none
  |none=>none
def evC(T:List (Nat×AV)):List Operand→Option (List AV)
 |[]=>some []
 |x::r=>match ev T x with
  |some v=>match evC T r with
   |some l=>some (v::l)
   |none=>none
  |none=>none
theorem aaE{e:Env}{T:List (Nat×AV)}{a:Act}(hT:iP e T a.tmps):∀{l:List Operand} {ds:List AV},evC T l=some ds→VRs e ds (l.map a.eval)
 |[],ds,h=>by injection h with h;subst h;exact VRs.nil
 |x::r,ds,h=>by
  unfold evC at h
  split at h
  ·rename_i v hv
   split at h
   ·rename_i l hl
    injection h with h;subst h
    exact VRs.cons (dh hT hv) (aaE hT hl)
   cases h
  cases h
theorem VR.width{e:Env}{x:AV}{n:Nat}(hx:x.width=some n){v:Value}(h:VR e x v):v.cells.size=n:=by
 cases x<;>simp only[AV.width] at hx
 case dat r=>
  injection hx with hx
  obtain⟨cs,rfl,h1⟩:=VR.dat.1 h
  simp[Value.cells,bV.len _ _ h1,hx]
 case agg l=>
  injection hx with hx
  obtain⟨cs,rfl,h1⟩:=VR.agg.1 h
  simp[Value.cells,VRs.len _ _ h1,hx]
 case tup=>cases hx
 all_goals
  split at hx
  ·rename_i hb
   injection hx with hx
   rw[cells_one (VR.one hb h),←hx];rfl
  cases hx
def isB(x:AV):Bool:=match x with
 |.lf (.bool _)=>true
 |_=>false
def aaF:Option AV→Option Int
 |none=>some 0
 |some (.lf (.int _ n))=>some n
 |_=>none
def N9(d:Nat):Option AV→Option Int
 |none=>some d
 |some (.lf (.int _ n))=>some n
 |_=>none
def evO(T:List (Nat×AV)):Option Operand→Option (Option AV)
 |none=>some none
 |some o=>match ev T o with
  |some v=>some (some v)
  |none=>none
def ug(H:List Slot):AV→Option Nat
 |.lf (.str s)=>some s.size
 |.lf (.rows _ l)=>some l.length
 |.bK _=>some 0
 |.raw (.slice none 0 0)=>some 0
 |.own b=>match H[b]? with
  |some (.row _ _ l)=>some l.length
  |_=>none
 |_=>none
def TI.isB(i:TI):Bool:=match i.d with
 |.bool=>true
 |_=>false
def TI.isStr(i:TI):Bool:=match i.d with
 |.str=>true
 |_=>false
def TI.kind(i:TI):Option IntKind:=match i.d with
 |.int k=>some k
 |_=>none
def TI.VK(i:TI):Bool:=match i.d with
 |.ptr=>true
 |_=>false
def akZ:AV→Option Bool
 |.ptr _ _=>some false
 |.raw (.pointer none)=>some true
 |_=>none
def aiL(op:BinOp)(u:AV):AV→Option Bool
 |.raw (.pointer none)=>match akZ u with
  |some b=>match op with
   |.eql=>some b
   |.neq=>some (!b)
   |_=>none
  |none=>none
 |_=>none
def ak0:AV→Option Bool
 |.bK _=>some true
 |.lf (.rows _ (_::_))=>some false
 |_=>none
def aiM(op:BinOp)(u:AV):AV→Option Bool
 |.raw (.slice none 0 0)=>match ak0 u with
  |some b=>match op with
   |.eql=>some b
   |.neq=>some (!b)
   |_=>none
  |none=>none
 |_=>none
def TI.ak1(i:TI):Bool:=match i.d with
 |.slice _=>true
 |_=>false
def uh(l:List (List Lf))(qs:List Ans):List (List Lf)×List Ans×List Prop:=match qs with
 |.rows l'::qs'=>(l',qs',[l'=l])
 |_=>(l,qs,[])
def Ll(n:Nat)(qs:List Ans):Nat×List Ans×List Prop:=match qs with
 |.num m::qs'=>(m,qs',[m=n])
 |_=>(n,qs,[])
theorem yV{l:List (List Lf)}{qs:List Ans}(hp:dN (uh l qs).2.2):(uh l qs).1=l:=by
 unfold uh at hp ⊢
 split at hp
 ·exact hp.1
 rfl
theorem afe{l:Nat}{qs:List Ans}(hp:dN (Ll l qs).2.2):(Ll l qs).1=l:=by
 unfold Ll at hp ⊢
 split at hp
 ·exact hp.1
 rfl
def l7:List (ByteArray×Lf)→ByteArray→Lf→Lf
 |[],_,z=>z
 |(k,x)::r,s,z=>if s=k then x else l7 r s z
def zl:TD→Lf→Bool
 |.int k,.int k' _=>decide (k'=k)
 |.bool,.bool _=>true
 |.str,.str _=>true
 |_,_=>false
def Ie(tt:TT)(t:TypeId):Option (TypeId×TypeId×TD×Lf):=match jm tt t with
 |some i=>match i.d with
  |.map kt et=>match jm tt kt with
   |some ik=>match ik.isStr with
    |true=>match jm tt et with
     |some ie=>match ie.z with
      |some (.lf z)=>match zl ie.d z with
       |true=>some (kt,et,ie.d,z)
       |false=>none
      |_=>none
     |none=>none
    |false=>none
   |none=>none
  |_=>none
 |none=>none
def qev(P:Program)(tt:TT)(mem bx:Bool)(T:List (Nat×AV))(H:List Slot)(op:Op)(qs:List Ans):Option (AV×List Ans×List Prop):=
 match op with
 |.move x|.assign x=>match ev T x with
  |some v=>some (v,qs,[])
  |none=>none
 |.pick c a b=>match ev T c with
  |some (.lf (.bool true))=>match ev T a with
   |some v=>some (v,qs,[])
   |none=>none
  |some (.lf (.bool false))=>match ev T b with
   |some v=>some (v,qs,[])
   |none=>none
  |_=>none
 |.lookup t m k cm=>match mem with
  |false=>none
  |true=>match cm with
   |true=>none
   |false=>match Ie tt t with
    |some (kt,et,_,z)=>match ev T m with
     |some (.mp b)=>match H[b]? with
      |some (.map P' k' e' l)=>match Nat.beq k' kt&&Nat.beq e' et with
       |true=>match ev T k with
        |some (.lf (.str s))=>match qs with
         |.row [x]::qs'=>some (.lf x,qs',[P'=P,l7 l s z=x])
         |_=>none
        |_=>none
       |false=>none
      |_=>none
     |_=>none
    |none=>none
 |.nilCheck x=>match ev T x with
  |some (.ptr b o)=>some (.ptr b o,qs,[])
  |some (.dp r o)=>some (.dp r o,qs,[])
  |some (.pY b n j o)=>some (.pY b n j o,qs,[])
  |_=>none
 |.fieldAddr t x j=>match vX tt t j with
  |some (o,_,_)=>match ev T x with
   |some (.ptr b p)=>some (.ptr b (p+o),qs,[])
   |some (.dp r p)=>some (.dp r (p+o),qs,[])
   |some (.pY b n j p)=>some (.pY b n j (p+o),qs,[])
   |_=>none
  |none=>none
 |.field t x j=>match vX tt t j with
  |some (o,n,g)=>match ev T x with
   |some v=>match CP v o n g with
    |some y=>some (y,qs,[])
    |none=>none
   |none=>none
  |none=>none
 |.load t x=>match jm tt t with
  |some i=>match ev T x with
   |some (.ptr b p)=>match bx with
    |false=>none
    |true=>match H[b]? with
     |some (.box _ cs)=>match Ic i cs p with
      |some y=>some (y,qs,[])
      |none=>none
     |_=>none
   |some (.dp r p)=>match mem with
    |false=>none
    |true=>match Ic i (.dat r) p with
     |some y=>some (y,qs,[])
     |none=>none
   |some (.pY b n j p)=>match mem with
    |false=>none
    |true=>match H[b]? with
     |some (.row _ n' l)=>match qs with
      |.row r::qs'=>match Nat.beq n n' with
       |true=>match Ic i (.dat r) p with
        |some y=>some (y,qs',[l[j]?=some r])
        |none=>none
       |false=>none
      |_=>none
     |_=>none
   |_=>none
  |none=>none
 |.binOp op t x y _=>match ev T x with
  |some u=>match ev T y with
   |some v=>match bin op u v with
    |some (z,p)=>match isB u with
     |true=>match jm tt t with
      |some i=>match i.isB with
       |true=>some (z,qs,p)
       |false=>none
      |none=>none
     |false=>some (z,qs,p)
    |none=>match aiL op u v with
     |some b=>match jm tt t with
      |some i=>match i.VK with
       |true=>some (.lf (.bool b),qs,[])
       |false=>none
      |none=>none
     |none=>match aiM op u v with
      |some b=>match jm tt t with
       |some i=>match i.ak1 with
        |true=>some (.lf (.bool b),qs,[])
        |false=>none
       |none=>none
      |none=>match aaD op u v with
       |some b=>match aaC P t with
        |true=>some (.lf (.bool b),qs,[])
        |false=>none
       |none=>none
   |none=>none
  |none=>none
 |.unOp .not _ x=>match ev T x with
  |some (.lf (.bool b))=>some (.lf (.bool (!b)),qs,[])
  |_=>none
 |.unOp .neg _ x=>match ev T x with
  |some (.lf (.int k n))=>some (.lf (.int k (k.wrap (0-n))),qs,[])
  |_=>none
 |.unOp .xor _ x=>match ev T x with
  |some (.lf (.int k n))=>some (.lf (.int k (gW .xor k (if k.signed then -1 else k.max) n)),qs,[])
  |_=>none
 |.makeFunc fn first caps=>match fn with
  |.func f=>match first.toList with
   |[]=>match evC T caps.toList with
    |some l=>some (.clo f l,qs,[])
    |none=>none
   |_=>none
  |_=>none
 |.extract x j=>match ev T x with
  |some (.tup l)=>match l[j]? with
   |some v=>some (v,qs,[])
   |none=>none
  |_=>none
 |.convert s d x=>match jm tt s with
  |some _=>match jm tt d with
   |some i=>match ev T x with
    |some (.lf (.int _ n))=>match i.kind with
     |some k=>some (.lf (.int k (k.wrap n)),qs,[])
     |none=>none
    |some (.lf (.str s))=>match i.isStr with
     |true=>some (.lf (.str s),qs,[])
     |false=>none
    |some (.lf (.rows 1 l))=>match mem with
     |true=>match i.isStr with
      |true=>match jQ tt s with
       |some (el,_)=>match jm tt el with
        |some ie=>match decide (ie.kind=some .u8) with
         |true=>match qs with
          |.nums xs::qs'=>some (.lf (.str (strOfNums xs)),qs',[l=xs.map fun n=>[Lf.int .u8 n]])
          |_=>none
         |false=>none
        |none=>none
       |none=>none
      |false=>none
     |false=>none
    |some (.own b)=>match mem with
     |true=>match i.isStr with
      |true=>match jQ tt s with
       |some (el,_)=>match jm tt el with
        |some ie=>match decide (ie.kind=some .u8) with
         |true=>match H[b]? with
          |some (.row ty _ l)=>match Nat.beq ty el with
           |true=>match qs with
            |.nums xs::qs'=>some (.lf (.str (strOfNums xs)),qs',[l=xs.map fun n=>[Lf.int .u8 n]])
            |_=>none
           |false=>none
          |_=>none
         |false=>none
        |none=>none
       |none=>none
      |false=>none
     |false=>none
    |_=>none
   |none=>none
  |none=>none
 |.index t x i=>match jm tt t with
  |some ti=>match ti.isStr with
   |true=>match ev T x with
    |some (.lf (.str s))=>match ev T i with
     |some (.lf (.int _ n))=>match qs with
      |.byt b::qs'=>some (.lf (.int .u8 b.toNat),qs',[0≤n∧s[n.toNat]?=some b])
      |_=>none
     |_=>none
    |_=>none
   |false=>none
  |none=>none
 |.indexAddr t x i=>match jQ tt t with
  |some (_,n)=>match ev T i with
   |some (.lf (.int _ j))=>match ev T x with
    |some (.lf (.rows n' l))=>match qs with
     |.row r::qs'=>match Nat.beq n n' with
      |true=>some (.dp r 0,qs',[0≤j∧l[j.toNat]?=some r])
      |false=>none
     |_=>none
    |some (.own b)=>match H[b]? with
     |some (.row _ n' l)=>match Nat.beq n n' with
      |true=>some (.pY b n j.toNat 0,qs,[0≤j∧j.toNat<l.length])
      |false=>none
     |_=>none
    |_=>none
   |_=>none
  |none=>match Lj tt t with
   |some (_,n,m)=>match ev T i with
    |some (.lf (.int _ j))=>match ev T x with
     |some (.ptr b p)=>match decide (0≤j)&&decide (j<(m:Int)) with
      |true=>some (.ptr b (p+j.toNat*n),qs,[])
      |false=>none
     |_=>none
    |_=>none
   |none=>none
 |.slice t x lo hi none=>match evO T lo with
  |some lo'=>match evO T hi with
   |some hi'=>match ev T x with
    |some (.lf (.str s))=>match jm tt t with
     |some ti=>match ti.isStr with
      |true=>match aaF lo' with
       |some l=>match N9 s.size hi' with
        |some h=>some (.lf (.str (s.extract l.toNat h.toNat)),qs,[0≤l∧l≤h∧h≤s.size])
        |none=>none
       |none=>none
      |false=>none
     |none=>none
    |some (.lf (.rows n q))=>match jQ tt t with
     |some (_,n')=>match Nat.beq n n' with
      |true=>match aaF lo' with
       |some l=>match N9 q.length hi' with
        |some h=>some (.lf (.rows n (uh ((q.take h.toNat).drop l.toNat) qs).1),(uh ((q.take h.toNat).drop l.toNat) qs).2.1,(uh ((q.take h.toNat).drop l.toNat) qs).2.2++[0≤l∧l≤h∧h≤q.length])
        |none=>none
       |none=>none
      |false=>none
     |none=>none
    |_=>none
   |none=>none
  |none=>none
 |.build t parts=>match jm tt t with
  |some i=>match i.isT with
   |true=>match i.z with
    |some (.agg z)=>match D9 tt t T (.agg z) parts.toList with
     |some y=>some (y,qs,[])
     |none=>none
    |_=>none
   |false=>none
  |none=>none
 |.call c=>match c.callee with
  |.builtin .len=>match c.args.toList with
   |[x]=>match c.argTypes.toList with
    |[t]=>match ev T x with
     |some v=>match jm tt t with
      |some i=>match ug H v with
       |some n=>match v with
        |.lf (.str _)=>match i.isStr with
         |true=>some (.lf (.int .i64 n),qs,[])
         |false=>none
        |_=>match i.d with
         |.slice _=>some (.lf (.int .i64 (Ll n qs).1),(Ll n qs).2.1,(Ll n qs).2.2)
         |_=>none
       |none=>none
      |none=>none
     |none=>none
    |_=>none
   |_=>none
  |.builtin .max=>match c.args.toList with
   |[x,y]=>match ev T x with
    |some (.lf (.int k a))=>match ev T y with
     |some (.lf (.int k' b))=>match decide (k=k') with
      |true=>some (.lf (.int k (if b > a then b else a)),qs,[])
      |false=>none
     |_=>none
    |_=>none
   |[x,y,z]=>match ev T x with
    |some (.lf (.int k a))=>match ev T y with
     |some (.lf (.int k' b))=>match ev T z with
      |some (.lf (.int k'' c))=>match decide (k=k')&&decide (k=k'') with
       |true=>some (.lf (.int k (if c > (if b > a then b else a) then c else(if b > a then b else a))),qs,[])
       |false=>none
      |_=>none
     |_=>none
    |_=>none
   |_=>none
  |.builtin .min=>match c.args.toList with
   |[x,y]=>match ev T x with
    |some (.lf (.int k a))=>match ev T y with
     |some (.lf (.int k' b))=>match decide (k=k') with
      |true=>some (.lf (.int k (if b<a then b else a)),qs,[])
      |false=>none
     |_=>none
    |_=>none
   |[x,y,z]=>match ev T x with
    |some (.lf (.int k a))=>match ev T y with
     |some (.lf (.int k' b))=>match ev T z with
      |some (.lf (.int k'' c))=>match decide (k=k')&&decide (k=k'') with
       |true=>some (.lf (.int k (if c<(if b<a then b else a) then c else(if b<a then b else a))),qs,[])
       |false=>none
      |_=>none
     |_=>none
    |_=>none
   |_=>none
  |_=>none
 |_=>none
end Go.Proofs.YtpdlghcgekojlaaGreatDoor
namespace Go.Proofs.YtpdlghcgekojlaaGreatDoor
open Go.RowKit
def Yld(P:Program)(e:Env)(C:Nat→List Value)(H:List Slot)(mem bx:Bool)(a:Act)(o:Oper)(v:AV):Prop:=
 ∃u,VR e v u∧∀w,((bx=true→HWq e C w H)∧(mem=true→Inv e.I w∧HWq e C w H))→(execOp a.eval o).run P w=.ok (.value u) w
section
variable {P:Program} {tt:TT} {e:Env} {C:Nat→List Value} {H:List Slot} {mem bx:Bool} {a:Act} {T:List (Nat×AV)} {o:Oper}
theorem aiN{x:AV}{p:Prop}(h:isB x=false):(∃a,x=.lf (.bool a))→p:=by
 rintro⟨a,rfl⟩;cases h
theorem rV.slice{i:TI}(h:rV P i){el:TypeId}(hd:i.d=.slice el):P.underlying i.t=some (.slice el):=by
 have:=h.d
 rw[hd] at this
 simp only[tdb] at this
 grind
theorem rV.int{i:TI}(h:rV P i){k:IntKind}(hd:i.d=.int k):P.underlying i.t=some (.int k):=by
 have:=h.d
 rw[hd] at this
 simp only[tdb] at this
 grind
theorem rV.bool{i:TI}(h:rV P i)(hd:i.d=.bool):P.underlying i.t=some .bool:=by
 have:=h.d
 rw[hd] at this
 simp only[tdb] at this
 grind
theorem rV.str{i:TI}(h:rV P i)(hd:i.d=.str):P.underlying i.t=some .string:=by
 have:=h.d
 rw[hd] at this
 simp only[tdb] at this
 grind
theorem rV.struct{i:TI}(h:rV P i){fs:List (Nat×Nat×Bool)}(hd:i.d=.struct fs):∃gs,P.underlying i.t=some (.struct gs)∧fsb P fs gs.toList=true:=by
 have:=h.d
 rw[hd] at this
 simp only[tdb] at this
 grind
theorem rV.arr{i:TI}(h:rV P i){el:TypeId}{n:Nat}(hd:i.d=.arr el n):P.underlying i.t=some (.array n el):=by
 have:=h.d
 rw[hd] at this
 simp only[tdb] at this
 grind
theorem rV.ptr{i:TI}(h:rV P i)(hd:i.VK=true):∃el,P.underlying i.t=some (.pointer el):=by
 have h1:=h.d
 unfold TI.VK at hd
 split at hd
 ·rename_i hq
  rw[hq] at h1
  simp only[tdb] at h1
  grind
 cases hd
theorem rV.und{i:TI}(h:rV P i):∃d,P.underlying i.t=some d∧d.isRow=i.isS:=by
 have hd:=h.d
 unfold TI.isS
 cases hi:i.d with
 |int k=>exact⟨_,h.int hi,rfl⟩
 |bool=>exact⟨_,h.bool hi,rfl⟩
 |str=>exact⟨_,h.str hi,rfl⟩
 |slice el=>exact⟨_,h.slice hi,rfl⟩
 |struct fs=>obtain⟨gs,h1,_⟩:=h.struct hi;exact⟨_,h1,rfl⟩
 |arr el n=>exact⟨_,h.arr hi,rfl⟩
 |map k1 e1=>
  rw[hi] at hd
  simp only[tdb] at hd
  grind
 |ptr=>obtain⟨el,h1⟩:=h.ptr (by unfold TI.VK;rw[hi]);exact⟨_,h1,rfl⟩
 |other=>
  rw[hi] at hd
  simp only[tdb] at hd
  grind
theorem rV.size{i:TI}(h:rV P i):(P.info? i.t).map (·.size)=some i.size:=by
 obtain⟨ti,h1,h2,_⟩:=h.info
 grind
theorem aaG{P:Program}:∀{fs:List (Nat×Nat×Bool)} {gs:List Field} {j:Nat} {off n:Nat} {g:Bool},fsb P fs gs=true→fs[j]?=some (off,n,g)→
 ∃f d,gs[j]?=some f∧f.offset=off∧P.cellsOf f.type=n∧0<n∧(P.info? f.type).isSome=true∧P.underlying f.type=some d∧d.isRow=g
 |[],[],j,_,_,_,_,hj=>by simp at hj
 |[],_::_,j,_,_,_,_,hj=>by simp at hj
 |_::_,[],j,_,_,_,h,_=>by simp[fsb] at h
 |(o,m,b)::r,f::q,j,off,n,g,h,hj=>by
  simp only[fsb,Bool.and_eq_true,decide_eq_true_eq] at h
  obtain⟨⟨⟨⟨⟨h1,h2⟩,h3⟩,h4⟩,h5⟩,h6⟩:=h
  cases j with
  |zero=>
   grind
  |succ j=>
   obtain⟨f',d,k1,k2⟩:=aaG h6 (by simpa using hj)
   grind
theorem yj(ht:ttb P tt=true){t:TypeId}{j off n:Nat}{g:Bool}(h:vX tt t j=some (off,n,g)):
 ∃gs f d,P.underlying t=some (.struct gs)∧gs[j]?=some f∧f.offset=off∧P.cellsOf f.type=n∧0<n∧(P.info? f.type).isSome=true∧P.underlying f.type=some d∧d.isRow=g:=by
 unfold vX at h
 split at h
 ·rename_i i hi
  split at h
  ·rename_i fs hd
   obtain⟨ok,rfl⟩:=gG ht hi
   obtain⟨gs,h1,h2⟩:=ok.struct hd
   obtain⟨f,d,k1,k2⟩:=aaG h2 h
   grind
  cases h
 cases h
theorem kD(ht:ttb P tt=true){t e':TypeId}{n:Nat}(h:jQ tt t=some (e',n)):P.underlying t=some (.slice e')∧(P.info? e').map (·.size)=some n:=by
 unfold jQ at h
 split at h
 ·rename_i i hi
  split at h
  ·rename_i el hd
   split at h
   ·rename_i j hj
    injection h with h
    injection h with h1 h2
    subst h1 h2
    obtain⟨ok,rfl⟩:=gG ht hi
    obtain⟨ok2,e2⟩:=gG ht hj
    have:=ok2.size
    rw[e2] at this
    exact⟨ok.slice hd,this⟩
   cases h
  cases h
 cases h
theorem Tq(ht:ttb P tt=true){t e':TypeId}{n m:Nat}(h:Lj tt t=some (e',n,m)):P.underlying t=some (.array m e')∧(P.info? e').map (·.size)=some n:=by
 unfold Lj at h
 split at h
 ·rename_i i hi
  split at h
  ·rename_i el k hd
   split at h
   ·rename_i j hj
    injection h with h
    injection h with h1 h2
    injection h2 with h2 h3
    subst h1 h2 h3
    obtain⟨ok,rfl⟩:=gG ht hi
    obtain⟨ok2,e2⟩:=gG ht hj
    have:=ok2.size
    rw[e2] at this
    exact⟨ok.arr hd,this⟩
   cases h
  cases h
 cases h
theorem run_sizeOf'{t:TypeId}{n:Nat}(h:(P.info? t).map (·.size)=some n)(w:World):(sizeOf t).run P w=.ok n w:=by
 cases hi:P.info? t with
 |none=>grind
 |some i=>rw[hi] at h;injection h with h;simp[sizeOf,typeInfo,hi,h]
theorem DK{t e':TypeId}(h:P.underlying t=some (.slice e')):P.underlying t=some (.slice (P.elem t)):=by
 simp[Program.elem,h]
theorem yX{t:TypeId}{gs:Array Field}{f:Field}{j:Nat}(hu:P.underlying t=some (.struct gs))(hj:gs[j]?=some f)(hn:0<P.cellsOf f.type)(b p:Nat)(w:World):
 (Instr.fieldAt t (.pointer (some ⟨b,p,none⟩)) j).run P w=.ok (.pointer (some ⟨b,p+f.offset,none⟩)) w:=by
 have hi:(P.info? f.type).map (·.size)=some (P.cellsOf f.type):=by
  unfold Program.cellsOf at hn ⊢
  cases h:P.info? f.type with
  |none=>grind
  |some i=>simp
 have hs:=run_sizeOf' hi w
 simp only[Instr.fieldAt,Sem.run_bind,run_underlying hu,Result.andThen_ok,hj,Instr.sureAddr,Sem.run_pure,fieldPlace,hs]
 rw[if_neg (by omega)]
 simp[Addr.add_mid]
theorem XY{t:TypeId}{d:TypeDesc}(hu:P.underlying t=some d)(hd:d.isRow=false){ad:Addr}{v:Value}{w:World}(hc:w.cell? ad=some v):(Instr.loadAt t (.pointer (some ad))).run P w=.ok v w:=by
 have hagg:(isAgg t).run P w=.ok false w:=by
  unfold isAgg
  rw[Sem.run_bind,run_underlying hu w]
  cases d<;>simp_all
 simp only[Instr.loadAt,Instr.sureAddr,Sem.run_bind,Sem.run_pure,Result.andThen_ok,loadVar,hagg]
 simp_all
theorem DL(ht:ttb P tt=true){t:TypeId}{i:TI}(hi:jm tt t=some i){x y:AV}{p:Nat}(hl:Ic i x p=some y){cs:List Value}(hx:VR e x (.agg cs.toArray))(b q:Nat):
 ∃u,VR e y u∧∀w,(w.rangeAt b q cs)→(Instr.loadAt t (.pointer (some ⟨b,q+p,none⟩))).run P w=.ok u w:=by
 obtain⟨ok,rfl⟩:=gG ht hi
 obtain⟨d,hu,hd⟩:=ok.und
 unfold Ic at hl
 split at hl
 ·rename_i hs
  obtain⟨h1,h2⟩:=Ia hx hl
  refine⟨_,h2,fun w hw=>?_⟩
  refine run_loadAt_mid w b (q+p) i.t _ d (fun j v hj=>?_) hu (by rw[hd,hs]) (by rw[ok.size];simp;omega)
  rw[List.getElem?_take] at hj
  split at hj
  ·rw[List.getElem?_drop] at hj
   have:=hw (p+j) v hj
   grind
  cases hj
 rename_i hs
 obtain⟨u,h1,h2⟩:=Ib hx hl
 exact⟨u,h2,fun w hw=>XY hu (by rw[hd,hs]) (hw p u h1)⟩
theorem CRp.range{I:Gh}{b o:Nat}{r:List Lf}(h:CRp I b o r):∃cs,bV I r cs∧∀w,Inv I w→w.rangeAt b o cs:=by
 obtain⟨cs,h1,h2⟩:=CRp.vals r o h
 exact⟨cs,h1,fun w hi j v hj=>hi _ _ _ (h2 j v hj)⟩
end
end Go.Proofs.YtpdlghcgekojlaaGreatDoor
namespace Go.Proofs.YtpdlghcgekojlaaGreatDoor
open Go.RowKit
theorem dO{α β γ:Type}{a c:α}{b d:β}{x y:γ}(h:some (a,b,x)=some (c,d,y)):a=c∧b=d∧x=y:=by
 grind
section
variable {P:Program} {tt:TT} {e:Env} {C:Nat→List Value} {H:List Slot} {mem bx:Bool} {a:Act} {T:List (Nat×AV)} {o:Oper} {qs qs':List Ans} {v:AV} {p:List Prop}
theorem jo{x:AV}{u:Value}(hv:VR e x u)(h:∀w,((bx=true→HWq e C w H)∧(mem=true→Inv e.I w∧HWq e C w H))→(execOp a.eval o).run P w=.ok (.value u) w):Yld P e C H mem bx a o x:=⟨u,hv,h⟩
theorem Oa(hT:iP e T a.tmps){x:Operand}(ho:o.op=.move x∨o.op=.assign x)(h:qev P tt mem bx T H (.move x) qs=some (v,qs',p)):Yld P e C H mem bx a o v:=by
 simp only[qev] at h
 split at h
 ·rename_i y hy
  obtain⟨rfl,h⟩:=cZ h
  refine jo (dh hT hy) fun w _=>?_
  rcases ho with ho|ho<;>simp[execOp,ho]
 cases h
theorem aaH(hT:iP e T a.tmps){c x y:Operand}(ho:o.op=.pick c x y)(h:qev P tt mem bx T H (.pick c x y) qs=some (v,qs',p)):Yld P e C H mem bx a o v:=by
 simp only[qev] at h
 split at h
 ·rename_i hc
  have hc:=(dh hT hc).bool
  split at h
  ·rename_i z hz
   obtain⟨rfl,h⟩:=cZ h
   exact jo (dh hT hz) fun w _=>by simp[execOp,ho,hc,asBool]
  cases h
 ·rename_i hc
  have hc:=(dh hT hc).bool
  split at h
  ·rename_i z hz
   obtain⟨rfl,h⟩:=cZ h
   exact jo (dh hT hz) fun w _=>by simp[execOp,ho,hc,asBool]
  cases h
 cases h
theorem Lm(hT:iP e T a.tmps){x:Operand}(ho:o.op=.nilCheck x)(h:qev P tt mem bx T H (.nilCheck x) qs=some (v,qs',p)):Yld P e C H mem bx a o v:=by
 simp only[qev] at h
 split at h
 ·rename_i hx
  have hx:=dh hT hx
  obtain⟨rfl,h⟩:=cZ h
  refine jo hx fun w _=>?_
  unfold VR at hx
  simp[execOp,ho,hx.2]
 ·rename_i hx
  have hx:=dh hT hx
  obtain⟨rfl,h⟩:=cZ h
  refine jo hx fun w _=>?_
  unfold VR at hx
  obtain⟨b,o',e1,_⟩:=hx
  simp[execOp,ho,e1]
 ·rename_i hx
  have hx:=dh hT hx
  obtain⟨rfl,h⟩:=cZ h
  refine jo hx fun w _=>?_
  unfold VR at hx
  obtain⟨_,g,l,c,_,e1⟩:=hx
  simp[execOp,ho,e1]
 cases h
theorem He(ht:ttb P tt=true)(hT:iP e T a.tmps){t:TypeId}{x:Operand}{j:Nat}(ho:o.op=.fieldAddr t x j)(h:qev P tt mem bx T H (.fieldAddr t x j) qs=some (v,qs',p)):Yld P e C H mem bx a o v:=by
 simp only[qev] at h
 split at h
 ·rename_i off n g hf
  obtain⟨gs,f,d,h1,h2,h3,h4,h5,h6,h7,h8⟩:=yj ht hf
  have key:∀b q w,(Instr.fieldAt t (.pointer (some ⟨b,q,none⟩)) j).run P w=.ok (.pointer (some ⟨b,q+off,none⟩)) w:=fun b q w=>by
   rw[yX h1 h2 (by omega),h3]
  split at h
  ·rename_i b q hx
   have hx:=dh hT hx
   obtain⟨rfl,h⟩:=cZ h
   unfold VR at hx
   refine jo (u:=.pointer (some ⟨e.m b,q+off,none⟩)) (by unfold VR;exact⟨hx.1,rfl⟩) fun w _=>?_
   simp[execOp,ho,hx.2,key]
  ·rename_i r q hx
   have hx:=dh hT hx
   obtain⟨rfl,h⟩:=cZ h
   unfold VR at hx
   obtain⟨b,q0,e1,h9⟩:=hx
   refine jo (u:=.pointer (some ⟨b,q0+(q+off),none⟩)) (by unfold VR;exact⟨b,q0,rfl,h9⟩) fun w _=>?_
   rw[←Nat.add_assoc]
   simp[execOp,ho,e1,key]
  ·rename_i b n' j' q hx
   have hx:=dh hT hx
   obtain⟨rfl,h⟩:=cZ h
   unfold VR at hx
   obtain⟨h9,g',l',c',h10,e1⟩:=hx
   refine jo (u:=.pointer (some ⟨g',j'*n'+(q+off),none⟩)) (by unfold VR;exact⟨h9,g',l',c',h10,rfl⟩) fun w _=>?_
   rw[←Nat.add_assoc]
   simp[execOp,ho,e1,key]
  cases h
 cases h
theorem XZ(ht:ttb P tt=true)(hT:iP e T a.tmps){t:TypeId}{x:Operand}{j:Nat}(ho:o.op=.field t x j)(h:qev P tt mem bx T H (.field t x j) qs=some (v,qs',p)):Yld P e C H mem bx a o v:=by
 simp only[qev] at h
 split at h
 ·rename_i off n g hf
  obtain⟨gs,f,d,h1,h2,h3,h4,h5,h6,h7,h8⟩:=yj ht hf
  split at h
  ·rename_i y hx
   split at h
   ·rename_i z hz
    have hx:=dh hT hx
    obtain⟨rfl,h⟩:=cZ h
    have hagg:∃cs:List Value,a.eval x=.agg cs.toArray:=by
     cases y<;>simp only[CP] at hz<;>try cases hz
     ·obtain⟨cs,e1,_⟩:=VR.dat.1 hx;exact⟨cs,e1⟩
     obtain⟨cs,e1,_⟩:=VR.agg.1 hx;exact⟨cs,e1⟩
    obtain⟨cs,e1⟩:=hagg
    rw[e1] at hx
    have hi:(P.info? f.type).map (·.size)=some n:=by
     rw[←h4];unfold Program.cellsOf
     cases hq:P.info? f.type with
     |none=>grind
     |some i=>simp
    have hisagg:∀w,(isAgg f.type).run P w=.ok d.isRow w:=fun w=>by
     unfold isAgg
     rw[Sem.run_bind,run_underlying h7 w]
     cases d<;>simp
    cases g with
    |true=>
     obtain⟨k1,k2⟩:=Ia hx hz
     refine jo k2 fun w _=>?_
     have hp:(part f.type cs.toArray off).run P w=.ok (.agg ((cs.drop off).take n).toArray) w:=by
      simp only[part,Sem.run_bind,hisagg,h8,Result.andThen_ok,if_true,run_sizeOf' hi,Sem.run_pure,List.extract_toArray,List.extract_eq_take_drop]
      simp
     simp[execOp,ho,e1,Instr.field,run_underlying h1,h2,asAgg,h3,hp]
    |false=>
     obtain⟨u,k1,k2⟩:=Ib hx hz
     refine jo k2 fun w _=>?_
     have hp:(part f.type cs.toArray off).run P w=.ok u w:=by
      simp only[part,Sem.run_bind,hisagg,h8,Result.andThen_ok]
      simp_all
     simp[execOp,ho,e1,Instr.field,run_underlying h1,h2,asAgg,h3,hp]
   cases h
  cases h
 cases h
theorem VL{I:Gh}{n:Nat}:∀(l:List (List Lf)) (cs:List Value),(∀r∈l,r.length=n)→bV I l.flatten cs→∀(j:Nat) (r:List Lf),l[j]?=some r→∃ds,bV I r ds∧∀q u,ds[q]?=some u→cs[j*n+q]?=some u
 |[],cs,_,_,j,r,hj=>by simp at hj
 |x::l,cs,hn,hv,j,r,hj=>by
  rw[List.flatten_cons] at hv
  obtain⟨ds,es,rfl,h1,h2⟩:=bV.split x l.flatten cs hv
  have hl:ds.length=n:=by rw[bV.len _ _ h1];exact hn x (by simp)
  cases j with
  |zero=>
   grind
  |succ j=>
   obtain⟨fs,k1,k2⟩:=VL l es (fun r hr=>hn r (by simp[hr])) h2 j r (by simpa using hj)
   grind
theorem dX{n m:Nat}(h:Nat.beq n m=true):n=m:=by simp_all
theorem aaI(ht:ttb P tt=true)(hT:iP e T a.tmps)(hH:HVs e C H){t:TypeId}{x:Operand}(ho:o.op=.load t x)(h:qev P tt mem bx T H (.load t x) qs=some (v,qs',p))(hp:dN p):Yld P e C H mem bx a o v:=by
 simp only[qev] at h
 split at h
 ·rename_i i hi
  split at h
  ·rename_i b q hx
   split at h
   ·cases h
   split at h
   ·rename_i ty cs hb
    split at h
    ·rename_i y hy
     have hx:=dh hT hx
     obtain⟨rfl,h⟩:=cZ h
     unfold VR at hx
     have hv:=hH b _ hb
     obtain⟨u,k1,k2⟩:=DL ht hi hy hv.2 (e.m b) 0
     refine⟨u,k1,fun w hw=>?_⟩
     have hw2:=hw.1 rfl b _ hb trivial
     have:=k2 w (fun j v hj=>by rw[Nat.zero_add,lq hw2 j];simpa using hj)
     rw[Nat.zero_add] at this
     simp[execOp,ho,hx.2,this]
    cases h
   cases h
  ·rename_i r q hx
   split at h
   ·cases h
   split at h
   ·rename_i y hy
    have hx:=dh hT hx
    obtain⟨rfl,h⟩:=cZ h
    unfold VR at hx
    obtain⟨b,q0,e1,h1⟩:=hx
    obtain⟨cs,h2,h3⟩:=CRp.range h1
    obtain⟨u,k1,k2⟩:=DL ht hi hy (VR.dat.2 ⟨cs,rfl,h2⟩:VR e (.dat r) (.agg cs.toArray)) b q0
    refine⟨u,k1,fun w hw=>?_⟩
    have:=k2 w (h3 w (hw.2 rfl).1)
    simp[execOp,ho,e1,this]
   cases h
  ·rename_i b n j q hx
   split at h
   ·cases h
   split at h
   ·rename_i ty n' l hb
    split at h
    ·rename_i r qs2
     split at h
     ·rename_i hn
      split at h
      ·rename_i y hy
       have hx:=dh hT hx
       obtain⟨rfl,rfl,rfl⟩:=dO h
       have hn:=dX hn
       subst hn
       unfold VR at hx
       obtain⟨h1,g,len,c,h2,e1⟩:=hx
       obtain⟨k0,k1,k2,k3,k4⟩:=hH b _ hb
       have hlt:j<l.length:=(List.getElem?_eq_some_iff.1 hp.1).1
       rcases k4 with⟨_,rfl⟩|⟨g',c',k4⟩
       ·simp at hlt
       rw[h2] at k4
       injection k4 with k4 k5 k6
       injection k4 with k4
       injection k4 with k4
       subst k4 k5 k6
       have hsub:=VL l (C b) k2 k1 j r hp.1
       obtain⟨cs,h3,h4⟩:=hsub
       obtain⟨u,k7,k8⟩:=DL ht hi hy (VR.dat.2 ⟨cs,rfl,h3⟩:VR e (.dat r) (.agg cs.toArray)) g (j*n)
       refine⟨u,k7,fun w hw=>?_⟩
       have hw2:=(hw.2 rfl).2 b _ hb trivial
       have hown:w.ownsRow 0 ty n (e.sv b) l.length (C b):=hw2
       rw[h2] at hown
       have:=k8 w (fun q v hq=>by
        have h5:=h4 q v hq
        have h6:=World.ownsRow.cellAt hown (j*n+q) (by
         have:=(List.getElem?_eq_some_iff.1 h5).1
         rw[←hown.1];exact this)
        rw[h6];exact h5)
       simp[execOp,ho,e1,this]
      cases h
     cases h
    cases h
   cases h
  cases h
 cases h
theorem aff{op:BinOp}{x y:AV}{b:Bool}(h:aiL op x y=some b){t el:TypeId}(hu:P.underlying t=some (.pointer el)){u v:Value}(hx:VR e x u)(hy:VR e y v)(w:World):(binOp op t u v).run P w=.ok (.bool b) w∧∀a b,(eqGuard op t a b u v).run P w=.ok () w:=by
 unfold aiL at h
 split at h
 ·unfold VR at hy
  subst hy
  split at h
  ·rename_i b0 hb
   have hp:∃p,u=.pointer p∧p.isNone=b0:=by
    unfold akZ at hb
    split at hb
    ·injection hb with hb;subst hb
     unfold VR at hx
     grind
    ·injection hb with hb;subst hb
     unfold VR at hx
     grind
    cases hb
   obtain⟨p,rfl,hp⟩:=hp
   have he:(Op.equal t (.pointer p) (.pointer none)).run P w=.ok b0 w:=by
    subst hp
    exact run_equal_pointer_nil w t p (by unfold Program.pointee;rw[hu])
   have hg:∀a b,(eqGuard op t a b (.pointer p) (.pointer none)).run P w=.ok () w:=fun a b=>by cases op<;>simp[eqGuard]
   cases op<;>simp only at h
   case eql=>injection h with h;subst h;exact⟨by simp only[binOp,Sem.run_bind,he,Result.andThen_ok,Sem.run_pure],hg⟩
   case neq=>injection h with h;subst h;exact⟨by simp only[binOp,Sem.run_bind,he,Result.andThen_ok,Sem.run_pure],hg⟩
   all_goals grind
  cases h
 cases h
theorem afg{op:BinOp}{x y:AV}{b:Bool}(h:aiM op x y=some b){t el:TypeId}(hu:P.underlying t=some (.slice el)){u v:Value}(hx:VR e x u)(hy:VR e y v)(w:World):(binOp op t u v).run P w=.ok (.bool b) w∧∀a b,(eqGuard op t a b u v).run P w=.ok () w:=by
 unfold aiM at h
 split at h
 ·unfold VR at hy
  subst hy
  split at h
  ·rename_i b0 hb
   have hp:∃p n c,u=.slice p n c∧p.isNone=b0:=by
    unfold ak0 at hb
    split at hb
    ·injection hb with hb;subst hb
     unfold VR at hx
     grind
    ·injection hb with hb;subst hb
     have h1:=VR.lf.1 hx
     unfold LRp at h1
     grind
    cases hb
   obtain⟨p,n,c,rfl,hp⟩:=hp
   have he:(Op.equal t (.slice p n c) (.slice none 0 0)).run P w=.ok b0 w:=by
    subst hp
    exact Lib.run_equalIn_slice_nil w 9999 t el p n c 0 0 hu
   have hg:∀a b,(eqGuard op t a b (.slice p n c) (.slice none 0 0)).run P w=.ok () w:=fun a b=>by cases op<;>simp[eqGuard]
   cases op<;>simp only at h
   case eql=>injection h with h;subst h;exact⟨by simp only[binOp,Sem.run_bind,he,Result.andThen_ok,Sem.run_pure],hg⟩
   case neq=>injection h with h;subst h;exact⟨by simp only[binOp,Sem.run_bind,he,Result.andThen_ok,Sem.run_pure],hg⟩
   all_goals grind
  cases h
 cases h
theorem vY{o:Option TypeDesc}(h:afd o=true):o=some (.int .i64):=by
 unfold afd at h
 grind
theorem vZ{t:TypeId}(ht:P.underlying t=some (.int .i64)){cs:Array Value}{off:Nat}{v:Value}(hv:cs[off]?=some v)(w:World):(part t cs off).run P w=.ok v w:=by
 unfold part isAgg
 rw[Sem.run_bind,Sem.run_bind,run_underlying ht]
 simp[hv]
theorem aaJ{op:BinOp}{x y:AV}{b:Bool}(h:aaD op x y=some b){t:TypeId}(hu:aaC P t=true){u v:Value}(hx:VR e x u)(hy:VR e y v)(w:World):(binOp op t u v).run P w=.ok (.bool b) w∧∀a b,(eqGuard op t a b u v).run P w=.ok () w:=by
 unfold aaD at h
 split at h
 ·rename_i a0 b0 c0 d0
  obtain⟨cs,rfl,hc⟩:=VR.dat.1 hx
  obtain⟨ds,rfl,hd⟩:=VR.dat.1 hy
  obtain⟨x1,q,rfl,k1,x2,q2,rfl,k2,rfl⟩:=hc
  obtain⟨y1,r,rfl,l1,y2,r2,rfl,l2,rfl⟩:=hd
  obtain⟨rfl,_⟩:=k1.int
  obtain⟨rfl,_⟩:=k2.int
  obtain⟨rfl,_⟩:=l1.int
  obtain⟨rfl,_⟩:=l2.int
  unfold aaC at hu
  simp only[Bool.and_eq_true,Bool.not_eq_true'] at hu
  obtain⟨⟨hs,hg⟩,hu⟩:=hu
  split at hu
  ·rename_i fs hfs
   split at hu
   ·rename_i f g hfg
    simp only[Bool.and_eq_true,bne_iff_ne,ne_eq] at hu
    obtain⟨⟨⟨⟨⟨h1,h2⟩,h3⟩,h4⟩,h5⟩,h6⟩:=hu
    have h1:=Nat.eq_of_beq_eq_true h1
    have h2:=Nat.eq_of_beq_eq_true h2
    have hq:P.underlying t=some (.struct (P.fieldsOf t)):=by unfold Program.fieldsOf;rw[hfs]
    have hfl:(P.fieldsOf t).toList=[f,g]:=by unfold Program.fieldsOf;rw[hfs];exact hfg
    have he:(Op.equal t (.agg #[.int .i64 a0,.int .i64 b0]) (.agg #[.int .i64 c0,.int .i64 d0])).run P w=.ok (a0==c0&&b0==d0) w:=by
     unfold Op.equal
     show(Op.equalIn (9998+1+1) t _ _).run P w=_
     rw[run_equalIn_struct w _ t _ _ hq hs,hfl]
     have p1:=vZ (P:=P) (vY h5) (cs:=#[.int .i64 a0,.int .i64 b0]) (off:=f.offset) (v:=.int .i64 a0) (by rw[h1];rfl) w
     have p2:=vZ (P:=P) (vY h5) (cs:=#[.int .i64 c0,.int .i64 d0]) (off:=f.offset) (v:=.int .i64 c0) (by rw[h1];rfl) w
     have p3:=vZ (P:=P) (vY h6) (cs:=#[.int .i64 a0,.int .i64 b0]) (off:=g.offset) (v:=.int .i64 b0) (by rw[h2];rfl) w
     have p4:=vZ (P:=P) (vY h6) (cs:=#[.int .i64 c0,.int .i64 d0]) (off:=g.offset) (v:=.int .i64 d0) (by rw[h2];rfl) w
     have e1:=run_equalIn_int (P:=P) w 9998 f.type .i64 .i64 a0 c0 (vY h5)
     have e2:=run_equalIn_int (P:=P) w 9998 g.type .i64 .i64 b0 d0 (vY h6)
     cases hac:a0==c0
     ·simp[Op.eqFields,h3,p1,p2,e1,hac]
     rw[hac] at e1
     cases hbd:b0==d0<;>rw[hbd] at e2<;>simp[Op.eqFields,h3,h4,p1,p2,p3,p4,e1,e2]
    have hgd:∀a b,(eqGuard op t a b (.agg #[.int .i64 a0,.int .i64 b0]) (.agg #[.int .i64 c0,.int .i64 d0])).run P w=.ok () w:=fun a b=>by
     cases op<;>simp[eqGuard,hg]
    cases op<;>simp only at h
    case eql=>injection h with h;subst h;exact⟨by simp only[binOp,Sem.run_bind,he,Result.andThen_ok,Sem.run_pure],hgd⟩
    case neq=>injection h with h;subst h;exact⟨by simp only[binOp,Sem.run_bind,he,Result.andThen_ok,Sem.run_pure],hgd⟩
    all_goals grind
   cases hu
  cases hu
 cases h
theorem X0(ht:ttb P tt=true)(hT:iP e T a.tmps){op:BinOp}{t t':TypeId}{x y:Operand}(ho:o.op=.binOp op t x y t')(h:qev P tt mem bx T H (.binOp op t x y t') qs=some (v,qs',p))(hp:dN p):Yld P e C H mem bx a o v:=by
 simp only[qev] at h
 split at h
 ·rename_i x1 hx
  split at h
  ·rename_i y1 hy
   split at h
   ·rename_i z q hb
    have hx:=dh hT hx
    have hy:=dh hT hy
    have fin:z=v→q=p→((∃a,x1=.lf (.bool a))→P.underlying t=some .bool)→Yld P e C H mem bx a o v:=by
     rintro rfl rfl hbb
     obtain⟨r,k1,k2,k3⟩:=aiK (P:=P) (t:=t) hb hp hx hy hbb
     exact⟨r,k1,fun w _=>by simp[execOp,ho,k2,k3]⟩
    split at h
    ·split at h
     ·rename_i i hi
      split at h
      ·rename_i hbi
       obtain⟨rfl,rfl,rfl⟩:=dO h
       refine fin rfl rfl fun _=>?_
       obtain⟨ok,rfl⟩:=gG ht hi
       refine ok.bool ?_
       unfold TI.isB at hbi
       grind
      cases h
     cases h
    rename_i hb2
    obtain⟨rfl,rfl,rfl⟩:=dO h
    exact fin rfl rfl (aiN hb2)
   split at h
   ·rename_i bb hn
    split at h
    ·rename_i i hi
     split at h
     ·rename_i hpt
      obtain⟨rfl,rfl,rfl⟩:=dO h
      obtain⟨ok,rfl⟩:=gG ht hi
      obtain⟨el,hu⟩:=ok.ptr hpt
      exact⟨_,VR.jd,fun w _=>by
       obtain⟨h1,h2⟩:=aff hn hu (dh hT hx) (dh hT hy) w
       simp[execOp,ho,h1,h2]⟩
     cases h
    cases h
   split at h
   ·rename_i bb hn
    split at h
    ·rename_i i hi
     split at h
     ·rename_i hpt
      obtain⟨rfl,rfl,rfl⟩:=dO h
      obtain⟨ok,rfl⟩:=gG ht hi
      have hu:∃el,P.underlying i.t=some (.slice el):=by
       unfold TI.ak1 at hpt
       split at hpt
       ·rename_i el hd;exact⟨el,ok.slice hd⟩
       grind
      obtain⟨el,hu⟩:=hu
      exact⟨_,VR.jd,fun w _=>by
       obtain⟨h1,h2⟩:=afg hn hu (dh hT hx) (dh hT hy) w
       simp[execOp,ho,h1,h2]⟩
     cases h
    cases h
   split at h
   ·rename_i bb hn
    split at h
    ·rename_i hpb
     obtain⟨rfl,rfl,rfl⟩:=dO h
     exact⟨_,VR.jd,fun w _=>by
      obtain⟨h1,h2⟩:=aaJ hn hpb (dh hT hx) (dh hT hy) w
      simp[execOp,ho,h1,h2]⟩
    cases h
   cases h
  cases h
 cases h
theorem afh(hT:iP e T a.tmps){t:TypeId}{x:Operand}(ho:o.op=.unOp .not t x)(h:qev P tt mem bx T H (.unOp .not t x) qs=some (v,qs',p)):Yld P e C H mem bx a o v:=by
 simp only[qev] at h
 split at h
 ·rename_i b hx
  have hx:=(dh hT hx).bool
  obtain⟨rfl,rfl,rfl⟩:=dO h
  exact⟨_,VR.jd,fun w _=>by simp[execOp,ho,hx,Op.unary]⟩
 cases h
theorem afi(hT:iP e T a.tmps){t:TypeId}{x:Operand}(ho:o.op=.unOp .neg t x)(h:qev P tt mem bx T H (.unOp .neg t x) qs=some (v,qs',p)):Yld P e C H mem bx a o v:=by
 simp only[qev] at h
 split at h
 ·rename_i k n hx
  have hx:=(dh hT hx).int
  obtain⟨rfl,rfl,rfl⟩:=dO h
  exact⟨_,VR.mkInt (wf_wrap _ _),fun w _=>by simp[execOp,ho,hx.1,Op.unary,Op.intArith]⟩
 cases h
theorem X3(hT:iP e T a.tmps){t:TypeId}{x:Operand}(ho:o.op=.unOp .xor t x)(h:qev P tt mem bx T H (.unOp .xor t x) qs=some (v,qs',p)):Yld P e C H mem bx a o v:=by
 simp only[qev] at h
 split at h
 ·rename_i k n hx
  have hx:=(dh hT hx).int
  obtain⟨rfl,rfl,rfl⟩:=dO h
  exact⟨_,VR.mkInt (wf_wrap _ _),fun w _=>by simp[execOp,ho,hx.1,Op.unary,Op.intBits,gW]⟩
 cases h
theorem Ig{I:Gh}:∀(xs:List Int) (cs:List Value),bV I (xs.map (Lf.int .u8)) cs→cs=xs.map (Value.int .u8)
 |[],cs,h=>h
 |x::r,cs,h=>by
  obtain⟨c,q,e1,h1,h2⟩:=h
  have h1:LRp I (.int .u8 x) c:=h1
  unfold LRp at h1
  rw[e1,h1.1,Ig r q h2];rfl
theorem X4(xs:List Int):(xs.map fun n=>[Lf.int .u8 n]).flatten=xs.map (Lf.int .u8):=by
 induction xs with
 |nil=>rfl
 |cons x r ih=>simp[ih]
theorem Ih(xs:List Int):(strOfNums xs).size=xs.length:=strOfNums_size xs
theorem TI.VN{i:TI}{k:IntKind}(h:i.kind=some k):i.d=.int k:=by
 unfold TI.kind at h
 grind
theorem TI.nK{i:TI}(h:i.isStr=true):i.d=.str:=by
 unfold TI.isStr at h
 grind
theorem Oc(hT:iP e T a.tmps){x:Operand}{j:Nat}(ho:o.op=.extract x j)(h:qev P tt mem bx T H (.extract x j) qs=some (v,qs',p)):Yld P e C H mem bx a o v:=by
 simp only[qev] at h
 split at h
 ·rename_i l hx
  split at h
  ·rename_i y hy
   obtain⟨cs,e1,h1⟩:=VR.tup.1 (dh hT hx)
   obtain⟨rfl,rfl,rfl⟩:=dO h
   obtain⟨u,h2,h3⟩:=VRs.at_ l cs h1 j y hy
   exact⟨u,h3,fun w _=>by simp[execOp,ho,e1,Instr.extract,h2]⟩
  cases h
 cases h
theorem Lp(hT:iP e T a.tmps){fn:Fn}{first caps:Array Operand}(ho:o.op=.makeFunc fn first caps)(h:qev P tt mem bx T H (.makeFunc fn first caps) qs=some (v,qs',p)):Yld P e C H mem bx a o v:=by
 simp only[qev] at h
 split at h
 ·rename_i f
  split at h
  ·rename_i hf
   split at h
   ·rename_i l hl
    obtain⟨rfl,rfl,rfl⟩:=dO h
    have h1:=aaE hT hl
    have h2:first=#[]:=Array.toList_inj.1 (by simpa using hf)
    subst h2
    refine⟨.func (.func f) #[] (caps.toList.map a.eval).toArray,VR.clo.2 ⟨_,rfl,h1⟩,fun w _=>?_⟩
    have h3:(caps.toList.map a.eval).toArray=caps.map a.eval:=by rw[List.map_toArray.symm,Array.toArray_toList]
    rw[h3]
    simp[execOp,ho,Instr.makeFunc]
   cases h
  cases h
 cases h
theorem Oe(ht:ttb P tt=true)(hT:iP e T a.tmps)(hH:HVs e C H){s d:TypeId}{x:Operand}(ho:o.op=.convert s d x)(h:qev P tt mem bx T H (.convert s d x) qs=some (v,qs',p))(hp:dN p):Yld P e C H mem bx a o v:=by
 simp only[qev] at h
 split at h
 ·rename_i j hj
  obtain⟨okj,rfl⟩:=gG ht hj
  obtain⟨dj,huj,_⟩:=okj.und
  split at h
  ·rename_i i hi
   obtain⟨ok,rfl⟩:=gG ht hi
   split at h
   ·rename_i k0 n hx
    have hx:=(dh hT hx).int
    split at h
    ·rename_i k hk
     obtain⟨rfl,rfl,rfl⟩:=dO h
     unfold TI.kind at hk
     split at hk
     ·rename_i k' hd
      injection hk with hk
      subst hk
      exact⟨_,VR.mkInt (wf_wrap _ _),fun w _=>by simp[execOp,ho,hx.1,convert,run_underlying huj,run_underlying (ok.int hd),Conv.intToInt]⟩
     cases hk
    cases h
   ·rename_i s hx
    have hx:=(dh hT hx).str
    split at h
    ·rename_i hk
     obtain⟨rfl,rfl,rfl⟩:=dO h
     unfold TI.isStr at hk
     split at hk
     ·rename_i hd
      exact⟨_,VR.mkStr hx.2,fun w _=>by simp[execOp,ho,hx.1,convert,run_underlying huj,run_underlying (ok.str hd)]⟩
     cases hk
    cases h
   ·rename_i l hx
    have hx:=VR.lf.1 (dh hT hx)
    split at h
    ·split at h
     ·rename_i hk
      split at h
      ·rename_i el n0 he
       split at h
       ·rename_i ie hie
        split at h
        ·rename_i hk8
         split at h
         ·rename_i xs qs2
          obtain⟨rfl,rfl,rfl⟩:=dO h
          have hl:=hp.1
          obtain⟨hu,_⟩:=kD ht he
          obtain⟨oke,rfl⟩:=gG ht hie
          have hue:=oke.int (TI.VN (of_decide_eq_true hk8))
          have hus:=ok.str (TI.nK hk)
          subst hl
          unfold LRp at hx
          obtain⟨ad,c,e1,h1,h2,h3⟩:=hx
          rw[List.length_map] at h1 e1
          refine⟨_,VR.mkStr (by rw[Ih];omega),fun w hw=>?_⟩
          have hI:=(hw.2 rfl).1
          have key:(convert j.t i.t (.slice ad xs.length c)).run P w=.ok (.string (strOfNums xs)) w:=by
           cases xs with
           |nil=>
            cases ad with
            |none=>rw[run_convert_bytes_nil w j.t ie.t hu hue _ _ i.t hus];rfl
            |some ad=>
             have h0:(loadCells ad 0).run P w=.ok #[] w:=by
              have:=run_loadCells_list (P:=P) w ad [] (fun j v hj=>by simp at hj)
              simpa using this
             have h1:=run_bytesToString w ad 0 c [] (by simpa using h0)
             rw[show([]:List Int).length=0 from rfl,run_convert_bytes_string w j.t i.t ie.t (some ad) 0 c hu hue hus,h1];rfl
           |cons x0 r0=>
            obtain⟨b,off,rfl,h4⟩:=h3 (by simp)
            refine run_convert_bytes_arg w j.t ie.t hu hue b off _ c (x0::r0) rfl (fun q hq=>?_) i.t hus
            have hq':q<(x0::r0).length:=hq
            obtain⟨_,h5⟩:=RRp.at_ _ _ q [Lf.int .u8 ((x0::r0).getD q 0)] h4 (by
             rw[List.getElem?_map,List.getElem?_eq_getElem hq',List.getD_eq_getElem?_getD,List.getElem?_eq_getElem hq'];rfl)
            unfold CRp at h5
            obtain⟨⟨u,h6,h7⟩,_⟩:=h5
            unfold LRp at h7
            rw[Nat.mul_one] at h6
            rw[hI _ _ _ h6,h7.1]
          simp[execOp,ho,e1,key]
         cases h
        cases h
       cases h
      cases h
     cases h
    cases h
   ·rename_i b hx
    have hx:=dh hT hx
    split at h
    ·split at h
     ·rename_i hk
      split at h
      ·rename_i el n0 he
       split at h
       ·rename_i ie hie
        split at h
        ·rename_i hk8
         split at h
         ·rename_i ty n1 l hb
          split at h
          ·rename_i hty
           have hty:=dX hty
           split at h
           ·rename_i xs qs2
            obtain⟨rfl,rfl,rfl⟩:=dO h
            have hl:=hp.1
            obtain⟨hu,_⟩:=kD ht he
            obtain⟨oke,rfl⟩:=gG ht hie
            have hue:=oke.int (TI.VN (of_decide_eq_true hk8))
            have hus:=ok.str (TI.nK hk)
            subst hl hty
            obtain⟨k0,k1,k2,k3,k4⟩:=hH b _ hb
            rw[X4] at k1
            have hC:=Ig xs _ k1
            have hn1:xs=[]∨n1=1:=by
             cases xs with
             |nil=>exact .inl rfl
             |cons x0 r0=>exact .inr (k2 [Lf.int .u8 x0] (by simp)).symm
            rw[List.length_map] at k3
            unfold VR at hx
            obtain⟨_,hv⟩:=hx
            refine⟨_,VR.mkStr (by rw[Ih];exact k3),fun w hw=>?_⟩
            have ho2:w.ownsRow 0 ie.t n1 (e.sv b) _ (C b):=(hw.2 rfl).2 b _ hb trivial
            rw[List.length_map] at ho2 k4
            have key:(convert j.t i.t (e.sv b)).run P w=.ok (.string (strOfNums xs)) w:=by
             rcases k4 with⟨h1,h2⟩|⟨g,c,h1⟩
             ·have:xs=[]:=by simpa using h2
              subst this
              rw[h1,run_convert_bytes_nil w j.t ie.t hu hue _ _ i.t hus];rfl
             rw[h1]
             rw[h1] at ho2
             refine run_convert_bytes_arg w j.t ie.t hu hue g 0 _ c xs rfl (fun q hq=>?_) i.t hus
             have h5:=World.ownsRow.cellAt ho2 q (by
              rcases hn1 with rfl|rfl
              ·simp at hq
              omega)
             rw[Nat.zero_add]
             rw[h5,hC,List.getElem?_map,List.getElem?_eq_getElem hq,List.getD_eq_getElem?_getD,List.getElem?_eq_getElem hq];rfl
            have he2:a.eval x=e.sv b:=by first|exact hv|exact hv.1|exact hv.2
            simp[execOp,ho,he2,key]
           cases h
          cases h
         cases h
        cases h
       cases h
      cases h
     cases h
    cases h
   cases h
  cases h
 cases h
theorem nK{i:TI}(h:i.isStr=true):i.d=.str:=by
 unfold TI.isStr at h
 grind
theorem X5(ht:ttb P tt=true)(hT:iP e T a.tmps){t:TypeId}{x y:Operand}(ho:o.op=.index t x y)(h:qev P tt mem bx T H (.index t x y) qs=some (v,qs',p))(hp:dN p):Yld P e C H mem bx a o v:=by
 simp only[qev] at h
 split at h
 ·rename_i i hi
  split at h
  ·rename_i hs
   split at h
   ·rename_i s hx
    split at h
    ·rename_i k n hy
     split at h
     ·rename_i b qs2
      have hx:=(dh hT hx).str
      have hy:=(dh hT hy).int
      obtain⟨rfl,rfl,rfl⟩:=dO h
      obtain⟨ok,rfl⟩:=gG ht hi
      have hu:=ok.str (nK hs)
      refine⟨_,VR.mkInt ?_,fun w _=>by simp[execOp,ho,hx.1,hy.1,Instr.index,asIntOf,run_underlying hu,hp.1.1,hp.1.2]⟩
      have h1:IntKind.min .u8=0:=by kernel_rfl
      have h2:IntKind.max .u8=255:=by kernel_rfl
      have h3:b.toNat<256:=b.toNat_lt
      simp only[Lit.wf,Bool.and_eq_true,decide_eq_true_eq];omega
     cases h
    cases h
   cases h
  cases h
 cases h
end
end Go.Proofs.YtpdlghcgekojlaaGreatDoor
namespace Go.Proofs.YtpdlghcgekojlaaGreatDoor
open Go.RowKit
theorem afj(b o q:Nat):(⟨b,o,none⟩:Addr).add q=⟨b,o+q,none⟩:=by unfold Addr.add;split<;>simp_all
section
variable {P:Program} {tt:TT} {e:Env} {C:Nat→List Value} {H:List Slot} {mem bx:Bool} {a:Act} {T:List (Nat×AV)} {o:Oper} {qs qs':List Ans} {v:AV} {p:List Prop}
theorem Hf(ht:ttb P tt=true)(hT:iP e T a.tmps)(hH:HVs e C H){t:TypeId}{x y:Operand}(ho:o.op=.indexAddr t x y)(h:qev P tt mem bx T H (.indexAddr t x y) qs=some (v,qs',p))(hp:dN p):Yld P e C H mem bx a o v:=by
 simp only[qev] at h
 split at h
 ·rename_i el n he
  obtain⟨hu,hs⟩:=kD ht he
  have hel:P.elem t=el:=by simp[Program.elem,hu]
  have key:∀(ad:Addr) (len cap:Nat) (k:IntKind) (i:Int) (w:World),0≤i→i<len→(Instr.indexAt t (.slice (some ad) len cap) (.int k i)).run P w=.ok (.pointer (some (ad.add (i.toNat*n)))) w:=fun ad len cap k i w h0 h1=>by
   rw[run_indexAt_slice (h:=DK hu),if_pos ⟨h0,h1⟩,hel,run_sizeOf' hs];rfl
  split at h
  ·rename_i k i hy
   have hy:=(dh hT hy).int
   split at h
   ·rename_i n' l hx
    split at h
    ·rename_i r qs2
     split at h
     ·rename_i hn
      have hx:=VR.lf.1 (dh hT hx)
      obtain⟨rfl,rfl,rfl⟩:=dO h
      have hp:=hp.1
      have hn:=dX hn
      subst hn
      obtain⟨b,off,c,cs,e1,h1,h2,h3,h4,h5⟩:=LRp.elem hx i.toNat r hp.2
      have hlt:i.toNat<l.length:=(List.getElem?_eq_some_iff.1 hp.2).1
      refine⟨.pointer (some ⟨b,off+i.toNat*n+0,none⟩),by unfold VR;exact⟨b,off+i.toNat*n,rfl,CRp.of r _ cs h4 h5⟩,fun w _=>?_⟩
      simp only[execOp,ho,e1,hy.1,Sem.run_bind,key _ _ _ _ _ _ hp.1 (show i<(l.length:Int) by omega),Result.andThen_ok,Sem.run_pure,Addr.add_mid]
      rfl
     cases h
    cases h
   ·rename_i b hx
    split at h
    ·rename_i ty n' l hb
     split at h
     ·rename_i hn
      have hx:=dh hT hx
      obtain⟨rfl,rfl,rfl⟩:=dO h
      have hp:=hp.1
      have hn:=dX hn
      subst hn
      unfold VR at hx
      obtain⟨h1,h2,_⟩:=hx
      obtain⟨k0,k1,k2,k3,k4⟩:=hH b _ hb
      rcases k4 with⟨_,rfl⟩|⟨g,c,k4⟩
      ·grind
      refine⟨.pointer (some ⟨g,i.toNat*n+0,none⟩),by unfold VR;exact⟨h1,g,_,c,k4,rfl⟩,fun w _=>?_⟩
      rw[k4] at h2
      simp only[execOp,ho,h2,hy.1,Sem.run_bind,key _ _ _ _ _ _ hp.1 (show i<(l.length:Int) by omega),Result.andThen_ok,Sem.run_pure,add_plain]
      rfl
     cases h
    cases h
   cases h
  cases h
 split at h
 ·rename_i el n m hA
  obtain⟨hu,hs⟩:=Tq ht hA
  split at h
  ·rename_i k i hy
   have hy:=(dh hT hy).int
   split at h
   ·rename_i b q hx
    split at h
    ·rename_i hb
     have hx:=dh hT hx
     obtain⟨rfl,h⟩:=cZ h
     unfold VR at hx
     rw[Bool.and_eq_true,decide_eq_true_iff,decide_eq_true_iff] at hb
     have hel:P.elem t=el:=by simp[Program.elem,hu]
     have hln:P.arrayLen t=m:=by simp[Program.arrayLen,hu]
     refine⟨.pointer (some ⟨e.m b,q+i.toNat*n,none⟩),by unfold VR;exact⟨hx.1,rfl⟩,fun w _=>?_⟩
     have key:(Instr.indexAt t (.pointer (some ⟨e.m b,q,none⟩)) (.int k i)).run P w=.ok (.pointer (some ⟨e.m b,q+i.toNat*n,none⟩)) w:=by
      rw[run_indexAt_array (h:=by rw[hln,hel];exact hu),hln,if_pos hb,hel,run_sizeOf' hs,Result.andThen_ok,afj]
     simp only[execOp,ho,hx.2,hy.1,Sem.run_bind,key,Result.andThen_ok,Sem.run_pure]
     try rfl
    cases h
   cases h
  cases h
 cases h
theorem aaK{x:Option AV}{T:List (Nat×AV)}(hT:iP e T a.tmps){lo:Option Operand}(h:evO T lo=some x){l:Int}(hl:aaF x=some l):(lo=none∧l=0)∨∃q k,lo=some q∧a.eval q=.int k l:=by
 cases lo with
 |none=>simp[evO] at h;subst h;simp[aaF] at hl;exact .inl ⟨rfl,hl.symm⟩
 |some q=>
  simp only[evO] at h
  split at h
  ·rename_i y hy
   injection h with h
   subst h
   unfold aaF at hl
   split at hl
   ·grind
   ·rename_i k n e1
    injection e1 with e1
    subst e1
    injection hl with hl
    subst hl
    exact .inr ⟨q,k,rfl,(dh hT hy).int.1⟩
   cases hl
  cases h
theorem VO{x:Option AV}{T:List (Nat×AV)}(hT:iP e T a.tmps){lo:Option Operand}(h:evO T lo=some x){d:Nat}{l:Int}(hl:N9 d x=some l):(lo=none∧l=d)∨∃q k,lo=some q∧a.eval q=.int k l:=by
 cases lo with
 |none=>simp[evO] at h;subst h;simp[N9] at hl;exact .inl ⟨rfl,hl.symm⟩
 |some q=>
  simp only[evO] at h
  split at h
  ·rename_i y hy
   injection h with h
   subst h
   unfold N9 at hl
   split at hl
   ·grind
   ·rename_i k n e1
    injection e1 with e1
    subst e1
    injection hl with hl
    subst hl
    exact .inr ⟨q,k,rfl,(dh hT hy).int.1⟩
   cases hl
  cases h
theorem wo{k:IntKind}{i:Int}{y:Nat}{code:BoundsCode}(h0:0≤i)(h1:i≤y)(w:World):(Instr.sliceBound (.int k i) y code).run P w=.ok i.toNat w:=by
 simp[Instr.sliceBound,asIntOf,h0,h1]
theorem Ea{lo hi:Option Value}{isS:Bool}{len cap:Nat}{l h:Int}(hl:(lo=none∧l=0)∨∃k,lo=some (.int k l))(hh:(hi=none∧h=len)∨∃k,hi=some (.int k h))(h0:0≤l)(h1:l≤h)(h2:h≤len)(h3:len≤cap)(w:World):
 (Instr.sliceBounds isS len cap lo hi none).run P w=.ok (l.toNat,h.toNat,cap) w:=by
 unfold Instr.sliceBounds
 rcases hl with⟨rfl,rfl⟩|⟨k,rfl⟩<;>rcases hh with⟨rfl,rfl⟩|⟨k',rfl⟩
 ·simp
 ·simp only[Sem.run_bind,Sem.run_pure,Result.andThen_ok,wo (show 0≤h by omega) (show h≤(cap:Int) by omega)];rfl
 ·simp only[Sem.run_bind,Sem.run_pure,Result.andThen_ok,wo h0 h1];simp
 simp only[Sem.run_bind,Sem.run_pure,Result.andThen_ok,wo (show 0≤h by omega) (show h≤(cap:Int) by omega),wo h0 (show l≤((h.toNat:Nat):Int) by omega)]
theorem X6(ht:ttb P tt=true)(hT:iP e T a.tmps){t:TypeId}{x:Operand}{lo hi:Option Operand}(ho:o.op=.slice t x lo hi none)(h:qev P tt mem bx T H (.slice t x lo hi none) qs=some (v,qs',p))(hp:dN p):Yld P e C H mem bx a o v:=by
 simp only[qev] at h
 split at h
 ·rename_i lo' hlo
  split at h
  ·rename_i hi' hhi
   split at h
   ·rename_i s hx
    split at h
    ·rename_i ti hti
     split at h
     ·rename_i hs
      split at h
      ·rename_i l hl
       split at h
       ·rename_i q hq
        obtain⟨rfl,rfl,rfl⟩:=dO h
        have hp:=hp.1
        have hx:=(dh hT hx).str
        obtain⟨ok,rfl⟩:=gG ht hti
        have hu:=ok.str (nK hs)
        have hb:=Ea (P:=P) (lo:=lo.map a.eval) (hi:=hi.map a.eval) (isS:=false) (len:=s.size) (cap:=s.size) (l:=l) (h:=q)
         (by rcases aaK hT hlo hl with⟨rfl,h⟩|⟨q,k,rfl,h⟩;exact .inl ⟨rfl,h⟩;exact .inr ⟨k,by simp[h]⟩)
         (by rcases VO hT hhi hq with⟨rfl,h⟩|⟨q,k,rfl,h⟩;exact .inl ⟨rfl,h⟩;exact .inr ⟨k,by simp[h]⟩) hp.1 hp.2.1 hp.2.2 (Nat.le_refl _)
        refine⟨.string (s.extract l.toNat q.toNat),VR.mkStr (by have:=hx.2;rw[ByteArray.size_extract];omega),fun w _=>?_⟩
        have h3:(Instr.sliceAt ti.t (.string s) (lo.map a.eval) (hi.map a.eval) none).run P w=.ok (.string (s.extract l.toNat q.toNat)) w:=by
         rw[run_sliceAt_string (h:=hu)]
         simp[Instr.slice,run_underlying hu,hb]
        simp only[execOp,ho,hx.1,Sem.run_bind,Option.map_none,h3,Result.andThen_ok,Sem.run_pure]
       grind
      cases h
     cases h
    cases h
   ·rename_i n l0 hx
    split at h
    ·rename_i el n' he
     split at h
     ·rename_i hn
      split at h
      ·rename_i l hl
       split at h
       ·rename_i q hq
        obtain⟨rfl,rfl,rfl⟩:=dO h
        obtain⟨hp1,hp⟩:=dN.app hp
        have hp:=hp.1
        rw[yV hp1]
        have hn:=dX hn
        subst hn
        obtain⟨hu,hs⟩:=kD ht he
        have hel:P.elem t=el:=by simp[Program.elem,hu]
        have hx:=VR.lf.1 (dh hT hx)
        unfold LRp at hx
        obtain⟨ad,cap,e1,hc1,hc2,hr⟩:=hx
        have hb:=Ea (P:=P) (lo:=lo.map a.eval) (hi:=hi.map a.eval) (isS:=true) (len:=l0.length) (cap:=cap) (l:=l) (h:=q)
         (by rcases aaK hT hlo hl with⟨rfl,h⟩|⟨q,k,rfl,h⟩;exact .inl ⟨rfl,h⟩;exact .inr ⟨k,by simp[h]⟩)
         (by rcases VO hT hhi hq with⟨rfl,h⟩|⟨q,k,rfl,h⟩;exact .inl ⟨rfl,h⟩;exact .inr ⟨k,by simp[h]⟩) hp.1 hp.2.1 hp.2.2 hc1
        obtain⟨h0,h1,h2⟩:=hp
        have hlen:((l0.take q.toNat).drop l.toNat).length=q.toNat-l.toNat:=by simp;omega
        refine⟨sliced ad l.toNat q.toNat cap n,?_,fun w _=>?_⟩
        ·rw[VR.lf]
         unfold LRp sliced
         refine⟨_,_,by rw[hlen],by rw[hlen];omega,by omega,fun hne=>?_⟩
         have hq0:l.toNat<q.toNat:=by
          grind
         obtain⟨b,off,e2,hr2⟩:=hr (by rintro rfl;simp at h2;omega)
         subst e2
         rw[if_neg (by omega)]
         refine⟨b,off+l.toNat*n,by simp[Addr.add_mid],RRp.of _ _ fun j r hj=>?_⟩
         rw[List.getElem?_drop,List.getElem?_take] at hj
         split at hj
         ·obtain⟨h5,h6⟩:=RRp.at_ l0 off (l.toNat+j) r hr2 hj
          grind
         grind
        have h3:(Instr.sliceAt t (.slice ad l0.length cap) (lo.map a.eval) (hi.map a.eval) none).run P w=.ok (sliced ad l.toNat q.toNat cap n) w:=by
         rw[run_sliceAt_slice (h:=DK hu),run_slice_any (ht:=DK hu),hb]
         simp only[Result.andThen_ok,hel,run_sizeOf' hs]
        simp only[execOp,ho,e1,Sem.run_bind,Option.map_none,h3,Result.andThen_ok,Sem.run_pure]
       grind
      cases h
     cases h
    cases h
   cases h
  cases h
 cases h
theorem VP(o:Nat):∀(cs:List Value) (k:Nat) (z:Array Value),o+k+cs.length≤z.size→
 (List.foldl (fun(a:Array Value) (x:Value×Nat)=>a.setIfInBounds (o+x.2) x.1) z (cs.zipIdx k)).toList=z.toList.take (o+k)++cs++z.toList.drop (o+k+cs.length)
 |[],k,z,h=>by simp
 |c::r,k,z,h=>by
  rw[List.zipIdx_cons,List.foldl_cons,VP o r (k+1) _ (by simp at h ⊢;omega)]
  simp only[Array.toList_setIfInBounds,List.length_cons] at h ⊢
  have hz:z.toList.length=z.size:=by simp
  have h1:(z.toList.set (o+k) c).take (o+(k+1))=z.toList.take (o+k)++[c]:=by
   rw[←Nat.add_assoc,List.take_succ_eq_append_getElem (by simp;omega),List.take_set_of_le (Nat.le_refl _)]
   simp
  have h2:(z.toList.set (o+k) c).drop (o+(k+1)+r.length)=z.toList.drop (o+k+(r.length+1)):=by
   rw[List.drop_set_of_lt (by omega),show o+(k+1)+r.length=o+k+(r.length+1) by omega]
  grind
theorem Ii{place:Nat→Option (Nat×Nat)}{j off n:Nat}(hp:place j=some (off,n)){cs:List Value}{u:Value}(hn:u.cells.size=n)(hl:off+u.cells.size≤cs.length)(rest:List (Nat×Value)):
 Instr.fill place cs.toArray ((j,u)::rest)=Instr.fill place (cs.take off++u.cells.toList++cs.drop (off+u.cells.toList.length)).toArray rest:=by
 simp only[Instr.fill,hp]
 rw[if_neg (by simp[hn];omega)]
 congr 1
 apply Array.toList_inj.1
 have:=VP off u.cells.toList 0 cs.toArray (by simpa using hl)
 simp only[Nat.add_zero] at this
 rw[←this]
 rw[←Array.foldl_toList,Array.toList_zipIdx]
theorem Ij(ht:ttb P tt=true)(hT:iP e T a.tmps){t:TypeId}{place:Nat→Option (Nat×Nat)}(hpl:∀j off n g,vX tt t j=some (off,n,g)→place j=some (off,n)):
 ∀(parts:List (Nat×Operand)) (x y:AV) (cs:List Value),D9 tt t T x parts=some y→VR e x (.agg cs.toArray)→∃ds:List Value,Instr.fill place cs.toArray (parts.map fun z=>(z.1,a.eval z.2))=some ds.toArray∧VR e y (.agg ds.toArray)
 |[],x,y,cs,h,hx=>by
  simp only[D9] at h
  injection h with h
  subst h
  exact⟨cs,by simp[Instr.fill],hx⟩
 |(j,o)::r,x,y,cs,h,hx=>by
  simp only[D9] at h
  split at h
  ·rename_i off n g hf
   split at h
   ·rename_i v hv
    split at h
    ·rename_i m hm
     split at h
     ·rename_i hn
      split at h
      ·rename_i z hz
       have hv:=La hT hv
       have hn:=dX hn
       subst hn
       have hw:=VR.width hm hv
       obtain⟨h1,h2⟩:=Lh hz hx hv
       obtain⟨ds,h3,h4⟩:=Ij ht hT hpl r z y _ h h2
       refine⟨ds,?_,h4⟩
       rw[List.map_cons,Ii (hpl _ _ _ _ hf) hw h1]
       omega
      cases h
     cases h
    cases h
   cases h
  cases h
theorem Og{gs:List Field}(h:∀f∈gs,(P.info? f.type).isSome=true)(w:World):((gs.mapM fun f:Field=>do pure (f.offset,←sizeOf f.type)):Sem (List (Nat×Nat))).run P w=.ok (gs.map fun f=>(f.offset,P.cellsOf f.type)) w:=by
 induction gs with
 |nil=>simp
 |cons f r ih=>
  have hs:(sizeOf f.type).run P w=.ok (P.cellsOf f.type) w:=by
   refine run_sizeOf' ?_ w
   have:=h f (by simp)
   unfold Program.cellsOf
   cases hq:P.info? f.type with
   |none=>grind
   |some i=>simp
  simp_all
theorem VQ:∀{fs:List (Nat×Nat×Bool)} {gs:List Field},fsb P fs gs=true→∀f∈gs,(P.info? f.type).isSome=true
 |[],[],_,f,hf=>by cases hf
 |[],_::_,h,_,_=>by simp[fsb] at h
 |_::_,[],h,f,hf=>by cases hf
 |(o,m,b)::r,g::q,h,f,hf=>by
  simp only[fsb,Bool.and_eq_true,decide_eq_true_eq] at h
  obtain⟨⟨⟨⟨⟨h1,h2⟩,h3⟩,h4⟩,h5⟩,h6⟩:=h
  rcases List.mem_cons.1 hf with rfl|hf
  ·exact h4
  exact VQ h6 f hf
theorem X7(ht:ttb P tt=true)(hT:iP e T a.tmps){t:TypeId}{parts:Array (Nat×Operand)}(ho:o.op=.build t parts)(h:qev P tt mem bx T H (.build t parts) qs=some (v,qs',p)):Yld P e C H mem bx a o v:=by
 simp only[qev] at h
 split at h
 ·rename_i i hi
  split at h
  ·rename_i hs
   split at h
   ·rename_i z hz
    split at h
    ·rename_i y hy
     obtain⟨rfl,rfl,rfl⟩:=dO h
     obtain⟨ok,rfl⟩:=gG ht hi
     obtain⟨ti,h1,h2,h3,h4⟩:=ok.info
     obtain⟨zv,h5,h6,h7⟩:=h4 _ hz
     have hd:∃fs,i.d=.struct fs:=by
      unfold TI.isT at hs
      split at hs
      ·exact⟨_,by assumption⟩
      cases hs
     obtain⟨fs,hd⟩:=hd
     obtain⟨gs,h8,h9⟩:=ok.struct hd
     obtain⟨zs,e1,hzr⟩:=VR.agg.1 (h7 e)
     subst e1
     obtain⟨ds,k1,k2⟩:=Ij (P:=P) ht hT (t:=i.t) (place:=fun j=>(gs.toList.map fun f=>(f.offset,P.cellsOf f.type)).toArray[j]?) (fun j off n g hf=>by
      obtain⟨gs',f,d,m1,m2,m3,m4,_⟩:=yj ht hf
      rw[h8] at m1
      injection m1 with m1
      injection m1 with m1
      subst m1
      simp[m2,m3,m4]) parts.toList (.agg z) y zs hy (VR.agg.2 ⟨zs,rfl,hzr⟩)
     refine⟨_,k2,fun w _=>?_⟩
     have hz0:(zeroValue i.t).run P w=.ok (.agg zs.toArray) w:=by simp[zeroValue,typeInfo,h1,h5]
     have hmm:(gs.mapM fun f:Field=>do pure (f.offset,←sizeOf f.type):Sem (Array (Nat×Nat))).run P w=.ok (gs.toList.map fun f=>(f.offset,P.cellsOf f.type)).toArray w:=by
      have:=Og (P:=P) (gs:=gs.toList) (VQ h9) w
      rw[←Array.toArray_toList (xs:=gs),List.mapM_toArray,map_eq_pure_bind,Sem.run_bind,this]
      simp
     have k3:Instr.fill (fun j=>(gs.toList.map fun f=>(f.offset,P.cellsOf f.type)).toArray[j]?) (Value.agg zs.toArray).cells (parts.map fun(j,x)=>(j,a.eval x)).toList=some ds.toArray:=by
      rw[Array.toList_map];exact k1
     simp only[execOp,ho,Instr.build,Sem.run_bind,hz0,Result.andThen_ok,run_underlying h8,hmm]
     rw[k3];rfl
    cases h
   cases h
  cases h
 cases h
end
end Go.Proofs.YtpdlghcgekojlaaGreatDoor
namespace Go.Proofs.YtpdlghcgekojlaaGreatDoor
open Go.RowKit
section
variable {P:Program} {tt:TT} {e:Env} {C:Nat→List Value} {H:List Slot} {mem bx:Bool} {a:Act} {T:List (Nat×AV)} {o:Oper} {qs qs':List Ans} {v:AV} {p:List Prop}
theorem Tt{n:Nat}(h:n≤maxLen):(Lit.int .i64 (n:Int)).wf=true:=by
 have h1:IntKind.min .i64 = -9223372036854775808:=by kernel_rfl
 have h2:IntKind.max .i64=9223372036854775807:=by kernel_rfl
 unfold maxLen at h
 simp only[Lit.wf,Bool.and_eq_true,decide_eq_true_eq];omega
theorem Dt(ρ:Operand→Value)(c:Call)(t:TypeId){b:Builtin}(hc:c.callee=.builtin b)(w:World):
 (resolve ρ c t).run P w=.ok { target:=.builtin b c.argTypes t (c.args.map fun|.const _=>true|_=>false),args:=c.args.map ρ } w:=by
 simp[resolve,hc]
 grind
theorem Oh{α:Type}{a:Array α}{x:α}(h:a.toList=[x]):a=#[x]:=by grind
theorem nM{α:Type}{a:Array α}{x y:α}(h:a.toList=[x,y]):a=#[x,y]:=by grind
theorem Eb{α:Type}{a:Array α}{x y z:α}(h:a.toList=[x,y,z]):a=#[x,y,z]:=by grind
theorem execOp_builtin{ρ:Operand→Value}{c:Call}(ho:o.op=.call c){b:Builtin}(hc:c.callee=.builtin b)(w:World):
 (execOp ρ o).run P w=(builtin b c.argTypes o.type (c.args.map fun|.const _=>true|_=>false) (c.args.map ρ)).run P w:=by
 simp only[execOp,ho,Sem.run_bind,Dt ρ c o.type hc,Result.andThen_ok,invoke]
theorem aaL(ht:ttb P tt=true)(hT:iP e T a.tmps)(hH:HVs e C H){c:Call}(ho:o.op=.call c)(h:qev P tt mem bx T H (.call c) qs=some (v,qs',p))(hp:dN p):Yld P e C H mem bx a o v:=by
 simp only[qev] at h
 split at h
 ·rename_i hc
  split at h
  ·rename_i x hx0
   split at h
   ·rename_i t ht0
    split at h
    ·rename_i y hx
     split at h
     ·rename_i i hi
      split at h
      ·rename_i n hn
       have hx:=dh hT hx
       have ha:=Oh hx0
       have hat:=Oh ht0
       obtain⟨ok,rfl⟩:=gG ht hi
       have slice:∀el ad cap,P.underlying i.t=some (.slice el)→a.eval x=.slice ad n cap→n≤maxLen→Yld P e C H mem bx a o (.lf (.int .i64 n)):=fun el ad cap hu hs hb=>
        ⟨_,VR.mkInt (Tt hb),fun w _=>by
         rw[execOp_builtin ho hc,ha,hat]
         simp[builtin,hs,run_len_slice w i.t o.type ad n cap (DK hu),goInt]⟩
       have other:∀(Q:Prop),(∀el,i.d=.slice el→Yld P e C H mem bx a o (.lf (.int .i64 n)))→(match i.d with|.slice _=>some (AV.lf (.int .i64 (Ll n qs).1),(Ll n qs).2.1,(Ll n qs).2.2)|_=>none)=some (v,qs',p)→Yld P e C H mem bx a o v:=fun Q k h=>by
        split at h
        ·rename_i el hd
         obtain⟨rfl,rfl,rfl⟩:=dO h
         rw[afe hp]
         grind
        grind
       cases y with
       |lf z=>
        cases z with
        |str s=>
         simp only at h
         split at h
         ·rename_i hs
          obtain⟨rfl,rfl,rfl⟩:=dO h
          obtain⟨h1,h2⟩:=hx.str
          simp only[ug] at hn
          injection hn with hn
          subst hn
          refine⟨_,VR.mkInt (Tt h2),fun w _=>?_⟩
          rw[execOp_builtin ho hc,ha,hat]
          simp[builtin,h1,run_len_string w i.t o.type s (ok.str (nK hs)),goInt]
         grind
        |rows m l=>
         simp only[ug] at hn
         injection hn with hn
         subst hn
         obtain⟨ad,cap,h1,h2,h3⟩:=LRp.slice (VR.lf.1 hx)
         exact other True (fun el hd=>slice el ad cap (ok.slice hd) h1 (by omega)) h
        |int=>simp[ug] at hn
        |bool=>simp[ug] at hn
       |bK m=>
        simp only[ug] at hn
        injection hn with hn
        subst hn
        unfold VR at hx
        exact other True (fun el hd=>slice el none 0 (ok.slice hd) hx (by omega)) h
       |raw u=>
        unfold ug at hn
        split at hn
        ·grind
        ·grind
        ·grind
        ·rename_i e1
         injection e1 with e1
         subst e1
         injection hn with hn
         subst hn
         unfold VR at hx
         exact other True (fun el hd=>slice el none 0 (ok.slice hd) hx (by omega)) h
        all_goals grind
       |own b=>
        simp only[ug] at hn
        split at hn
        ·rename_i ty m l hb
         injection hn with hn
         subst hn
         obtain⟨k0,k1,k2,k3,k4⟩:=hH b _ hb
         unfold VR at hx
         rcases k4 with⟨k4,rfl⟩|⟨g,cp,k4⟩
         ·exact other True (fun el hd=>slice el none 0 (ok.slice hd) (by rw[hx.2.1,k4];rfl) k3) h
         exact other True (fun el hd=>slice el _ cp (ok.slice hd) (by rw[hx.2.1,k4]) k3) h
        grind
       |dat=>simp[ug] at hn
       |dp=>simp[ug] at hn
       |ptr=>simp[ug] at hn
       |pY=>simp[ug] at hn
       |mp=>simp[ug] at hn
       |clo=>simp[ug] at hn
       |hnd=>simp[ug] at hn
       |any=>simp[ug] at hn
       |agg=>simp[ug] at hn
       |tup=>simp[ug] at hn
      cases h
     cases h
    cases h
   cases h
  cases h
 ·rename_i hc
  split at h
  ·rename_i x y hx0
   split at h
   ·rename_i k m hx
    split at h
    ·rename_i k' m' hy
     split at h
     ·rename_i hk
      have hk:=of_decide_eq_true hk
      subst hk
      obtain⟨rfl,rfl,rfl⟩:=dO h
      have hx:=(dh hT hx).int
      have hy:=(dh hT hy).int
      have ha:=nM hx0
      refine⟨.int k (if m' > m then m' else m),VR.mkInt (by split;exact hy.2;exact hx.2),fun w _=>?_⟩
      rw[execOp_builtin ho hc,ha]
      simp[builtin,hx.1,hy.1,Builtin.max_,Builtin.max2]
     cases h
    cases h
   cases h
  ·rename_i x y z hx0
   split at h
   ·rename_i k m hx
    split at h
    ·rename_i k' m' hy
     split at h
     ·rename_i k'' m'' hz
      split at h
      ·rename_i hk
       have hk:=Bool.and_eq_true_iff.1 hk
       have hk1:=of_decide_eq_true hk.1
       have hk2:=of_decide_eq_true hk.2
       subst hk1 hk2
       obtain⟨rfl,rfl,rfl⟩:=dO h
       have hx:=(dh hT hx).int
       have hy:=(dh hT hy).int
       have hz:=(dh hT hz).int
       have ha:=Eb hx0
       refine⟨.int k (if m'' > (if m' > m then m' else m) then m'' else(if m' > m then m' else m)),VR.mkInt (by repeat' (first|exact hx.2|exact hy.2|exact hz.2|split)),fun w _=>?_⟩
       rw[execOp_builtin ho hc,ha]
       simp[builtin,hx.1,hy.1,hz.1,Builtin.max_,Builtin.max2]
      cases h
     cases h
    cases h
   cases h
  cases h
 ·rename_i hc
  split at h
  ·rename_i x y hx0
   split at h
   ·rename_i k m hx
    split at h
    ·rename_i k' m' hy
     split at h
     ·rename_i hk
      have hk:=of_decide_eq_true hk
      subst hk
      obtain⟨rfl,rfl,rfl⟩:=dO h
      have hx:=(dh hT hx).int
      have hy:=(dh hT hy).int
      have ha:=nM hx0
      refine⟨.int k (if m'<m then m' else m),VR.mkInt (by split;exact hy.2;exact hx.2),fun w _=>?_⟩
      rw[execOp_builtin ho hc,ha]
      simp[builtin,hx.1,hy.1,Builtin.min_,Builtin.min2]
     cases h
    cases h
   cases h
  ·rename_i x y z hx0
   split at h
   ·rename_i k m hx
    split at h
    ·rename_i k' m' hy
     split at h
     ·rename_i k'' m'' hz
      split at h
      ·rename_i hk
       have hk:=Bool.and_eq_true_iff.1 hk
       have hk1:=of_decide_eq_true hk.1
       have hk2:=of_decide_eq_true hk.2
       subst hk1 hk2
       obtain⟨rfl,rfl,rfl⟩:=dO h
       have hx:=(dh hT hx).int
       have hy:=(dh hT hy).int
       have hz:=(dh hT hz).int
       have ha:=Eb hx0
       refine⟨.int k (if m''<(if m'<m then m' else m) then m'' else(if m'<m then m' else m)),VR.mkInt (by repeat' (first|exact hx.2|exact hy.2|exact hz.2|split)),fun w _=>?_⟩
       rw[execOp_builtin ho hc,ha]
       simp[builtin,hx.1,hy.1,hz.1,Builtin.min_,Builtin.min2]
      cases h
     cases h
    cases h
   cases h
  cases h
 cases h
theorem Oi:∀l,Maps.IsMap (mapD l)
 |[]=>Maps.isMap_empty
 |(_,_)::r=>(Oi r).put _ _
theorem bytes_eq{a b:ByteArray}(h:a.data.toList=b.data.toList):a=b:=by
 cases a;cases b;simp at h;subst h;rfl
theorem VT(s:ByteArray)(z:Lf):∀l:List (ByteArray×Lf),(mapD l).atKey (.string s.data.toList) (N7 z)=N7 (l7 l s z)
 |[]=>rfl
 |(n,x)::r=>by
  by_cases h:s=n
  ·subst h
   unfold mapD l7
   rw[Maps.atKey_put_same (Oi r) (by trivial),if_pos rfl]
  unfold mapD l7
  rw[Maps.atKey_put_other (fun e=>h (bytes_eq (by simpa using e))),VT s z r,if_neg h]
structure ak2 (P:Program) (t kt et:TypeId) (d:TD) (z:Lf):Prop where
 map:P.underlying t=some (.map kt et)
 key:P.underlying kt=some .string
 zl:zl d z=true
 d:tdb P et d=true
 zero:∃zv,(∀e:Env,VR e (.lf z) zv)∧∀w:World,(zeroValue et).run P w=.ok zv w
theorem Oj{P:Program}{tt:TT}(ht:ttb P tt=true){t kt et:TypeId}{d:TD}{z:Lf}(h:Ie tt t=some (kt,et,d,z)):ak2 P t kt et d z:=by
 unfold Ie at h
 split at h
 ·rename_i i hi
  split at h
  ·rename_i kt' et' hd
   split at h
   ·rename_i ik hk
    split at h
    ·rename_i hs
     split at h
     ·rename_i ie he
      split at h
      ·rename_i z' hz
       split at h
       ·rename_i hzl
        injection h with h;injection h with h1 h;injection h with h2 h;injection h with h3 h4
        subst h1 h2 h3 h4
        obtain⟨ok,rfl⟩:=gG ht hi
        obtain⟨okk,rfl⟩:=gG ht hk
        obtain⟨oke,rfl⟩:=gG ht he
        have h1:=ok.d
        rw[hd] at h1
        simp only[tdb] at h1
        obtain⟨ti,m1,m2,m3,m4⟩:=oke.info
        obtain⟨zv,m5,m6,m7⟩:=m4 _ hz
        refine⟨?_,okk.str (nK hs),hzl,oke.d,zv,m7,fun w=>by simp[zeroValue,typeInfo,m1,m5]⟩
        grind
       grind
      cases h
     cases h
    cases h
   cases h
  cases h
 cases h
theorem Ol{P:Program}{et:TypeId}{d:TD}{x:Lf}(hd:tdb P et d=true)(hz:zl d x=true){e:Env}{v:Value}(hv:VR e (.lf x) v):plainElem P et v=some (N7 x,[]):=by
 cases d<;>cases x<;>simp only[zl] at hz<;>try cases hz
 ·simp only[tdb] at hd
  split at hd
  ·rename_i k1 k2 n k' hu
   have h1:=of_decide_eq_true hd
   have h2:=of_decide_eq_true hz
   subst h1 h2
   have h3:=hv.int
   rw[h3.1]
   simp[plainElem,hu,h3.2,N7]
  cases hd
 ·simp only[tdb] at hd
  split at hd
  ·rename_i hu
   have h3:=hv.bool
   rw[h3]
   simp[plainElem,hu,N7]
  cases hd
 simp only[tdb] at hd
 split at hd
 ·rename_i hu
  have h3:=hv.str
  rw[h3.1]
  simp[plainElem,hu,h3.2,N7]
 cases hd
theorem aaM{P:Program}{et:TypeId}{v:Value}{x:Lf}{ps:List MemPlace}(h:plainElem P et v=some (N7 x,ps))(e:Env):VR e (.lf x) v:=by
 unfold plainElem at h
 split at h
 ·injection h with h;injection h with h1 h2
  cases x with
  |bool b=>injection h1 with h1;injection h1 with h1;subst h1;rw[VR.lf];unfold LRp;rfl
  |int k n=>injection h1 with h1;cases h1
  |str s=>injection h1 with h1;cases h1
  |rows n l=>cases h1
 ·split at h
  ·rename_i hq
   injection h with h;injection h with h1 h2
   cases x with
   |int k n=>
    injection h1 with h1;injection h1 with h1 h3;subst h1 h3
    rw[VR.lf];unfold LRp;exact⟨by rw[hq.1],hq.2⟩
   |bool b=>injection h1 with h1;cases h1
   |str s=>injection h1 with h1;cases h1
   |rows n l=>cases h1
  cases h
 ·split at h
  ·rename_i hq
   injection h with h;injection h with h1 h2
   cases x with
   |str s=>
    injection h1 with h1;injection h1 with h1
    have:=bytes_eq h1
    subst this
    rw[VR.lf];unfold LRp
    grind
   |bool b=>injection h1 with h1;cases h1
   |int k n=>injection h1 with h1;cases h1
   |rows n l=>cases h1
  cases h
 cases h
def Lf.val:Lf→Value
 |.int k n=>.int k n
 |.str s=>.string s
 |.bool b=>.bool b
 |.rows _ _=>.slice none 0 0
theorem afk{x:Lf}(h:x.wfL):VR e (.lf x) x.val:=by
 rw[VR.lf]
 cases x<;>unfold LRp<;>first|exact⟨rfl,h⟩|rfl|exact h.elim
theorem VR.aiO{x:Lf}{u:Value}(h:VR e (.lf x) u)(hx:x.wfL):u=x.val:=by
 cases x
 ·exact h.int.1
 ·exact h.str.1
 ·exact h.bool
 exact hx.elim
theorem VR.wfL{x:Lf}{u:Value}{d:TD}(h:VR e (.lf x) u)(hz:zl d x=true):x.wfL:=by
 cases x
 ·exact h.int.2
 ·exact h.str.2
 ·trivial
 cases d<;>cases hz
theorem Ik{z:Lf}{s:ByteArray}(hz:z.wfL):∀{l:List (ByteArray×Lf)},(∀p∈l,p.2.wfL)→(l7 l s z).wfL
 |[],_=>hz
 |(n,x)::r,h=>by
  unfold l7
  split
  ·simp_all
  exact Ik hz fun p hp=>h p (by simp[hp])
theorem Tv(ht:ttb P tt=true)(hT:iP e T a.tmps)(hH:HVs e C H){t:TypeId}{m k:Operand}{cm:Bool}(ho:o.op=.lookup t m k cm)(h:qev P tt mem bx T H (.lookup t m k cm) qs=some (v,qs',p))(hp:dN p):Yld P e C H mem bx a o v:=by
 simp only[qev] at h
 split at h
 ·cases h
 split at h
 ·cases h
 split at h
 ·rename_i kt et d z hmt
  split at h
  ·rename_i b hm
   split at h
   ·rename_i P' k' e' l hb
    split at h
    ·rename_i hke
     rw[Bool.and_eq_true] at hke
     have e1:=dX hke.1
     have e2:=dX hke.2
     subst e1 e2
     split at h
     ·rename_i s hk
      split at h
      ·rename_i x qs2
       obtain⟨rfl,rfl,rfl⟩:=dO h
       have hP:P'=P:=hp.1
       subst hP
       have hx:l7 l s z=x:=hp.2.1
       have M:=Oj ht hmt
       have hm:=dh hT hm
       have hk:=(dh hT hk).str
       unfold VR at hm
       obtain⟨zv,hz,hzr⟩:=M.zero
       have hv:=hH b _ hb
       have hwf:x.wfL:=by
        rw[←hx]
        exact Ik (VR.wfL (hz e) M.zl) hv.2
       refine⟨x.val,afk hwf,fun w hw=>?_⟩
       have hw2:w.ownsMap P' k' (plainElem P' e') (e.m b) l.length (mapD l):=(hw.2 rfl).2 b _ hb trivial
       obtain⟨u,ps,k1,k2⟩:=World.ownsMap.lookup (t:=t) (e:=e') hw2 (Maps.string_keyed M.key) M.map (hzr w) (Ol M.d M.zl (hz e)) (WideMaps.keyOf_string_mk M.key hk.2)
       rw[VT,hx] at k2
       have k3:=VR.aiO (aaM k2 e) hwf
       rw[←k3]
       simp[execOp,ho,hm.2,hk.1,k1]
      cases h
     cases h
    cases h
   cases h
  cases h
 cases h
theorem Tz(ht:ttb P tt=true)(hT:iP e T a.tmps)(hH:HVs e C H){op:Op}(ho:o.op=op)(h:qev P tt mem bx T H op qs=some (v,qs',p))(hp:dN p):Yld P e C H mem bx a o v:=by
 cases op
 case move x=>exact Oa hT (.inl ho) h
 case assign x=>exact Oa (tt:=tt) hT (.inr ho) h
 case pick=>exact aaH hT ho h
 case nilCheck=>exact Lm hT ho h
 case fieldAddr=>exact He ht hT ho h
 case field=>exact XZ ht hT ho h
 case load=>exact aaI ht hT hH ho h hp
 case binOp=>exact X0 ht hT ho h hp
 case unOp u t x=>
  cases u
  case not=>exact afh hT ho h
  case neg=>exact afi hT ho h
  case xor=>exact X3 hT ho h
  all_goals (simp[qev] at h)
 case extract=>exact Oc hT ho h
 case makeFunc=>exact Lp hT ho h
 case convert=>exact Oe ht hT hH ho h hp
 case index=>exact X5 ht hT ho h hp
 case indexAddr=>exact Hf ht hT hH ho h hp
 case slice t x lo hi mx=>
  cases mx with
  |none=>exact X6 ht hT ho h hp
  |some m=>simp[qev] at h
 case build=>exact X7 ht hT ho h
 case call=>exact aaL ht hT hH ho h hp
 case lookup=>exact Tv ht hT hH ho h hp
 all_goals (simp[qev] at h)
end
end Go.Proofs.YtpdlghcgekojlaaGreatDoor
namespace Go.Proofs.YtpdlghcgekojlaaGreatDoor
open Go.RowKit
structure Only (wr:Nat→Prop) (w w':World):Prop where
 os:w'.os=w.os
 tape:w'.tape=w.tape
 output:w'.output=w.output
 size:w.heap.size≤w'.heap.size
 block:∀i,i<w.heap.size→¬wr i→w'.heap[i]?=w.heap[i]?
theorem Only.refl(wr:Nat→Prop)(w:World):Only wr w w:=⟨rfl,rfl,rfl,Nat.le_refl _,fun _ _ _=>rfl⟩
theorem Only.grown{wr:Nat→Prop}{w0 w w':World}{row:Option Nat}(h:Only wr w0 w)(k:w.grownBy w' row)(hr:∀g,row=some g→w0.heap.size≤g∨wr g):Only wr w0 w':=
 ⟨k.os.trans h.os,k.tape.trans h.tape,k.output.trans h.output,Nat.le_trans h.size k.size,fun i hi hn=>(k.block i (Nat.lt_of_lt_of_le hi h.size) (fun e=>by
  rcases hr i e.symm with h1|h1
  ·omega
  exact hn h1)).trans (h.block i hi hn)⟩
theorem Only.ext{w0 w:World}(h:Only (fun _=>False) w0 w):Ext w0 w:=⟨h.os,h.tape,h.output,h.size,fun i hi=>h.block i hi (fun h=>h)⟩
structure Ctx where
 P:Program
 tt:TT
 w0:World
 I0:Gh
 G:Gh→Prop
 wr:Nat→Prop
 nt:Nat
 e0:Env
 k0:Nat
 df:List Deferred
structure Ctx.Ok (c:Ctx):Prop where
 tt:ttb c.P c.tt=true
 G:∀I I',Le I I'→c.G I→c.G I'
 k0:∀b,c.e0.ok b→b<c.k0
def Bse(e0 e:Env):Prop:=∀b,e0.ok b→e.ok b∧e.m b=e0.m b∧e.sv b=e0.sv b∧∀j r,e0.im b j=some r→e.im b j=some r
theorem Bse.le{e0 e e':Env}(h:Bse e0 e)(k:e.le e'):Bse e0 e':=fun b hb=>⟨k.ok b (h b hb).1,(k.m b (h b hb).1).trans (h b hb).2.1,(k.sv b (h b hb).1).trans (h b hb).2.2.1,fun j r hr=>k.im b (h b hb).1 j r ((h b hb).2.2.2 j r hr)⟩
def dV(e:Env)(b:Nat)(s:Slot)(g:Nat):Prop:=match s with
 |.box _ _=>e.m b=g
 |.row _ _ _=>(e.sv b).ownBlock=some g
 |.map _ _ _ _=>e.m b=g
 |.res _ _=>e.fp b g
 |_=>False
structure Mem (c:Ctx) (e:Env) (C:Nat→List Value) (H:List Slot) (w:World):Prop where
 hv:HVs e C H
 hw:HWs e C w H
 bound:∀b,e.ok b→b<H.length
 inj:∀b b' s s' g,H[b]?=some s→H[b']?=some s'→dV e b s g→dV e b' s' g→b=b'
 av:∀b s g,H[b]?=some s→dV e b s g→Av e.I g
 mine:∀b s g,H[b]?=some s→dV e b s g→c.w0.heap.size≤g∨c.wr g
 inv:Inv e.I w
 le:Le c.I0 e.I
 fresh:∀b o v,e.I b o=some v→c.I0 b o=none→c.w0.heap.size≤b∨c.wr b
 ch:Only c.wr c.w0 w
 g:c.G e.I
 bse:Bse c.e0 e
structure St where
 T:List (Nat×AV)
 H:List Slot
structure Rep (c:Ctx) (e:Env) (C:Nat→List Value) (st:St) (a:Act) (w:World):Prop where
 tmp:iP e st.T a.tmps
 size:a.tmps.size=c.nt
 defers:a.defers=c.df
 mem:Mem c e C st.H w
theorem lu{w w':World}{base:Nat}{e:TypeId}{n len:Nat}{v:Value}{xs:List Value}(h:w.ownsRow base e n v len xs)(k:∀g,v.ownBlock=some g→w'.heap[g]?=w.heap[g]?):w'.ownsRow base e n v len xs:=by
 refine⟨h.1,?_⟩
 rcases h.2 with h2|⟨g,cap,cur,rfl,h3,h4,h5⟩
 ·exact .inl h2
 exact .inr ⟨g,cap,cur,rfl,h3,by rw[k g rfl];exact h4,h5⟩
theorem qM{e:Env}{C:Nat→List Value}{w w':World}{b:Nat}{s:Slot}(h:HW e C w b s)(k:∀g,dV e b s g→w'.heap[g]?=w.heap[g]?):HW e C w' b s:=by
 cases s with
 |res R lk=>obtain⟨v,h1,h2⟩:=h;exact⟨v,R.mono h1 (Le.refl _) fun x hx=>k x hx,h2⟩
 |box ty cs=>show w'.heap[e.m b]?=_;rw[k _ rfl];exact h
 |row ty n l=>exact lu h (fun g hg=>k g hg)
 |dead=>trivial
 |free=>trivial
 |map P1 k1 e1 l1=>
  obtain⟨es,clock,hb,F⟩:=h
  exact⟨es,clock,by rw[k _ rfl];exact hb,F⟩
theorem Il{e:Env}{C:Nat→List Value}{w:World}{b:Nat}{s:Slot}(h:HW e C w b s){g:Nat}(hg:dV e b s g):g<w.heap.size:=by
 cases s with
 |res R lk=>obtain⟨v,h1,_⟩:=h;exact R.lt h1 g hg
 |box ty cs=>have hg:e.m b=g:=hg;subst hg;exact KW h
 |row ty n l=>exact(World.ownsRow.lt h g hg).2
 |dead=>cases hg
 |free=>cases hg
 |map P1 k1 e1 l1=>have hg:e.m b=g:=hg;subst hg;exact World.ownsMap.lt h
theorem Mem.lt{c:Ctx}{e:Env}{C:Nat→List Value}{H:List Slot}{w:World}(h:Mem c e C H w){b:Nat}{s:Slot}{g:Nat}(hb:H[b]?=some s)(hg:dV e b s g):g<w.heap.size:=Il (h.hw b s hb) hg
theorem Mem.step{c:Ctx}{e:Env}{C:Nat→List Value}{H:List Slot}{w w':World}(h:Mem c e C H w){row:Option Nat}(k:w.grownBy w' row)
 (hr:∀g,row=some g→Av e.I g∧(c.w0.heap.size≤g∨c.wr g)∧∀b s,H[b]?=some s→¬dV e b s g):Mem c e C H w' where
 hv:=h.hv
 hw:=fun b s hb=>qM (h.hw b s hb) fun g hg=>k.block g (h.lt hb hg) (fun e=>(hr g e.symm).2.2 b s hb hg)
 bound:=h.bound
 inj:=h.inj
 av:=h.av
 mine:=h.mine
 inv:=h.inv.grown k fun g hg=>(hr g hg).1
 le:=h.le
 fresh:=h.fresh
 ch:=h.ch.grown k fun g hg=>(hr g hg).2.1
 g:=h.g
 bse:=h.bse
theorem Mem.ext{c:Ctx}{e:Env}{C:Nat→List Value}{H:List Slot}{w w':World}(h:Mem c e C H w)(k:Ext w w'):Mem c e C H w':=h.step (k.only none) fun g hg=>by cases hg
theorem Mem.drew{c:Ctx}{e:Env}{C:Nat→List Value}{H:List Slot}{w:World}(h:Mem c e C H w):Mem c e C H w.drew:=h.ext (Ext.refl w).drew
theorem Mem.kill{c:Ctx}{e:Env}{C:Nat→List Value}{H:List Slot}{w:World}(h:Mem c e C H w)(b:Nat){s0:Slot}(hb:H[b]?=some s0)(hs:s0≠.free):Mem c e C (H.set b .dead) w:=by
 have key:∀b' s,(H.set b .dead)[b']?=some s→(s=Slot.dead)∨H[b']?=some s:=fun b' s hs=>by
  rw[List.getElem?_set] at hs
  split at hs
  ·split at hs
   ·injection hs with hs;exact .inl hs.symm
   cases hs
  exact .inr hs
 refine⟨fun b' s hs=>?_,fun b' s hs=>?_,fun b' hb'=>by rw[List.length_set];exact h.bound b' hb',fun b1 b2 s1 s2 g h1 h2 k1 k2=>?_,fun b' s g hs k=>?_,fun b' s g hs k=>?_,h.inv,h.le,h.fresh,h.ch,h.g,h.bse⟩
 ·rcases key b' s hs with rfl|h1
  ·trivial
  exact h.hv b' s h1
 ·rcases key b' s hs with rfl|h1
  ·trivial
  exact h.hw b' s h1
 ·rcases key _ _ h1 with rfl|h1
  ·cases k1
  rcases key _ _ h2 with rfl|h2
  ·cases k2
  exact h.inj b1 b2 s1 s2 g h1 h2 k1 k2
 ·rcases key _ _ hs with rfl|h1
  ·cases k
  exact h.av b' s g h1 k
 rcases key _ _ hs with rfl|h1
 ·cases k
 exact h.mine b' s g h1 k
def Env.add(e:Env)(b g:Nat)(v:Value):Env:={ ok:=fun x=>x=b∨e.ok x,m:=fun x=>if x=b then g else e.m x,sv:=fun x=>if x=b then v else e.sv x,I:=e.I,im:=e.im,fp:=e.fp }
def jB(C:Nat→List Value)(b:Nat)(l:List Value):Nat→List Value:=fun x=>if x=b then l else C x
theorem Env.Ec{e:Env}{b:Nat}(hb:¬e.ok b)(g:Nat)(v:Value):e.le (e.add b g v) where
 ok:=fun x hx=>.inr hx
 m:=fun x hx=>by
  show(if x=b then g else e.m x)=e.m x
  grind
 sv:=fun x hx=>by
  show(if x=b then v else e.sv x)=e.sv x
  grind
 I:=Le.refl _
 im:=fun _ _ _ _ h=>h
def iH(H:List Slot)(s:Slot)(qs:List Ans):Option (Nat×List Slot×List Ans):=
 match qs with
 |.slot b::qs'=>match H[b]? with
  |some .free=>some (b,H.set b s,qs')
  |_=>none
 |_=>some (H.length,H++[s],qs)
theorem rW{e e':Env}(h:e.le e'){C C':Nat→List Value}{b:Nat}{s:Slot}(hC:C' b=C b)(hs:s≠.free)(k:HV e C b s):HV e' C' b s:=by
 cases s with
 |box ty cs=>exact⟨h.ok b k.1,by rw[hC];exact VR.mono h _ _ k.2⟩
 |row ty n l=>exact⟨h.ok b k.1,by rw[hC];exact bV.mono h.I _ _ k.2.1,k.2.2.1,k.2.2.2.1,by rw[h.sv b k.1];exact k.2.2.2.2⟩
 |dead=>trivial
 |free=>grind
 |res R lk=>exact h.ok b k
 |map P1 k1 e1 l1=>exact⟨h.ok b k.1,k.2⟩
def Sam(e e':Env)(b:Nat):Prop:=e'.im b=e.im b∧e'.fp b=e.fp b
theorem aaN{e e':Env}(h:e.le e'){b:Nat}(hb:e.ok b)(hs:Sam e e' b)(s:Slot)(g:Nat):dV e' b s g↔dV e b s g:=by
 cases s with
 |box ty cs=>show e'.m b=g↔e.m b=g;rw[h.m b hb]
 |row ty n l=>show Value.ownBlock _=_↔Value.ownBlock _=_;rw[h.sv b hb]
 |dead=>exact Iff.rfl
 |free=>exact Iff.rfl
 |res R lk=>show e'.fp b g↔e.fp b g;rw[hs.2]
 |map P1 k1 e1 l1=>show e'.m b=g↔e.m b=g;rw[h.m b hb]
theorem VU{e e':Env}(h:e.le e'){C C':Nat→List Value}{w:World}{b:Nat}{s:Slot}(hb:e.ok b)(hs:Sam e e' b)(hC:C' b=C b)(k:HW e C w b s):HW e' C' w b s:=by
 cases s with
 |box ty cs=>show w.heap[e'.m b]?=_;rw[h.m b hb,hC];exact k
 |row ty n l=>show World.ownsRow _ _ _ _ _ _ _;rw[h.sv b hb,hC];exact k
 |dead=>trivial
 |free=>trivial
 |res R lk=>
  obtain⟨v,h1,h2⟩:=k
  exact⟨v,by rw[h.m b hb,hs.1,hs.2];exact R.mono h1 h.I fun _ _=>rfl,fun b' e1=>⟨h.ok b' (h2 b' e1).1,(h.sv b' (h2 b' e1).1).trans (h2 b' e1).2⟩⟩
 |map P1 k1 e1 l1=>unfold HW;rw[h.m b hb];exact k
theorem ahI{e e':Env}(h:e.le e'){C C':Nat→List Value}{w:World}{b:Nat}{s:Slot}(hb:e.ok b)(hl:s.live)(hC:C' b=C b)(k:HW e C w b s):HW e' C' w b s:=by
 cases s with
 |box ty cs=>show w.heap[e'.m b]?=_;rw[h.m b hb,hC];exact k
 |row ty n l=>show World.ownsRow _ _ _ _ _ _ _;rw[h.sv b hb,hC];exact k
 |dead=>trivial
 |free=>trivial
 |res R lk=>cases hl
 |map P1 k1 e1 l1=>unfold HW;rw[h.m b hb];exact k
theorem ahJ{e e':Env}(h:e.le e'){C C':Nat→List Value}{w:World}{b:Nat}{s:Slot}(hb:e.ok b)(hl:s.live)(hC:C' b=C b)(k:HW e' C' w b s):HW e C w b s:=by
 cases s with
 |box ty cs=>show w.heap[e.m b]?=_;rw[←h.m b hb,←hC];exact k
 |row ty n l=>show World.ownsRow _ _ _ _ _ _ _;rw[←h.sv b hb,←hC];exact k
 |dead=>trivial
 |free=>trivial
 |res R lk=>cases hl
 |map P1 k1 e1 l1=>unfold HW;rw[←h.m b hb];exact k
def Slot.lv:Slot→Prop
 |.dead=>False
 |.free=>False
 |_=>True
theorem ak3{e:Env}{C:Nat→List Value}{b:Nat}{s:Slot}(h:HV e C b s):s.lv→e.ok b:=by
 cases s<;>intro k<;>first|exact h.1|exact h|exact k.elim
theorem TA{e:Env}{b g:Nat}{s:Slot}(h:dV e b s g):s.lv:=by
 cases s with
 |res R lk=>trivial
 |box ty cs=>trivial
 |row ty n l=>trivial
 |dead=>cases h
 |free=>cases h
 |map P1 k1 e1 l1=>trivial
structure Placed (H:List Slot) (s:Slot) (b:Nat) (H':List Slot):Prop where
 at_:H'[b]?=some s
 old:∀x t,H'[x]?=some t→x≠b→H[x]?=some t
 keep:∀x t,H[x]?=some t→x≠b→H'[x]?=some t
 len:H.length≤H'.length
 amP:b<H'.length
 was:H[b]?=some .free∨H.length≤b
theorem yt{H H':List Slot}{s:Slot}{qs qs':List Ans}{b:Nat}(h:iH H s qs=some (b,H',qs')):Placed H s b H':=by
 unfold iH at h
 split at h
 ·rename_i b0 qs0
  split at h
  ·rename_i hb
   injection h with h
   injection h with h1 h2
   injection h2 with h2 h3
   subst h1 h2 h3
   have hlt:=(List.getElem?_eq_some_iff.1 hb).1
   exact⟨by rw[List.getElem?_set_self hlt],fun x t hx hne=>by rwa [List.getElem?_set_ne (Ne.symm hne)] at hx,fun x t hx hne=>by rw[List.getElem?_set_ne (Ne.symm hne)];exact hx,by simp,by simpa using hlt,.inl hb⟩
  cases h
 injection h with h
 injection h with h1 h2
 injection h2 with h2 h3
 subst h1 h2 h3
 refine⟨by simp,fun x t hx hne=>?_,fun x t hx hne=>?_,by simp,by simp,.inr (Nat.le_refl _)⟩
 all_goals grind
theorem Placed.Om{c:Ctx}{e:Env}{C:Nat→List Value}{H H':List Slot}{w:World}{s:Slot}{b:Nat}(hp:Placed H s b H')(h:Mem c e C H w):¬e.ok b:=fun hb=>by
 rcases hp.was with h1|h1
 ·exact h.hv b _ h1 hb
 have:=h.bound b hb;omega
theorem Mem.place{c:Ctx}{e:Env}{C:Nat→List Value}{H H':List Slot}{w':World}{s:Slot}{b g:Nat}{v:Value}{l:List Value}(h:Mem c e C H w')(hp:Placed H s b H')(hs:s≠.free)
 (hv:HV (e.add b g v) (jB C b l) b s) (hw:HW (e.add b g v) (jB C b l) w' b s) (hn:∀x,dV (e.add b g v) b s x→(∀y t,H[y]?=some t→¬dV e y t x)∧Av e.I x∧(c.w0.heap.size≤x∨c.wr x)):Mem c (e.add b g v) (jB C b l) H' w':=by
 have hb:=hp.Om h
 have hle:=Env.Ec hb g v
 have hC:∀x,x≠b→jB C b l x=C x:=fun x hx=>if_neg hx
 have oldblk:∀x t y,H'[x]?=some t→x≠b→dV (e.add b g v) x t y→H[x]?=some t∧dV e x t y:=fun x t y hx hne hy=>by
  have h1:=hp.old x t hx hne
  have h2:=ak3 (h.hv x t h1) (TA hy)
  exact⟨h1,(aaN hle h2 ⟨rfl,rfl⟩ t y).1 hy⟩
 refine⟨fun x t hx=>?_,fun x t hx=>?_,fun x hx=>?_,fun x x' t t' y h1 h2 k1 k2=>?_,fun x t y hx hy=>?_,fun x t y hx hy=>?_,h.inv,h.le,h.fresh,h.ch,h.g,h.bse.le hle⟩
 ·by_cases hne:x=b
  ·subst hne
   rw[hp.at_] at hx;injection hx with hx;subst hx;exact hv
  have h1:=hp.old x t hx hne
  by_cases hf:t=.free
  ·subst hf
   show ¬(x=b∨e.ok x)
   rintro(h2|h2)
   ·exact hne h2
   exact h.hv x _ h1 h2
  exact rW hle (hC x hne) hf (h.hv x t h1)
 ·by_cases hne:x=b
  ·subst hne
   rw[hp.at_] at hx;injection hx with hx;subst hx;exact hw
  have h1:=hp.old x t hx hne
  cases t with
  |box ty cs=>exact VU hle (h.hv x _ h1).1 ⟨rfl,rfl⟩ (hC x hne) (h.hw x _ h1)
  |row ty n q=>exact VU hle (h.hv x _ h1).1 ⟨rfl,rfl⟩ (hC x hne) (h.hw x _ h1)
  |res R lk=>exact VU (s:=.res R lk) hle (h.hv x _ h1) ⟨rfl,rfl⟩ (hC x hne) (h.hw x _ h1)
  |dead=>trivial
  |free=>trivial
  |map P1 k1 e1 l1=>exact VU hle (h.hv x _ h1).1 ⟨rfl,rfl⟩ (hC x hne) (h.hw x _ h1)
 ·rcases hx with rfl|hx
  ·exact hp.amP
  exact Nat.lt_of_lt_of_le (h.bound x hx) hp.len
 ·by_cases e1:x=b<;>by_cases e2:x'=b
  ·rw[e1,e2]
  ·subst e1
   rw[hp.at_] at h1;injection h1 with h1;subst h1
   grind
  ·subst e2
   rw[hp.at_] at h2;injection h2 with h2;subst h2
   grind
  obtain⟨m1,m2⟩:=oldblk x t y h1 e1 k1
  obtain⟨n1,n2⟩:=oldblk x' t' y h2 e2 k2
  exact h.inj x x' t t' y m1 n1 m2 n2
 ·by_cases e1:x=b
  ·subst e1
   rw[hp.at_] at hx;injection hx with hx;subst hx
   exact(hn y hy).2.1
  obtain⟨m1,m2⟩:=oldblk x t y hx e1 hy
  exact h.av x t y m1 m2
 by_cases e1:x=b
 ·subst e1
  rw[hp.at_] at hx;injection hx with hx;subst hx
  grind
 obtain⟨m1,m2⟩:=oldblk x t y hx e1 hy
 exact h.mine x t y m1 m2
theorem Mem.new{c:Ctx}{e:Env}{C:Nat→List Value}{H:List Slot}{w:World}(h:Mem c e C H w){x:Nat}(hx:w.heap.size≤x):(∀y t,H[y]?=some t→¬dV e y t x)∧Av e.I x∧(c.w0.heap.size≤x∨c.wr x):=
 ⟨fun y t hy hb=>by have:=h.lt hy hb;omega,h.inv.av hx,.inl (Nat.le_trans h.ch.size hx)⟩
end Go.Proofs.YtpdlghcgekojlaaGreatDoor
namespace Go.Proofs.YtpdlghcgekojlaaGreatDoor
open Go.RowKit
theorem lC{g:Nat}{ty:TypeId}:∀(vs:List Value) (o:Nat) (cs:List Value) (w:World),w.heap[g]?=some (.cells cs.toArray ty (0,0))→o+vs.length≤cs.length→
 (w.setCells g o vs).heap[g]?=some (.cells (cs.take o++vs++cs.drop (o+vs.length)).toArray ty (0,0))
 |[],o,cs,w,h,_=>by
  show w.heap[g]?=_
  rw[h];simp
 |v::r,o,cs,w,h,hl=>by
  show((w.setCell ⟨g,o,none⟩ v).setCells g (o+1) r).heap[g]?=_
  simp only[List.length_cons] at hl
  have h1:=VF h o v
  rw[List.setIfInBounds_toArray] at h1
  rw[lC r (o+1) (cs.set o v) _ h1 (by simp;omega)]
  congr 3
  have e1:(cs.set o v).take (o+1)=cs.take o++[v]:=by
   rw[List.take_succ_eq_append_getElem (by simp;omega),List.take_set_of_le (Nat.le_refl _)];simp
  have e2:(cs.set o v).drop (o+1+r.length)=cs.drop (o+(r.length+1)):=by
   rw[List.drop_set_of_lt (by omega),show o+1+r.length=o+(r.length+1) by omega]
  grind
theorem lD(g:Nat):∀(vs:List Value) (o:Nat) (w:World),w.grownBy (w.setCells g o vs) (some g)
 |[],o,w=>⟨rfl,rfl,rfl,Nat.le_refl _,fun _ _ _=>rfl⟩
 |v::r,o,w=>by
  have h1:w.grownBy (w.setCell ⟨g,o,none⟩ v) (some g):=KX (w:=w) ⟨rfl,rfl,rfl,Nat.le_refl _,fun _ _ _=>rfl⟩ (.inl rfl) v
  exact yh h1 (lD g r (o+1) _)
section
variable {P:Program}
theorem run_store{t:TypeId}{n:Nat}(hi:(P.info? t).map (·.size)=some n){v:Value}(hn:v.cells.size=n){w:World}{b o:Nat}(ht:w.there b o n)(h1:∀u∈v.cells.toList,u.oneCell'=true):
 (Instr.storeAt t (.pointer (some ⟨b,o,none⟩)) v).run P w=.ok () (w.setCells b o v.cells.toList):=by
 have h2:=run_storeCells_cells (P:=P) b o v.cells.toList 0 w (fun j hj=>by simpa using(ht j (by simp at hj;omega)).1) (fun j hj=>by simpa using(ht j (by simp at hj;omega)).2) h1
 simp only[Nat.add_zero] at h2
 simp only[Instr.storeAt,Instr.sureAddr,Sem.run_bind,Sem.run_pure,Result.andThen_ok,storeVar,run_sizeOf' hi,hn,ne_eq,not_true_eq_false,if_false]
 exact h2
end
theorem Io{w:World}{g:Nat}{ty:TypeId}{cs:List Value}(h:w.heap[g]?=some (.cells cs.toArray ty (0,0))){o n:Nat}(hl:o+n≤cs.length):w.there g o n:=fun j hj=>
 ⟨by rw[lq h];simp;omega,yR h _⟩
theorem VR.flat{e:Env}{x:AV}(hx:x.N8=true){v:Value}(h:VR e x v):∀u∈v.cells.toList,u.oneCell'=true:=by
 have one:x.G8=true→∀u∈v.cells.toList,u.oneCell'=true:=fun hb=>by
  have h1:=VR.one hb h
  rw[cells_one h1]
  grind
 cases x<;>simp only[AV.N8] at hx
 case dat r=>
  obtain⟨cs,rfl,h1⟩:=VR.dat.1 h
  intro u hu
  exact bV.one r cs h1 u (by simpa[Value.cells] using hu)
 case agg l=>
  obtain⟨cs,rfl,h1⟩:=VR.agg.1 h
  intro u hu
  have hu:u∈cs:=by simpa[Value.cells] using hu
  clear h one
  induction l generalizing cs with
  |nil=>unfold VRs at h1;subst h1;cases hu
  |cons y r ih=>
   unfold VRs at h1
   obtain⟨c,q,rfl,k1,k2⟩:=h1
   rw[List.all_cons,Bool.and_eq_true] at hx
   rcases List.mem_cons.1 hu with rfl|hu
   ·exact VR.one hx.1 k1
   exact ih hx.2 q k2 (by simpa[Value.cells] using hu) hu
 all_goals grind
structure iU (ch:List Nat) (gr:Bool) (e:Env) (C:Nat→List Value) (H:List Slot) (e':Env) (C':Nat→List Value) (H':List Slot) (w':World):Prop where
 le:e.le e'
 I:gr=false→e'.I=e.I
 lk:∀b s,H[b]?=some s→b ∉ ch→s.live→∃s',H'[b]?=some s'∧s'.live∧∀w,HW e' C' w b s'→HW e C w b s
 inv:Inv e.I w'
def LOp(c:Ctx)(o:Oper)(st st':St)(ch:List Nat)(gr:Bool):Prop:=
 ∀e C a w next Q,Rep c e C st a w→(∀e' C' a' w',Rep c e' C' st' a' w'→iU ch gr e C st.H e' C' st'.H w'→next a' w')→o.wp c.P a w next Q
def jq(nt:Nat)(T:List (Nat×AV))(dst:Option Tmp)(v:AV):Option (List (Nat×AV)):=match dst with
 |some d=>match Nat.blt d nt with
  |true=>some ((d,v)::T)
  |false=>none
 |none=>some T
theorem jr{e:Env}{nt:Nat}{T T':List (Nat×AV)}{dst:Option Tmp}{x:AV}(h:jq nt T dst x=some T'){a:Act}(hT:iP e T a.tmps)(hs:a.tmps.size=nt){u:Value}(hx:VR e x u):
 iP e T' (a.put dst u).tmps∧(a.put dst u).tmps.size=nt∧(a.put dst u).defers=a.defers:=by
 unfold jq at h
 split at h
 ·rename_i d
  split at h
  ·rename_i hd
   injection h with h
   subst h
   have hd:d<nt:=Nat.le_of_ble_eq_true hd
   refine⟨fun t y hy=>?_,by simp[Act.put,hs],rfl⟩
   unfold lk at hy
   split at hy
   ·rename_i hb
    injection hy with hy
    subst hy
    have:=dX hb
    subst this
    exact⟨u,by show(a.tmps.setIfInBounds d u)[d]?=some u;rw[Array.getElem?_setIfInBounds_self_of_lt (Nat.lt_of_lt_of_eq hd hs.symm)],hx⟩
   rename_i hb
   obtain⟨z,h1,h2⟩:=hT t y hy
   refine⟨z,?_,h2⟩
   have hne:d≠t:=fun h=>by subst h;simp at hb
   simp[Act.put,Array.getElem?_setIfInBounds,hne,h1]
  cases h
 injection h with h
 subst h
 exact⟨hT,hs,rfl⟩
theorem iP.mono{e e':Env}(h:e.le e'){T:List (Nat×AV)}{tmps:Array Value}(k:iP e T tmps):iP e' T tmps:=fun t v hv=>by
 obtain⟨u,h1,h2⟩:=k t v hv
 exact⟨u,h1,VR.mono h _ _ h2⟩
theorem LOp.value{c:Ctx}{o:Oper}{st:St}{T':List (Nat×AV)}{H':List Slot}{x:AV}{ch:List Nat}{gr:Bool}(hT:jq c.nt st.T o.dst x=some T')
 (h:∀e C a w,Rep c e C st a w→∃u e' C' w',(execOp a.eval o).run c.P w=.ok (.value u) w'∧VR e' x u∧Mem c e' C' H' w'∧iU ch gr e C st.H e' C' H' w'):LOp c o st ⟨T',H'⟩ ch gr:=by
 intro e C a w next Q hR K
 obtain⟨u,e',C',w',h1,h2,h3,h4⟩:=h e C a w hR
 unfold Oper.wp
 rw[h1]
 obtain⟨k1,k2,k3⟩:=jr hT (hR.tmp.mono h4.le) hR.size h2
 exact K e' C' _ w' ⟨k1,k2,k3.trans hR.defers,h3⟩ h4
theorem LOp.skip{c:Ctx}{o:Oper}{st:St}{T':List (Nat×AV)}{H':List Slot}{ch:List Nat}{gr:Bool}(hT:jq c.nt st.T o.dst (.raw undef)=some T')
 (h:∀e C a w,Rep c e C st a w→∃e' C' w',(execOp a.eval o).run c.P w=.ok .skip w'∧Mem c e' C' H' w'∧iU ch gr e C st.H e' C' H' w'):LOp c o st ⟨T',H'⟩ ch gr:=by
 intro e C a w next Q hR K
 obtain⟨e',C',w',h1,h3,h4⟩:=h e C a w hR
 unfold Oper.wp
 rw[h1]
 obtain⟨k1,k2,k3⟩:=jr hT (hR.tmp.mono h4.le) hR.size (by unfold VR;rfl:VR e' (.raw undef) undef)
 exact K e' C' _ w' ⟨k1,k2,k3.trans hR.defers,h3⟩ h4
theorem iU.same{c:Ctx}{e:Env}{C:Nat→List Value}{st:St}{a:Act}{w:World}(h:Rep c e C st a w):iU [] false e C st.H e C st.H w:=
 ⟨Env.le.refl e,fun _=>rfl,fun b s hb _ hl=>⟨s,hb,hl,fun _ h=>h⟩,h.mem.inv⟩
theorem LOp.quiet{c:Ctx}(hc:c.Ok){o:Oper}{st:St}{T':List (Nat×AV)}{x:AV}{qs qs':List Ans}{p:List Prop}(h:qev c.P c.tt true true st.T st.H o.op qs=some (x,qs',p))(hp:dN p)(hT:jq c.nt st.T o.dst x=some T'):LOp c o st ⟨T',st.H⟩ [] false:=
 LOp.value hT fun e C a w hR=>by
  obtain⟨u,h1,h2⟩:=Tz hc.tt hR.tmp hR.mem.hv rfl h hp
  exact⟨u,e,C,w,h2 w ⟨fun _ b s h _=>hR.mem.hw b s h,fun _=>⟨hR.mem.inv,fun b s h _=>hR.mem.hw b s h⟩⟩,h1,hR.mem,iU.same hR⟩
theorem Mem.put{c:Ctx}{e:Env}{C:Nat→List Value}{H:List Slot}{w w':World}(h:Mem c e C H w){b:Nat}{s s':Slot}{g:Nat}(hb:H[b]?=some s)(hg:dV e b s g)(hg':∀x,dV e b s' x→x=g)(hf:s'≠.free){l:List Value}
 (hv:HV e (jB C b l) b s') (hw:HW e (jB C b l) w' b s') (k:w.grownBy w' (some g)):Mem c e (jB C b l) (H.set b s') w':=by
 have hlt:=(List.getElem?_eq_some_iff.1 hb).1
 have hC:∀x,x≠b→jB C b l x=C x:=fun x hx=>if_neg hx
 have key:∀x t,(H.set b s')[x]?=some t→x≠b→H[x]?=some t:=fun x t hx hne=>by rwa [List.getElem?_set_ne (Ne.symm hne)] at hx
 have key2:∀x t,(H.set b s')[x]?=some t→x=b→t=s':=fun x t hx he=>by
  grind
 have far:∀x t y,H[x]?=some t→x≠b→dV e x t y→y≠g:=fun x t y h1 h2 h3 h4=>by
  subst h4;exact h2 (h.inj x b t s y h1 hb h3 hg)
 have hwC:∀x t,x≠b→HW e C w' x t→HW e (jB C b l) w' x t:=fun x t hne k=>by
  cases t with
  |box ty cs=>show _=some (Obj.cells (jB C b l x).toArray ty (0,0));rw[hC x hne];exact k
  |row ty n q=>show World.ownsRow _ _ _ _ _ _ _;rw[hC x hne];exact k
  |dead=>trivial
  |free=>trivial
  |res R lk=>exact k
  |map P1 k1 e1 l1=>exact k
 have hvC:∀x t,x≠b→HV e C x t→HV e (jB C b l) x t:=fun x t hne k=>by
  cases t with
  |box ty cs=>exact⟨k.1,by rw[hC x hne];exact k.2⟩
  |row ty n q=>exact⟨k.1,by rw[hC x hne];exact k.2.1,k.2.2⟩
  |dead=>trivial
  |free=>exact k
  |res R lk=>exact k
  |map P1 k1 e1 l1=>exact k
 refine⟨fun x t hx=>?_,fun x t hx=>?_,fun x hx=>by rw[List.length_set];exact h.bound x hx,fun x x' t t' y h1 h2 k1 k2=>?_,fun x t y hx hy=>?_,fun x t y hx hy=>?_,h.inv.grown k (fun y hy=>by injection hy with hy;subst hy;exact h.av b s _ hb hg),h.le,h.fresh,h.ch.grown k (fun y hy=>by injection hy with hy;subst hy;exact h.mine b s _ hb hg),h.g,h.bse⟩
 ·by_cases hne:x=b
  ·grind
  exact hvC x t hne (h.hv x t (key x t hx hne))
 ·by_cases hne:x=b
  ·grind
  have h1:=key x t hx hne
  exact hwC x t hne (qM (h.hw x t h1) fun y hy=>k.block y (h.lt h1 hy) (fun e1=>by injection e1 with e1;exact far x t y h1 hne hy e1))
 ·by_cases e1:x=b<;>by_cases e2:x'=b
  ·rw[e1,e2]
  ·grind
  ·grind
  exact h.inj x x' t t' y (key x t h1 e1) (key x' t' h2 e2) k1 k2
 ·by_cases e1:x=b
  ·have:=key2 x t hx e1
   subst this e1
   rw[hg' y hy];exact h.av x s g hb hg
  exact h.av x t y (key x t hx e1) hy
 by_cases e1:x=b
 ·have:=key2 x t hx e1
  subst this e1
  rw[hg' y hy];exact h.mine x s g hb hg
 exact h.mine x t y (key x t hx e1) hy
end Go.Proofs.YtpdlghcgekojlaaGreatDoor
namespace Go.Proofs.YtpdlghcgekojlaaGreatDoor
open Go.RowKit
def rX:AV→Option AV
 |.dat r=>some (.dat r)
 |.agg l=>some (.agg l)
 |.lf x=>some (.dat [x])
 |.tup _=>none
 |x=>match x.G8 with
  |true=>some (.agg [x])
  |false=>none
theorem TB{e:Env}{x y:AV}(h:rX x=some y){v:Value}(hv:VR e x v):VR e y (.agg v.cells.toList.toArray):=by
 unfold rX at h
 split at h
 ·injection h with h;subst h
  obtain⟨cs,rfl,h1⟩:=VR.dat.1 hv
  exact VR.dat.2 ⟨cs,by simp[Value.cells],h1⟩
 ·injection h with h;subst h
  obtain⟨cs,rfl,h1⟩:=VR.agg.1 hv
  exact VR.agg.2 ⟨cs,by simp[Value.cells],h1⟩
 ·injection h with h;subst h
  have h1:=VR.lf.1 hv
  rw[cells_one (LRp.one _ _ h1)]
  exact VR.dat.2 ⟨[v],rfl,v,[],rfl,h1,rfl⟩
 ·cases h
 split at h
 ·rename_i hb
  injection h with h;subst h
  rw[cells_one (VR.one hb hv)]
  exact VR.agg.2 ⟨[v],rfl,VRs.one hv⟩
 cases h
theorem afl(w:World)(o:Obj):(w.alloc o).heap[w.heap.size]?=some o:=heap_alloc_new w o
theorem amQ{e:Env}{C C':Nat→List Value}{w:World}{b:Nat}{s:Slot}(hC:C' b=C b)(h:HW e C' w b s):HW e C w b s:=by
 cases s with
 |box ty cs=>show _=some (Obj.cells (C b).toArray ty (0,0));rw[←hC];exact h
 |row ty n q=>show World.ownsRow _ _ _ _ _ _ _;rw[←hC];exact h
 |dead=>trivial
 |free=>trivial
 |res R lk=>exact h
 |map P1 k1 e1 l1=>exact h
theorem Ba{e:Env}{C:Nat→List Value}{H:List Slot}{b:Nat}{s':Slot}{l:List Value}:∀x s,H[x]?=some s→x ∉ [b]→s.live→∃s1,(H.set b s')[x]?=some s1∧s1.live∧∀w,HW e (jB C b l) w x s1→HW e C w x s:=fun x s hs hne hl=>by
 have hx:x≠b:=by simpa using hne
 exact⟨s,by rw[List.getElem?_set_ne (Ne.symm hx)];exact hs,hl,fun w h=>amQ (if_neg hx) h⟩
theorem DN{e:Env}{C:Nat→List Value}{b:Nat}{s:Slot}(h:HV e C b s)(hl:s.live):e.ok b:=by
 cases s with
 |box ty cs=>exact h.1
 |row ty n l=>exact h.1
 |dead=>cases hl
 |free=>cases hl
 |res R lk=>cases hl
 |map P1 k1 e1 l1=>exact h.1
theorem Placed.links{c:Ctx}{e:Env}{C:Nat→List Value}{H H':List Slot}{w:World}{s0:Slot}{b:Nat}(hp:Placed H s0 b H')(h:Mem c e C H w)(g:Nat)(v:Value)(l:List Value):∀x s,H[x]?=some s→x ∉ ([]:List Nat)→s.live→∃s1,H'[x]?=some s1∧s1.live∧∀w,HW (e.add b g v) (jB C b l) w x s1→HW e C w x s:=fun x s hs _ hl=>by
 have hok:=DN (h.hv x s hs) hl
 have hb:=hp.Om h
 have hx:x≠b:=fun e1=>hb (by rw[←e1];exact hok)
 exact⟨s,hp.keep x s hs hx,hl,fun w h1=>ahJ (Env.Ec hb g v) hok hl (if_neg hx) h1⟩
theorem Mem.box{c:Ctx}{e:Env}{C:Nat→List Value}{H H':List Slot}{w:World}{b:Nat}{ty:TypeId}{x y:AV}{v:Value}{qs qs':List Ans}(h:Mem c e C H w)(hy:rX x=some y)(hv:VR e x v)(hp:iH H (.box ty y) qs=some (b,H',qs')):
 ∃e' C',Mem c e' C' H' (w.alloc (.cells v.cells ty))∧e.le e'∧VR e' (.ptr b 0) (.pointer (some ⟨w.heap.size,0,none⟩))∧iU [] false e C H e' C' H' (w.alloc (.cells v.cells ty)):=by
 have hP:=yt hp
 have hE:Ext w (w.alloc (.cells v.cells ty)):=(Ext.refl w).alloc _
 have hM:=h.ext hE
 have hb:=hP.Om hM
 have hle:=Env.Ec hb w.heap.size undef
 refine⟨e.add b w.heap.size undef,jB C b v.cells.toList,hM.place hP (by simp) ⟨.inl rfl,?_⟩ ?_ (fun z hz=>?_),hle,?_,⟨hle,fun _=>rfl,hP.links hM _ _ _,hM.inv⟩⟩
 ·rw[show jB C b v.cells.toList b=v.cells.toList from if_pos rfl]
  exact VR.mono hle _ _ (TB hy hv)
 ·show(w.alloc _).heap[(if b=b then w.heap.size else e.m b)]?=some (Obj.cells (jB C b v.cells.toList b).toArray ty (0,0))
  rw[if_pos rfl,show jB C b v.cells.toList b=v.cells.toList from if_pos rfl,Array.toArray_toList]
  exact afl w _
 ·have hz:(if b=b then w.heap.size else e.m b)=z:=hz
  rw[if_pos rfl] at hz
  subst hz
  have:=h.new (Nat.le_refl w.heap.size)
  exact this
 unfold VR
 refine⟨.inl rfl,?_⟩
 show _=Value.pointer (some ⟨(if b=b then w.heap.size else e.m b),0,none⟩)
 simp
section
variable {c:Ctx} {o:Oper} {st:St}
theorem LOp.alloc(hc:c.Ok){t:TypeId}(ho:o.op=.alloc t){i:TI}(hi:jm c.tt t=some i){z y:AV}(hz:i.z=some z)(hy:rX z=some y){b:Nat}{H':List Slot}{qs qs':List Ans}(hp:iH st.H (.box t y) qs=some (b,H',qs'))
 {T':List (Nat×AV)} (hT:jq c.nt st.T o.dst (.ptr b 0)=some T'):LOp c o st ⟨T',H'⟩ [] false:=
 LOp.value hT fun e C a w hR=>by
  obtain⟨ok,rfl⟩:=gG hc.tt hi
  obtain⟨ti,h1,h2,h3,h4⟩:=ok.info
  obtain⟨zv,h5,h6,h7⟩:=h4 z hz
  obtain⟨e',C',k1,k2,k3,k4⟩:=hR.mem.box hy (h7 e) hp
  refine⟨_,e',C',_,?_,k3,k1,k4⟩
  simp[execOp,ho,Instr.alloc,zeroValue,typeInfo,h1,h5,newVar,newRow,newObj,Sem.run]
theorem LOp.box{t:TypeId}{x:Operand}(ho:o.op=.box t x){z y:AV}(hz:ev st.T x=some z)(hy:rX z=some y){b:Nat}{H':List Slot}{qs qs':List Ans}(hp:iH st.H (.box t y) qs=some (b,H',qs'))
 {T':List (Nat×AV)} (hT:jq c.nt st.T o.dst (.ptr b 0)=some T'):LOp c o st ⟨T',H'⟩ [] false:=
 LOp.value hT fun e C a w hR=>by
  obtain⟨e',C',k1,k2,k3,k4⟩:=hR.mem.box hy (dh hR.tmp hz) hp
  refine⟨_,e',C',_,?_,k3,k1,k4⟩
  simp[execOp,ho,Instr.box,newVar,newRow,newObj,Sem.run]
theorem LOp.store(hc:c.Ok){t:TypeId}{x y:Operand}(ho:o.op=.store t x y){i:TI}(hi:jm c.tt t=some i){b q:Nat}(hx:ev st.T x=some (.ptr b q)){v:AV}(hy:evN i.z st.T y=some v){n:Nat}(hn:v.width=some n)(hin:n=i.size)(hfl:v.N8=true)
 {ty:TypeId} {cs cs':AV} (hb:st.H[b]?=some (.box ty cs)) (hu:Tn cs q v=some cs') {T':List (Nat×AV)} (hT:jq c.nt st.T o.dst (.raw undef)=some T'):LOp c o st ⟨T',st.H.set b (.box ty cs'.n1)⟩ [b] false:=
 LOp.skip hT fun e C a w hR=>by
  obtain⟨ok,rfl⟩:=gG hc.tt hi
  have hx:=dh hR.tmp hx
  have hy:=La hR.tmp hy
  unfold VR at hx
  have hv:=hR.mem.hv b _ hb
  have hw:=hR.mem.hw b _ hb
  have hsz:=VR.width hn hy
  obtain⟨h1,h2⟩:=Lh hu hv.2 hy
  have hrun:=run_store (P:=c.P) (t:=i.t) ok.size (v:=a.eval y) (by rw[hsz,hin]) (w:=w) (b:=e.m b) (o:=q) (Io hw (by rw[←hin,←hsz];exact h1)) (VR.flat hfl hy)
  have hheap:=lC (a.eval y).cells.toList q (C b) w hw (by simpa using h1)
  have hM:=hR.mem.put (s':=.box ty cs'.n1) (l:=(C b).take q++(a.eval y).cells.toList++(C b).drop (q+(a.eval y).cells.toList.length)) hb (g:=e.m b) rfl (fun z hz=>Eq.symm hz) (by simp)
   ⟨hv.1,by rw[show jB C b _ b=_ from if_pos rfl];exact h2.n1⟩ (by show _=some (Obj.cells (jB C b _ b).toArray ty (0,0));rw[show jB C b _ b=_ from if_pos rfl];exact hheap) (lD (e.m b) (a.eval y).cells.toList q w)
  refine⟨e,_,_,?_,hM,Env.le.refl e,fun _=>rfl,Ba,hM.inv⟩
  simp[execOp,ho,hx.2,hrun]
end
end Go.Proofs.YtpdlghcgekojlaaGreatDoor
namespace Go.Proofs.YtpdlghcgekojlaaGreatDoor
open Go.RowKit
theorem Mem.row{c:Ctx}{e:Env}{C:Nat→List Value}{H H':List Slot}{w':World}{b n:Nat}{ty:TypeId}{l:List (List Lf)}{v:Value}{xs:List Value}{qs qs':List Ans}(h:Mem c e C H w')(hp:iH H (.row ty n l) qs=some (b,H',qs'))
 (hl:∀r∈l,r.length=n) (hv:bV e.I l.flatten xs) (ho:w'.ownsRow 0 ty n v l.length xs)
 (hn:∀x,v.ownBlock=some x→(∀y t,H[y]?=some t→¬dV e y t x)∧Av e.I x∧(c.w0.heap.size≤x∨c.wr x)) (hm:l.length≤maxLen):
 ∃e' C',Mem c e' C' H' w'∧e.le e'∧VR e' (.own b) v∧iU [] false e C H e' C' H' w':=by
 have hP:=yt hp
 have hb:=hP.Om h
 have hle:=Env.Ec hb 0 v
 have hs:(e.add b 0 v).sv b=v:=if_pos rfl
 have hshape:(v=.slice none 0 0∧l=[])∨∃g c,v=.slice (some ⟨g,0,none⟩) l.length c:=by
  rcases ho.2 with⟨h1,h2⟩|⟨g,cap,cur,h1,_⟩
  all_goals grind
 refine⟨e.add b 0 v,jB C b xs,h.place hP (by simp) ⟨.inl rfl,?_,hl,hm,?_⟩ ?_ (fun z hz=>?_),hle,?_,⟨hle,fun _=>rfl,hP.links h _ _ _,h.inv⟩⟩
 ·rw[show jB C b xs b=xs from if_pos rfl];exact hv
 ·grind
 ·show w'.ownsRow 0 ty n ((e.add b 0 v).sv b) l.length (jB C b xs b)
  rw[hs,show jB C b xs b=xs from if_pos rfl];exact ho
 ·have hz:((e.add b 0 v).sv b).ownBlock=some z:=hz
  grind
 unfold VR
 refine⟨.inl rfl,hs.symm,?_⟩
 grind
theorem yY{n:Nat}:∀(l:List (List Lf)),(∀r∈l,r.length=n)→l.flatten.length=l.length*n
 |[],_=>by simp
 |x::r,h=>by rw[List.flatten_cons,List.length_append,yY r (fun q hq=>h q (by simp[hq])),h x (by simp),List.length_cons,Nat.add_mul];omega
def yZ(v:AV):Option (List Lf):=match v.toD with
 |some (.lf x)=>some [x]
 |some (.dat r)=>some r
 |_=>none
theorem Ed{e:Env}{x:AV}{r:List Lf}(h:yZ x=some r){v:Value}(hv:VR e x v):bV e.I r v.cells.toList:=by
 unfold yZ at h
 split at h
 ·rename_i y hy
  injection h with h;subst h
  have h1:=VR.lf.1 (VR.toD hy hv)
  rw[cells_one (LRp.one _ _ h1)]
  exact⟨v,[],rfl,h1,rfl⟩
 ·rename_i r' hy
  injection h with h;subst h
  obtain⟨cs,rfl,h1⟩:=VR.dat.1 (VR.toD hy hv)
  simpa[Value.cells] using h1
 cases h
def qN(T:List (Nat×AV))(n:Nat):Nat→List (Nat×Operand)→Option (List (List Lf))
 |_,[]=>some []
 |k,(j,o)::r=>match Nat.beq j k with
  |true=>match ev T o with
   |some v=>match yZ v with
    |some q=>match Nat.beq q.length n with
     |true=>match qN T n (k+1) r with
      |some s=>some (q::s)
      |none=>none
     |false=>none
    |none=>none
   |none=>none
  |false=>none
theorem uG{e:Env}{T:List (Nat×AV)}{a:Act}(hT:iP e T a.tmps){n:Nat}:∀(parts:List (Nat×Operand)) (k:Nat) (l:List (List Lf)) (cs:List Value),qN T n k parts=some l→cs.length=(k+parts.length)*n→
 ∃xs,Instr.fill (fun i=>some (i*n,n)) cs.toArray (parts.map fun z=>(z.1,a.eval z.2))=some (cs.take (k*n)++xs).toArray∧bV e.I l.flatten xs∧(∀r∈l,r.length=n)∧l.length=parts.length
 |[],k,l,cs,h,hc=>by
  simp only[qN] at h
  injection h with h
  subst h
  refine⟨[],?_,rfl,(fun r hr=>by cases hr),rfl⟩
  simp only[List.map_nil,Instr.fill,List.append_nil]
  rw[List.take_of_length_le (by simp at hc;omega)]
 |(j,o)::r,k,l,cs,h,hc=>by
  simp only[qN] at h
  split at h
  ·rename_i hj
   split at h
   ·rename_i v hv
    split at h
    ·rename_i q hq
     split at h
     ·rename_i hn
      split at h
      ·rename_i s hs
       injection h with h
       subst h
       have hj:=dX hj
       have hn:=dX hn
       subst hj
       have hv:=dh hT hv
       have h1:=Ed hq hv
       have hu:(a.eval o).cells.size=n:=by rw[←hn,←bV.len _ _ h1];simp
       simp only[List.length_cons] at hc
       have hlen:j*n+n≤cs.length:=by rw[hc,Nat.add_mul,Nat.add_mul];omega
       obtain⟨xs,k1,k2,k3,k4⟩:=uG hT r (j+1) s (cs.take (j*n)++(a.eval o).cells.toList++cs.drop (j*n+(a.eval o).cells.toList.length)) hs (by
        simp only[List.length_append,List.length_take,List.length_drop,Array.length_toList,hu]
        rw[show j+1+r.length=j+(r.length+1) by omega];omega)
       refine⟨(a.eval o).cells.toList++xs,?_,by rw[List.flatten_cons];exact bV.app _ _ _ _ h1 k2,fun r' hr=>?_,by simp[k4]⟩
       ·rw[List.map_cons, Ii (off:=j*n) (n:=n) rfl hu (by omega), k1]
        congr 2
        rw[←List.append_assoc]
        congr 1
        rw[List.take_append_of_le_length (by simp[hu];rw[Nat.add_mul];omega)]
        rw[List.take_of_length_le (by simp[hu];rw[Nat.add_mul];omega)]
       rcases List.mem_cons.1 hr with rfl|hr
       ·exact hn
       exact k3 r' hr
      cases h
     cases h
    cases h
   cases h
  cases h
section
variable {c:Ctx} {o:Oper} {st:St}
theorem LOp.buildSlice(hc:c.Ok){t:TypeId}{len:Nat}{parts:Array (Nat×Operand)}(ho:o.op=.buildSlice t len parts){el:TypeId}{n:Nat}(he:jQ c.tt t=some (el,n)){i:TI}(hi:jm c.tt el=some i){z:AV}(hz:i.z=some z)
 {l:List (List Lf)} (hl:qN st.T n 0 parts.toList=some l) (hlen:l.length=len) (hsm:len*n≤16777216) (hn0:0<n) {b:Nat} {H':List Slot} {qs qs':List Ans} (hp:iH st.H (.row el n l) qs=some (b,H',qs'))
 {T':List (Nat×AV)} (hT:jq c.nt st.T o.dst (.own b)=some T'):LOp c o st ⟨T',H'⟩ [] false:=
 LOp.value hT fun e C a w hR=>by
  obtain⟨hu,hs⟩:=kD hc.tt he
  obtain⟨ok,hel⟩:=gG hc.tt hi
  obtain⟨ti,h1,h2,h3,h4⟩:=ok.info
  obtain⟨zv,h5,h6,h7⟩:=h4 z hz
  rw[hel] at h1
  have hsz:zv.cells.size=n:=by
   rw[h1] at hs;injection hs with hs
   have hs:ti.size=n:=hs
   omega
  have hpl:parts.toList.length=len:=by
   obtain⟨xs,_,_,_,k4⟩:=uG hR.tmp parts.toList 0 l (List.replicate (parts.toList.length*n) undef) hl (by simp)
   omega
  obtain⟨Z,hZ⟩:∃Z:Array Value,(if len*n=0 then(#[]:Array Value) else zv.cells)=Z:=⟨_,rfl⟩
  obtain⟨xs,k1,k2,k3,k4⟩:=uG hR.tmp parts.toList 0 l ((Array.range (len*n)).map (Z[·%Z.size]!)).toList hl (by simp[←hpl])
  have hz0:(zeroValue el).run c.P w=.ok zv w:=by simp[zeroValue,typeInfo,h1,h5]
  have hZr:((if len*n=0 then pure #[] else do pure (←zeroValue el).cells):Sem (Array Value)).run c.P w=.ok Z w:=by
   rw[←hZ]
   split
   ·rfl
   simp only[Sem.run_bind,hz0,Result.andThen_ok,Sem.run_pure]
  have hxs:xs.length=len*n:=by
   rw[bV.len _ _ k2,yY l k3,hlen]
  have hrun:(execOp a.eval o).run c.P w=.ok (.value (.slice (some ⟨w.heap.size,0,none⟩) len len)) (w.alloc (.cells xs.toArray el)):=by
   simp only[Array.toArray_toList,Nat.zero_mul,List.take_zero,List.nil_append] at k1
   have k1':Instr.fill (fun i=>some (i*n,n)) (Array.map (fun x=>Z[x%Z.size]!) (Array.range (len*n))) (parts.map fun(i,x)=>(i,a.eval x)).toList=some xs.toArray:=by rw[Array.toList_map];exact k1
   simp only[execOp,ho,Instr.buildSlice,Sem.run_bind,run_underlying hu,Result.andThen_ok,run_sizeOf' hs]
   rw[if_neg (by omega)]
   by_cases h00:len*n=0
   ·rw[if_pos h00] at hZ ⊢
    subst hZ
    simp only[Sem.run_bind,Sem.run_pure,Result.andThen_ok]
    rw[k1']
    simp[newRow,newObj,Sem.run]
   rw[if_neg h00] at hZ ⊢
   subst hZ
   simp only[Sem.run_bind,hz0,Sem.run_pure,Result.andThen_ok]
   rw[k1']
   simp[newRow,newObj,Sem.run]
  have hE:Ext w (w.alloc (.cells xs.toArray el)):=(Ext.refl w).alloc _
  have hown:=World.ownsRow_lit (base:=0) (e:=el) (size:=n) w xs.toArray len (Nat.zero_le _) (by unfold maxLen;have:len≤len*n:=Nat.le_mul_of_pos_right _ hn0;omega) (by simp[hxs])
  obtain⟨e', C', m1, m2, m3, m4⟩:=(hR.mem.ext hE).row (v:=.slice (some ⟨w.heap.size, 0, none⟩) len len) (xs:=xs) hp k3 k2 (by rw[hlen];simpa using hown) (fun x hx=>by
   injection hx with hx
   subst hx
   exact hR.mem.new (Nat.le_refl _)) (by rw[hlen];unfold maxLen;have:len≤len*n:=Nat.le_mul_of_pos_right _ hn0;omega)
  exact⟨_,e',C',_,hrun,m3,m1,m4⟩
theorem uH(zs:List Value):∀k,(madeCells zs.toArray (k*zs.length)).toList=(List.replicate k zs).flatten
 |0=>by simp[madeCells]
 |k+1=>by
  rw[List.replicate_succ',List.flatten_append,←uH zs k]
  simp only[madeCells,Array.toList_map,Array.toList_range,List.flatten_cons,List.flatten_nil,List.append_nil]
  rw[Nat.add_mul,Nat.one_mul,List.range_add,List.map_append]
  congr 1
  apply List.ext_getElem?
  intro j
  rw[List.getElem?_map,List.getElem?_map]
  by_cases hj:j<zs.length
  ·rw[List.getElem?_range hj,List.getElem?_eq_getElem hj]
   simp only[Option.map_some,List.size_toArray]
   rw[Nat.mul_comm k,Nat.mul_add_mod,Nat.mod_eq_of_lt hj]
   simp[hj]
  grind
theorem LOp.make(hc:c.Ok){t:TypeId}{x y:Operand}(ho:o.op=.makeSlice t x y){el:TypeId}{n:Nat}(he:jQ c.tt t=some (el,n)){i:TI}(hi:jm c.tt el=some i){z:AV}(hz:i.z=some z){q:List Lf}(hq:yZ z=some q)
 {k1 k2:IntKind} {m m':Int} (hx:ev st.T x=some (.lf (.int k1 m))) (hy:ev st.T y=some (.lf (.int k2 m'))) (hm:m'=m) (h0:0≤m) (hb1:i.bytes*m.toNat≤281474976710656) (hb2:m.toNat≤maxLen) {b:Nat} {H':List Slot} {qs qs':List Ans} (hp:iH st.H (.row el n (List.replicate m.toNat q)) qs=some (b,H',qs'))
 {T':List (Nat×AV)} (hT:jq c.nt st.T o.dst (.own b)=some T'):LOp c o st ⟨T',H'⟩ [] false:=
 LOp.value hT fun e C a w hR=>by
  subst hm
  obtain⟨hu,hs⟩:=kD hc.tt he
  obtain⟨ok,hel⟩:=gG hc.tt hi
  obtain⟨ti,h1,h2,h3,h4⟩:=ok.info
  obtain⟨zv,h5,h6,h7⟩:=h4 z hz
  rw[hel] at h1
  have hs':ti.size=n:=by rw[h1] at hs;injection hs
  have hx:=(dh hR.tmp hx).int
  have hy:=(dh hR.tmp hy).int
  obtain⟨k,hk⟩:∃k:Nat,m'=k:=⟨m'.toNat,by omega⟩
  subst hk
  have hmake:=run_make_full (P:=c.P) w 0 t el ti zv n hu h1 h5 hs' k1 k2 k (by rw[h3];simpa using hb1) (by simpa using hb2) (Nat.zero_le _)
  obtain⟨w',r1,r2,r3⟩:=hmake
  have hq':=Ed hq (h7 e)
  have hql:zv.cells.toList.length=n:=by simp;omega
  have hcells:(madeCells zv.cells (k*n)).toList=(List.replicate k zv.cells.toList).flatten:=by
   have:=uH zv.cells.toList k
   rw[hql] at this
   simpa using this
  have hE:Ext w w':=(Ext.refl w).grown r3 (fun x hx=>by cases hx)
  have hrows:∀j,bV e.I (List.replicate j q).flatten (List.replicate j zv.cells.toList).flatten:=fun j=>by
   induction j with
   |zero=>rfl
   |succ j ih=>rw[List.replicate_succ,List.replicate_succ,List.flatten_cons,List.flatten_cons];exact bV.app _ _ _ _ hq' ih
  rw[hcells] at r2
  simp only[Int.toNat_natCast] at hp hb2
  obtain⟨e', C', m1, m2, m3, m4⟩:=(hR.mem.ext hE).row (v:=.slice (some ⟨w.heap.size, 0, none⟩) k k) (xs:=(List.replicate k zv.cells.toList).flatten) hp (fun r hr=>by rw[List.eq_of_mem_replicate hr, ←bV.len _ _ hq', hql]) (hrows k) (by simpa using r2) (fun x hx=>by
   injection hx with hx
   subst hx
   exact hR.mem.new (Nat.le_refl _)) (by simpa using hb2)
  refine⟨_,e',C',w',?_,m3,m1,m4⟩
  simp[execOp,ho,hx.1,hy.1,r1]
end
end Go.Proofs.YtpdlghcgekojlaaGreatDoor
namespace Go.Proofs.YtpdlghcgekojlaaGreatDoor
open Go.RowKit
section
variable {P:Program}
theorem rY(w:World)(t ty e:TypeId)(i:TypeInfo)(z:Value)(size bytes:Nat)(ht:P.underlying t=some (.slice e))(hi:P.info? e=some i)(hz:i.zero=some z)
 (hsize:i.size=size) (hby:i.bytes=bytes) (hzs:z.cells.size=size) (hsz:0<size) (v:Value) (n:Nat) (xs:List Value) (hown:w.ownsRow 0 e size v n xs)
 (ad:Option Addr) (m c:Nat) (news:List Value) (hl:news.length=m*size) (had:ad=none→m=0) (hnews:∀a,ad=some a→∀j u,news[j]?=some u→w.cell? (a.add j)=some u) (h1:∀u∈news,u.oneCell'=true)
 (h63:n+m≤maxLen) (hbytes:(n+m)*bytes≤140737488355328):
 ∃v' w',(Builtin.append_ #[t,t] ty #[v,.slice ad m c]).run P w=.ok v' w'∧w'.ownsRow 0 e size v' (n+m) (xs++news)∧w.grownBy w' v.ownBlock∧(∀g,v'.ownBlock=some g→v.ownBlock=some g∨g=w.heap.size):=by
 cases ad with
 |none=>
  obtain rfl:=had rfl
  have hn:news=[]:=List.eq_nil_of_length_eq_zero (by simpa using hl)
  subst hn
  refine⟨v,w,?_,by simpa using hown,⟨rfl,rfl,rfl,Nat.le_refl _,fun _ _ _=>rfl⟩,fun g hg=>.inl hg⟩
  rcases hown.2 with⟨rfl,rfl⟩|⟨g,cap,cur,rfl,_,_,hnc,_⟩
  ·simp[Builtin.append_,run_underlying ht,sizeOf,typeInfo,hi,Builtin.lenOf,Builtin.firstCells]
  simp[Builtin.append_,run_underlying ht,sizeOf,typeInfo,hi,Builtin.lenOf,Builtin.firstCells,hnc,storeCells]
 |some a=>
  have hnews:=hnews a rfl
  obtain⟨v',w',r1,r2,r3,r4⟩:=run_append_own (P:=P) w 0 t ty e i z size bytes ht hi hz hsize hby hzs hsz v n xs hown a m c news hl hnews h1 h63 hbytes (Nat.zero_le _)
  refine⟨v',w',r1,r2,r3,fun g' hg'=>?_⟩
  subst hsize hby
  rcases hown.2 with⟨rfl,rfl⟩|⟨g,cap,cur,rfl,hbg,hg,hnc,hcm,hcs,htake⟩
  ·by_cases hm:m=0
   ·grind
   have hr2:=run_append_nil (P:=P) w t ty e i z ht hi hz a m c news hl hnews (by omega) (by unfold maxLen at h63;omega) (by have hb:=hbytes;simp only[Nat.zero_add] at hb;omega)
   rw[r1] at hr2
   injection hr2 with h2 h3
   subst h2
   simp only[Value.ownBlock,Option.some.injEq] at hg'
   omega
  by_cases hroom:n+m≤cap
  ·have hfit:n*i.size+news.length≤cur.size:=by rw[hl, hcs, ←Nat.add_mul];exact Nat.mul_le_mul_right _ hroom
   have hr2:=run_append_room (P:=P) w t ty e i ht hi g n cap cur hg a m c news hl hnews h1 hroom hfit
   rw[r1] at hr2
   injection hr2 with h2 h3
   subst h2
   exact .inl hg'
  have holds:∀j u,xs[j]?=some u→w.cell? ((⟨g,0,none⟩:Addr).add j)=some u:=hown.cells (g:=g) rfl
  have hr2:=run_append_grow (P:=P) w t ty e i z ht hi hz ⟨g,0,none⟩ n cap xs hown.1 holds a m c news hl hnews (by omega) (by unfold maxLen at h63;omega) (growslice_fits (by omega) hbytes)
  rw[r1] at hr2
  injection hr2 with h2 h3
  subst h2
  simp only[Value.ownBlock,Option.some.injEq] at hg'
  omega
end
def wu(H:List Slot)(el:TypeId)(n:Nat):AV→Option (List (List Lf)×Option Nat)
 |.bK _=>some ([],none)
 |.raw (.slice none 0 0)=>some ([],none)
 |.own b=>match H[b]? with
  |some (.row ty m l)=>match Nat.beq ty el&&Nat.beq m n with
   |true=>some (l,some b)
   |false=>none
  |_=>none
 |_=>none
def DR(H:List Slot)(n:Nat):AV→Option (List (List Lf))
 |.bK _=>some []
 |.lf (.rows m l)=>match Nat.beq m n with
  |true=>some l
  |false=>none
 |.own b=>match H[b]? with
  |some (.row _ m l)=>match Nat.beq m n with
   |true=>some l
   |false=>none
  |_=>none
 |_=>none
theorem RRp.cells{I:Gh}{b n:Nat}:∀(l:List (List Lf)) (o:Nat),RRp I b n o l→∃xs,bV I l.flatten xs∧xs.length=l.length*n∧∀j u,xs[j]?=some u→I b (o+j)=some u
 |[],o,_=>⟨[],rfl,by simp,fun j u h=>by simp at h⟩
 |r::q,o,h=>by
  unfold RRp at h
  obtain⟨h1,h2,h3⟩:=h
  obtain⟨cs,k1,k2⟩:=CRp.vals r o h2
  obtain⟨xs,m1,m2,m3⟩:=RRp.cells q (o+n) h3
  have hl:=bV.len _ _ k1
  refine⟨cs++xs,by rw[List.flatten_cons];exact bV.app _ _ _ _ k1 m1,by simp[m2,hl,h1,Nat.add_mul];omega,fun j u hj=>?_⟩
  grind
section
variable {c:Ctx} {e:Env} {C:Nat→List Value} {H:List Slot} {w:World}
theorem TF(hM:Mem c e C H w){n:Nat}{x:AV}{l:List (List Lf)}(h:DR H n x=some l){v:Value}(hv:VR e x v):
 ∃ad cap news,v=.slice ad l.length cap∧news.length=l.length*n∧bV e.I l.flatten news∧(ad=none→l.length=0)∧(∀r∈l,r.length=n)∧∀a,ad=some a→∀j u,news[j]?=some u→w.cell? (a.add j)=some u:=by
 unfold DR at h
 split at h
 ·injection h with h
  subst h
  unfold VR at hv
  exact⟨none,0,[],hv,by simp,rfl,fun _=>rfl,(fun r hr=>by cases hr),fun a h=>by cases h⟩
 ·rename_i m l'
  split at h
  ·rename_i hn
   injection h with h
   subst h
   have hn:=dX hn
   subst hn
   have hv:=VR.lf.1 hv
   unfold LRp at hv
   obtain⟨ad,cap,e1,h1,h2,h3⟩:=hv
   by_cases hl:l'=[]
   ·subst hl
    exact⟨ad,cap,[],e1,by simp,rfl,fun _=>rfl,(fun r hr=>by cases hr),fun a h j u hj=>by simp at hj⟩
   obtain⟨b,off,e2,h4⟩:=h3 hl
   obtain⟨xs,k1,k2,k3⟩:=RRp.cells l' off h4
   refine⟨ad,cap,xs,e1,k2,k1,(fun h=>by rw[e2] at h;cases h),fun r hr=>?_,fun a ha j u hj=>?_⟩
   ·obtain⟨j,hj⟩:=List.getElem?_of_mem hr
    exact(RRp.at_ l' off j r h4 hj).1
   rw[e2] at ha
   injection ha with ha
   subst ha
   rw[Addr.add_mid]
   exact hM.inv _ _ _ (k3 j u hj)
  cases h
 ·rename_i b
  split at h
  ·rename_i ty m l' hb
   split at h
   ·rename_i hn
    injection h with h
    subst h
    have hn:=dX hn
    subst hn
    unfold VR at hv
    obtain⟨k0,k1,k2,k3,k4⟩:=hM.hv b _ hb
    have hw:w.ownsRow 0 ty m (e.sv b) l'.length (C b):=hM.hw b _ hb
    rcases k4 with⟨k4,rfl⟩|⟨g,cp,k4⟩
    ·refine⟨none,0,[],by rw[hv.2.1,k4];rfl,by simp,rfl,(fun _=>rfl),k2,fun a h=>by cases h⟩
    refine⟨some ⟨g, 0, none⟩, cp, C b, by rw[hv.2.1, k4], hw.1, k1, (fun h=>by cases h), k2, fun a ha j u hj=>?_⟩
    injection ha with ha
    subst ha
    rw[k4] at hw
    exact hw.cells (g:=g) rfl j u hj
   cases h
  cases h
 cases h
theorem Ee(hM:Mem c e C H w){n:Nat}{el:TypeId}{x:AV}{l:List (List Lf)}{ob:Option Nat}(h:wu H el n x=some (l,ob)){v:Value}(hv:VR e x v):
 ∃xs,w.ownsRow 0 el n v l.length xs∧bV e.I l.flatten xs∧(∀r∈l,r.length=n)∧(∀g,v.ownBlock=some g→∃b s,ob=some b∧H[b]?=some s∧dV e b s g)∧(∀b,ob=some b→∃s,H[b]?=some s∧s≠.free):=by
 unfold wu at h
 split at h
 ·injection h with h
  injection h with h h'
  subst h h'
  unfold VR at hv
  subst hv
  exact⟨[],World.ownsRow_nil w 0 el n,rfl,(fun r hr=>by cases hr),(fun g h=>by cases h),fun b h=>by cases h⟩
 ·injection h with h
  injection h with h h'
  subst h h'
  unfold VR at hv
  subst hv
  exact⟨[],World.ownsRow_nil w 0 el n,rfl,(fun r hr=>by cases hr),(fun g h=>by cases h),fun b h=>by cases h⟩
 ·rename_i b
  split at h
  ·rename_i ty m l' hb
   split at h
   ·rename_i hn
    injection h with h
    injection h with h h'
    subst h h'
    rw[Bool.and_eq_true] at hn
    have h1:=dX hn.1
    have h2:=dX hn.2
    subst h1 h2
    unfold VR at hv
    obtain⟨k0,k1,k2,k3,k4⟩:=hM.hv b _ hb
    have hw:w.ownsRow 0 ty m (e.sv b) l'.length (C b):=hM.hw b _ hb
    refine⟨C b,by rw[hv.2.1];exact hw,k1,k2,fun g hg=>⟨b,_,rfl,hb,by rw[hv.2.1] at hg;exact hg⟩,fun b' hb'=>?_⟩
    grind
   cases h
  cases h
 cases h
end
def qg(H:List Slot):Option Nat→List Slot
 |none=>H
 |some b=>H.set b .dead
section
variable {c:Ctx} {o:Oper} {st:St}
theorem LOp.append(hc:c.Ok){cl:Call}(ho:o.op=.call cl)(hcal:cl.callee=.builtin .append){x y:Operand}(ha:cl.args.toList=[x,y]){t:TypeId}(hat:cl.argTypes.toList=[t,t]){el:TypeId}{n:Nat}(he:jQ c.tt t=some (el,n)){i:TI}(hi:jm c.tt el=some i){z:AV}(hz:i.z=some z)
 {xa ya:AV} (hx:ev st.T x=some xa) (hy:ev st.T y=some ya) {l0 l1:List (List Lf)} {ob:Option Nat} (hl0:wu st.H el n xa=some (l0,ob)) (hl1:DR st.H n ya=some l1) (hn0:0<n) (hby:0<i.bytes) (hb:(l0.length+l1.length)*i.bytes≤140737488355328)
 {b:Nat} {H':List Slot} {qs qs':List Ans} (hp:iH (qg st.H ob) (.row el n (l0++l1)) qs=some (b,H',qs')) {T':List (Nat×AV)} (hT:jq c.nt st.T o.dst (.own b)=some T'):LOp c o st ⟨T',H'⟩ ob.toList false:=
 LOp.value hT fun e C a w hR=>by
  obtain⟨hu,hs⟩:=kD hc.tt he
  obtain⟨ok,hel⟩:=gG hc.tt hi
  obtain⟨ti,h1,h2,h3,h4⟩:=ok.info
  obtain⟨zv,h5,h6,h7⟩:=h4 z hz
  rw[hel] at h1
  have hs':ti.size=n:=by rw[h1] at hs;injection hs
  have hx:=dh hR.tmp hx
  have hy:=dh hR.tmp hy
  obtain⟨xs,a1,a2,a3,a4,a5⟩:=Ee hR.mem hl0 hx
  obtain⟨ad,cap,news,b1,b2,b3,b4,b5,b6⟩:=TF hR.mem hl1 hy
  have hsum:l0.length+l1.length≤140737488355328:=Nat.le_trans (Nat.le_mul_of_pos_right _ hby) hb
  obtain⟨v',w',r1,r2,r3,r4⟩:=rY (P:=c.P) w t o.type el ti zv n i.bytes hu h1 h5 hs' h3 (by omega) hn0 (a.eval x) l0.length xs a1 ad l1.length cap news b2 b4 b6 (bV.one _ _ b3) (by unfold maxLen;omega) hb
  have hrun:(execOp a.eval o).run c.P w=.ok (.value v') w':=by
   have h8:=nM ha
   have h9:=nM hat
   rw[execOp_builtin ho hcal,h8,h9]
   simp only[builtin,List.map_toArray,List.map_cons,List.map_nil,b1,Sem.run_bind,r1,Result.andThen_ok,Sem.run_pure]
  have hK:Mem c e C (qg st.H ob) w:=by
   cases ob with
   |none=>exact hR.mem
   |some b0=>
    obtain⟨s,h8,h9⟩:=a5 b0 rfl
    exact hR.mem.kill b0 h8 h9
  have far:∀g,(a.eval x).ownBlock=some g→Av e.I g∧(c.w0.heap.size≤g∨c.wr g)∧∀y t,(qg st.H ob)[y]?=some t→¬dV e y t g:=fun g hg=>by
   obtain⟨b0,s,rfl,h8,h9⟩:=a4 g hg
   refine⟨hR.mem.av b0 s g h8 h9,hR.mem.mine b0 s g h8 h9,fun y t hy hb=>?_⟩
   show False
   simp only[qg] at hy
   rw[List.getElem?_set] at hy
   split at hy
   ·split at hy
    ·injection hy with hy;subst hy;cases hb
    cases hy
   rename_i hne
   exact hne (hR.mem.inj b0 y s t g h8 hy h9 hb)
  have hM:=hK.step r3 far
  have hsub:∀y t,(qg st.H ob)[y]?=some t→t=Slot.dead∨st.H[y]?=some t:=fun y t hy=>by
   cases ob with
   |none=>exact .inr hy
   |some b0=>
    simp only[qg] at hy
    rw[List.getElem?_set] at hy
    split at hy
    ·split at hy
     ·injection hy with hy;exact .inl hy.symm
     cases hy
    exact .inr hy
  obtain⟨e',C',m1,m2,m3,m4⟩:=hM.row (v:=v') (xs:=xs++news) hp (fun r hr=>by
   rcases List.mem_append.1 hr with h|h
   ·exact a3 r h
   ·exact b5 r h) (by rw[List.flatten_append];exact bV.app _ _ _ _ a2 b3) (by rw[List.length_append];exact r2) (fun g hg=>by
   rcases r4 g hg with h|rfl
   ·obtain⟨f1,f2,f3⟩:=far g h;exact⟨f3,f1,f2⟩
   exact hK.new (Nat.le_refl _)) (by rw[List.length_append];unfold maxLen;omega)
  refine⟨v',e',C',w',hrun,m3,m1,m4.le,m4.I,fun b' s hs hne hlv=>m4.lk b' s ?_ (by simp) hlv,m4.inv⟩
  cases ob with
  |none=>exact hs
  |some b0=>
   have hx:b'≠b0:=by simpa using hne
   show(st.H.set b0 .dead)[b']?=some s
   rw[List.getElem?_set_ne (Ne.symm hx)];exact hs
end
theorem ak4(b:UInt8):(Lit.int .u8 (b.toNat:Int)).wf=true:=by
 have:=b.toNat_lt
 simp only[Lit.wf,Bool.and_eq_true,decide_eq_true_eq]
 exact⟨by show(0:Int)≤_;omega,by show _≤(255:Int);omega⟩
section
variable {P:Program}
theorem Oo(w:World)(t u ty e:TypeId)(i:TypeInfo)(ht:P.underlying t=some (.slice e))(hu:P.underlying u=some .string)(hi:P.info? e=some i)(hz:i.zero=some (.int .u8 0))(hsize:i.size=1)(hby:i.bytes=1)
 (v:Value) (n:Nat) (xs:List Value) (hown:w.ownsRow 0 e 1 v n xs) (s:ByteArray) (h63:n+s.size≤maxLen) (hbytes:n+s.size≤140737488355328):
 ∃v' w',(Builtin.append_ #[t,u] ty #[v,.string s]).run P w=.ok v' w'∧w'.ownsRow 0 e 1 v' (n+s.size) (xs++Lib.strCells s)∧w.grownBy w' v.ownBlock∧(∀g,v'.ownBlock=some g→v.ownBlock=some g∨w.heap.size≤g):=by
 rcases hown.2 with⟨rfl,rfl⟩|⟨g,cap,cur,rfl,hbg,hg,hnc,hcm,hcs,htake⟩
 ·obtain⟨v',w',r1,r2,r3,_⟩:=Lib.run_append_own_string (P:=P) w w.heap.size t u ty e i ht hu hi hz hsize hby (.slice none 0 0) 0 xs ⟨hown.1,.inl ⟨rfl,rfl⟩⟩ s h63 hbytes (Nat.le_refl _)
  refine⟨v',w',r1,?_,r3,fun g hg=>?_⟩
  ·refine⟨r2.1,?_⟩
   rcases r2.2 with h|⟨g,cap,cur,h1,_,h2⟩
   all_goals grind
  rcases r2.2 with⟨rfl,_⟩|⟨g',cap,cur,rfl,h2,_⟩
  ·cases hg
  simp only[Value.ownBlock,Option.some.injEq] at hg
  omega
 obtain⟨v',w',r1,r2,r3,_⟩:=Lib.run_append_own_string (P:=P) w 0 t u ty e i ht hu hi hz hsize hby _ n xs hown s h63 hbytes (Nat.zero_le _)
 refine⟨v',w',r1,r2,r3,fun g' hg'=>?_⟩
 by_cases hroom:n+s.size≤cap
 ·have hr2:=Lib.run_append_room_string (P:=P) w t u ty e i ht hu hi hsize g n cap cur hg s hroom (by rw[hcs];omega)
  rw[r1] at hr2
  injection hr2 with h2 h3
  subst h2
  exact .inl hg'
 have holds:∀j u,xs[j]?=some u→w.cell? ((⟨g,0,none⟩:Addr).add j)=some u:=hown.cells (g:=g) rfl
 have hr2:=Lib.run_append_grow_string (P:=P) w t u ty e i (.int .u8 0) ht hu hi hz ⟨g,0,none⟩ n cap xs (by rw[hsize];exact hown.1) holds s (by omega) (by unfold maxLen at h63;omega) (by rw[hby];exact growslice_fits (by omega) (by omega))
 rw[r1] at hr2
 injection hr2 with h2 h3
 subst h2
 simp only[Value.ownBlock,Option.some.injEq] at hg'
 omega
end
def Bc(s:ByteArray):List (List Lf):=s.data.toList.map fun b=>[.int .u8 (b.toNat:Int)]
theorem Oq(s:ByteArray):(Bc s).length=s.size:=by unfold Bc;rw[List.length_map,Array.length_toList];rfl
theorem afm(I:Gh)(s:ByteArray):bV I (Bc s).flatten (Lib.strCells s):=by
 unfold Bc Lib.strCells
 induction s.data.toList with
 |nil=>rfl
 |cons b r ih=>
  simp only[List.map_cons,List.flatten_cons]
  refine⟨_,_,rfl,?_,ih⟩
  unfold LRp
  refine⟨rfl,?_⟩
  have:=b.toNat_lt
  exact ak4 b
def VW:AV→Bool
 |.lf (.int .u8 n)=>decide (n=0)
 |_=>false
theorem aaO{z:AV}(h:VW z=true){e:Env}{v:Value}(hv:VR e z v):v=.int .u8 0:=by
 unfold VW at h
 split at h
 ·have:=of_decide_eq_true h
  subst this
  exact(VR.lf.1 hv).int.1
 cases h
section
variable {c:Ctx} {o:Oper} {st:St}
theorem LOp.afn(hc:c.Ok){cl:Call}(ho:o.op=.call cl)(hcal:cl.callee=.builtin .append){x y:Operand}(ha:cl.args.toList=[x,y]){t u:TypeId}(hat:cl.argTypes.toList=[t,u]){el:TypeId}{n:Nat}(he:jQ c.tt t=some (el,n)){i:TI}(hi:jm c.tt el=some i){z:AV}(hz:i.z=some z)(hz8:VW z=true){ti:TI}(hti:jm c.tt u=some ti)(hstr:ti.isStr=true)
 {xa:AV} {s:ByteArray} (hx:ev st.T x=some xa) (hy:ev st.T y=some (.lf (.str s))) {l0:List (List Lf)} {ob:Option Nat} (hl0:wu st.H el n xa=some (l0,ob)) (hn1:n=1) (hby:i.bytes=1) (hb:l0.length+s.size≤140737488355328)
 {b:Nat} {H':List Slot} {qs qs':List Ans} (hp:iH (qg st.H ob) (.row el n (l0++Bc s)) qs=some (b,H',qs')) {T':List (Nat×AV)} (hT:jq c.nt st.T o.dst (.own b)=some T'):LOp c o st ⟨T',H'⟩ ob.toList false:=
 LOp.value hT fun e C a w hR=>by
  obtain⟨hu,hs⟩:=kD hc.tt he
  obtain⟨ok,hel⟩:=gG hc.tt hi
  subst hn1
  obtain⟨okU,heU⟩:=gG hc.tt hti
  have hU:=okU.str (TI.nK hstr)
  rw[heU] at hU
  obtain⟨ti,h1,h2,h3,h4⟩:=ok.info
  obtain⟨zv,h5,h6,h7⟩:=h4 z hz
  rw[hel] at h1
  have h5:ti.zero=some (.int .u8 0):=by rw[h5,aaO hz8 (h7 e)]
  have hs':ti.size=1:=by rw[h1] at hs;injection hs
  have hx:=dh hR.tmp hx
  have hy:=dh hR.tmp hy
  obtain⟨xs,a1,a2,a3,a4,a5⟩:=Ee hR.mem hl0 hx
  have hy1:=(VR.lf.1 hy).str.1
  obtain⟨v',w',r1,r2,r3,r4⟩:=Oo (P:=c.P) w t u o.type el ti hu hU h1 h5 hs' (by rw[h3];exact hby) (a.eval x) l0.length xs a1 s (by unfold maxLen;omega) hb
  have hrun:(execOp a.eval o).run c.P w=.ok (.value v') w':=by
   have h8:=nM ha
   have h9:=nM hat
   rw[execOp_builtin ho hcal,h8,h9]
   simp only[builtin,List.map_toArray,List.map_cons,List.map_nil,hy1,Sem.run_bind,r1,Result.andThen_ok,Sem.run_pure]
  have hK:Mem c e C (qg st.H ob) w:=by
   cases ob with
   |none=>exact hR.mem
   |some b0=>
    obtain⟨s,h8,h9⟩:=a5 b0 rfl
    exact hR.mem.kill b0 h8 h9
  have far:∀g,(a.eval x).ownBlock=some g→Av e.I g∧(c.w0.heap.size≤g∨c.wr g)∧∀y t,(qg st.H ob)[y]?=some t→¬dV e y t g:=fun g hg=>by
   obtain⟨b0,s,rfl,h8,h9⟩:=a4 g hg
   refine⟨hR.mem.av b0 s g h8 h9,hR.mem.mine b0 s g h8 h9,fun y t hy hb=>?_⟩
   show False
   simp only[qg] at hy
   rw[List.getElem?_set] at hy
   split at hy
   ·split at hy
    ·injection hy with hy;subst hy;cases hb
    cases hy
   rename_i hne
   exact hne (hR.mem.inj b0 y s t g h8 hy h9 hb)
  have hM:=hK.step r3 far
  have hsub:∀y t,(qg st.H ob)[y]?=some t→t=Slot.dead∨st.H[y]?=some t:=fun y t hy=>by
   cases ob with
   |none=>exact .inr hy
   |some b0=>
    simp only[qg] at hy
    rw[List.getElem?_set] at hy
    split at hy
    ·split at hy
     ·injection hy with hy;exact .inl hy.symm
     cases hy
    exact .inr hy
  obtain⟨e',C',m1,m2,m3,m4⟩:=hM.row (v:=v') (xs:=xs++Lib.strCells s) hp (fun r hr=>by
   rcases List.mem_append.1 hr with h|h
   ·exact a3 r h
   ·unfold Bc at h;obtain⟨b,_,rfl⟩:=List.mem_map.1 h;rfl) (by rw[List.flatten_append];exact bV.app _ _ _ _ a2 (afm _ s)) (by rw[List.length_append,Oq];exact r2) (fun g hg=>by
   rcases r4 g hg with h|h
   ·obtain⟨f1,f2,f3⟩:=far g h;exact⟨f3,f1,f2⟩
   exact hK.new h) (by rw[List.length_append,Oq];unfold maxLen;omega)
  refine⟨v',e',C',w',hrun,m3,m1,m4.le,m4.I,fun b' s hs hne hlv=>m4.lk b' s ?_ (by simp) hlv,m4.inv⟩
  cases ob with
  |none=>exact hs
  |some b0=>
   have hx:b'≠b0:=by simpa using hne
   show(st.H.set b0 .dead)[b']?=some s
   rw[List.getElem?_set_ne (Ne.symm hx)];exact hs
end
end Go.Proofs.YtpdlghcgekojlaaGreatDoor
namespace Go.Proofs.YtpdlghcgekojlaaGreatDoor
open Go.RowKit
def rZ(I:Gh):Env:={ ok:=fun _=>False,m:=fun _=>0,sv:=fun _=>undef,I:=I,im:=fun _ _=>none,fp:=fun _ _=>False }
def nN(P:Program)(f:FuncId):Bool:=match P.funcs[f]? with
 | some fn => !(fn.name == "runtime.NumGoroutine") && !fn.body.isNone
 |none=>false
def Fn(P:Program)(G:Gh→Prop)(f:FuncId)(args:List AV)(res:AV):Prop:=
 nN P f=true∧∀I w vs,G I→Inv I w→VRs (rZ I) args vs→Calls P f vs.toArray w fun en w'=>∃I' v,en=.returned v∧Gr I I' w w'∧VR (rZ I') res v
def yu(T:List (Nat×AV)):List Operand→Option (List AV)
 |[]=>some []
 |x::r=>match ev T x with
  |some v=>match v.toD with
   |some d=>match yu T r with
    |some l=>some (d::l)
    |none=>none
   |none=>none
  |none=>none
theorem Bf{e:Env}{T:List (Nat×AV)}{a:Act}(hT:iP e T a.tmps):∀{l:List Operand} {ds:List AV},yu T l=some ds→VRs (rZ e.I) ds (l.map a.eval)
 |[],ds,h=>by simp only[yu] at h;injection h with h;subst h;exact VRs.nil
 |x::r,ds,h=>by
  simp only[yu] at h
  split at h
  ·rename_i v hv
   split at h
   ·rename_i d hd
    split at h
    ·rename_i l hl
     injection h with h
     subst h
     exact VRs.cons (VR.free (e:=e) (e':=rZ e.I) rfl (ae8 hd) (VR.toD hd (dh hT hv))) (Bf hT hl)
    cases h
   cases h
  cases h
theorem Mem.grow{c:Ctx}(hc:c.Ok){e:Env}{C:Nat→List Value}{H:List Slot}{w w':World}(h:Mem c e C H w){I':Gh}(g:Gr e.I I' w w'):Mem c { e with I:=I' } C H w'∧e.le { e with I:=I' }:=by
 have hle:e.le { e with I:=I' }:=⟨fun _ h=>h,fun _ _=>rfl,fun _ _=>rfl,g.le,fun _ _ _ _ h=>h⟩
 have hM:=h.ext g.ext
 refine⟨⟨fun b s hb=>?_,fun b s hb=>?_,h.bound,fun b b' s s' y h1 h2 k1 k2=>h.inj b b' s s' y h1 h2 k1 k2,fun b s y hb hy=>g.av (h.lt hb hy) (h.av b s y hb hy),h.mine,g.inv,h.le.trans g.le,fun b o v k1 k2=>?_,hM.ch,hc.G _ _ g.le h.g,h.bse.le hle⟩,hle⟩
 ·by_cases hf:s=.free
  ·subst hf;exact h.hv b _ hb
  exact rW hle rfl hf (h.hv b s hb)
 ·have:=hM.hw b s hb
  cases s<;>first|exact this|(obtain⟨v,h3,h4⟩:=this;exact⟨v,Rsc.mono _ h3 g.le fun _ _=>rfl,h4⟩)
 cases hq:e.I b o with
 |some u=>exact h.fresh b o u hq k2
 |none=>exact .inl (Nat.le_trans h.ch.size (g.fresh b o v k1 hq))
section
variable {c:Ctx} {o:Oper} {st:St}
theorem aaP{P:Program}{ρ:Operand→Value}{o:Oper}{cl:Call}(ho:o.op=.call cl){f:FuncId}(hf:cl.callee=.value (.func f))(hρ:ρ (.func f)=.func (.func f) #[] #[])(hb:nN P f=true)(w:World):
 (execOp ρ o).run P w=.ok (.enter f (cl.args.map ρ)) w:=by
 unfold nN at hb
 split at hb
 ·rename_i fn hfn
  simp only[Bool.and_eq_true,Bool.not_eq_true'] at hb
  simp only[execOp,ho,resolve,hf,hρ,Deferred.ofValue,Sem.run_bind,Sem.run_pure,Result.andThen_ok,invoke,callFunc]
  have h1:(program).run P w=.ok P w:=rfl
  have h2 : (if (fn.name == "runtime.NumGoroutine") = true then (pure Next.numGoroutine : Sem Next) else pure (.enter f (#[] ++ Array.map ρ cl.args ++ #[]))) = pure (.enter f (Array.map ρ cl.args)) := by rw [if_neg (by simp [hb.1])]; simp
  simp only[h1,Result.andThen_ok,hfn,hb.1,hb.2,Bool.false_eq_true,if_false,Sem.run_pure]
  simp
 cases hb
theorem LOp.call(hc:c.Ok){cl:Call}(ho:o.op=.call cl){f:FuncId}(hf:cl.callee=.value (.func f)){ds:List AV}(hd:yu st.T cl.args.toList=some ds){r:AV}(hr:r.isD=true)(hF:Fn c.P c.G f ds r){T':List (Nat×AV)}(hT:jq c.nt st.T o.dst r=some T'):LOp c o st ⟨T',st.H⟩ [] true:=by
 intro e C a w next Q hR K
 unfold Oper.wp
 rw[aaP ho hf rfl hF.1 w,Oper.upon_enter]
 have h1:=Bf hR.tmp hd
 have h2:=hF.2 e.I w _ hR.mem.g hR.mem.inv h1
 rw[List.map_toArray.symm,Array.toArray_toList] at h2
 refine Calls.mono h2 ?_
 rintro en w' ⟨I',v,rfl,g,hv⟩
 obtain⟨hM,hle⟩:=hR.mem.grow hc g
 obtain⟨k1,k2,k3⟩:=jr hT (hR.tmp.mono hle) hR.size (VR.free (e:=rZ I') (e':={ e with I:=I' }) rfl hr hv)
 exact K _ C _ w' ⟨k1,k2,k3.trans hR.defers,hM⟩ ⟨hle,(fun h=>by cases h),fun b s hb _ hl=>⟨s,hb,hl,fun w h=>(by cases s<;>first|exact h|cases hl)⟩,hR.mem.inv.ext g.ext⟩
end
mutual
def AV.fz (b:Nat) (y:AV):AV→AV
 |.own x=>match Nat.beq x b with
  |true=>y
  |false=>.own x
 |.agg l=>.agg (fzs b y l)
 |.tup l=>.tup (fzs b y l)
 |.clo f l=>.clo f (fzs b y l)
 |x=>x
def fzs (b:Nat) (y:AV):List AV→List AV
 |[]=>[]
 |x::r=>AV.fz b y x::fzs b y r
end
mutual
theorem VR.fz {e e':Env} (h:e.le e') {b:Nat} {y:AV} (hy:∀v,VR e (.own b) v→VR e' y v):∀(x:AV) (v:Value),VR e x v→VR e' (AV.fz b y x) v
 |.own x,v,hv=>by
  unfold AV.fz
  split
  ·simp_all
  exact VR.mono h _ _ hv
 |.agg l,v,hv=>by
  unfold AV.fz
  obtain⟨cs,e1,h1⟩:=VR.agg.1 hv
  exact VR.agg.2 ⟨cs,e1,VRs.fz h hy l cs h1⟩
 |.tup l,v,hv=>by
  unfold AV.fz
  obtain⟨cs,e1,h1⟩:=VR.tup.1 hv
  exact VR.tup.2 ⟨cs,e1,VRs.fz h hy l cs h1⟩
 |.clo f l,v,hv=>by
  unfold AV.fz
  obtain⟨cs,e1,h1⟩:=VR.clo.1 hv
  exact VR.clo.2 ⟨cs,e1,VRs.fz h hy l cs h1⟩
 |.hnd x o,v,hv=>by unfold AV.fz;exact VR.mono h _ _ hv
 |.any,v,hv=>by unfold AV.fz;exact VR.mono h _ _ hv
 |.lf x,v,hv=>by unfold AV.fz;exact VR.mono h _ _ hv
 |.dat r,v,hv=>by unfold AV.fz;exact VR.mono h _ _ hv
 |.dp r off,v,hv=>by unfold AV.fz;exact VR.mono h _ _ hv
 |.ptr b' off,v,hv=>by unfold AV.fz;exact VR.mono h _ _ hv
 |.pY b' n j off,v,hv=>by unfold AV.fz;exact VR.mono h _ _ hv
 |.bK n,v,hv=>by unfold AV.fz;exact VR.mono h _ _ hv
 |.raw u,v,hv=>by unfold AV.fz;exact VR.mono h _ _ hv
 |.mp b',v,hv=>by unfold AV.fz;exact VR.mono h _ _ hv
theorem VRs.fz {e e':Env} (h:e.le e') {b:Nat} {y:AV} (hy:∀v,VR e (.own b) v→VR e' y v):∀(l:List AV) (cs:List Value),VRs e l cs→VRs e' (fzs b y l) cs
 |[],cs,hv=>by unfold fzs;unfold VRs at hv ⊢;exact hv
 |x::r,cs,hv=>by
  unfold fzs
  unfold VRs at hv ⊢
  obtain⟨u,q,e1,h1,h2⟩:=hv
  exact⟨u,q,e1,VR.fz h hy x u h1,VRs.fz h hy r q h2⟩
end
def Slot.fz(b:Nat)(y:AV):Slot→Slot
 |.box ty cs=>.box ty (AV.fz b y cs).n1
 |s=>s
def fzT(b:Nat)(y:AV):List (Nat×AV)→List (Nat×AV)
 |[]=>[]
 |(t,v)::r=>(t,AV.fz b y v)::fzT b y r
theorem Lr(b:Nat)(y:AV):∀(T:List (Nat×AV)) (t:Nat),lk (fzT b y T) t=(lk T t).map (AV.fz b y)
 |[],t=>rfl
 |(k,v)::r,t=>by
  unfold fzT lk
  split
  ·rfl
  exact Lr b y r t
theorem bV.aiP{I:Gh}{g n:Nat}{l:List (List Lf)}{xs:List Value}(hl:∀r∈l,r.length=n)(hv:bV I l.flatten xs)(hI:∀j v,xs[j]?=some v→I g j=some v):RRp I g n 0 l:=
 DJ l 0 xs hl hv (fun j v hj=>by rw[Nat.zero_add];exact hI j v hj)
theorem Mem.freeze{c:Ctx}(hc:c.Ok){e:Env}{C:Nat→List Value}{H:List Slot}{w:World}(h:Mem c e C H w){b:Nat}{ty:TypeId}{n:Nat}{l:List (List Lf)}(hb:H[b]?=some (.row ty n l)):
 ∃e',e.le e'∧Mem c e' C ((H.set b .dead).map (Slot.fz b (.lf (.rows n l)))) w∧(∀v,VR e (.own b) v→VR e' (.lf (.rows n l)) v)∧iU [b] true e C H e' C ((H.set b .dead).map (Slot.fz b (.lf (.rows n l)))) w:=by
 obtain⟨k0,k1,k2,k3,k4⟩:=h.hv b _ hb
 have hown:w.ownsRow 0 ty n (e.sv b) l.length (C b):=h.hw b _ hb
 have hlen:=hown.1
 obtain⟨I',hle,hinv,hfr,hrep,hav,hst⟩:∃I',Le e.I I'∧Inv I' w∧(∀x o v,I' x o=some v→e.I x o=none→c.w0.heap.size≤x∨c.wr x)∧LRp I' (.rows n l) (e.sv b)∧(∀x s g,x≠b→H[x]?=some s→dV e x s g→Av I' g)∧c.G I':=by
  rcases k4 with⟨k4,rfl⟩|⟨g,cp,k4⟩
  ·refine⟨e.I, Le.refl _, h.inv, fun x o v k1 k2=>(by rw[k2] at k1;cases k1), ?_, fun x s g _ hx hg=>h.av x s g hx hg, h.g⟩
   rw[k4];exact LRp.nil _ _
  have hg:dV e b (.row ty n l) g:=by show Value.ownBlock _=_;rw[k4];rfl
  have hav:=h.av b _ g hb hg
  have hmine:c.w0.heap.size≤g∨c.wr g:=h.mine b _ g hb hg
  rw[k4] at hown
  have hcell:∀j v,j<l.length*n→(C b)[j]?=some v→w.cell? ⟨g,j,none⟩=some v:=fun j v hj hv=>by
   rw[World.ownsRow.cellAt hown j hj];exact hv
  refine⟨yT e.I g (l.length*n) (C b),vV hav _ _,NY h.inv hcell,fun x o v k1 k2=>?_,?_,fun x s y hne hx hy=>?_,hc.G _ _ (vV hav _ _) h.g⟩
  ·unfold yT at k1
   grind
  ·rw[k4]
   rcases hown.2 with⟨h1,_⟩|⟨g',cap,cur,h1,_,_,h2,h3,_⟩
   ·cases h1
   injection h1 with h1 h4 h5
   injection h1 with h1
   injection h1 with h1
   subst h1 h5
   unfold LRp
   refine⟨_,cp,rfl,h2,h3,fun _=>⟨g,0,rfl,bV.aiP k2 (bV.mono (vV hav _ _) _ _ k1) fun j v hj=>?_⟩⟩
   exact KY (by have:=(List.getElem?_eq_some_iff.1 hj).1;omega) hj
  have hyg:y≠g:=fun he=>hne (h.inj x b s _ y hx hb hy (by rw[he];exact hg))
  have:=h.av x s y hx hy
  intro o
  unfold yT
  rw[if_neg hyg];exact this o
 have hE:e.le { e with I:=I' }:=⟨fun _ h=>h,fun _ _=>rfl,fun _ _=>rfl,hle,fun _ _ _ _ h=>h⟩
 have hval:∀v,VR e (.own b) v→VR { e with I:=I' } (.lf (.rows n l)) v:=fun v hv=>by
  unfold VR at hv
  rw[VR.lf,hv.2.1];exact hrep
 have key:∀x s,((H.set b .dead).map (Slot.fz b (.lf (.rows n l))))[x]?=some s→(x=b∧s=.dead)∨(x≠b∧∃s0,H[x]?=some s0∧s=s0.fz b (.lf (.rows n l))):=fun x s hs=>by
  rw[List.getElem?_map,List.getElem?_set] at hs
  by_cases hx:b=x
  ·rw[if_pos hx] at hs
   split at hs
   ·simp[Slot.fz] at hs;exact .inl ⟨hx.symm,hs.symm⟩
   simp at hs
  rw[if_neg hx] at hs
  cases hq:H[x]? with
  |none=>grind
  |some s0=>grind
 have blk:∀x (s0:Slot),dV { e with I:=I' } x (s0.fz b (.lf (.rows n l)))=dV e x s0:=fun x s0=>by cases s0<;>rfl
 refine⟨{ e with I:=I' },hE,⟨fun x s hs=>?_,fun x s hs=>?_,fun x hx=>by simpa using h.bound x hx,fun x x' s s' g h1 h2 m1 m2=>?_,fun x s g hs hg=>?_,fun x s g hs hg=>?_,hinv,h.le.trans hle,fun x o v m1 m2=>?_,h.ch,hst,h.bse.le hE⟩,hval,hE,(fun h=>by cases h),fun x s hx hne hl=>⟨s.fz b (.lf (.rows n l)),?_,?_,fun w h=>?_⟩,h.inv⟩
 ·rcases key x s hs with⟨rfl,rfl⟩|⟨hne,s0,h1,rfl⟩
  ·trivial
  have h2:=h.hv x s0 h1
  cases s0 with
  |box ty' cs=>exact⟨h2.1,(VR.fz hE hval _ _ h2.2).n1⟩
  |row ty' n' l'=>exact rW (s:=.row ty' n' l') hE rfl (by simp) h2
  |dead=>trivial
  |free=>exact h2
  |res R lk=>exact hE.ok _ h2
  |map P1 k1 e1 l1=>exact⟨hE.ok _ h2.1,h2.2⟩
 ·rcases key x s hs with⟨rfl,rfl⟩|⟨hne,s0,h1,rfl⟩
  ·trivial
  have h2:=h.hw x s0 h1
  cases s0<;>first|exact h2|(obtain⟨v,h3,h4⟩:=h2;exact⟨v,Rsc.mono _ h3 hle fun _ _=>rfl,h4⟩)
 ·rcases key x s h1 with⟨rfl,rfl⟩|⟨hne,s0,h3,rfl⟩
  ·cases m1
  rcases key x' s' h2 with⟨rfl,rfl⟩|⟨hne',s0',h4,rfl⟩
  ·cases m2
  rw[blk] at m1 m2
  exact h.inj x x' s0 s0' g h3 h4 m1 m2
 ·rcases key x s hs with⟨rfl,rfl⟩|⟨hne,s0,h3,rfl⟩
  ·cases hg
  rw[blk] at hg
  grind
 ·rcases key x s hs with⟨rfl,rfl⟩|⟨hne,s0,h3,rfl⟩
  ·cases hg
  rw[blk] at hg
  exact h.mine x s0 g h3 hg
 ·cases hq:e.I x o with
  |some u=>exact h.fresh x o u hq m2
  |none=>grind
 ·grind
 ·cases s<;>first|trivial|cases hl
 cases s<;>first|exact h|cases hl
end Go.Proofs.YtpdlghcgekojlaaGreatDoor
namespace Go.Proofs.YtpdlghcgekojlaaGreatDoor
open Go.RowKit
theorem Ot{I:Gh}{n:Nat}:∀(l:List (List Lf)) (xs:List Value),(∀r∈l,r.length=n)→bV I l.flatten xs→∀(j:Nat) (r:List Lf),l[j]?=some r→
 ∃pre ds post,xs=pre++ds++post∧pre.length=j*n∧ds.length=n∧bV I r ds∧∀r' ds',bV I r' ds'→bV I (l.set j r').flatten (pre++ds'++post)
 |[],xs,_,_,j,r,hj=>by simp at hj
 |x::l,xs,hn,hv,j,r,hj=>by
  rw[List.flatten_cons] at hv
  obtain⟨ds,es,rfl,h1,h2⟩:=bV.split x l.flatten xs hv
  have hl:ds.length=n:=by rw[bV.len _ _ h1];exact hn x (by simp)
  cases j with
  |zero=>
   obtain rfl:x=r:=by simpa using hj
   exact⟨[], ds, es, by simp, by simp, hl, h1, fun r' ds' hd=>by
    rw[List.set_cons_zero,List.flatten_cons];exact bV.app _ _ _ _ hd h2⟩
  |succ j=>
   obtain⟨pre,fs,post,k1,k2,k3,k4,k5⟩:=Ot l es (fun r hr=>hn r (by simp[hr])) h2 j r (by simpa using hj)
   refine⟨ds++pre,fs,post,by rw[k1];simp,by simp[hl,k2,Nat.add_mul];omega,k3,k4,fun r' ds' hd=>?_⟩
   rw[List.set_cons_succ,List.flatten_cons,List.append_assoc,List.append_assoc]
   exact bV.app _ _ _ _ h1 (by rw[←List.append_assoc];exact k5 r' ds' hd)
section
variable {c:Ctx} {o:Oper} {st:St}
theorem LOp.aiQ(hc:c.Ok){t:TypeId}{x y:Operand}(ho:o.op=.store t x y){i:TI}(hi:jm c.tt t=some i){b m j q:Nat}(hx:ev st.T x=some (.pY b m j q)){v:AV}(hy:evN i.z st.T y=some v){n:Nat}(hn:v.width=some n)(hin:n=i.size)(hfl:v.N8=true)
 {ty:TypeId} {l:List (List Lf)} (hb:st.H[b]?=some (.row ty m l)) {r r':List Lf} (hr:l[j]?=some r) (hu:Tn (.dat r) q v=some (.dat r')) {T':List (Nat×AV)} (hT:jq c.nt st.T o.dst (.raw undef)=some T'):LOp c o st ⟨T',st.H.set b (.row ty m (l.set j r'))⟩ [b] false:=
 LOp.skip hT fun e C a w hR=>by
  obtain⟨ok,rfl⟩:=gG hc.tt hi
  have hx:=dh hR.tmp hx
  have hy:=La hR.tmp hy
  unfold VR at hx
  obtain⟨hok,g,len,cap,hsv,hxe⟩:=hx
  obtain⟨k0,k1,k2,k3,k4⟩:=hR.mem.hv b _ hb
  have hown:w.ownsRow 0 ty m (e.sv b) l.length (C b):=hR.mem.hw b _ hb
  have hsz:=VR.width hn hy
  rw[hsv] at hown
  rcases hown.2 with⟨h1,_⟩|⟨g',cap',cur,h1,h2,h3,h4,h5,h6,h7⟩
  ·cases h1
  injection h1 with h1 e2 e3
  injection h1 with h1
  injection h1 with h1
  subst h1 e2 e3
  obtain⟨pre,ds,post,f1,f2,f3,f4,f5⟩:=Ot l (C b) k2 k1 j r hr
  obtain⟨u1,u2⟩:=Lh hu (VR.dat.2 ⟨ds,rfl,f4⟩:VR e (.dat r) (.agg ds.toArray)) hy
  obtain⟨ds',e4,f6⟩:=VR.dat.1 u2
  have e4:=Ld e4
  have hjlt:j<l.length:=(List.getElem?_eq_some_iff.1 hr).1
  have hN:(C b).length=l.length*m:=hown.1
  have hvl:(a.eval y).cells.toList.length=i.size:=by simp;rw[hsz,hin]
  have hds':ds'.length=m:=by rw[←e4];simp[f3];rw[hsz] at u1 ⊢;omega
  have hcl:cur.toList=pre++(ds++(post++cur.toList.drop (l.length*m))):=by
   have:=(List.take_append_drop (l.length*m) cur.toList).symm
   rw[h7,f1,List.append_assoc,List.append_assoc] at this
   exact this
  have hq:q+i.size≤ds.length:=by rw[hsz,hin] at u1;exact u1
  have hjN:j*m+m≤l.length*m:=by
   have:(j+1)*m≤l.length*m:=Nat.mul_le_mul_right _ hjlt
   rw[Nat.add_mul] at this;omega
  have hcur:cur.toList.length=cap*m:=by rw[←h6];exact Array.length_toList
  have hlen:l.length*m≤cur.toList.length:=by
   rw[hcur];exact Nat.mul_le_mul_right _ h4
  have hheap:=lC (a.eval y).cells.toList (j*m+q) cur.toList w (by rw[Array.toArray_toList];exact h3) (by rw[hvl];omega)
  have hnew:cur.toList.take (j*m+q)++(a.eval y).cells.toList++cur.toList.drop (j*m+q+(a.eval y).cells.toList.length)=(pre++ds'++post)++cur.toList.drop (l.length*m):=by
   have hpd:j*m+q+(a.eval y).cells.toList.length=pre.length+(q+(a.eval y).cells.toList.length):=by omega
   rw[hpd,←f2,←e4]
   generalize cur.toList.drop (l.length*m)=Y at hcl ⊢
   rw[hcl,List.take_length_add_append,List.take_append_of_le_length (by omega),List.drop_length_add_append,List.drop_append_of_le_length (by omega)]
   simp
  rw[hnew] at hheap
  have hrun:=run_store (P:=c.P) (t:=i.t) ok.size (v:=a.eval y) (by rw[hsz,hin]) (w:=w) (b:=g) (o:=j*m+q) (Io (cs:=cur.toList) (by simpa using h3) (by omega)) (VR.flat hfl hy)
  have honly:=lD g (a.eval y).cells.toList (j*m+q) w
  have hlen2:(pre++ds'++post).length=l.length*m:=by rw[←hN,f1];simp[hds',f3]
  have hM:=hR.mem.put (s':=.row ty m (l.set j r')) (l:=pre++ds'++post) hb (g:=g) (by show Value.ownBlock _=_;rw[hsv];rfl) (fun z hz=>by
   have hz:(e.sv b).ownBlock=some z:=hz
   rw[hsv] at hz;injection hz with hz;exact hz.symm) (by simp)
   ⟨k0, by rw[show jB C b _ b=_ from if_pos rfl];exact f5 r' ds' f6, fun z hz=>by
    rcases List.mem_or_eq_of_mem_set hz with h|h
    ·exact k2 z h
    ·rw[h,←bV.len _ _ f6];exact hds',by simpa using k3,by
    rw[hsv];exact .inr ⟨g,cap,by simp⟩⟩
   (by
    show World.ownsRow _ 0 ty m (e.sv b) _ (jB C b _ b)
    rw[show jB C b (pre++ds'++post) b=_ from if_pos rfl,hsv,List.length_set]
    refine⟨hlen2,.inr ⟨g,cap,_,rfl,Nat.zero_le _,hheap,h4,h5,?_,?_⟩⟩
    ·rw[List.size_toArray,List.length_append,hlen2,List.length_drop,hcur]
     have:=Nat.mul_le_mul_right m h4
     omega
    show List.take _ (List.toArray _).toList=_
    rw[List.toList_toArray,List.take_append_of_le_length (by omega),List.take_of_length_le (by omega)]) honly
  refine⟨e,_,_,?_,hM,Env.le.refl e,fun _=>rfl,Ba,hM.inv⟩
  simp[execOp,ho,hxe,hrun]
end
theorem Mem.mkMap{c:Ctx}{e:Env}{C:Nat→List Value}{H H':List Slot}{w:World}{b:Nat}{kt et:TypeId}{qs qs':List Ans}(h:Mem c e C H w)(hp:iH H (.map c.P kt et []) qs=some (b,H',qs')):
 ∃e' C',Mem c e' C' H' (w.alloc (.map #[] 0))∧e.le e'∧VR e' (.mp b) (.map (some w.heap.size))∧iU [] false e C H e' C' H' (w.alloc (.map #[] 0)):=by
 have hP:=yt hp
 have hE:Ext w (w.alloc (.map #[] 0)):=(Ext.refl w).alloc _
 have hM:=h.ext hE
 have hb:=hP.Om hM
 have hle:=Env.Ec hb w.heap.size undef
 have hm:(e.add b w.heap.size undef).m b=w.heap.size:=if_pos rfl
 refine⟨e.add b w.heap.size undef,jB C b [],hM.place hP (by simp) ⟨.inl rfl,fun p hp=>by cases hp⟩ ?_ (fun z hz=>?_),hle,?_,⟨hle,fun _=>rfl,hP.links hM _ _ _,hM.inv⟩⟩
 ·show(w.alloc _).ownsMap c.P kt (plainElem c.P et) ((e.add b w.heap.size undef).m b) 0 (mapD [])
  rw[hm]
  exact World.ownsMap_made _ _ _ _
 ·have hz:(e.add b w.heap.size undef).m b=z:=hz
  rw[hm] at hz
  subst hz
  have:=h.new (Nat.le_refl w.heap.size)
  exact this
 unfold VR
 exact⟨.inl rfl,by rw[hm]⟩
theorem LOp.mkMap{c:Ctx}{o:Oper}{st:St}{t:TypeId}(ho:o.op=.makeMap t none){kt et:TypeId}{b:Nat}{H':List Slot}{qs qs':List Ans}(hp:iH st.H (.map c.P kt et []) qs=some (b,H',qs'))
 {T':List (Nat×AV)} (hT:jq c.nt st.T o.dst (.mp b)=some T'):LOp c o st ⟨T',H'⟩ [] false:=
 LOp.value hT fun e C a w hR=>by
  obtain⟨e',C',k1,k2,k3,k4⟩:=hR.mem.mkMap hp
  refine⟨_,e',C',_,?_,k3,k1,k4⟩
  simp[execOp,ho,run_makeMap]
theorem LOp.aiR{c:Ctx}(hc:c.Ok){o:Oper}{st:St}{t:TypeId}{m k y:Operand}(ho:o.op=.mapUpdate t m k y){kt et:TypeId}{d:TD}{z:Lf}(hmt:Ie c.tt t=some (kt,et,d,z)){b:Nat}(hm:ev st.T m=some (.mp b))
 {P':Program} {l:List (ByteArray×Lf)} (hb:st.H[b]?=some (.map P' kt et l)) (hP:P'=c.P) (hl:l.length<maxLen) {s:ByteArray} (hk:ev st.T k=some (.lf (.str s))) {x:Lf} (hy:ev st.T y=some (.lf x)) (hz:zl d x=true)
 {T':List (Nat×AV)} (hT:jq c.nt st.T o.dst (.raw undef)=some T'):LOp c o st ⟨T',st.H.set b (.map P' kt et ((s,x)::l))⟩ [b] false:=
 LOp.skip hT fun e C a w hR=>by
  subst hP
  have M:=Oj hc.tt hmt
  have hm:=dh hR.tmp hm
  have hk:=(dh hR.tmp hk).str
  have hy:=dh hR.tmp hy
  unfold VR at hm
  have hv:=hR.mem.hv b _ hb
  have hw:w.ownsMap c.P kt (plainElem c.P et) (e.m b) l.length (mapD l):=hR.mem.hw b _ hb
  obtain⟨w',k1,k2,k3⟩:=World.ownsMap.update (t:=t) (e:=et) hw (Maps.string_keyed M.key) M.map hl (WideMaps.keyOf_string_mk M.key hk.2) (Ol M.d hz hy)
  have hlt:=(List.getElem?_eq_some_iff.1 hb).1
  have hC:jB C b (C b)=C:=by funext y;unfold jB;split<;>simp_all
  have hput:=hR.mem.put (s':=.map c.P kt et ((s, x)::l)) (l:=C b) hb rfl (fun y hy=>Eq.symm hy) (by simp) ⟨hv.1, fun p hp=>by
   rcases List.mem_cons.1 hp with rfl|hp
   ·exact VR.wfL hy hz
   exact hv.2 p hp⟩ (by exact k2) k3
  refine⟨e,jB C b (C b),w',?_,hput,⟨Env.le.refl e,fun _=>rfl,Ba,hput.inv⟩⟩
  simp[execOp,ho,hm.2,hk.1,k1]
end Go.Proofs.YtpdlghcgekojlaaGreatDoor
