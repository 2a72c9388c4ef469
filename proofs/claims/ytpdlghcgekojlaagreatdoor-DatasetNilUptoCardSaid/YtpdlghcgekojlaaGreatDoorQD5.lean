/- What the printed models and proofs lean on. -/
import Derived.Test.YtpdlghcgekojlaaGreatDoorQD2
import Derived.Test.YtpdlghcgekojlaaGreatDoorQDSnd
import Derived.Test.YtpdlghcgekojlaaGreatDoorRows
import Derived.Lib.LaidU8T
import Derived.Test.YtpdlghcgekojlaaGreatDoorCards
import Derived.Test.YtpdlghcgekojlaaGreatDoorTie
import Derived.Test.YtpdlghcgekojlaaGreatDoorQD1
import Derived.WalkKit
import Derived.ProofKit
import Derived.OpenShut
import Derived.Deep.DeepHandedRow
import Derived.Lib.LaidTab
import Derived.WideKeyArgs
import Derived.Lib.SmallJoins
import Derived.Test.YtpdlghcgekojlaaGreatDoorQD4
set_option linter.unusedSimpArgs false
set_option linter.unusedVariables false
namespace Go.Proofs.YtpdlghcgekojlaaGreatDoor
open Go.RowKit
def iM{α:Type}(l:List α)(i:Int):Option α:=if 0≤i then l[i.toNat]? else none
def mG(s:ByteArray)(i:Int):Option UInt8:=if 0≤i then s[i.toNat]? else none
theorem bZ{α:Type}{f g:α→List Lf}(e:∀x,f x=g x){l:List α}{i:Int}{v:α}(h:iM l i=some v):0≤i∧(l.map f)[i.toNat]?=some (g v):=by
 unfold iM at h
 split at h
 ·rename_i h0
  exact⟨h0,by rw[List.getElem?_map,h,Option.map_some,e]⟩
 ·cases h
theorem rO{α:Type}{f g:α→List Lf}(e:∀x,f x=g x){l:List α}{i:Int}{v:α}(h:iM l i=some v):0≤i∧i.toNat<(l.map f).length:=
 ⟨(bZ e h).1,(List.getElem?_eq_some_iff.1 (bZ e h).2).1⟩
theorem gI{s:ByteArray}{i:Int}{v:UInt8}(h:mG s i=some v):0≤i∧s[i.toNat]?=some v:=by
 unfold mG at h
 split at h
 ·rename_i h0;exact⟨h0,h⟩
 ·cases h
def mvB(p:ByteArray×Bool):ByteArray×Lf:=(p.1,.bool p.2)
def Oq{α:Type}:List (ByteArray×α)→ByteArray→α→α
 |[],_,z=>z
 |(k,x)::r,s,z=>if s=k then x else Oq r s z
theorem Qv(s:ByteArray)(z:Bool):∀l:List (ByteArray×Bool),iZ (l.map mvB) s (.bool z)=.bool (Oq l s z)
 |[]=>rfl
 |(n,x)::r=>by
  simp only[List.map_cons,mvB,iZ,Oq]
  split
  ·rfl
  ·exact Qv s z r
def GI:Gh→Prop:=fun I=>∀w,Inv I w→Tabs w
theorem aG:Base Tryz.prog GI TTc:=⟨acP,fun _ _ h k w hi=>k w (hi.le h),by kernel_rfl⟩
def FU:Nat:=1152921504606846976
theorem rf_(s:St):(some s:Option St)=some s:=rfl
theorem lS_(x:ByteArray):lfS x=lfS x:=rfl
theorem ln_{α:Type}(l:List α)(f:α→List Lf):l.length=(l.map f).length:=by simp
theorem ap_{α:Type}{f g:α→List Lf}(e:∀x,f x=g x)(l:List α)(x:α):(l++[x]).map f=l.map f++[g x]:=by simp[e]
theorem cp_{α:Type}(f:α→List Lf){l:List α}{x:α}{k n:Nat}(h:(l.length+[x].length)*k≤n):((l.map f).length+[f x].length)*k≤n:=by simpa using h
abbrev AV.i_(x:Int):AV:=.lf (.int .i64 x)
abbrev AV.b_(x:Bool):AV:=.lf (.bool x)
abbrev Ans.sg_(i n:Nat)(l:List Nat)(k:Nat)(s:St):Ans:=.seg i [] n l k s.T s.H
abbrev Ans.pt_(n:Nat)(l:List Nat)(k:Nat)(x:Exit)(s:St):Ans:=.part [] n l k x s.T s.H
abbrev bQ(f:Func)(k:Nat)(p:List Nat):=AWa Tryz.prog GI TTc f.ntmps k (Code.sub (bodyC f) p)
abbrev aS(f:Func)(k:Nat)(p:List Nat):=Zc Tryz.prog GI TTc f.ntmps k (Code.sub (bodyC f) p)
end Go.Proofs.YtpdlghcgekojlaaGreatDoor
set_option linter.unusedSimpArgs false
set_option linter.unusedVariables false
namespace Go.Proofs.YtpdlghcgekojlaaGreatDoor
open Go.RowKit
end Go.Proofs.YtpdlghcgekojlaaGreatDoor
set_option linter.unusedSimpArgs false
set_option linter.unusedVariables false
namespace Go.Proofs.YtpdlghcgekojlaaGreatDoor
open Go.RowKit Go.Lib
theorem Kz:Rows.laid_unicode_utf8_first=firstData:=by kernel_rfl
theorem Eu:(Rows.laid_unicode_utf8_acceptRanges:DataW Unit)=acceptData:=by kernel_rfl
theorem CG{W : World}(hL : laidMetH Tryz.prog [("unicode/utf8.acceptRanges", Rows.laid_unicode_utf8_acceptRanges), ("unicode/utf8.first", Rows.laid_unicode_utf8_first)] W) : Tabs W := by
 have hm : laidMet Tryz.prog [("unicode/utf8.acceptRanges", Rows.laid_unicode_utf8_acceptRanges), ("unicode/utf8.first", Rows.laid_unicode_utf8_first)] W := hL
 refine utf8Tabs_of_readsT (U8Types.of196 Tryz.laysValid) ⟨by kernel_rfl,by kernel_rfl,by kernel_rfl,by kernel_rfl,by kernel_rfl,by kernel_rfl,by kernel_rfl⟩ ?_ ?_
 ·rw[←Kz];exact Lib.laidMet.reads hm (.tail _ (.head _))
 ·rw[←Eu];exact Lib.laidMet.reads hm (.head _)
end Go.Proofs.YtpdlghcgekojlaaGreatDoor
set_option linter.unusedSimpArgs false
set_option linter.unusedVariables false
namespace Go.Proofs.YtpdlghcgekojlaaGreatDoor
open Go.ChangeShapes Go.WideShapes Go.ChangeAt Go.RowKit

theorem own:ownKnob Tryz.prog.godebug=none:=by kernel_rfl
def sZ:Nat→DataW Unit→List Value
 |0,_=>[]
 |_+1,.lit (.int k n)=>[.int k n]
 |f+1,.agg l=>l.flatMap (sZ f)
 |_,_=>[]
def Qx(cs:Array Value):Obj→Obj
 |.cells _ t frozen=>.cells cs t frozen
 |o=>o
noncomputable def laidWorld(os:Os):World:=
 { World.holding Tryz.prog os ⟨#[],#[],[]⟩ with heap:=((World.holding Tryz.prog os ⟨#[],#[],[]⟩).heap.modify 1 (Qx (sZ 4 Rows.laid_unicode_utf8_first).toArray)).modify 2 (Qx (sZ 4 Rows.laid_unicode_utf8_acceptRanges).toArray) }
section
variable {H:Type} {enc:TypeId×Value→H} {P:Program}
theorem zf{f:Func}{s:ChangeSpec}{apart fresh handsOn again:Bool}{W W':World}{args:Array Value}{v:Value}{ds gs:List (DataW H)}{before pa pv:List MemPlace}
 (hW:DataW.Whole enc P f.params.toList s.vars apart W args.toList ds gs before)
 (hres:∀(b:Nat) (sp:Nat→Bool) (hd:Bool),DataW.TrodAll enc P W' b sp hd f.resultTypes.toList (v.resultList f.resultTypes.size) (s.fn H (ds++gs)).results [])
 (hargs:∀sp:Nat→Bool,(∀p∈before,sp p.block=true)→DataW.TrodAll enc P W' 0 sp true f.params.toList args.toList (s.fn H (ds++gs)).args pa)
 (hvars:∀sp:Nat→Bool,(∀p∈before,sp p.block=true)→DataW.TrodVars enc P W' sp s.vars (s.fn H (ds++gs)).vars pv)
 (hps:before=pa++pv) (hb:Below W.heap.size W W')
 (hok:∀(j:Nat) (t:TypeId) (r:Value),f.resultTypes[j]?=some t→(v.resultList f.resultTypes.size)[j]?=some r→Value.okWide P W' .any 0 t r):
 s.post enc P f apart fresh handsOn again W args v W':=by
 have hlt:∀p∈before,p.block<W.heap.size:=fun p hp=>hW.lt p hp
 have hold:∀p∈before,(fun b=>decide (b<W.heap.size)) p.block=true:=fun p hp=>by simpa using hlt p hp
 refine⟨ds,gs,before,[],pa,pv,hW,hres _ _ _,hargs _ hold,hvars _ hold,World.keptBut_mono (fun p hp=>⟨hp,?_⟩) (hb.frame (·∈before)),fun _=>?_⟩
 ·rw[hps,List.mem_append] at hp
  exact Or.inr hp
 ·obtain⟨_,_,_,_,_,hz,hn⟩:=hW
  refine⟨hok,_,_,([]++pa)++pv,⟨[]++pa,pv,trodAll_append (hargs _ (fun _ _=>rfl)) (hres _ _ _),hvars _ (fun _ _=>rfl),rfl,?_,?_⟩,?_⟩
  ·intro b off hp
   have hin:MemPlace.cell b off∈before:=by rw[hps];simpa using hp
   rw[hb.frozen (hlt _ hin)]
   exact hz b off hin
  ·intro ha
   have:=hn ha
   rw[hps] at this
   simpa using this
  ·intro p hp _
   rw[hps]
   simpa using hp
end
end Go.Proofs.YtpdlghcgekojlaaGreatDoor
set_option linter.unusedSimpArgs false
set_option linter.unusedVariables false
namespace Go.Proofs.YtpdlghcgekojlaaGreatDoor
open Go.ChangeShapes Go.WideShapes Go.ChangeAt Go.RowKit Go.Joins Go.Deep
section
variable {H:Type} {enc:TypeId×Value→H} {P:Program} {w:World} {base:Nat} {spare:Nat→Bool} {held:Bool}
theorem lG(hl:laidOutB P=true){W W':World}{sp':Nat→Bool}:∀(ts:List TypeId) (vs:List Value) (ds:List (DataW H)) (ps:List MemPlace),(∀t∈ts,P.readableRec t=true∧t<P.types.size)→
 DataW.TrodAll enc P W 0 (fun _=>true) true ts vs ds ps→(∀x∈ps,W.sameAt W' x)→(∀x∈ps,sp' x.block=true)→DataW.TrodAll enc P W' 0 sp' true ts vs ds ps
 |[],vs,ds,ps,_,h,_,_=>by
  cases vs<;>cases ds<;>simp[DataW.TrodAll] at h ⊢
  exact h
 |t::ts,vs,ds,ps,hr,h,h1,h2=>by
  obtain⟨v,vs',d,ds',p,q,rfl,rfl,rfl,hp,hq⟩:=trodAll_cons h
  refine⟨p,q,WideElems.Trod_stays hl (hr t (by simp)).1 (hr t (by simp)).2 hp (fun x hx=>h1 x (by simp[hx])) (fun x hx=>h2 x (by simp[hx])),?_,rfl⟩
  exact lG hl ts vs' ds' q (fun t ht=>hr t (by simp[ht])) hq (fun x hx=>h1 x (by simp[hx])) (fun x hx=>h2 x (by simp[hx]))
theorem Qy{f:Func}{s:ChangeSpec}{W W':World}{args:Array Value}{ds:List (DataW H)}{before:List MemPlace}{tb:TypeId}
 (hl:laidOutB P=true) (hr:(f.params.all fun t=>P.readableRec t&&decide (t<P.types.size))=true) (hv:s.vars=[]) (ht:f.resultTypes=#[tb]) (hb:P.underlying tb=some .bool)
 (hW:DataW.Whole enc P f.params.toList s.vars false W args.toList ds [] before) (hs:s.fn H (ds++[])={ results:=[.lit (.bool true)],args:=ds }) (he:Ext W W'):
 s.post enc P f false true false false W args (.bool true) W':=by
 have hW0:=hW
 obtain⟨p,q,hA,hV,rfl,hfz,hnd⟩:=hW
 have hq:q=[]:=by
  rw[hv] at hV
  simpa[DataW.TrodVars] using hV
 subst hq
 have hlt:∀x∈p++[],x.block<W.heap.size:=fun x hx=>hW0.lt x hx
 have hrr:∀t∈f.params.toList,P.readableRec t=true∧t<P.types.size:=fun t ht=>by
  have:=Array.all_eq_true'.1 hr t (by simpa using ht)
  simpa using this
 refine zf (pa:=p) (pv:=[]) hW0 ?_ ?_ ?_ rfl he ?_
 ·intro b sp hd
  rw[hs,ht]
  exact trodAll_mk1 (shut_bool hb _)
 ·intro sp hsp
  rw[hs]
  exact lG hl _ _ _ _ hrr hA (fun x hx=>Below.same he (hlt x (by simpa using hx))) (fun x hx=>hsp x (by simpa using hx))
 ·intro sp _
  rw[hs,hv]
  rfl
 ·intro j t r hj hr'
  rw[ht] at hj hr'
  have hj0:j=0:=by
   rcases j with _|j
   ·rfl
   ·simp at hj
  subst hj0
  obtain rfl:tb=t:=by simpa using hj
  obtain rfl:Value.bool true=r:=by simpa[Value.resultList] using hr'
  exact okWide_bool_mk hb _
end
end Go.Proofs.YtpdlghcgekojlaaGreatDoor
set_option linter.unusedSimpArgs false
set_option linter.unusedVariables false
namespace Go.Proofs.YtpdlghcgekojlaaGreatDoor
open Go.ChangeShapes Go.WideShapes Go.ChangeAt Go.RowKit
theorem aeF{W:World}(h:Tabs W):GI (I0 W):=fun w hi=>⟨fun c hc=>hi _ _ _ (h.1 c hc),fun i hi'=>⟨hi _ _ _ (h.2 i hi').1,hi _ _ _ (h.2 i hi').2⟩⟩
section
variable {H:Type} {enc:TypeId×Value→H} {P:Program} {w:World} {tys:List TypeId}
theorem LD(hok:okT P tys=true){t:TypeId}{v:Value}{d:DataW H}{ps:List MemPlace}(h:DataW.Trod enc P w 0 (fun _=>true) true t v d ps){shs:List Shp}(hf:flat P 12 t=some shs)(ht:tys.contains t=true):
 ∃r,bg (I0 w) r v.cells.toList∧WTr P r shs∧bV r≤Rows.uptoBulk d:=by
 obtain⟨fuel,hf'⟩:=h
 obtain⟨shs',h1,h2⟩:=LC hok (List.contains_iff_mem.1 ht)
 rw[hf] at h1;injection h1 with h1;subst h1
 exact Zn hok fuel 12 t v.cells.toList (d,ps) shs hf' hf h2
end
structure OkW (P:Program) (w:World) (base:Nat) (t:TypeId) (v:Value):Prop where
 ok:Value.okWide P w .any base t v
def OkA(P:Program)(w:World)(base:Nat)(ps:Array TypeId)(vs:Array Value):Prop:=∀(j:Nat) t v,ps[j]?=some t→vs[j]?=some v→OkW P w base t v
theorem acV{P:Program}{w:World}{base:Nat}{ps:Array TypeId}{vs:Array Value}(h:∀(j:Nat) t v,ps[j]?=some t→vs[j]?=some v→Value.okWide P w .any base t v):OkA P w base ps vs:=fun j t v h1 h2=>⟨h j t v h1 h2⟩
theorem tq{P:Program}{w:World}{base:Nat}{ps:Array TypeId}{vs:Array Value}(h:OkA P w base ps vs)(j:Nat){t:TypeId}{v:Value}{fs:Array Field}(h1:ps[j]?=some t)(h2:vs[j]?=some v)(ht:P.underlying t=some (.struct fs)):∃cs,v=.agg cs∧cs.size=P.cellsOf t:=okWide_struct ht (h j t v h1 h2).ok
theorem acW{f:FuncId}{args:List AV}{vs:List Value}{W:World}(h:Fn Tryz.prog GI f args (.lf (.bool true)))(hT:Tabs W)(hvs:VRs (oC (I0 W)) args vs):
 Calls Tryz.prog f vs.toArray W fun e W'=>e=.returned (.bool true)∧Ext W W':=by
 refine(h.2 (I0 W) W vs (aeF hT) (acU W) hvs).mono ?_
 rintro e w' ⟨I',v,rfl,g,hv⟩
 exact⟨by rw[hv.bool],g.ext⟩
end Go.Proofs.YtpdlghcgekojlaaGreatDoor
set_option linter.unusedSimpArgs false
set_option linter.unusedVariables false
namespace Go.Proofs.YtpdlghcgekojlaaGreatDoor
open Go.RowKit
theorem VRs.qQ{e:Env}{x:AV}{l:List AV}{vs:List Value}(h:VRs e (x::l) vs):∃v q,vs=v::q∧VR e x v∧VRs e l q:=by unfold VRs at h;exact h
theorem VRs.Zp{e:Env}{vs:List Value}(h:VRs e [] vs):vs=[]:=by unfold VRs at h;exact h
theorem Fn.of{P:Program}{G:Gh→Prop}{f:FuncId}{args:List AV}{res:AV}(hc:jO P f=true)(h:∀I w vs,G I→Inv I w→VRs (oC I) args vs→Calls P f vs.toArray w fun e w'=>∃I' v,e=.returned v∧Gr I I' w w'∧VR (oC I') res v):Fn P G f args res:=⟨hc,h⟩
end Go.Proofs.YtpdlghcgekojlaaGreatDoor
