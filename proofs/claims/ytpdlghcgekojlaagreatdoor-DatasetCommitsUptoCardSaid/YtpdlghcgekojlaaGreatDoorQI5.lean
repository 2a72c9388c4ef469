/- What the printed models and proofs lean on. -/
import Derived.Test.YtpdlghcgekojlaaGreatDoorQI2
import Derived.Test.YtpdlghcgekojlaaGreatDoorQISnd
import Derived.Test.YtpdlghcgekojlaaGreatDoorRows
import Derived.Lib.LaidU8T
import Derived.Test.YtpdlghcgekojlaaGreatDoorCards
import Derived.Test.YtpdlghcgekojlaaGreatDoorTie
import Derived.Test.YtpdlghcgekojlaaGreatDoorQI1
import Derived.WalkKit
import Derived.ProofKit
import Derived.OpenShut
import Derived.Deep.DeepHandedRow
import Derived.Lib.LaidTab
import Derived.WideKeyArgs
import Derived.Lib.SmallJoins
import Derived.Test.YtpdlghcgekojlaaGreatDoorQI4
set_option linter.unusedSimpArgs false
set_option linter.unusedVariables false
namespace Go.Proofs.YtpdlghcgekojlaaGreatDoor
open Go.RowKit
def jf{α:Type}(l:List α)(i:Int):Option α:=if 0≤i then l[i.toNat]? else none
def kG(s:ByteArray)(i:Int):Option UInt8:=if 0≤i then s[i.toNat]? else none
theorem eu{α:Type}{f g:α→List Lf}(e:∀x,f x=g x){l:List α}{i:Int}{v:α}(h:jf l i=some v):0≤i∧(l.map f)[i.toNat]?=some (g v):=by
 unfold jf at h
 grind
theorem sK{α:Type}{f g:α→List Lf}(e:∀x,f x=g x){l:List α}{i:Int}{v:α}(h:jf l i=some v):0≤i∧i.toNat<(l.map f).length:=
 ⟨(eu e h).1,(List.getElem?_eq_some_iff.1 (eu e h).2).1⟩
theorem fK{s:ByteArray}{i:Int}{v:UInt8}(h:kG s i=some v):0≤i∧s[i.toNat]?=some v:=by
 unfold kG at h
 grind
def mvB(p:ByteArray×Bool):ByteArray×Lf:=(p.1,.bool p.2)
def uQ{α:Type}:List (ByteArray×α)→ByteArray→α→α
 |[],_,z=>z
 |(k,x)::r,s,z=>if s=k then x else uQ r s z
theorem EC(s:ByteArray)(z:Bool):∀l:List (ByteArray×Bool),l7 (l.map mvB) s (.bool z)=.bool (uQ l s z)
 |[]=>rfl
 |(n,x)::r=>by
  simp only[List.map_cons,mvB,l7,uQ]
  split
  ·rfl
  exact EC s z r
def GI:Gh→Prop:=fun I=>∀w,Inv I w→Tabs w
theorem jD:Base Tryz.prog GI TTc:=⟨ai6,fun _ _ h k w hi=>k w (hi.le h),by kernel_rfl⟩
theorem sQ{α:Type}(f:α→List Lf)(l:List α)(n:Nat):(l.drop n).map f=((l.map f).take ((l.map f).length:Int).toNat).drop n:=by rw[Int.toNat_natCast,List.take_length,List.map_drop]
def FU:Nat:=1152921504606846976
theorem rf_(s:St):(some s:Option St)=some s:=rfl
theorem lI_(x:Int):lfI x=lfI x:=rfl
theorem lS_(x:ByteArray):lfS x=lfS x:=rfl
theorem ln_{α:Type}(l:List α)(f:α→List Lf):l.length=(l.map f).length:=by simp
theorem ap_{α:Type}{f g:α→List Lf}(e:∀x,f x=g x)(l:List α)(x:α):(l++[x]).map f=l.map f++[g x]:=by simp[e]
theorem cp_{α:Type}(f:α→List Lf){l:List α}{x:α}{k n:Nat}(h:(l.length+[x].length)*k≤n):((l.map f).length+[f x].length)*k≤n:=by grind
abbrev AV.i_(x:Int):AV:=.lf (.int .i64 x)
abbrev AV.b_(x:Bool):AV:=.lf (.bool x)
abbrev ag_(l:List Lf)(s:List (Nat×AV)):AV:=Et (.agg (l.map AV.lf)) s
abbrev Ans.pt_(n:Nat)(l:List Nat)(k:Nat)(x:Exit)(s:St):Ans:=.part [] n l k x s.T s.H
abbrev Ud(f:Func)(k:Nat)(p:List Nat):=AWa Tryz.prog GI TTc f.ntmps k (Code.sub (bodyC f) p)
abbrev ahO(f:Func)(k:Nat)(p:List Nat):=afz Tryz.prog GI TTc f.ntmps k (Code.sub (bodyC f) p)
noncomputable section
variable {ρ α σ:Type}
abbrev Mo.rt(l:List Nat)(n:Nat)(r:ρ):Mo ρ:=.ret ⟨[],l,[],n⟩ r
abbrev Mo.iB(b:Bool)(t e:Mo ρ):Mo ρ:=.ite b (fun c=>.say [.br true] (ok1 c) t) fun c=>.say [.br false] (ok1 c) e
abbrev Mo.iG(n:Nat)(b:Bool)(t e:Mo ρ):Mo ρ:=.ite b (fun c=>.say [.gd n true] (ok1 c) t) fun c=>.say [.gd n false] (ok1 c) e
abbrev FV(m:Option α)(f:FuncId)(a:List AV)(v:α→AV):Prop:=∀r,m=some r→Fn Tryz.prog GI f a (v r)
abbrev FH(m:Option α)(f:FuncId)(a:List AV)(H0:List Slot)(v:α→AV)(H:α→List Slot):Prop:=∀r,m=some r→FnH Tryz.prog GI f a H0 (v r) (H r)
def unV:AV→List AV
 |.tup l=>l
 |x=>[x]
theorem dI{f:FuncId}{fn:Func}{a:List AV}{v:α→AV}{t:Mo α}(hf:Tryz.prog.funcs[f]?=some fn)(hb:(fn.body.isSome&&nN Tryz.prog f&&Nat.ble a.length fn.ntmps)=true:=by kernel_rfl)(hv:∀r, resV (unV (v r))=v r:=by first|exact fun _=>rfl|(intro r;rcases r with r|r<;>rfl)|(intro r;rcases r with r|r|r|r|r|r<;>rfl))(h:t.lhs (fun g qs=>exF Tryz.prog GI TTc fn a [] qs g) []=t.rhs (fun r p=>some (unV (v r), [], p)) []:=by kernel_rfl):FV t.den f a v:=fun r hm=>by
 simp only[Bool.and_eq_true] at hb
 exact hv r▸ai7 jD hf hb.1.1 hb.1.2 hb.2 t (fun r=>unV (v r)) h hm
theorem jA{f:FuncId}{fn:Func}{a:List AV}{H0:List Slot}{v:α→AV}{H:α→List Slot}{t:Mo α}(hf:Tryz.prog.funcs[f]?=some fn)(hb:(fn.body.isSome&&nN Tryz.prog f&&Nat.ble a.length fn.ntmps)=true:=by kernel_rfl)(hv:∀r, resV (unV (v r))=v r:=by first|exact fun _=>rfl|(intro r;rcases r with r|r<;>rfl)|(intro r;rcases r with r|r|r|r|r|r<;>rfl))(h:t.lhs (fun g qs=>exF Tryz.prog GI TTc fn a H0 qs g) []=t.rhs (fun r p=>some (unV (v r), H r, p)) []:=by kernel_rfl):FH t.den f a H0 v H:=fun r hm=>by
 simp only[Bool.and_eq_true] at hb
 exact hv r▸aa9 jD hf hb.1.1 hb.1.2 hb.2 t (fun r=>unV (v r)) H h hm
abbrev Mo.cl{m:Option α}{f:FuncId}{a:List AV}{v:α→AV}(h:FV m f a v)(k:(r:α)→m=some r→Mo ρ):Mo ρ:=.ask m fun r e=>.say [.res (v r)] (ok1 (h r e)) (k r e)
abbrev Mo.cH{m:Option α}{f:FuncId}{a:List AV}{H0:List Slot}{v:α→AV}{H:α→List Slot}(l:List Nat)(h:FH m f a H0 v H)(k:(r:α)→m=some r→Mo ρ):Mo ρ:=.ask m fun r e=>.say [.iO l (v r) (H r)] (ok1 (h r e)) (k r e)
abbrev Mo.jp(f:Func)(k0:Nat)(path:List Nat)(i:Nat)(keys:List Nat)(n:Nat)(x:Exit)(S:α→St)(pre:St)(m:Option α)(W:∀r,m=some r→Ud f k0 path x (S r) pre)(k:(r:α)→m=some r→Mo ρ):Mo ρ:=.ask m fun r e=>.say [.part [] i keys n x (S r).T (S r).H] (ok1 (W r e)) (k r e)
theorem jW{f:Func}{k0:Nat}{path:List Nat}{x:Exit}{S:α→St}{pre:St}{t:Mo α}(h:t.lhs (fun g qs=>exX Tryz.prog GI TTc f.ntmps k0 (Code.sub (bodyC f) path) pre qs g) []=t.rhs (fun r p=>some (x,S r,p)) []):∀r,t.den=some r→Ud f k0 path x (S r) pre:=fun _ e=>uP jD t (fun _=>x) S h e
theorem sW{f:Func}{k0:Nat}{path ops:List Nat}{S:α→St}{pre:St}{t:Mo α}(h:t.lhs (fun g qs=>exO Tryz.prog GI TTc f.ntmps k0 (Code.sub (bodyC f) path) ops pre qs g) []=t.rhs (fun r p=>some (S r,p)) []):∀r,t.den=some r→ahO f k0 path ops (S r) pre:=fun _ e=>ali jD t S h e
theorem lW{f:Func}{k0:Nat}{path:List Nat}{x:Exit}{S:α→St}(H:σ→St){T:σ→Mo (σ⊕α)}{v:σ}(hc:Code.sub (bodyC f) path=.loop (Code.sub (bodyC f) (path++[0])))(hx:zq x=true)(h:∀v,(T v).lhs (fun g qs=>exX Tryz.prog GI TTc f.ntmps k0 (Code.sub (bodyC f) (path++[0])) (H v) qs g) []=(T v).rhs (fun y p=>match y with|.inl v'=>some (.normal,H v',p)|.inr r=>some (x,S r,p)) []):∀r,dA (fun v=>(T v).den) FU v=some r→Ud f k0 path x (S r) (H v):=fun _ e=>Uc jD hc T H (fun _=>x) S (fun _=>hx) h e
theorem lW2{β:Type}{f:Func}{k0:Nat}{path:List Nat}{x1 x2:Exit}{S1:α→St}{S2:β→St}(H:σ→St){T:σ→Mo (σ⊕(α⊕β))}{v:σ}(hc:Code.sub (bodyC f) path=.loop (Code.sub (bodyC f) (path++[0])))(hx:(zq x1&&zq x2)=true)(h:∀v,(T v).lhs (fun g qs=>exX Tryz.prog GI TTc f.ntmps k0 (Code.sub (bodyC f) (path++[0])) (H v) qs g) []=(T v).rhs (fun y p=>match y with|.inl v'=>some (.normal,H v',p)|.inr (.inl r)=>some (x1,S1 r,p)|.inr (.inr r)=>some (x2,S2 r,p)) []):∀r,dA (fun v=>(T v).den) FU v=some r→Ud f k0 path (Sum.elim (fun _=>x1) (fun _=>x2) r) (Sum.elim S1 S2 r) (H v):=fun _ e=>Uc jD hc T H (Sum.elim (fun _=>x1) (fun _=>x2)) (Sum.elim S1 S2) (fun r=>by
 rw[Bool.and_eq_true] at hx
 cases r
 ·exact hx.1
 ·exact hx.2) (fun v=>by
 rw[h v]
 congr 1
 funext y p
 rcases y with v'|r|r<;>rfl) e
theorem jW2{β:Type}{f:Func}{k0:Nat}{path:List Nat}{x1 x2:Exit}{S1:α→St}{S2:β→St}{pre:St}{t:Mo (α⊕β)}(h:t.lhs (fun g qs=>exX Tryz.prog GI TTc f.ntmps k0 (Code.sub (bodyC f) path) pre qs g) []=t.rhs (fun y p=>match y with|.inl r=>some (x1,S1 r,p)|.inr r=>some (x2,S2 r,p)) []):∀r,t.den=some r→Ud f k0 path (Sum.elim (fun _=>x1) (fun _=>x2) r) (Sum.elim S1 S2 r) pre:=fun _ e=>uP jD t (Sum.elim (fun _=>x1) (fun _=>x2)) (Sum.elim S1 S2) (by
 rw[h]
 congr 1
 funext y p
 rcases y with r|r<;>rfl) e
def rg_:Nat→Nat→List Nat
 |_,0=>[]
 |a,n+1=>a::rg_ (a+1) n
abbrev St.ks(s:St):List Nat:=s.T.map Prod.fst
abbrev Mo.l1m(q:List Ans)(f:Func)(k0:Nat)(path:List Nat)(i:Nat)(x:Exit)(H:σ→St)(S:α→St)(m:Option α)(T:σ→Mo (σ⊕α))(v:σ)(k:α→Mo ρ)(hc:Code.sub (bodyC f) path=.loop (Code.sub (bodyC f) (path++[0])):=by kernel_rfl)(hx:zq x=true:=by kernel_rfl)(h:∀v,(T v).lhs (fun g qs=>exX Tryz.prog GI TTc f.ntmps k0 (Code.sub (bodyC f) (path++[0])) (H v) qs g) []=(T v).rhs (fun y p=>match y with|.inl v'=>some (.normal,H v',p)|.inr r=>some (x,S r,p)) []:=by intro _;kernel_rfl)(hm:∀r,m=some r→dA (fun v=>(T v).den) FU v=some r:=by exact fun _ e=>e):Mo ρ:=.ask m fun r e=>.say [.part q i (H v).ks (H v).H.length x (S r).T (S r).H] (ok1 (lW H hc hx h r (hm r e))) (k r)
abbrev Mo.l1y(q:List Ans)(f:Func)(k0:Nat)(path:List Nat)(i:Nat)(x:Exit)(H:σ→St)(S:α→St)(T:σ→Mo (σ⊕α))(v:σ)(k:α→Mo ρ)(hc:Code.sub (bodyC f) path=.loop (Code.sub (bodyC f) (path++[0])):=by kernel_rfl)(hx:zq x=true:=by kernel_rfl)(h:∀v,(T v).lhs (fun g qs=>exX Tryz.prog GI TTc f.ntmps k0 (Code.sub (bodyC f) (path++[0])) (H v) qs g) []=(T v).rhs (fun y p=>match y with|.inl v'=>some (.normal,H v',p)|.inr r=>some (x,S r,p)) []:=by intro _;kernel_rfl):Mo ρ:=.ask (dA (fun v=>(T v).den) FU v) fun r e=>.say [.part q i (H v).ks (H v).H.length x (S r).T (S r).H] (ok1 (lW H hc hx h r e)) (k r)
abbrev Mo.l1(f:Func)(k0:Nat)(path:List Nat)(i:Nat)(x:Exit)(H:σ→St)(S:α→St)(T:σ→Mo (σ⊕α))(v:σ)(k:α→Mo ρ)(hc:Code.sub (bodyC f) path=.loop (Code.sub (bodyC f) (path++[0])):=by kernel_rfl)(hx:zq x=true:=by kernel_rfl)(h:∀v,(T v).lhs (fun g qs=>exX Tryz.prog GI TTc f.ntmps k0 (Code.sub (bodyC f) (path++[0])) (H v) qs g) []=(T v).rhs (fun y p=>match y with|.inl v'=>some (.normal,H v',p)|.inr r=>some (x,S r,p)) []:=by intro _;kernel_rfl):Mo ρ:=.l1y [] f k0 path i x H S T v k hc hx h
abbrev Mo.l2m{β:Type}(q:List Ans)(f:Func)(k0:Nat)(path:List Nat)(i:Nat)(H:σ→St)(x1:Exit)(S1:α→St)(x2:Exit)(S2:β→St)(m:Option (α⊕β))(T:σ→Mo (σ⊕(α⊕β)))(v:σ)(k1:α→Mo ρ)(k2:β→Mo ρ)(hc:Code.sub (bodyC f) path=.loop (Code.sub (bodyC f) (path++[0])):=by kernel_rfl)(hx:(zq x1&&zq x2)=true:=by kernel_rfl)(h:∀v,(T v).lhs (fun g qs=>exX Tryz.prog GI TTc f.ntmps k0 (Code.sub (bodyC f) (path++[0])) (H v) qs g) []=(T v).rhs (fun y p=>match y with|.inl v'=>some (.normal,H v',p)|.inr (.inl r)=>some (x1,S1 r,p)|.inr (.inr r)=>some (x2,S2 r,p)) []:=by intro _;kernel_rfl)(hm:∀r,m=some r→dA (fun v=>(T v).den) FU v=some r:=by exact fun _ e=>e):Mo ρ:=.jh m (fun a e=>.say [.part q i (H v).ks (H v).H.length x1 (S1 a).T (S1 a).H] (ok1 (lW2 H hc hx h _ (hm _ e))) (k1 a)) fun b e=>.say [.part q i (H v).ks (H v).H.length x2 (S2 b).T (S2 b).H] (ok1 (lW2 H hc hx h _ (hm _ e))) (k2 b)
abbrev Mo.l2y{β:Type}(q:List Ans)(f:Func)(k0:Nat)(path:List Nat)(i:Nat)(H:σ→St)(x1:Exit)(S1:α→St)(x2:Exit)(S2:β→St)(T:σ→Mo (σ⊕(α⊕β)))(v:σ)(k1:α→Mo ρ)(k2:β→Mo ρ)(hc:Code.sub (bodyC f) path=.loop (Code.sub (bodyC f) (path++[0])):=by kernel_rfl)(hx:(zq x1&&zq x2)=true:=by kernel_rfl)(h:∀v,(T v).lhs (fun g qs=>exX Tryz.prog GI TTc f.ntmps k0 (Code.sub (bodyC f) (path++[0])) (H v) qs g) []=(T v).rhs (fun y p=>match y with|.inl v'=>some (.normal,H v',p)|.inr (.inl r)=>some (x1,S1 r,p)|.inr (.inr r)=>some (x2,S2 r,p)) []:=by intro _;kernel_rfl):Mo ρ:=.jh (dA (fun v=>(T v).den) FU v) (fun a e=>.say [.part q i (H v).ks (H v).H.length x1 (S1 a).T (S1 a).H] (ok1 (lW2 H hc hx h _ e)) (k1 a)) fun b e=>.say [.part q i (H v).ks (H v).H.length x2 (S2 b).T (S2 b).H] (ok1 (lW2 H hc hx h _ e)) (k2 b)
abbrev Mo.l2{β:Type}(f:Func)(k0:Nat)(path:List Nat)(i:Nat)(H:σ→St)(x1:Exit)(S1:α→St)(x2:Exit)(S2:β→St)(T:σ→Mo (σ⊕(α⊕β)))(v:σ)(k1:α→Mo ρ)(k2:β→Mo ρ)(hc:Code.sub (bodyC f) path=.loop (Code.sub (bodyC f) (path++[0])):=by kernel_rfl)(hx:(zq x1&&zq x2)=true:=by kernel_rfl)(h:∀v,(T v).lhs (fun g qs=>exX Tryz.prog GI TTc f.ntmps k0 (Code.sub (bodyC f) (path++[0])) (H v) qs g) []=(T v).rhs (fun y p=>match y with|.inl v'=>some (.normal,H v',p)|.inr (.inl r)=>some (x1,S1 r,p)|.inr (.inr r)=>some (x2,S2 r,p)) []:=by intro _;kernel_rfl):Mo ρ:=.l2y [] f k0 path i H x1 S1 x2 S2 T v k1 k2 hc hx h
abbrev Mo.sy(q:List Ans)(f:Func)(k0:Nat)(path:List Nat)(a n i:Nat)(S:α→St)(pre:St)(t:Mo α)(k:α→Mo ρ)(W:t.lhs (fun g qs=>exO Tryz.prog GI TTc f.ntmps k0 (Code.sub (bodyC f) path) (rg_ a n) pre qs g) []=t.rhs (fun r p=>some (S r,p)) []:=by kernel_rfl):Mo ρ:=.ask t.den fun r e=>.say [.seg i q n pre.ks pre.H.length (S r).T (S r).H] (ok1 (sW W r e)) (k r)
abbrev Mo.sk(f:Func)(k0:Nat)(path:List Nat)(a n i:Nat)(S:α→St)(pre:St)(t:Mo α)(k:α→Mo ρ)(W:t.lhs (fun g qs=>exO Tryz.prog GI TTc f.ntmps k0 (Code.sub (bodyC f) path) (rg_ a n) pre qs g) []=t.rhs (fun r p=>some (S r,p)) []:=by kernel_rfl):Mo ρ:=.sy [] f k0 path a n i S pre t k W
abbrev Mo.sb(f:Func)(k0:Nat)(path:List Nat)(a n i:Nat)(C:List (Nat×AV))(H:List Slot)(x y:Nat)(b:Bool)(t:Mo Bool)(k:Bool→Mo ρ)(W:t.lhs (fun g qs=>exO Tryz.prog GI TTc f.ntmps k0 (Code.sub (bodyC f) path) (rg_ a n) ⟨C++[(x,.b_ b)],H⟩ qs g) []=t.rhs (fun r p=>some (⟨C++[(y,.b_ r)],H⟩,p)) []:=by kernel_rfl):Mo ρ:=.sy [] f k0 path a n i (fun r=>⟨C++[(y,.b_ r)],H⟩) ⟨C++[(x,.b_ b)],H⟩ t k W
abbrev Mo.sf(f:Func)(k0:Nat)(path:List Nat)(a n i:Nat)(C:List (Nat×AV))(H:List Slot)(y:Nat)(t:Mo Bool)(k:Bool→Mo ρ)(W:t.lhs (fun g qs=>exO Tryz.prog GI TTc f.ntmps k0 (Code.sub (bodyC f) path) (rg_ a n) ⟨C,H⟩ qs g) []=t.rhs (fun r p=>some (⟨C++[(y,.b_ r)],H⟩,p)) []:=by kernel_rfl):Mo ρ:=.sy [] f k0 path a n i (fun r=>⟨C++[(y,.b_ r)],H⟩) ⟨C,H⟩ t k W
abbrev Mo.jy(q:List Ans)(f:Func)(k0:Nat)(path:List Nat)(i:Nat)(x:Exit)(S:α→St)(pre:St)(t:Mo α)(k:α→Mo ρ)(W:t.lhs (fun g qs=>exX Tryz.prog GI TTc f.ntmps k0 (Code.sub (bodyC f) path) pre qs g) []=t.rhs (fun r p=>some (x,S r,p)) []:=by kernel_rfl):Mo ρ:=.ask t.den fun r e=>.say [.part q i pre.ks pre.H.length x (S r).T (S r).H] (ok1 (jW W r e)) (k r)
abbrev Mo.jk(f:Func)(k0:Nat)(path:List Nat)(i:Nat)(S:α→St)(pre:St)(t:Mo α)(k:α→Mo ρ)(W:t.lhs (fun g qs=>exX Tryz.prog GI TTc f.ntmps k0 (Code.sub (bodyC f) path) pre qs g) []=t.rhs (fun r p=>some (.normal,S r,p)) []:=by kernel_rfl):Mo ρ:=.jy [] f k0 path i .normal S pre t k W
abbrev Mo.j2{β:Type}(q:List Ans)(f:Func)(k0:Nat)(path:List Nat)(i:Nat)(x1:Exit)(S1:α→St)(x2:Exit)(S2:β→St)(pre:St)(t:Mo (α⊕β))(k1:α→Mo ρ)(k2:β→Mo ρ)(W:t.lhs (fun g qs=>exX Tryz.prog GI TTc f.ntmps k0 (Code.sub (bodyC f) path) pre qs g) []=t.rhs (fun y p=>match y with|.inl r=>some (x1,S1 r,p)|.inr r=>some (x2,S2 r,p)) []:=by kernel_rfl):Mo ρ:=.jh t.den (fun a e=>.say [.part q i pre.ks pre.H.length x1 (S1 a).T (S1 a).H] (ok1 (jW2 W _ e)) (k1 a)) fun b e=>.say [.part q i pre.ks pre.H.length x2 (S2 b).T (S2 b).H] (ok1 (jW2 W _ e)) (k2 b)
abbrev Mo.aV(n:Nat)(b:Bool)(l:List Nat)(k:Nat)(v:Bool):Mo Bool:=.iG n b (.rt l k v) (.rt l k false)
abbrev Mo.oV(n:Nat)(b:Bool)(l:List Nat)(k:Nat)(v:Bool):Mo Bool:=.iG n b (.rt l k true) (.rt l k v)
abbrev Mo.aC(n:Nat)(b:Bool)(l:List Nat)(k:Nat){m:Option Bool}{f:FuncId}{a:List AV}{v:Bool→AV}(h:FV m f a v):Mo Bool:=.iG n b (.cl h fun r _=>.rt l k r) (.rt l k false)
abbrev Mo.nu(l:List α)(f:α→List Lf)(t:Mo ρ):Mo ρ:=.say [.num l.length] (ok1 (ln_ l f)) t
abbrev Mo.bx(s:ByteArray)(i:Int)(k:(b:UInt8)→kG s i=some b→Mo ρ):Mo ρ:=.ask (kG s i) fun b h=>.say [.byt b] (ok1 (fK h)) (k b h)
abbrev Mo.gx{f g:α→List Lf}(e:∀x,f x=g x)(l:List α)(i:Int)(k:(x:α)→jf l i=some x→Mo ρ):Mo ρ:=.ask (jf l i) fun x h=>.say [.row (g x)] (ok1 (eu e h)) (k x h)
end
end Go.Proofs.YtpdlghcgekojlaaGreatDoor
namespace Go.Proofs.YtpdlghcgekojlaaGreatDoor
open Go.RowKit
theorem yB{σ ρ:Type}{T:σ→Option (σ⊕ρ)}(Inv:σ→Prop)(μ:σ→Nat)(Post:ρ→Prop)
 (step:∀v,Inv v→(∃v',T v=some (.inl v')∧Inv v'∧μ v'<μ v)∨∃r,T v=some (.inr r)∧Post r):∀(n:Nat) (v:σ),Inv v→μ v<n→∃r,dA T n v=some r∧Post r
 |0,v,_,h=>by omega
 |n+1,v,hv,h=>by
  rcases step v hv with⟨v',h1,h2,h3⟩|⟨r,h1,h2⟩
  ·obtain⟨r, k1, k2⟩:=yB Inv μ Post step n v' h2 (by omega)
   exact⟨r,by unfold dA;rw[h1];exact k1,k2⟩
  exact⟨r,by unfold dA;rw[h1];rfl,h2⟩
theorem w64{x:Int}(h1 : -9223372036854775808≤x)(h2:x≤9223372036854775807):IntKind.wrap .i64 x=x:=by
 rw[IntKind.wrap_i64];omega
theorem abe{α:Type}(l:List α)(k:Nat):jf l (k:Int)=l[k]?:=by
 rfl
theorem afM{α:Type}{l:List α}{i:Int}(h0:0≤i)(h1:i<l.length):∃x,jf l i=some x∧l[i.toNat]?=some x:=by
 unfold jf;rw[if_pos h0]
 simp_all
theorem alm{n:Nat}(h:n≤1000000000000):n<FU:=by unfold FU;omega
theorem OY{σ ρ:Type}{T:σ→Option (σ⊕ρ)}{v0:σ}(n:Nat)(hn:n≤1000000000)(P:Nat→σ→Prop)(Post:ρ→Prop)(h0:P 0 v0)
 (step:∀k v,k<n→P k v→(∃v',T v=some (.inl v')∧P (k+1) v')∨∃r,T v=some (.inr r)∧Post r)
 (fin:∀v,P n v→∃r,T v=some (.inr r)∧Post r):∃r,dA T FU v0=some r∧Post r:=by
 have key:∀m k v,k+m=n→P k v→∀f,m<f→∃r,dA T f v=some r∧Post r:=by
  intro m
  induction m with
  |zero=>
   intro k v hk hP f hf
   obtain⟨r,h1,h2⟩:=fin v (by rw[←hk];exact hP)
   obtain⟨f,rfl⟩:∃g,f=g+1:=⟨f-1,by omega⟩
   exact⟨r,by unfold dA;rw[h1];rfl,h2⟩
  |succ m ih=>
   intro k v hk hP f hf
   obtain⟨f,rfl⟩:∃g,f=g+1:=⟨f-1,by omega⟩
   rcases step k v (by omega) hP with⟨v',h1,h2⟩|⟨r,h1,h2⟩
   ·obtain⟨r, k1, k2⟩:=ih (k+1) v' (by omega) h2 f (by omega)
    exact⟨r,by unfold dA;rw[h1];exact k1,k2⟩
   exact⟨r,by unfold dA;rw[h1];rfl,h2⟩
 exact key n 0 v0 (by omega) h0 FU (alm (by omega))
theorem abf{σ ρ β:Type}{T:σ→Option (σ⊕ρ)}{v0:σ}{K:ρ→Option β}{y:β}(n:Nat)(hn:n≤1000000000)(P:Nat→σ→Prop)(Post:ρ→Prop)(h0:P 0 v0)
 (step:∀k v,k<n→P k v→(∃v',T v=some (.inl v')∧P (k+1) v')∨∃r,T v=some (.inr r)∧Post r)
 (fin:∀v,P n v→∃r,T v=some (.inr r)∧Post r) (hK:∀r,Post r→K r=some y):(dA T FU v0).bind K=some y:=by
 obtain⟨r,h1,h2⟩:=OY n hn P Post h0 step fin
 grind
theorem iLt{a b:Nat}(h:a<b):decide ((a:Int)<(b:Int))=true:=by grind
theorem aja{a b:Nat}(h:¬a<b):decide ((a:Int)<(b:Int))=false:=by grind
theorem inc(k:Nat)(h:k≤1000000000):IntKind.wrap .i64 ((k:Int)+1)=((k+1:Nat):Int):=by rw[w64 (by omega) (by omega)];rfl
def ix{α:Type}[DecidableEq α](v:α):List α→Int→Int
 |[],_=>-1
 |x::r,k=>if v=x then k else ix v r (k+1)
end Go.Proofs.YtpdlghcgekojlaaGreatDoor
namespace Go.Proofs.YtpdlghcgekojlaaGreatDoor
open Go.RowKit Go.Lib
theorem Ue:Rows.laid_unicode_utf8_first=firstData:=by kernel_rfl
theorem OZ:(Rows.laid_unicode_utf8_acceptRanges:DataW Unit)=acceptData:=by kernel_rfl
theorem LQ{W : World}(hL : laidMetH Tryz.prog [("unicode/utf8.acceptRanges", Rows.laid_unicode_utf8_acceptRanges), ("unicode/utf8.first", Rows.laid_unicode_utf8_first)] W) : Tabs W := by
 have hm : laidMet Tryz.prog [("unicode/utf8.acceptRanges", Rows.laid_unicode_utf8_acceptRanges), ("unicode/utf8.first", Rows.laid_unicode_utf8_first)] W := hL
 refine utf8Tabs_of_readsT (U8Types.of196 Tryz.laysValid) ⟨by kernel_rfl,by kernel_rfl,by kernel_rfl,by kernel_rfl,by kernel_rfl,by kernel_rfl,by kernel_rfl⟩ ?_ ?_
 ·rw[←Ue];exact Lib.laidMet.reads hm (.tail _ (.head _))
 rw[←OZ];exact Lib.laidMet.reads hm (.head _)
end Go.Proofs.YtpdlghcgekojlaaGreatDoor
namespace Go.Proofs.YtpdlghcgekojlaaGreatDoor
open Go.ChangeShapes Go.WideShapes Go.ChangeAt Go.RowKit

theorem own:ownKnob Tryz.prog.godebug=none:=by kernel_rfl
def EF:Nat→DataW Unit→List Value
 |0,_=>[]
 |_+1,.lit (.int k n)=>[.int k n]
 |f+1,.agg l=>l.flatMap (EF f)
 |_,_=>[]
def abh(cs:Array Value):Obj→Obj
 |.cells _ t frozen=>.cells cs t frozen
 |o=>o
noncomputable def laidWorld(os:Os):World:=
 { World.holding Tryz.prog os ⟨#[],#[],[]⟩ with heap:=((World.holding Tryz.prog os ⟨#[],#[],[]⟩).heap.modify 1 (abh (EF 4 Rows.laid_unicode_utf8_first).toArray)).modify 2 (abh (EF 4 Rows.laid_unicode_utf8_acceptRanges).toArray) }
section
variable {H:Type} {enc:TypeId×Value→H} {P:Program}
theorem Hq{f:Func}{s:ChangeSpec}{apart fresh handsOn again:Bool}{W W':World}{args:Array Value}{v:Value}{ds gs:List (DataW H)}{before pa pv:List MemPlace}
 (hW:DataW.Whole enc P f.params.toList s.vars apart W args.toList ds gs before)
 (hres:∀(b:Nat) (sp:Nat→Bool) (hd:Bool),DataW.TrodAll enc P W' b sp hd f.resultTypes.toList (v.resultList f.resultTypes.size) (s.fn H (ds++gs)).results [])
 (hargs:∀sp:Nat→Bool,(∀p∈before,sp p.block=true)→DataW.TrodAll enc P W' 0 sp true f.params.toList args.toList (s.fn H (ds++gs)).args pa)
 (hvars:∀sp:Nat→Bool,(∀p∈before,sp p.block=true)→DataW.TrodVars enc P W' sp s.vars (s.fn H (ds++gs)).vars pv)
 (hps:before=pa++pv) (hb:Below W.heap.size W W')
 (hok:∀(j:Nat) (t:TypeId) (r:Value),f.resultTypes[j]?=some t→(v.resultList f.resultTypes.size)[j]?=some r→Value.okWide P W' .any 0 t r):
 s.post enc P f apart fresh handsOn again W args v W':=by
 have hlt:∀p∈before,p.block<W.heap.size:=fun p hp=>hW.lt p hp
 have hold:∀p∈before,(fun b=>decide (b<W.heap.size)) p.block=true:=fun p hp=>by simpa using hlt p hp
 refine⟨ds,gs,before,[],pa,pv,hW,hres _ _ _,hargs _ hold,hvars _ hold,World.keptBut_mono (fun p hp=>⟨hp,?_⟩) (hb.frame (·∈before)),fun _=>?_⟩
 ·grind
 obtain⟨_,_,_,_,_,hz,hn⟩:=hW
 refine⟨hok,_,_,([]++pa)++pv,⟨[]++pa,pv,trodAll_append (hargs _ (fun _ _=>rfl)) (hres _ _ _),hvars _ (fun _ _=>rfl),rfl,?_,?_⟩,?_⟩
 ·intro b off hp
  have hin:MemPlace.cell b off∈before:=by rw[hps];simpa using hp
  rw[hb.frozen (hlt _ hin)]
  exact hz b off hin
 all_goals grind
end
end Go.Proofs.YtpdlghcgekojlaaGreatDoor
namespace Go.Proofs.YtpdlghcgekojlaaGreatDoor
open Go.ChangeShapes Go.WideShapes Go.ChangeAt Go.RowKit Go.Joins Go.Deep
section
variable {H:Type} {enc:TypeId×Value→H} {P:Program} {w:World} {base:Nat} {spare:Nat→Bool} {held:Bool}
theorem xW(hl:laidOutB P=true){W W':World}{sp':Nat→Bool}:∀(ts:List TypeId) (vs:List Value) (ds:List (DataW H)) (ps:List MemPlace),(∀t∈ts,P.readableRec t=true∧t<P.types.size)→
 DataW.TrodAll enc P W 0 (fun _=>true) true ts vs ds ps→(∀x∈ps,W.sameAt W' x)→(∀x∈ps,sp' x.block=true)→DataW.TrodAll enc P W' 0 sp' true ts vs ds ps
 |[],vs,ds,ps,_,h,_,_=>by
  cases vs<;>cases ds<;>simp[DataW.TrodAll] at h ⊢
  exact h
 |t::ts,vs,ds,ps,hr,h,h1,h2=>by
  obtain⟨v,vs',d,ds',p,q,rfl,rfl,rfl,hp,hq⟩:=trodAll_cons h
  refine⟨p,q,WideElems.Trod_stays hl (hr t (by simp)).1 (hr t (by simp)).2 hp (fun x hx=>h1 x (by simp[hx])) (fun x hx=>h2 x (by simp[hx])),?_,rfl⟩
  exact xW hl ts vs' ds' q (fun t ht=>hr t (by simp[ht])) hq (fun x hx=>h1 x (by simp[hx])) (fun x hx=>h2 x (by simp[hx]))
theorem abj{f:Func}{s:ChangeSpec}{W W':World}{args:Array Value}{ds:List (DataW H)}{before:List MemPlace}{tb:TypeId}
 (hl:laidOutB P=true) (hr:(f.params.all fun t=>P.readableRec t&&decide (t<P.types.size))=true) (hv:s.vars=[]) (ht:f.resultTypes=#[tb]) (hb:P.underlying tb=some .bool)
 (hW:DataW.Whole enc P f.params.toList s.vars false W args.toList ds [] before) (hs:s.fn H (ds++[])={ results:=[.lit (.bool true)],args:=ds }) (he:Ext W W'):
 s.post enc P f false true false false W args (.bool true) W':=by
 have hW0:=hW
 obtain⟨p,q,hA,hV,rfl,hfz,hnd⟩:=hW
 have hq:q=[]:=by
  rw[hv] at hV
  simpa[DataW.TrodVars] using hV
 subst hq
 have hlt:∀x∈p++[],x.block<W.heap.size:=fun x hx=>hW0.lt x hx
 have hrr:∀t∈f.params.toList,P.readableRec t=true∧t<P.types.size:=fun t ht=>by
  have:=Array.all_eq_true'.1 hr t (by simpa using ht)
  grind
 refine Hq (pa:=p) (pv:=[]) hW0 ?_ ?_ ?_ rfl he ?_
 ·intro b sp hd
  rw[hs,ht]
  exact trodAll_mk1 (shut_bool hb _)
 ·intro sp hsp
  rw[hs]
  exact xW hl _ _ _ _ hrr hA (fun x hx=>Below.same he (hlt x (by simpa using hx))) (fun x hx=>hsp x (by simpa using hx))
 ·intro sp _
  rw[hs,hv]
  rfl
 intro j t r hj hr'
 rw[ht] at hj hr'
 have hj0:j=0:=by
  grind
 subst hj0
 obtain rfl:tb=t:=by simpa using hj
 obtain rfl:Value.bool true=r:=by simpa[Value.resultList] using hr'
 exact okWide_bool_mk hb _
end
end Go.Proofs.YtpdlghcgekojlaaGreatDoor
namespace Go.Proofs.YtpdlghcgekojlaaGreatDoor
open Go.ChangeShapes Go.WideShapes Go.ChangeAt Go.RowKit
theorem aln{W:World}(h:Tabs W):GI (I0 W):=fun w hi=>⟨fun c hc=>hi _ _ _ (h.1 c hc),fun i hi'=>⟨hi _ _ _ (h.2 i hi').1,hi _ _ _ (h.2 i hi').2⟩⟩
section
variable {H:Type} {enc:TypeId×Value→H} {P:Program} {w:World} {tys:List TypeId}
theorem afP(hok:okT P tys=true){t:TypeId}{v:Value}{d:DataW H}{ps:List MemPlace}(h:DataW.Trod enc P w 0 (fun _=>true) true t v d ps){shs:List Shp}(hf:flat P 12 t=some shs)(ht:tys.contains t=true):
 ∃r,bV (I0 w) r v.cells.toList∧WTr P r shs∧aU r≤Rows.uptoBulk d:=by
 obtain⟨fuel,hf'⟩:=h
 obtain⟨shs',h1,h2⟩:=Wq hok (List.contains_iff_mem.1 ht)
 rw[hf] at h1;injection h1 with h1;subst h1
 exact afN hok fuel 12 t v.cells.toList (d,ps) shs hf' hf h2
end
structure OkW (P:Program) (w:World) (base:Nat) (t:TypeId) (v:Value):Prop where
 ok:Value.okWide P w .any base t v
def OkA(P:Program)(w:World)(base:Nat)(ps:Array TypeId)(vs:Array Value):Prop:=∀(j:Nat) t v,ps[j]?=some t→vs[j]?=some v→OkW P w base t v
theorem ajc{P:Program}{w:World}{base:Nat}{ps:Array TypeId}{vs:Array Value}(h:∀(j:Nat) t v,ps[j]?=some t→vs[j]?=some v→Value.okWide P w .any base t v):OkA P w base ps vs:=fun j t v h1 h2=>⟨h j t v h1 h2⟩
theorem aoj{P:Program}{w:World}{base:Nat}{ps:Array TypeId}{vs:Array Value}(h:OkA P w base ps vs)(j:Nat){t:TypeId}{v:Value}{fs:Array Field}(h1:ps[j]?=some t)(h2:vs[j]?=some v)(ht:P.underlying t=some (.struct fs)):∃cs,v=.agg cs∧cs.size=P.cellsOf t:=okWide_struct ht (h j t v h1 h2).ok
theorem ajd{f:FuncId}{args:List AV}{vs:List Value}{W:World}(h:Fn Tryz.prog GI f args (.lf (.bool true)))(hT:Tabs W)(hvs:VRs (rZ (I0 W)) args vs):
 Calls Tryz.prog f vs.toArray W fun e W'=>e=.returned (.bool true)∧Ext W W':=by
 refine(h.2 (I0 W) W vs (aln hT) (ajb W) hvs).mono ?_
 rintro e w' ⟨I',v,rfl,g,hv⟩
 exact⟨by rw[hv.bool],g.ext⟩
end Go.Proofs.YtpdlghcgekojlaaGreatDoor
namespace Go.Proofs.YtpdlghcgekojlaaGreatDoor
open Go.RowKit
theorem VRs.mP{e:Env}{x:AV}{l:List AV}{vs:List Value}(h:VRs e (x::l) vs):∃v q,vs=v::q∧VR e x v∧VRs e l q:=by unfold VRs at h;exact h
theorem VRs.xk{e:Env}{vs:List Value}(h:VRs e [] vs):vs=[]:=by unfold VRs at h;exact h
theorem Fn.of{P:Program}{G:Gh→Prop}{f:FuncId}{args:List AV}{res:AV}(hc:nN P f=true)(h:∀I w vs,G I→Inv I w→VRs (rZ I) args vs→Calls P f vs.toArray w fun e w'=>∃I' v,e=.returned v∧Gr I I' w w'∧VR (rZ I') res v):Fn P G f args res:=⟨hc,h⟩
end Go.Proofs.YtpdlghcgekojlaaGreatDoor
