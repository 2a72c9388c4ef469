/- What the printed models and proofs lean on. -/
import Derived.Test.YtflpefkohpjjpaaGreatDoorQJ2
import Derived.Test.YtflpefkohpjjpaaGreatDoorQJSnd
import Derived.Test.YtflpefkohpjjpaaGreatDoorRows
import Derived.Lib.LaidU8T
import Derived.Test.YtflpefkohpjjpaaGreatDoorCards
import Derived.Test.YtflpefkohpjjpaaGreatDoorTie
import Derived.Test.YtflpefkohpjjpaaGreatDoorQJ1
import Derived.WalkKit
import Derived.ProofKit
import Derived.OpenShut
import Derived.Deep.DeepHandedRow
import Derived.Lib.LaidTab
import Derived.WideKeyArgs
import Derived.Lib.SmallJoins
import Derived.Test.YtflpefkohpjjpaaGreatDoorQJ3
import Derived.Test.YtflpefkohpjjpaaGreatDoorQJLayA
import Derived.Test.YtflpefkohpjjpaaGreatDoorQJLayC
import Derived.Sort.OwnSorted
import Derived.Shelf.Sort.Plain
import Derived.Lib.SlicesCompact
set_option linter.unusedSimpArgs false
set_option linter.unusedVariables false
namespace Go.Proofs.YtflpefkohpjjpaaGreatDoor
open Go.RowKit
def ig{α:Type}(l:List α)(i:Int):Option α:=if 0≤i then l[i.toNat]? else none
def iw(s:ByteArray)(i:Int):Option UInt8:=if 0≤i then s[i.toNat]? else none
theorem dS{α:Type}{f g:α→List Lf}(e:∀x,f x=g x){l:List α}{i:Int}{v:α}(h:ig l i=some v):0≤i∧(l.map f)[i.toNat]?=some (g v):=by
 unfold ig at h
 split at h
 ·rename_i h0
  exact⟨h0,by rw[List.getElem?_map,h,Option.map_some,e]⟩
 ·cases h
theorem iV{α:Type}{f g:α→List Lf}(e:∀x,f x=g x){l:List α}{i:Int}{v:α}(h:ig l i=some v):0≤i∧i.toNat<(l.map f).length:=
 ⟨(dS e h).1,(List.getElem?_eq_some_iff.1 (dS e h).2).1⟩
theorem dL{s:ByteArray}{i:Int}{v:UInt8}(h:iw s i=some v):0≤i∧s[i.toNat]?=some v:=by
 unfold iw at h
 split at h
 ·rename_i h0;exact⟨h0,h⟩
 ·cases h
theorem BQ{α:Type}{p:Prop}[Decidable p]{a:Option α}{r:α}(h:(if p then a else none)=some r):p∧a=some r:=by
 split at h
 ·exact⟨by assumption,h⟩
 ·cases h
theorem bV{α β:Type}{o:Option α}{f:α→Option β}{y:β}(h:o.bind f=some y):∃a,o=some a∧f a=some y:=by
 rw[Option.bind_eq_some_iff] at h;exact h
def mvB(p:ByteArray×Bool):ByteArray×Lf:=(p.1,.bool p.2)
def BR{α:Type}:List (ByteArray×α)→ByteArray→α→α
 |[],_,z=>z
 |(k,x)::r,s,z=>if s=k then x else BR r s z
theorem QI(s:ByteArray)(z:Bool):∀l:List (ByteArray×Bool),lT (l.map mvB) s (.bool z)=.bool (BR l s z)
 |[]=>rfl
 |(n,x)::r=>by
  simp only[List.map_cons,mvB,lT,BR]
  split
  ·rfl
  ·exact QI s z r
def GI:Gh→Prop:=fun I=>∀w,Inv I w→Tabs w
theorem kP:Base Tryz.prog GI TTc:=⟨akm,fun _ _ h k w hi=>k w (hi.le h),by kernel_rfl⟩
theorem BU{α:Type}(f:α→List Lf)(l:List α)(n:Nat):(l.drop n).map f=((l.map f).take ((l.map f).length:Int).toNat).drop n:=by rw[Int.toNat_natCast,List.take_length,List.map_drop]
def FU:Nat:=1152921504606846976
theorem rf_(s:St):(some s:Option St)=some s:=rfl
theorem lI_(x:Int):lfI x=lfI x:=rfl
theorem lS_(x:ByteArray):lfS x=lfS x:=rfl
theorem ln_{α:Type}(l:List α)(f:α→List Lf):l.length=(l.map f).length:=by simp
theorem mk_{P:Prop}(x:Int)(h:P):x=x∧P:=⟨rfl,h⟩
theorem st_{α:Type}{f g:α→List Lf}(e:∀x,f x=g x)(l:List α)(i:Nat)(x:α):(l.set i x).map f=(l.map f).set i (g x):=by simp[e]
theorem rp_{α:Type}{f g:α→List Lf}(e:∀x,f x=g x)(n:Nat)(x:α):(List.replicate n x).map f=List.replicate n (g x):=by simp[e]
theorem ap_{α:Type}{f g:α→List Lf}(e:∀x,f x=g x)(l:List α)(x:α):(l++[x]).map f=l.map f++[g x]:=by simp[e]
theorem cp_{α:Type}(f:α→List Lf){l:List α}{x:α}{k n:Nat}(h:(l.length+[x].length)*k≤n):((l.map f).length+[f x].length)*k≤n:=by simpa using h
theorem cq_{α:Type}(f:α→List Lf){l:List α}{k n:Nat}(h:(([]:List α).length+l.length)*k≤n):(([]:List (List Lf)).length+(l.map f).length)*k≤n:=by simpa using h
abbrev AV.i_(x:Int):AV:=.lf (.int .i64 x)
abbrev AV.b_(x:Bool):AV:=.lf (.bool x)
abbrev Ans.pt_(n:Nat)(l:List Nat)(k:Nat)(x:Exit)(s:St):Ans:=.part [] n l k x s.T s.H
abbrev Jo(f:Func)(k:Nat)(p:List Nat):=AWa Tryz.prog GI TTc f.ntmps k (Code.sub (bodyC f) p)
abbrev aja(f:Func)(k:Nat)(p:List Nat):=aa9 Tryz.prog GI TTc f.ntmps k (Code.sub (bodyC f) p)
noncomputable section
variable {ρ α σ:Type}
abbrev Mo.rt(l:List Nat)(n:Nat)(r:ρ):Mo ρ:=.ret ⟨[],l,[],n⟩ r
abbrev Mo.iB(b:Bool)(t e:Mo ρ):Mo ρ:=.ite b (fun c=>.say [.br true] (ok1 c) t) fun c=>.say [.br false] (ok1 c) e
abbrev Mo.iG(n:Nat)(b:Bool)(t e:Mo ρ):Mo ρ:=.ite b (fun c=>.say [.gd n true] (ok1 c) t) fun c=>.say [.gd n false] (ok1 c) e
abbrev FV(m:Option α)(f:FuncId)(a:List AV)(v:α→AV):Prop:=∀r,m=some r→Fn Tryz.prog GI f a (v r)
abbrev FH(m:Option α)(f:FuncId)(a:List AV)(H0:List Slot)(v:α→AV)(H:α→List Slot):Prop:=∀r,m=some r→FnH Tryz.prog GI f a H0 (v r) (H r)
def unV:AV→List AV
 |.tup l=>l
 |x=>[x]
theorem bW{f:FuncId}{fn:Func}{a:List AV}{v:α→AV}{t:Mo α}(hf:Tryz.prog.funcs[f]?=some fn)(hb:(fn.body.isSome&&nR Tryz.prog f&&Nat.ble a.length fn.ntmps)=true:=by kernel_rfl)(hv:∀r, resV (unV (v r))=v r:=by exact fun _=>rfl)(h:t.lhs (fun g qs=>exF Tryz.prog GI TTc fn a [] qs g) []=t.rhs (fun r p=>some (unV (v r), [], p)) []:=by kernel_rfl):FV t.den f a v:=fun r hm=>by
 simp only[Bool.and_eq_true] at hb
 exact hv r▸aoB kP hf hb.1.1 hb.1.2 hb.2 t (fun r=>unV (v r)) h hm
theorem dX{f:FuncId}{fn:Func}{a:List AV}{H0:List Slot}{v:α→AV}{H:α→List Slot}{t:Mo α}(hf:Tryz.prog.funcs[f]?=some fn)(hb:(fn.body.isSome&&nR Tryz.prog f&&Nat.ble a.length fn.ntmps)=true:=by kernel_rfl)(hv:∀r, resV (unV (v r))=v r:=by exact fun _=>rfl)(h:t.lhs (fun g qs=>exF Tryz.prog GI TTc fn a H0 qs g) []=t.rhs (fun r p=>some (unV (v r), H r, p)) []:=by kernel_rfl):FH t.den f a H0 v H:=fun r hm=>by
 simp only[Bool.and_eq_true] at hb
 exact hv r▸ai9 kP hf hb.1.1 hb.1.2 hb.2 t (fun r=>unV (v r)) H h hm
abbrev Mo.cl{m:Option α}{f:FuncId}{a:List AV}{v:α→AV}(h:FV m f a v)(k:(r:α)→m=some r→Mo ρ):Mo ρ:=.ask m fun r e=>.say [.res (v r)] (ok1 (h r e)) (k r e)
abbrev Mo.cH{m:Option α}{f:FuncId}{a:List AV}{H0:List Slot}{v:α→AV}{H:α→List Slot}(l:List Nat)(h:FH m f a H0 v H)(k:(r:α)→m=some r→Mo ρ):Mo ρ:=.ask m fun r e=>.say [.fZ l (v r) (H r)] (ok1 (h r e)) (k r e)
abbrev Mo.jp(f:Func)(k0:Nat)(path:List Nat)(i:Nat)(keys:List Nat)(n:Nat)(x:Exit)(S:α→St)(pre:St)(m:Option α)(W:∀r,m=some r→Jo f k0 path x (S r) pre)(k:(r:α)→m=some r→Mo ρ):Mo ρ:=.ask m fun r e=>.say [.part [] i keys n x (S r).T (S r).H] (ok1 (W r e)) (k r e)
theorem jW{f:Func}{k0:Nat}{path:List Nat}{x:Exit}{S:α→St}{pre:St}{t:Mo α}(h:t.lhs (fun g qs=>exX Tryz.prog GI TTc f.ntmps k0 (Code.sub (bodyC f) path) pre qs g) []=t.rhs (fun r p=>some (x,S r,p)) []):∀r,t.den=some r→Jo f k0 path x (S r) pre:=fun _ e=>BO kP t (fun _=>x) S h e
abbrev Mo.sj(f:Func)(k0:Nat)(path ops:List Nat)(i n:Nat)(keys:List Nat)(kk:Nat)(S:α→St)(pre:St)(m:Option α)(W:∀r,m=some r→aja f k0 path ops (S r) pre)(k:(r:α)→m=some r→Mo ρ):Mo ρ:=.ask m fun r e=>.say [.seg i [] n keys kk (S r).T (S r).H] (ok1 (W r e)) (k r e)
theorem sW{f:Func}{k0:Nat}{path ops:List Nat}{S:α→St}{pre:St}{t:Mo α}(h:t.lhs (fun g qs=>exO Tryz.prog GI TTc f.ntmps k0 (Code.sub (bodyC f) path) ops pre qs g) []=t.rhs (fun r p=>some (S r,p)) []):∀r,t.den=some r→aja f k0 path ops (S r) pre:=fun _ e=>anc kP t S h e
theorem lW{f:Func}{k0:Nat}{path:List Nat}{x:Exit}{S:α→St}(H:σ→St){T:σ→Mo (σ⊕α)}{v:σ}(hc:Code.sub (bodyC f) path=.loop (Code.sub (bodyC f) (path++[0])))(hx:wG x=true)(h:∀v,(T v).lhs (fun g qs=>exX Tryz.prog GI TTc f.ntmps k0 (Code.sub (bodyC f) (path++[0])) (H v) qs g) []=(T v).rhs (fun y p=>match y with|.inl v'=>some (.normal,H v',p)|.inr r=>some (x,S r,p)) []):∀r,bP (fun v=>(T v).den) FU v=some r→Jo f k0 path x (S r) (H v):=fun _ e=>Jm kP hc T H (fun _=>x) S (fun _=>hx) h e
theorem lW2{β:Type}{f:Func}{k0:Nat}{path:List Nat}{x1 x2:Exit}{S1:α→St}{S2:β→St}(H:σ→St){T:σ→Mo (σ⊕(α⊕β))}{v:σ}(hc:Code.sub (bodyC f) path=.loop (Code.sub (bodyC f) (path++[0])))(hx:(wG x1&&wG x2)=true)(h:∀v,(T v).lhs (fun g qs=>exX Tryz.prog GI TTc f.ntmps k0 (Code.sub (bodyC f) (path++[0])) (H v) qs g) []=(T v).rhs (fun y p=>match y with|.inl v'=>some (.normal,H v',p)|.inr (.inl r)=>some (x1,S1 r,p)|.inr (.inr r)=>some (x2,S2 r,p)) []):∀r,bP (fun v=>(T v).den) FU v=some r→Jo f k0 path (Sum.elim (fun _=>x1) (fun _=>x2) r) (Sum.elim S1 S2 r) (H v):=fun _ e=>Jm kP hc T H (Sum.elim (fun _=>x1) (fun _=>x2)) (Sum.elim S1 S2) (fun r=>by
 rw[Bool.and_eq_true] at hx
 cases r
 ·exact hx.1
 ·exact hx.2) (fun v=>by
 rw[h v]
 congr 1
 funext y p
 rcases y with v'|r|r<;>rfl) e
theorem jW2{β:Type}{f:Func}{k0:Nat}{path:List Nat}{x1 x2:Exit}{S1:α→St}{S2:β→St}{pre:St}{t:Mo (α⊕β)}(h:t.lhs (fun g qs=>exX Tryz.prog GI TTc f.ntmps k0 (Code.sub (bodyC f) path) pre qs g) []=t.rhs (fun y p=>match y with|.inl r=>some (x1,S1 r,p)|.inr r=>some (x2,S2 r,p)) []):∀r,t.den=some r→Jo f k0 path (Sum.elim (fun _=>x1) (fun _=>x2) r) (Sum.elim S1 S2 r) pre:=fun _ e=>BO kP t (Sum.elim (fun _=>x1) (fun _=>x2)) (Sum.elim S1 S2) (by
 rw[h]
 congr 1
 funext y p
 rcases y with r|r<;>rfl) e
def rg_:Nat→Nat→List Nat
 |_,0=>[]
 |a,n+1=>a::rg_ (a+1) n
abbrev St.ks(s:St):List Nat:=s.T.map Prod.fst
abbrev Mo.l1m(q:List Ans)(f:Func)(k0:Nat)(path:List Nat)(i:Nat)(x:Exit)(H:σ→St)(S:α→St)(m:Option α)(T:σ→Mo (σ⊕α))(v:σ)(k:α→Mo ρ)(hc:Code.sub (bodyC f) path=.loop (Code.sub (bodyC f) (path++[0])):=by kernel_rfl)(hx:wG x=true:=by kernel_rfl)(h:∀v,(T v).lhs (fun g qs=>exX Tryz.prog GI TTc f.ntmps k0 (Code.sub (bodyC f) (path++[0])) (H v) qs g) []=(T v).rhs (fun y p=>match y with|.inl v'=>some (.normal,H v',p)|.inr r=>some (x,S r,p)) []:=by intro _;kernel_rfl)(hm:∀r,m=some r→bP (fun v=>(T v).den) FU v=some r:=by exact fun _ e=>e):Mo ρ:=.ask m fun r e=>.say [.part q i (H v).ks (H v).H.length x (S r).T (S r).H] (ok1 (lW H hc hx h r (hm r e))) (k r)
abbrev Mo.l1y(q:List Ans)(f:Func)(k0:Nat)(path:List Nat)(i:Nat)(x:Exit)(H:σ→St)(S:α→St)(T:σ→Mo (σ⊕α))(v:σ)(k:α→Mo ρ)(hc:Code.sub (bodyC f) path=.loop (Code.sub (bodyC f) (path++[0])):=by kernel_rfl)(hx:wG x=true:=by kernel_rfl)(h:∀v,(T v).lhs (fun g qs=>exX Tryz.prog GI TTc f.ntmps k0 (Code.sub (bodyC f) (path++[0])) (H v) qs g) []=(T v).rhs (fun y p=>match y with|.inl v'=>some (.normal,H v',p)|.inr r=>some (x,S r,p)) []:=by intro _;kernel_rfl):Mo ρ:=.ask (bP (fun v=>(T v).den) FU v) fun r e=>.say [.part q i (H v).ks (H v).H.length x (S r).T (S r).H] (ok1 (lW H hc hx h r e)) (k r)
abbrev Mo.l1(f:Func)(k0:Nat)(path:List Nat)(i:Nat)(x:Exit)(H:σ→St)(S:α→St)(T:σ→Mo (σ⊕α))(v:σ)(k:α→Mo ρ)(hc:Code.sub (bodyC f) path=.loop (Code.sub (bodyC f) (path++[0])):=by kernel_rfl)(hx:wG x=true:=by kernel_rfl)(h:∀v,(T v).lhs (fun g qs=>exX Tryz.prog GI TTc f.ntmps k0 (Code.sub (bodyC f) (path++[0])) (H v) qs g) []=(T v).rhs (fun y p=>match y with|.inl v'=>some (.normal,H v',p)|.inr r=>some (x,S r,p)) []:=by intro _;kernel_rfl):Mo ρ:=.l1y [] f k0 path i x H S T v k hc hx h
abbrev Mo.l2m{β:Type}(q:List Ans)(f:Func)(k0:Nat)(path:List Nat)(i:Nat)(H:σ→St)(x1:Exit)(S1:α→St)(x2:Exit)(S2:β→St)(m:Option (α⊕β))(T:σ→Mo (σ⊕(α⊕β)))(v:σ)(k1:α→Mo ρ)(k2:β→Mo ρ)(hc:Code.sub (bodyC f) path=.loop (Code.sub (bodyC f) (path++[0])):=by kernel_rfl)(hx:(wG x1&&wG x2)=true:=by kernel_rfl)(h:∀v,(T v).lhs (fun g qs=>exX Tryz.prog GI TTc f.ntmps k0 (Code.sub (bodyC f) (path++[0])) (H v) qs g) []=(T v).rhs (fun y p=>match y with|.inl v'=>some (.normal,H v',p)|.inr (.inl r)=>some (x1,S1 r,p)|.inr (.inr r)=>some (x2,S2 r,p)) []:=by intro _;kernel_rfl)(hm:∀r,m=some r→bP (fun v=>(T v).den) FU v=some r:=by exact fun _ e=>e):Mo ρ:=.jE m (fun a e=>.say [.part q i (H v).ks (H v).H.length x1 (S1 a).T (S1 a).H] (ok1 (lW2 H hc hx h _ (hm _ e))) (k1 a)) fun b e=>.say [.part q i (H v).ks (H v).H.length x2 (S2 b).T (S2 b).H] (ok1 (lW2 H hc hx h _ (hm _ e))) (k2 b)
abbrev Mo.l2y{β:Type}(q:List Ans)(f:Func)(k0:Nat)(path:List Nat)(i:Nat)(H:σ→St)(x1:Exit)(S1:α→St)(x2:Exit)(S2:β→St)(T:σ→Mo (σ⊕(α⊕β)))(v:σ)(k1:α→Mo ρ)(k2:β→Mo ρ)(hc:Code.sub (bodyC f) path=.loop (Code.sub (bodyC f) (path++[0])):=by kernel_rfl)(hx:(wG x1&&wG x2)=true:=by kernel_rfl)(h:∀v,(T v).lhs (fun g qs=>exX Tryz.prog GI TTc f.ntmps k0 (Code.sub (bodyC f) (path++[0])) (H v) qs g) []=(T v).rhs (fun y p=>match y with|.inl v'=>some (.normal,H v',p)|.inr (.inl r)=>some (x1,S1 r,p)|.inr (.inr r)=>some (x2,S2 r,p)) []:=by intro _;kernel_rfl):Mo ρ:=.jE (bP (fun v=>(T v).den) FU v) (fun a e=>.say [.part q i (H v).ks (H v).H.length x1 (S1 a).T (S1 a).H] (ok1 (lW2 H hc hx h _ e)) (k1 a)) fun b e=>.say [.part q i (H v).ks (H v).H.length x2 (S2 b).T (S2 b).H] (ok1 (lW2 H hc hx h _ e)) (k2 b)
abbrev Mo.l2{β:Type}(f:Func)(k0:Nat)(path:List Nat)(i:Nat)(H:σ→St)(x1:Exit)(S1:α→St)(x2:Exit)(S2:β→St)(T:σ→Mo (σ⊕(α⊕β)))(v:σ)(k1:α→Mo ρ)(k2:β→Mo ρ)(hc:Code.sub (bodyC f) path=.loop (Code.sub (bodyC f) (path++[0])):=by kernel_rfl)(hx:(wG x1&&wG x2)=true:=by kernel_rfl)(h:∀v,(T v).lhs (fun g qs=>exX Tryz.prog GI TTc f.ntmps k0 (Code.sub (bodyC f) (path++[0])) (H v) qs g) []=(T v).rhs (fun y p=>match y with|.inl v'=>some (.normal,H v',p)|.inr (.inl r)=>some (x1,S1 r,p)|.inr (.inr r)=>some (x2,S2 r,p)) []:=by intro _;kernel_rfl):Mo ρ:=.l2y [] f k0 path i H x1 S1 x2 S2 T v k1 k2 hc hx h
abbrev Mo.sy(q:List Ans)(f:Func)(k0:Nat)(path:List Nat)(a n i:Nat)(S:α→St)(pre:St)(t:Mo α)(k:α→Mo ρ)(W:t.lhs (fun g qs=>exO Tryz.prog GI TTc f.ntmps k0 (Code.sub (bodyC f) path) (rg_ a n) pre qs g) []=t.rhs (fun r p=>some (S r,p)) []:=by kernel_rfl):Mo ρ:=.ask t.den fun r e=>.say [.seg i q n pre.ks pre.H.length (S r).T (S r).H] (ok1 (sW W r e)) (k r)
abbrev Mo.sk(f:Func)(k0:Nat)(path:List Nat)(a n i:Nat)(S:α→St)(pre:St)(t:Mo α)(k:α→Mo ρ)(W:t.lhs (fun g qs=>exO Tryz.prog GI TTc f.ntmps k0 (Code.sub (bodyC f) path) (rg_ a n) pre qs g) []=t.rhs (fun r p=>some (S r,p)) []:=by kernel_rfl):Mo ρ:=.sy [] f k0 path a n i S pre t k W
abbrev Mo.sb(f:Func)(k0:Nat)(path:List Nat)(a n i:Nat)(C:List (Nat×AV))(H:List Slot)(x y:Nat)(b:Bool)(t:Mo Bool)(k:Bool→Mo ρ)(W:t.lhs (fun g qs=>exO Tryz.prog GI TTc f.ntmps k0 (Code.sub (bodyC f) path) (rg_ a n) ⟨C++[(x,.b_ b)],H⟩ qs g) []=t.rhs (fun r p=>some (⟨C++[(y,.b_ r)],H⟩,p)) []:=by kernel_rfl):Mo ρ:=.sy [] f k0 path a n i (fun r=>⟨C++[(y,.b_ r)],H⟩) ⟨C++[(x,.b_ b)],H⟩ t k W
abbrev Mo.sf(f:Func)(k0:Nat)(path:List Nat)(a n i:Nat)(C:List (Nat×AV))(H:List Slot)(y:Nat)(t:Mo Bool)(k:Bool→Mo ρ)(W:t.lhs (fun g qs=>exO Tryz.prog GI TTc f.ntmps k0 (Code.sub (bodyC f) path) (rg_ a n) ⟨C,H⟩ qs g) []=t.rhs (fun r p=>some (⟨C++[(y,.b_ r)],H⟩,p)) []:=by kernel_rfl):Mo ρ:=.sy [] f k0 path a n i (fun r=>⟨C++[(y,.b_ r)],H⟩) ⟨C,H⟩ t k W
abbrev Mo.jy(q:List Ans)(f:Func)(k0:Nat)(path:List Nat)(i:Nat)(x:Exit)(S:α→St)(pre:St)(t:Mo α)(k:α→Mo ρ)(W:t.lhs (fun g qs=>exX Tryz.prog GI TTc f.ntmps k0 (Code.sub (bodyC f) path) pre qs g) []=t.rhs (fun r p=>some (x,S r,p)) []:=by kernel_rfl):Mo ρ:=.ask t.den fun r e=>.say [.part q i pre.ks pre.H.length x (S r).T (S r).H] (ok1 (jW W r e)) (k r)
abbrev Mo.jk(f:Func)(k0:Nat)(path:List Nat)(i:Nat)(S:α→St)(pre:St)(t:Mo α)(k:α→Mo ρ)(W:t.lhs (fun g qs=>exX Tryz.prog GI TTc f.ntmps k0 (Code.sub (bodyC f) path) pre qs g) []=t.rhs (fun r p=>some (.normal,S r,p)) []:=by kernel_rfl):Mo ρ:=.jy [] f k0 path i .normal S pre t k W
abbrev Mo.j2{β:Type}(q:List Ans)(f:Func)(k0:Nat)(path:List Nat)(i:Nat)(x1:Exit)(S1:α→St)(x2:Exit)(S2:β→St)(pre:St)(t:Mo (α⊕β))(k1:α→Mo ρ)(k2:β→Mo ρ)(W:t.lhs (fun g qs=>exX Tryz.prog GI TTc f.ntmps k0 (Code.sub (bodyC f) path) pre qs g) []=t.rhs (fun y p=>match y with|.inl r=>some (x1,S1 r,p)|.inr r=>some (x2,S2 r,p)) []:=by kernel_rfl):Mo ρ:=.jE t.den (fun a e=>.say [.part q i pre.ks pre.H.length x1 (S1 a).T (S1 a).H] (ok1 (jW2 W _ e)) (k1 a)) fun b e=>.say [.part q i pre.ks pre.H.length x2 (S2 b).T (S2 b).H] (ok1 (jW2 W _ e)) (k2 b)
abbrev Mo.aV(n:Nat)(b:Bool)(l:List Nat)(k:Nat)(v:Bool):Mo Bool:=.iG n b (.rt l k v) (.rt l k false)
abbrev Mo.oV(n:Nat)(b:Bool)(l:List Nat)(k:Nat)(v:Bool):Mo Bool:=.iG n b (.rt l k true) (.rt l k v)
abbrev Mo.aC(n:Nat)(b:Bool)(l:List Nat)(k:Nat){m:Option Bool}{f:FuncId}{a:List AV}{v:Bool→AV}(h:FV m f a v):Mo Bool:=.iG n b (.cl h fun r _=>.rt l k r) (.rt l k false)
abbrev Mo.nu(l:List α)(f:α→List Lf)(t:Mo ρ):Mo ρ:=.say [.num l.length] (ok1 (ln_ l f)) t
abbrev Mo.bx(s:ByteArray)(i:Int)(k:(b:UInt8)→iw s i=some b→Mo ρ):Mo ρ:=.ask (iw s i) fun b h=>.say [.byt b] (ok1 (dL h)) (k b h)
abbrev Mo.gx{f g:α→List Lf}(e:∀x,f x=g x)(l:List α)(i:Int)(k:(x:α)→ig l i=some x→Mo ρ):Mo ρ:=.ask (ig l i) fun x h=>.say [.row (g x)] (ok1 (dS e h)) (k x h)
end
end Go.Proofs.YtflpefkohpjjpaaGreatDoor
set_option linter.unusedSimpArgs false
set_option linter.unusedVariables false
namespace Go.Proofs.YtflpefkohpjjpaaGreatDoor
open Go.RowKit
theorem mY{σ ρ:Type}{T:σ→Option (σ⊕ρ)}(Inv:σ→Prop)(μ:σ→Nat)(Post:ρ→Prop)
 (step:∀v,Inv v→(∃v',T v=some (.inl v')∧Inv v'∧μ v'<μ v)∨∃r,T v=some (.inr r)∧Post r):∀(n:Nat) (v:σ),Inv v→μ v<n→∃r,bP T n v=some r∧Post r
 |0,v,_,h=>by omega
 |n+1,v,hv,h=>by
  rcases step v hv with⟨v',h1,h2,h3⟩|⟨r,h1,h2⟩
  ·obtain⟨r, k1, k2⟩:=mY Inv μ Post step n v' h2 (by omega)
   exact⟨r,by unfold bP;rw[h1];exact k1,k2⟩
  ·exact⟨r,by unfold bP;rw[h1];rfl,h2⟩
theorem w64{x:Int}(h1 : -9223372036854775808≤x)(h2:x≤9223372036854775807):IntKind.wrap .i64 x=x:=by
 rw[IntKind.wrap_i64];omega
theorem BX{α:Type}(l:List α)(k:Nat):ig l (k:Int)=l[k]?:=by
 unfold ig;rw[if_pos (by omega),Int.toNat_natCast]
theorem agE{α:Type}{l:List α}{i:Int}(h0:0≤i)(h1:i<l.length):∃x,ig l i=some x∧l[i.toNat]?=some x:=by
 unfold ig;rw[if_pos h0]
 exact⟨l[i.toNat]'(by omega),by rw[List.getElem?_eq_getElem (by omega)],by rw[List.getElem?_eq_getElem (by omega)]⟩
theorem mZ{n:Nat}(h:n≤1000000000000):n<FU:=by unfold FU;omega
theorem BZ{σ ρ:Type}{T:σ→Option (σ⊕ρ)}{v0:σ}(n:Nat)(hn:n≤1000000000)(P:Nat→σ→Prop)(Post:ρ→Prop)(h0:P 0 v0)
 (step:∀k v,k<n→P k v→(∃v',T v=some (.inl v')∧P (k+1) v')∨∃r,T v=some (.inr r)∧Post r)
 (fin:∀v,P n v→∃r,T v=some (.inr r)∧Post r):∃r,bP T FU v0=some r∧Post r:=by
 have key:∀m k v,k+m=n→P k v→∀f,m<f→∃r,bP T f v=some r∧Post r:=by
  intro m
  induction m with
  |zero=>
   intro k v hk hP f hf
   obtain⟨r,h1,h2⟩:=fin v (by rw[←hk];exact hP)
   obtain⟨f,rfl⟩:∃g,f=g+1:=⟨f-1,by omega⟩
   exact⟨r,by unfold bP;rw[h1];rfl,h2⟩
  |succ m ih=>
   intro k v hk hP f hf
   obtain⟨f,rfl⟩:∃g,f=g+1:=⟨f-1,by omega⟩
   rcases step k v (by omega) hP with⟨v',h1,h2⟩|⟨r,h1,h2⟩
   ·obtain⟨r, k1, k2⟩:=ih (k+1) v' (by omega) h2 f (by omega)
    exact⟨r,by unfold bP;rw[h1];exact k1,k2⟩
   ·exact⟨r,by unfold bP;rw[h1];rfl,h2⟩
 exact key n 0 v0 (by omega) h0 FU (mZ (by omega))
theorem Nj{σ ρ β:Type}{T:σ→Option (σ⊕ρ)}{v0:σ}{K:ρ→Option β}{y:β}(n:Nat)(hn:n≤1000000000)(P:Nat→σ→Prop)(Post:ρ→Prop)(h0:P 0 v0)
 (step:∀k v,k<n→P k v→(∃v',T v=some (.inl v')∧P (k+1) v')∨∃r,T v=some (.inr r)∧Post r)
 (fin:∀v,P n v→∃r,T v=some (.inr r)∧Post r) (hK:∀r,Post r→K r=some y):(bP T FU v0).bind K=some y:=by
 obtain⟨r,h1,h2⟩:=BZ n hn P Post h0 step fin
 rw[h1];exact hK r h2
theorem iLt{a b:Nat}(h:a<b):decide ((a:Int)<(b:Int))=true:=decide_eq_true (by omega)
theorem Xh{a b:Nat}(h:¬a<b):decide ((a:Int)<(b:Int))=false:=decide_eq_false (by omega)
theorem inc(k:Nat)(h:k≤1000000000):IntKind.wrap .i64 ((k:Int)+1)=((k+1:Nat):Int):=by rw[w64 (by omega) (by omega)];rfl
def ix{α:Type}[DecidableEq α](v:α):List α→Int→Int
 |[],_=>-1
 |x::r,k=>if v=x then k else ix v r (k+1)
end Go.Proofs.YtflpefkohpjjpaaGreatDoor
set_option linter.unusedSimpArgs false
set_option linter.unusedVariables false
namespace Go.Proofs.YtflpefkohpjjpaaGreatDoor
open Go.RowKit Go.Lib
theorem QJ:Rows.laid_unicode_utf8_first=firstData:=by kernel_rfl
theorem Nk:(Rows.laid_unicode_utf8_acceptRanges:DataW Unit)=acceptData:=by kernel_rfl
theorem Jq{W : World}(hL : laidMetH Tryz.prog [("unicode/utf8.acceptRanges", Rows.laid_unicode_utf8_acceptRanges), ("unicode/utf8.first", Rows.laid_unicode_utf8_first)] W) : Tabs W := by
 have hm : laidMet Tryz.prog [("unicode/utf8.acceptRanges", Rows.laid_unicode_utf8_acceptRanges), ("unicode/utf8.first", Rows.laid_unicode_utf8_first)] W := hL
 refine utf8Tabs_of_readsT (U8Types.of196 Tryz.laysValid) ⟨by kernel_rfl,by kernel_rfl,by kernel_rfl,by kernel_rfl,by kernel_rfl,by kernel_rfl,by kernel_rfl⟩ ?_ ?_
 ·rw[←QJ];exact Lib.laidMet.reads hm (.tail _ (.head _))
 ·rw[←Nk];exact Lib.laidMet.reads hm (.head _)
end Go.Proofs.YtflpefkohpjjpaaGreatDoor
set_option linter.unusedSimpArgs false
set_option linter.unusedVariables false
namespace Go.Proofs.YtflpefkohpjjpaaGreatDoor
open Go.ChangeShapes Go.WideShapes Go.ChangeAt Go.RowKit

theorem own:ownKnob Tryz.prog.godebug=none:=by kernel_rfl
def Cc:Nat→DataW Unit→List Value
 |0,_=>[]
 |_+1,.lit (.int k n)=>[.int k n]
 |f+1,.agg l=>l.flatMap (Cc f)
 |_,_=>[]
def abo(cs:Array Value):Obj→Obj
 |.cells _ t frozen=>.cells cs t frozen
 |o=>o
noncomputable def laidWorld(os:Os):World:=
 { World.holding Tryz.prog os ⟨#[],#[],[]⟩ with heap:=((World.holding Tryz.prog os ⟨#[],#[],[]⟩).heap.modify 0 (abo (Cc 4 Rows.laid_unicode_utf8_first).toArray)).modify 1 (abo (Cc 4 Rows.laid_unicode_utf8_acceptRanges).toArray) }
section
variable {H:Type} {enc:TypeId×Value→H} {P:Program}
theorem EN{f:Func}{s:ChangeSpec}{apart fresh handsOn again:Bool}{W W':World}{args:Array Value}{v:Value}{ds gs:List (DataW H)}{before pa pv:List MemPlace}
 (hW:DataW.Whole enc P f.params.toList s.vars apart W args.toList ds gs before)
 (hres:∀(b:Nat) (sp:Nat→Bool) (hd:Bool),DataW.TrodAll enc P W' b sp hd f.resultTypes.toList (v.resultList f.resultTypes.size) (s.fn H (ds++gs)).results [])
 (hargs:∀sp:Nat→Bool,(∀p∈before,sp p.block=true)→DataW.TrodAll enc P W' 0 sp true f.params.toList args.toList (s.fn H (ds++gs)).args pa)
 (hvars:∀sp:Nat→Bool,(∀p∈before,sp p.block=true)→DataW.TrodVars enc P W' sp s.vars (s.fn H (ds++gs)).vars pv)
 (hps:before=pa++pv) (hb:Below W.heap.size W W')
 (hok:∀(j:Nat) (t:TypeId) (r:Value),f.resultTypes[j]?=some t→(v.resultList f.resultTypes.size)[j]?=some r→Value.okWide P W' .any 0 t r):
 s.post enc P f apart fresh handsOn again W args v W':=by
 have hlt:∀p∈before,p.block<W.heap.size:=fun p hp=>hW.lt p hp
 have hold:∀p∈before,(fun b=>decide (b<W.heap.size)) p.block=true:=fun p hp=>by simpa using hlt p hp
 refine⟨ds,gs,before,[],pa,pv,hW,hres _ _ _,hargs _ hold,hvars _ hold,World.keptBut_mono (fun p hp=>⟨hp,?_⟩) (hb.frame (·∈before)),fun _=>?_⟩
 ·rw[hps,List.mem_append] at hp
  exact Or.inr hp
 ·obtain⟨_,_,_,_,_,hz,hn⟩:=hW
  refine⟨hok,_,_,([]++pa)++pv,⟨[]++pa,pv,trodAll_append (hargs _ (fun _ _=>rfl)) (hres _ _ _),hvars _ (fun _ _=>rfl),rfl,?_,?_⟩,?_⟩
  ·intro b off hp
   have hin:MemPlace.cell b off∈before:=by rw[hps];simpa using hp
   rw[hb.frozen (hlt _ hin)]
   exact hz b off hin
  ·intro ha
   have:=hn ha
   rw[hps] at this
   simpa using this
  ·intro p hp _
   rw[hps]
   simpa using hp
end
end Go.Proofs.YtflpefkohpjjpaaGreatDoor
set_option linter.unusedSimpArgs false
set_option linter.unusedVariables false
namespace Go.Proofs.YtflpefkohpjjpaaGreatDoor
open Go.ChangeShapes Go.WideShapes Go.ChangeAt Go.RowKit Go.Joins Go.Deep
section
variable {H:Type} {enc:TypeId×Value→H} {P:Program} {w:World} {base:Nat} {spare:Nat→Bool} {held:Bool}
theorem uM(hl:laidOutB P=true){W W':World}{sp':Nat→Bool}:∀(ts:List TypeId) (vs:List Value) (ds:List (DataW H)) (ps:List MemPlace),(∀t∈ts,P.readableRec t=true∧t<P.types.size)→
 DataW.TrodAll enc P W 0 (fun _=>true) true ts vs ds ps→(∀x∈ps,W.sameAt W' x)→(∀x∈ps,sp' x.block=true)→DataW.TrodAll enc P W' 0 sp' true ts vs ds ps
 |[],vs,ds,ps,_,h,_,_=>by
  cases vs<;>cases ds<;>simp[DataW.TrodAll] at h ⊢
  exact h
 |t::ts,vs,ds,ps,hr,h,h1,h2=>by
  obtain⟨v,vs',d,ds',p,q,rfl,rfl,rfl,hp,hq⟩:=trodAll_cons h
  refine⟨p,q,WideElems.Trod_stays hl (hr t (by simp)).1 (hr t (by simp)).2 hp (fun x hx=>h1 x (by simp[hx])) (fun x hx=>h2 x (by simp[hx])),?_,rfl⟩
  exact uM hl ts vs' ds' q (fun t ht=>hr t (by simp[ht])) hq (fun x hx=>h1 x (by simp[hx])) (fun x hx=>h2 x (by simp[hx]))
theorem abp{f:Func}{s:ChangeSpec}{W W':World}{args:Array Value}{ds:List (DataW H)}{before:List MemPlace}{tb:TypeId}
 (hl:laidOutB P=true) (hr:(f.params.all fun t=>P.readableRec t&&decide (t<P.types.size))=true) (hv:s.vars=[]) (ht:f.resultTypes=#[tb]) (hb:P.underlying tb=some .bool)
 (hW:DataW.Whole enc P f.params.toList s.vars false W args.toList ds [] before) (hs:s.fn H (ds++[])={ results:=[.lit (.bool true)],args:=ds }) (he:Ext W W'):
 s.post enc P f false true false false W args (.bool true) W':=by
 have hW0:=hW
 obtain⟨p,q,hA,hV,rfl,hfz,hnd⟩:=hW
 have hq:q=[]:=by
  rw[hv] at hV
  simpa[DataW.TrodVars] using hV
 subst hq
 have hlt:∀x∈p++[],x.block<W.heap.size:=fun x hx=>hW0.lt x hx
 have hrr:∀t∈f.params.toList,P.readableRec t=true∧t<P.types.size:=fun t ht=>by
  have:=Array.all_eq_true'.1 hr t (by simpa using ht)
  simpa using this
 refine EN (pa:=p) (pv:=[]) hW0 ?_ ?_ ?_ rfl he ?_
 ·intro b sp hd
  rw[hs,ht]
  exact trodAll_mk1 (shut_bool hb _)
 ·intro sp hsp
  rw[hs]
  exact uM hl _ _ _ _ hrr hA (fun x hx=>Below.same he (hlt x (by simpa using hx))) (fun x hx=>hsp x (by simpa using hx))
 ·intro sp _
  rw[hs,hv]
  rfl
 ·intro j t r hj hr'
  rw[ht] at hj hr'
  have hj0:j=0:=by
   rcases j with _|j
   ·rfl
   ·simp at hj
  subst hj0
  obtain rfl:tb=t:=by simpa using hj
  obtain rfl:Value.bool true=r:=by simpa[Value.resultList] using hr'
  exact okWide_bool_mk hb _
end
end Go.Proofs.YtflpefkohpjjpaaGreatDoor
set_option linter.unusedSimpArgs false
set_option linter.unusedVariables false
namespace Go.Proofs.YtflpefkohpjjpaaGreatDoor
open Go.ChangeShapes Go.WideShapes Go.ChangeAt Go.RowKit
theorem ang{W:World}(h:Tabs W):GI (I0 W):=fun w hi=>⟨fun c hc=>hi _ _ _ (h.1 c hc),fun i hi'=>⟨hi _ _ _ (h.2 i hi').1,hi _ _ _ (h.2 i hi').2⟩⟩
section
variable {H:Type} {enc:TypeId×Value→H} {P:Program} {w:World} {tys:List TypeId}
theorem UL(hok:okT P tys=true){t:TypeId}{v:Value}{d:DataW H}{ps:List MemPlace}(h:DataW.Trod enc P w 0 (fun _=>true) true t v d ps){shs:List Shp}(hf:flat P 12 t=some shs)(ht:tys.contains t=true):
 ∃r,dB (I0 w) r v.cells.toList∧WTr P r shs∧aP r≤Rows.uptoBulk d:=by
 obtain⟨fuel,hf'⟩:=h
 obtain⟨shs',h1,h2⟩:=UK hok (List.contains_iff_mem.1 ht)
 rw[hf] at h1;injection h1 with h1;subst h1
 exact agF hok fuel 12 t v.cells.toList (d,ps) shs hf' hf h2
end
structure OkW (P:Program) (w:World) (base:Nat) (t:TypeId) (v:Value):Prop where
 ok:Value.okWide P w .any base t v
def OkA(P:Program)(w:World)(base:Nat)(ps:Array TypeId)(vs:Array Value):Prop:=∀(j:Nat) t v,ps[j]?=some t→vs[j]?=some v→OkW P w base t v
theorem akq{P:Program}{w:World}{base:Nat}{ps:Array TypeId}{vs:Array Value}(h:∀(j:Nat) t v,ps[j]?=some t→vs[j]?=some v→Value.okWide P w .any base t v):OkA P w base ps vs:=fun j t v h1 h2=>⟨h j t v h1 h2⟩
theorem Ce{P:Program}{w:World}{base:Nat}{ps:Array TypeId}{vs:Array Value}(h:OkA P w base ps vs)(j:Nat){t:TypeId}{v:Value}{fs:Array Field}(h1:ps[j]?=some t)(h2:vs[j]?=some v)(ht:P.underlying t=some (.struct fs)):∃cs,v=.agg cs∧cs.size=P.cellsOf t:=okWide_struct ht (h j t v h1 h2).ok
theorem akr{f:FuncId}{args:List AV}{vs:List Value}{W:World}(h:Fn Tryz.prog GI f args (.lf (.bool true)))(hT:Tabs W)(hvs:VRs (Ae (I0 W)) args vs):
 Calls Tryz.prog f vs.toArray W fun e W'=>e=.returned (.bool true)∧Ext W W':=by
 refine(h.2 (I0 W) W vs (ang hT) (akp W) hvs).mono ?_
 rintro e w' ⟨I',v,rfl,g,hv⟩
 exact⟨by rw[hv.bool],g.ext⟩
end Go.Proofs.YtflpefkohpjjpaaGreatDoor
set_option linter.unusedSimpArgs false
set_option linter.unusedVariables false
namespace Go.Proofs.YtflpefkohpjjpaaGreatDoor
open Go.RowKit
theorem VRs.F7{e:Env}{x:AV}{l:List AV}{vs:List Value}(h:VRs e (x::l) vs):∃v q,vs=v::q∧VR e x v∧VRs e l q:=by unfold VRs at h;exact h
theorem VRs.agH{e:Env}{vs:List Value}(h:VRs e [] vs):vs=[]:=by unfold VRs at h;exact h
theorem Fn.of{P:Program}{G:Gh→Prop}{f:FuncId}{args:List AV}{res:AV}(hc:nR P f=true)(h:∀I w vs,G I→Inv I w→VRs (Ae I) args vs→Calls P f vs.toArray w fun e w'=>∃I' v,e=.returned v∧Gr I I' w w'∧VR (Ae I') res v):Fn P G f args res:=⟨hc,h⟩
end Go.Proofs.YtflpefkohpjjpaaGreatDoor
set_option linter.unusedSimpArgs false
set_option linter.unusedVariables false
namespace Go.Proofs.YtflpefkohpjjpaaGreatDoor
open Go.RowKit Go.Sort
def oU(x y:List UInt8):Bool:=decide (x≤y)
def Xi(x:List UInt8):List (List UInt8)→List (List UInt8)
 |[]=>[x]
 |y::r=>bif oU x y then x::y::r else y::Xi x r
def Af:List (List UInt8)→List (List UInt8)
 |[]=>[]
 |x::r=>Xi x (Af r)
def qp(p:Option (List UInt8)):List (List UInt8)→List (List UInt8)
 |[]=>[]
 |x::r=>bif decide (p=some x) then qp (some x) r else x::qp (some x) r
theorem zf(x:List UInt8):∀l,(Xi x l).Perm (x::l)
 |[]=>List.Perm.refl _
 |y::r=>by
  unfold Xi
  cases oU x y
  ·exact((zf x r).cons y).trans (List.Perm.swap x y r)
  ·exact List.Perm.refl _
theorem kS:∀l,(Af l).Perm l
 |[]=>List.Perm.refl _
 |x::r=>(zf x _).trans ((kS r).cons x)
theorem Ci(x y:List UInt8):oU x y=true∨oU y x=true:=by
 unfold oU;rw[decide_eq_true_iff,decide_eq_true_iff];exact List.le_total x y
theorem Cj{x y z:List UInt8}(h:oU x y=true)(k:oU y z=true):oU x z=true:=by
 unfold oU at *;rw[decide_eq_true_iff] at *;exact List.le_trans h k
theorem F9{x y:List UInt8}(h:oU x y=true)(k:oU y x=true):x=y:=by
 unfold oU at *;rw[decide_eq_true_iff] at *;exact List.le_antisymm h k
theorem zW(x:List UInt8):∀l,l.Pairwise (fun a b=>oU a b=true)→(Xi x l).Pairwise (fun a b=>oU a b=true)
 |[],_=>List.pairwise_singleton ..
 |y::r,h=>by
  unfold Xi
  have h1:=List.pairwise_cons.1 h
  cases hb:oU x y
  ·refine List.pairwise_cons.2 ⟨fun z hz=>?_,zW x r h1.2⟩
   rcases List.mem_cons.1 ((zf x r).mem_iff.1 hz) with rfl|hz
   ·exact(Ci y z).resolve_right (by rw[hb];decide)
   ·exact h1.1 z hz
  ·exact List.pairwise_cons.2 ⟨fun z hz=>by
    rcases List.mem_cons.1 hz with rfl|hz
    ·exact hb
    ·exact Cj hb (h1.1 z hz),h⟩
theorem rG:∀l,(Af l).Pairwise (fun a b=>oU a b=true)
 |[]=>List.Pairwise.nil
 |x::r=>zW x _ (rG r)
theorem QK(l:List (List UInt8)):(l.mergeSort fun x y=>decide (x≤y))=Af l:=by
 refine List.Perm.eq_of_pairwise (le:=fun a b=>oU a b=true) (fun a b _ _ h k=>F9 h k) ?_ (rG l) ((List.mergeSort_perm l _).trans (kS l).symm)
 exact List.pairwise_mergeSort (le:=fun x y=>decide (x≤y)) (fun a b c h k=>Cj h k) (fun a b=>by rw[Bool.or_eq_true];exact Ci a b) l
theorem UM(d:Array (List UInt8)):∀(n k:Nat),k+n=d.size→((List.range' k n).filter (Lib.keeps d)).map (d[·]!)=qp (if k=0 then none else some d[k-1]!) (d.toList.drop k)
 |0,k,h=>by
  rw[List.drop_eq_nil_of_le (by simp;omega)];rfl
 |n+1,k,h=>by
  have hk:k<d.size:=by omega
  have e:d.toList.drop k=d[k]!::d.toList.drop (k+1):=by
   rw[List.drop_eq_getElem_cons (by simpa using hk)]
   simp[hk]
  rw[e,List.range'_succ]
  unfold qp
  have ih:=UM d n (k+1) (by omega)
  rw[if_neg (by omega),Nat.add_sub_cancel] at ih
  by_cases hq:Lib.keeps d k=true
  ·rw[List.filter_cons_of_pos hq,List.map_cons,ih]
   have:decide ((if k=0 then none else some d[k-1]!)=some d[k]!)=false:=by
    unfold Lib.keeps at hq
    by_cases h0:k=0
    ·simp[h0]
    ·simp[h0] at hq ⊢;exact fun e=>hq e.symm
   rw[this];rfl
  ·rw[List.filter_cons_of_neg hq,ih]
   have:decide ((if k=0 then none else some d[k-1]!)=some d[k]!)=true:=by
    unfold Lib.keeps at hq
    by_cases h0:k=0
    ·simp[h0] at hq
    ·simp[h0] at hq ⊢;exact hq.symm
   rw[this];rfl
theorem Jr(l:List (List UInt8)):Lib.compact l=qp none l:=by
 have:=UM l.toArray l.length 0 (by simp)
 rw[if_pos rfl,List.drop_zero] at this
 unfold Lib.compact Lib.compactUpTo
 rw[List.range_eq_range']
 exact this
def EP(l:List (List UInt8)):List ByteArray:=l.map fun x=>⟨x.toArray⟩
def mF(l:List ByteArray):List (List UInt8):=l.map fun b=>b.data.toList
theorem jA(l:List ByteArray):(mF l).length=l.length:=List.length_map ..
theorem oW(l:List (List UInt8)):(EP l).length=l.length:=List.length_map ..
theorem Nl(l:List (List UInt8)):(EP l).map Value.string=l.map encStr:=by unfold EP;rw[List.map_map];rfl
theorem Np(l:List ByteArray):(mF l).map encStr=l.map Value.string:=by
 unfold mF;rw[List.map_map];exact List.map_congr_left fun b _=>by simp[encStr]
theorem Js{I:Gh}:∀{l:List ByteArray} {cs:List Value},dB I (l.map lfS).flatten cs→cs=l.map Value.string∧∀b∈l,b.size≤maxLen
 |[],cs,h=>⟨h,fun b hb=>by cases hb⟩
 |x::r,cs,h=>by
  obtain⟨c,q,rfl,h1,h2⟩:=h
  obtain⟨rfl,h3⟩:=h1.str
  obtain⟨rfl,h4⟩:=Js h2
  exact⟨rfl,fun b hb=>by
   rcases List.mem_cons.1 hb with rfl|hb
   ·exact h3
   ·exact h4 b hb⟩
theorem UN{I:Gh}:∀{l:List ByteArray},(∀b∈l,b.size≤maxLen)→dB I (l.map lfS).flatten (l.map Value.string)
 |[],_=>rfl
 |x::r,h=>⟨_,_,rfl,by unfold LRp;exact⟨rfl,h x (List.mem_cons_self ..)⟩,UN fun b hb=>h b (List.mem_cons_of_mem _ hb)⟩
theorem zX{I:Gh}{w w':World}{g:Nat}(hi:Inv I w)(hg:Av I g)(k:w.grownBy w' (some g)):Inv I w':=fun b o v h=>by
 have h1:=hi b o v h
 have hlt:=World.block_lt_of_cell? w _ h1
 have hne:some g≠some b:=fun e=>by
  injection e with e;subst e
  have:=hg o;rw[this] at h;cases h
 have h2:w'.heap[b]?=w.heap[b]?:=by
  obtain⟨_,_,_,_,k5⟩:=k
  exact k5 b hlt hne.symm
 unfold World.cell? at h1 ⊢
 show _=_
 simp only[h2]
 exact h1
theorem row_mem{e:Env}{w:World}{k:Nat}{l:List ByteArray}(hk:e.ok k)(hb:∀b,e.ok b→b<k+1)(hown:w.ownsRow 0 9 1 (e.sv k) l.length (l.map .string))(hs:∀b∈l,b.size≤maxLen)(hl:l.length≤maxLen)
 (hav:∀g,(e.sv k).ownBlock=some g→Av e.I g) (hi:Inv e.I w):MI e (fun _=>l.map .string) (List.replicate k .dead++[.row 9 1 (l.map lfS)]) w:=by
 have hat:∀(b:Nat) (s:Slot),(List.replicate k Slot.dead++[.row 9 1 (l.map lfS)])[b]?=some s→s=.dead∨(b=k∧s=.row 9 1 (l.map lfS)):=fun b s h=>by
  rw[List.getElem?_append] at h
  split at h
  ·left
   have:=List.mem_of_getElem? h
   exact(List.mem_replicate.1 this).2
  ·rename_i hn
   rw[List.length_replicate] at hn h
   right
   rcases Nat.eq_or_lt_of_not_lt hn with he|he
   ·subst he
    rw[Nat.sub_self] at h
    injection h with h
    exact⟨rfl,h.symm⟩
   ·rw[List.getElem?_eq_none (by simp;omega)] at h;cases h
 refine⟨fun b s h=>?_,fun b s h=>?_,fun b h=>?_,fun b b' s s' g h1 h2 k1 k2=>?_,fun b s g h hg=>?_,hi⟩
 ·rcases hat b s h with rfl|⟨rfl,rfl⟩
  ·exact True.intro
  ·refine⟨hk, UN hs, fun r hr=>?_, by rw[List.length_map];exact hl, ?_⟩
   ·obtain⟨x,_,rfl⟩:=List.mem_map.1 hr;rfl
   ·rw[List.length_map]
    rcases hown.2 with⟨h1,h2⟩|⟨g,cap,cur,h1,_⟩
    ·exact .inl ⟨h1,by rw[List.eq_nil_of_length_eq_zero h2];rfl⟩
    ·exact .inr ⟨g,cap,h1⟩
 ·rcases hat b s h with rfl|⟨rfl,rfl⟩
  ·exact True.intro
  ·show w.ownsRow 0 9 1 (e.sv b) (l.map lfS).length (l.map .string)
   rw[List.length_map];exact hown
 ·have:=hb b h
  rw[List.length_append,List.length_replicate];exact this
 ·rcases hat b s h1 with rfl|⟨rfl,rfl⟩
  ·cases k1
  ·rcases hat b' s' h2 with rfl|⟨rfl,rfl⟩
   ·cases k2
   ·rfl
 ·rcases hat b s h with rfl|⟨rfl,rfl⟩
  ·cases hg
  ·exact hav g hg
theorem Gf{w:World}{ty:TypeId}{v:Value}{n:Nat}{xs:List Value}(h:w.ownsRow 0 ty 1 v n xs):n≤maxLen:=by
 rcases h.2 with⟨_,rfl⟩|⟨_,_,_,_,_,_,h1,h2,_⟩
 ·exact Nat.zero_le _
 ·omega
noncomputable def aks(l:List ByteArray):Option (List ByteArray):=if l.length<4611686018427387904 then some (EP (Af (mF l))) else none
set_option maxRecDepth 20000 in
theorem agI(l r:List ByteArray)(h:aks l=some r):FnH Tryz.prog GI 51 [.own 0] [.row 9 1 (l.map lfS)] (.tup []) [.row 9 1 (r.map lfS)]:=by
 obtain⟨hsz,h⟩:=BQ h
 injection h with h
 refine⟨by kernel_rfl,fun e C w vs hG hM hvs=>?_⟩
 obtain⟨v,q,rfl,hv,hq⟩:=VRs.F7 hvs
 obtain rfl:=VRs.agH hq
 obtain⟨hok,rfl,_⟩:e.ok 0∧v=e.sv 0∧_:=by unfold VR at hv;exact hv
 obtain⟨k0,k1,k2,k3,k4⟩:=hM.hv 0 _ rfl
 have hw:w.ownsRow 0 9 1 (e.sv 0) (l.map lfS).length (C 0):=hM.hw 0 _ rfl
 rw[List.length_map] at hw
 obtain⟨hC,hsm⟩:=Js k1
 have hb1:∀b,e.ok b→b<0+1:=fun b hb=>hM.bound b hb
 rcases hw.2 with⟨hn,hl0⟩|⟨g,cap,cur,hn,_,hg,hc1,hc2,hc3,hc4⟩
 ·obtain rfl:=List.eq_nil_of_length_eq_zero hl0
  obtain rfl:r=[]:=h.symm
  rw[hn]
  refine(Any.slices_Sort_string_none Tryz.F8 none 0 w).mono ?_
  rintro en w' ⟨rfl,rfl⟩
  refine⟨e,C,_,rfl,⟨Env.le.refl e,Only.refl _ _,fun b o v h1 h2=>(by rw[h2] at h1;cases h1),fun g hg=>.inr hg⟩,hM,?_⟩
  rw[VR.tup];exact⟨[],rfl,VRs.nil⟩
 ·have hgs:g<w.heap.size:=(Array.getElem?_eq_some_iff.1 hg).1
  have hH:Holds encStr w g 0 (mF l).toArray:=holds_of_block hg (by rw[jA,Np,←hC,←hc4,Nat.mul_one])
  have hav:Av e.I g:=hM.av 0 _ g rfl (by show(e.sv 0).ownBlock=some g;rw[hn];rfl)
  rw[hn]
  have hc:=Any.slices_Sort_string Tryz.F8 g 0 cap (mF l) w hH hgs (by rw[jA];exact hsz)
  rw[jA,QK] at hc
  refine hc.mono ?_
  rintro en w' ⟨rfl,n,os,rfl⟩
  have hgr:=grownBy_sorted (w:=w) (g:=g) (n:=n) (os:=os) (Af (mF l)).toArray
  have hlen:(Af (mF l)).length=(mF l).length:=(kS _).length_eq
  have hown:=ownsRow_sorted (base:=0) (os:=os) (n:=n) hlen (Nat.zero_le _) hg (by rw[jA];exact hc1) hc2 hc3
  have hrl:r.length=l.length:=by rw[←h,oW,hlen,jA]
  have hrs:r.map Value.string=(Af (mF l)).map encStr:=by rw[←h,Nl]
  have hmem:∀b∈r,b.size≤maxLen:=fun b hb=>by
   rw[←h] at hb
   obtain⟨x,hx,rfl⟩:=List.mem_map.1 hb
   have hx:=(kS _).mem_iff.1 hx
   obtain⟨y,hy,rfl⟩:=List.mem_map.1 hx
   have:=hsm y hy
   show(ByteArray.mk (y.data.toList.toArray)).size≤maxLen
   rw[Array.toArray_toList];exact this
  have hm:=row_mem (e:=e) (w:=grow (putRow encStr (Sort.ahead w n) g 0 (Af (mF l)).toArray) os) (k:=0) (l:=r) hok hb1 (by rw[hn, hrl, hrs, ←jA l];exact hown) hmem (by rw[hrl];exact Gf hw) (fun g' hg'=>by
   rw[hn] at hg';injection hg' with hg';subst hg';exact hav) (zX hM.inv hav hgr)
  refine⟨e,_,_,rfl,⟨Env.le.refl e,Only.grown (Only.refl _ _) hgr fun g' hg'=>.inr ⟨0,_,rfl,?_⟩,fun b o v h1 h2=>(by rw[h2] at h1;cases h1),fun g' hg'=>.inr ?_⟩,hm,?_⟩
  ·injection hg' with hg';subst hg'
   show(e.sv 0).ownBlock=some g
   rw[hn];rfl
  ·obtain⟨b,s,hs,hg'⟩:=hg'
   cases b with
   |zero=>injection hs with hs;subst hs;exact⟨0,_,rfl,hg'⟩
   |succ b=>cases hs
  ·rw[VR.tup];exact⟨[],rfl,VRs.nil⟩
noncomputable def agJ(l:List ByteArray):Option (List ByteArray):=if l.length≤9223372036854775807 then some (EP (qp none (mF l))) else none
theorem Cm:∀(l:List (List UInt8)) (p:Option (List UInt8)) (x:List UInt8),x∈qp p l→x∈l
 |[],p,x,h=>h
 |y::r,p,x,h=>by
  unfold qp at h
  cases hd:decide (p=some y)<;>rw[hd] at h
  ·rcases List.mem_cons.1 h with rfl|h
   ·exact List.mem_cons_self ..
   ·exact List.mem_cons_of_mem _ (Cm r _ x h)
  ·exact List.mem_cons_of_mem _ (Cm r _ x h)
theorem Au:∀(l:List (List UInt8)) (p:Option (List UInt8)),(qp p l).length≤l.length
 |[],p=>Nat.le_refl _
 |y::r,p=>by
  unfold qp
  cases decide (p=some y)
  ·exact Nat.succ_le_succ (Au r _)
  ·exact Nat.le_succ_of_le (Au r _)
set_option maxRecDepth 20000 in
theorem agK(l r:List ByteArray)(h:agJ l=some r):FnH Tryz.prog GI 52 [.own 0] [.row 9 1 (l.map lfS)] (.own 1) [.dead,.row 9 1 (r.map lfS)]:=by
 obtain⟨hsz,h⟩:=BQ h
 injection h with h
 refine⟨by kernel_rfl,fun e C w vs hG hM hvs=>?_⟩
 obtain⟨v,q,rfl,hv,hq⟩:=VRs.F7 hvs
 obtain rfl:=VRs.agH hq
 obtain⟨hok,rfl,_⟩:e.ok 0∧v=e.sv 0∧_:=by unfold VR at hv;exact hv
 obtain⟨k0,k1,k2,k3,k4⟩:=hM.hv 0 _ rfl
 have hw:w.ownsRow 0 9 1 (e.sv 0) (l.map lfS).length (C 0):=hM.hw 0 _ rfl
 rw[List.length_map] at hw
 obtain⟨hC,hsm⟩:=Js k1
 have hb1:∀b,e.ok b→b=0:=fun b hb=>by have:=hM.bound b hb;simp at this;exact this
 have key:∀(v':Value) (w':World),(∀g,v'.ownBlock=some g→(e.sv 0).ownBlock=some g)→w.grownBy w' (e.sv 0).ownBlock→Inv e.I w'→w'.ownsRow 0 9 1 v' r.length (r.map .string)→(∀b∈r,b.size≤maxLen)→r.length≤maxLen→(∃a n c,v'=.slice a n c)→
  ∃e' C' u,Ending.returned v'=.returned u∧GrH e [.row 9 1 (l.map lfS)] e' [.dead,.row 9 1 (r.map lfS)] w w'∧MI e' C' [.dead,.row 9 1 (r.map lfS)] w'∧VR e' (.own 1) u:=fun v' w' h1 h2 h3 h4 h5 h6 h7=>by
  obtain⟨e',he'⟩:∃e':Env,e'=⟨fun b=>b=0∨b=1,e.m,fun b=>if b=1 then v' else e.sv b,e.I⟩:=⟨_,rfl⟩
  have s1:e'.sv 1=v':=by subst he';rfl
  have o1:e'.ok 1:=by subst he';exact .inr rfl
  have eI:e'.I=e.I:=by subst he';rfl
  have hm:=row_mem (e:=e') (w:=w') (k:=1) (l:=r) o1 (fun b hb=>by subst he';rcases hb with rfl|rfl<;>omega) (by rw[s1];exact h4) h5 h6 (fun g hg=>by
   rw[s1] at hg;rw[eI];exact hM.av 0 _ g rfl (h1 g hg)) (by rw[eI];exact h3)
  refine⟨e',_,v',rfl,⟨⟨fun b hb=>by subst he';exact .inl (hb1 b hb),fun b hb=>by subst he';rfl,fun b hb=>?_,by rw[eI];exact Le.refl _⟩,Only.grown (Only.refl _ _) h2 fun g' hg'=>.inr ⟨0,_,rfl,hg'⟩,fun b o v k1 k2=>(by rw[eI,k2] at k1;cases k1),fun g' hg'=>.inr ?_⟩,hm,?_⟩
  ·subst he'
   have:=hb1 b hb
   subst this
   rfl
  ·obtain⟨b,s,hs,hg'⟩:=hg'
   match b,hs with
   |0,hs=>injection hs with hs;subst hs;cases hg'
   |1,hs=>
    injection hs with hs;subst hs
    have hg':(e'.sv 1).ownBlock=some g':=hg'
    rw[s1] at hg'
    exact⟨0,_,rfl,h1 g' hg'⟩
   |b+2,hs=>cases hs
  ·unfold VR
   exact⟨o1,s1.symm,h7⟩
 have hmem:∀b∈r,b.size≤maxLen:=fun b hb=>by
  rw[←h] at hb
  obtain⟨x,hx,rfl⟩:=List.mem_map.1 hb
  obtain⟨y,hy,rfl⟩:=List.mem_map.1 (Cm _ _ _ hx)
  have:=hsm y hy
  show(ByteArray.mk (y.data.toList.toArray)).size≤maxLen
  rw[Array.toArray_toList];exact this
 have hrl:r.length≤l.length:=by rw[←h,oW,←jA l];exact Au _ _
 have hrm:r.length≤maxLen:=by have:=Gf hw;omega
 rcases hw.2 with⟨hn,hl0⟩|⟨g,cap,cur,hn,_,hg,hc1,hc2,hc3,hc4⟩
 ·obtain rfl:=List.eq_nil_of_length_eq_zero hl0
  obtain rfl:r=[]:=h.symm
  have hkey:=key (.slice none 0 0) w (fun g hg=>(by cases hg)) (by rw[hn];exact⟨rfl,rfl,rfl,Nat.le_refl _,fun _ _ _=>rfl⟩) hM.inv ⟨rfl,.inl ⟨rfl,rfl⟩⟩ hmem hrm ⟨_,_,_,rfl⟩
  rw[hn]
  refine(Any.slices_Compact_string_empty Tryz.wK none 0 w).mono ?_
  rintro en w' ⟨rfl,rfl⟩
  exact hkey
 ·have hH:Holds encStr w g 0 (mF l).toArray:=holds_of_block hg (by rw[jA, Np, ←hC, ←hc4, Nat.mul_one])
  have hav:Av e.I g:=hM.av 0 _ g rfl (by show(e.sv 0).ownBlock=some g;rw[hn];rfl)
  have hc:=Any.slices_Compact_string Tryz.wK g 0 cap (mF l) w hH (by rw[jA];exact hsz) (by rw[jA];exact hc1)
  rw[jA,Jr] at hc
  have hrs:r.map Value.string=(qp none (mF l)).map encStr:=by rw[←h,Nl]
  have hrn:(qp none (mF l)).length=r.length:=by rw[←h,oW]
  rw[hn]
  refine hc.mono ?_
  rintro en w' ⟨rfl,n,rfl⟩
  obtain⟨ts,hts⟩:∃ts,ts=qp none (mF l)++List.replicate (l.length-(qp none (mF l)).length) []:=⟨_,rfl⟩
  rw[←hts]
  have hgr:w.grownBy (putRow encStr (Sort.ahead w n) g 0 ts.toArray) (some g):=by
   have:=grownBy_sorted (w:=w) (g:=g) (n:=n) (os:=#[]) ts.toArray
   rwa [grow_empty] at this
  have hh:(putRow encStr (Sort.ahead w n) g 0 ts.toArray).heap[g]?=some (.cells (putCells encStr 0 ts.toArray cur) 9 (0,0)):=by
   have:=heap_sorted (w:=w) (g:=g) (n:=n) (os:=#[]) ts.toArray hg
   rwa [grow_empty] at this
  have htl:ts.length=l.length:=by rw[hts,List.length_append,List.length_replicate,hrn];omega
  have htk:=take_putCells cur ts (by rw[htl,hc3];omega)
  have hfin:(putCells encStr 0 ts.toArray cur).toList.take (r.length*1)=r.map .string:=by
   rw[Nat.mul_one]
   have e1:(putCells encStr 0 ts.toArray cur).toList.take r.length=((putCells encStr 0 ts.toArray cur).toList.take ts.length).take r.length:=by rw[List.take_take,Nat.min_eq_left (by omega)]
   rw[e1,htk,hts,List.map_append,hrs,←hrn,List.take_left' (by rw[List.length_map])]
  rw[hrn]
  have hkey:=key (.slice (some ⟨g,0,none⟩) r.length cap) _ (fun g' hg'=>by rw[hn];exact hg') (by rw[hn];exact hgr) (zX hM.inv hav hgr) ⟨by simp,.inr ⟨g,cap,_,rfl,Nat.zero_le _,hh,by omega,hc2,by simp[putCells,hc3],hfin⟩⟩ hmem hrm ⟨_,_,_,rfl⟩
  exact hkey
end Go.Proofs.YtflpefkohpjjpaaGreatDoor
