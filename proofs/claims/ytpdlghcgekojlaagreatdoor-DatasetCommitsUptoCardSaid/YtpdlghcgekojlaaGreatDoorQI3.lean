/- Operations on resources: from what happens in memory to the law. -/
import Derived.Test.YtpdlghcgekojlaaGreatDoorQI2
set_option linter.unusedSimpArgs false
set_option linter.unusedVariables false
namespace Go.Proofs.YtpdlghcgekojlaaGreatDoor
open Go.RowKit
def Rw(I:Gh)(w:World)(ty:TypeId)(n:Nat)(v:Value)(l:List (List Lf)):Prop:=
 ∃cs,w.ownsRow 0 ty n v l.length cs∧bV I l.flatten cs∧(∀r∈l,r.length=n)∧l.length≤maxLen∧((v=.slice none 0 0∧l=[])∨∃g c,v=.slice (some ⟨g,0,none⟩) l.length c)
theorem Rw.congr{I I':Gh}{w w':World}{ty:TypeId}{n:Nat}{v:Value}{l:List (List Lf)}(h:Rw I w ty n v l)(hI:Le I I')(k:∀g,v.ownBlock=some g→w'.heap[g]?=w.heap[g]?):Rw I' w' ty n v l:=by
 obtain⟨cs,h1,h2,h3⟩:=h
 exact⟨cs,lu h1 k,bV.mono hI _ _ h2,h3⟩
theorem Rw.lt{I:Gh}{w:World}{ty:TypeId}{n:Nat}{v:Value}{l:List (List Lf)}(h:Rw I w ty n v l){g:Nat}(hg:v.ownBlock=some g):g<w.heap.size:=by
 obtain⟨cs,h1,_⟩:=h
 exact(World.ownsRow.lt h1 g hg).2
theorem Rw.nil(I:Gh)(w:World)(ty:TypeId)(n:Nat):Rw I w ty n (.slice none 0 0) []:=
 ⟨[],World.ownsRow_nil _ _ _ _,(by unfold List.flatten;exact(rfl:([]:List Value)=[])),by simp,Nat.zero_le _,.inl ⟨rfl,rfl⟩⟩
theorem Rw.slice{I:Gh}{w:World}{ty:TypeId}{n:Nat}{v:Value}{l:List (List Lf)}(h:Rw I w ty n v l):∃a m c,v=.slice a m c:=by
 obtain⟨cs,_,_,_,_,h|⟨g,c,h⟩⟩:=h
 all_goals grind
theorem Inv.O6{I:Gh}{w w':World}{F:Nat→Prop}(h:Inv I w)(k:Only F w w')(hF:∀x,F x→Av I x):Inv I w':=fun b o v e=>by
 rw[oJ (k.block b (h.lt e) (fun hf=>by rw[hF b hf o] at e;cases e)) o];exact h b o v e
theorem lM{w w':World}{g:Nat}{F:Nat→Prop}(k:w.grownBy w' (some g))(hg:F g):Only F w w':=
 ⟨k.os,k.tape,k.output,k.size,fun i hi hn=>k.block i hi (fun e=>by injection e with e;subst e;exact hn hg)⟩
theorem Only.IE{w w':World}(F:Nat→Prop)(k:Ext w w'):Only F w w':=⟨k.os,k.tape,k.output,k.size,fun i hi _=>k.block i hi⟩
section
variable {P:Program} {G:Gh→Prop} {k:OpK} {ds:List AV} {r:AV}
theorem Ht{R R':Rsc}(h:∀(e:Env) (w:World) (vs:List Value) (v0:Value),e.ok 0→R.At e.I w (e.m 0) (e.im 0) (e.fp 0) v0→VRs e ds vs→
 ∃v w' im' F' v1,(k.run vs).run P w=.ok v w'∧R'.At e.I w' (e.m 0) im' F' v1∧(∀j x,e.im 0 j=some x→im' j=some x)∧Only (e.fp 0) w w'∧(∀x,F' x→w.heap.size≤x∨e.fp 0 x)∧∀e':Env,e'.ok 0→e'.im 0=im'→e'.I=e.I→VR e' r v):
 OpH P G k ds [.res R none] r [.res R' none]:=by
 intro e C w vs hG hM hvs
 have h0:e.ok 0:=hM.hv 0 _ rfl
 obtain⟨v0,hAt,_⟩:=hM.hw 0 _ rfl
 obtain⟨v,w',im',F',v1,k1,k2,k3,k4,k5,k6⟩:=h e w vs v0 h0 hAt hvs
 have one:∀{b:Nat} {s:Slot},([Slot.res R' none]:List Slot)[b]?=some s→b=0∧s=.res R' none:=fun {b s} hs=>by
  cases b with
  |zero=>grind
  |succ b=>simp at hs
 have hav:∀x,e.fp 0 x→Av e.I x:=fun x hx=>hM.av 0 _ x rfl hx
 have hF:blks e [.res R none]=e.fp 0:=by
  funext x;apply propext
  constructor
  ·rintro⟨b,s,hb,hx⟩
   cases b with
   |zero=>
    obtain rfl:s=.res R none:=by simpa using hb.symm
    exact hx
   |succ b=>simp at hb
  exact fun hx=>⟨0,_,rfl,hx⟩
 refine⟨{ e with im:=fun b=>if b=0 then im' else e.im b,fp:=fun b=>if b=0 then F' else e.fp b },C,v,w',k1,⟨⟨fun _ h=>h,fun _ _=>rfl,fun _ _=>rfl,Le.refl _,fun b _ j x hx=>?_⟩,by rw[hF];exact k4,fun b o u m1 m2=>(by rw[m2] at m1;cases m1),fun x hx=>?_⟩,⟨fun b s hs=>?_,fun b s hs=>?_,fun b hb=>hM.bound b hb,fun b b' s s' g h1 h2 _ _=>?_,fun b s x hs hx=>?_,hM.inv.O6 k4 hav⟩,k6 _ h0 rfl rfl,rfl⟩
 ·grind
 ·rw[hF]
  obtain⟨b,s,hb,hx⟩:=hx
  obtain⟨rfl,rfl⟩:=one hb
  exact k5 x hx
 ·obtain⟨rfl,rfl⟩:=one hs
  exact h0
 ·obtain⟨rfl,rfl⟩:=one hs
  exact⟨v1,k2,fun _ h=>by cases h⟩
 ·grind
 obtain⟨rfl,rfl⟩:=one hs
 rcases k5 x hx with h1|h1
 ·exact hM.inv.av h1
 grind
theorem ajf{R:Rsc}(h:∀(I:Gh) (w:World) (vs:List Value),VRs (rZ I) ds vs→∃v w' g im' F' v1,(k.run vs).run P w=.ok v w'∧R.At I w' g im' F' v1∧Ext w w'∧(∀x,F' x→w.heap.size≤x)∧∀e':Env,e'.ok 0→e'.m 0=g→VR e' r v)(hds:ds=[]):
 OpH P G k ds [] r [.res R none]:=by
 intro e C w vs hG hM hvs
 subst hds
 obtain⟨v,w',g,im',F',v1,k1,k2,k3,k4,k5⟩:=h e.I w vs (by unfold VRs at hvs ⊢;exact hvs)
 have nok:∀b,¬e.ok b:=fun b hb=>by have:=hM.bound b hb;simp at this
 have one:∀{b:Nat} {s:Slot},([Slot.res R none]:List Slot)[b]?=some s→b=0∧s=.res R none:=fun {b s} hs=>by
  cases b with
  |zero=>grind
  |succ b=>simp at hs
 refine⟨⟨fun b=>b=0,fun _=>g,fun _=>undef,e.I,fun _=>im',fun _=>F'⟩,C,v,w',k1,⟨⟨fun b h=>absurd h (nok b),fun b h=>absurd h (nok b),fun b h=>absurd h (nok b),Le.refl _,fun b h=>absurd h (nok b)⟩,Only.IE _ k3,fun b o u m1 m2=>(by rw[m2] at m1;cases m1),fun x hx=>?_⟩,⟨fun b s hs=>?_,fun b s hs=>?_,fun b hb=>?_,fun b b' s s' g h1 h2 _ _=>?_,fun b s x hs hx=>?_,hM.inv.ext k3⟩,k5 _ rfl rfl,rfl⟩
 ·obtain⟨b,s,hb,hx⟩:=hx
  obtain⟨rfl,rfl⟩:=one hb
  exact .inl (k4 x hx)
 ·obtain⟨rfl,rfl⟩:=one hs
  rfl
 ·obtain⟨rfl,rfl⟩:=one hs
  exact⟨v1,k2,fun _ h=>by cases h⟩
 ·grind
 ·grind
 obtain⟨rfl,rfl⟩:=one hs
 exact hM.inv.av (k4 x hx)
theorem fJ{a b:Slot}{x:Nat}{s:Slot}(h:([a,b]:List Slot)[x]?=some s):(x=0∧s=a)∨(x=1∧s=b):=by
 grind
theorem jH{a:Slot}{x:Nat}{s:Slot}(h:([a]:List Slot)[x]?=some s):x=0∧s=a:=by
 grind
theorem ajg{R R':Rsc}{ty:TypeId}{n:Nat}{l:List (List Lf)}(h:∀(e:Env) (w:World) (vs:List Value) (v0:Value),e.ok 0→R.At e.I w (e.m 0) (e.im 0) (e.fp 0) v0→VRs e ds vs→
 ∃v F',(k.run vs).run P w=.ok v w∧R'.At e.I w (e.m 0) (e.im 0) F' v∧Rw e.I w ty n v l∧(∀x,F' x→e.fp 0 x)∧(∀x,v.ownBlock=some x→e.fp 0 x∧¬F' x)):
 OpH P G k ds [.res R none] (.own 1) [.res R' (some 1),.row ty n l]:=by
 intro e C w vs hG hM hvs
 have h0:e.ok 0:=hM.hv 0 _ rfl
 obtain⟨v0,hAt,_⟩:=hM.hw 0 _ rfl
 obtain⟨v,F',k1,k2,⟨cs,q1,q2,q3,q4,q5⟩,k4,k5⟩:=h e w vs v0 h0 hAt hvs
 have n1:¬e.ok 1:=fun hb=>by have:=hM.bound 1 hb;simp at this
 have hav:∀x,e.fp 0 x→Av e.I x:=fun x hx=>hM.av 0 _ x rfl hx
 refine⟨⟨fun b=>b=1∨e.ok b,e.m,fun b=>if b=1 then v else e.sv b,e.I,e.im,fun b=>if b=0 then F' else e.fp b⟩,fun b=>if b=1 then cs else C b,v,w,k1,⟨⟨fun _ h=>.inr h,fun _ _=>rfl,fun b hb=>?_,Le.refl _,fun _ _ _ _ h=>h⟩,Only.refl _ w,fun b o u m1 m2=>(by rw[m2] at m1;cases m1),fun x hx=>?_⟩,⟨fun b s hs=>?_,fun b s hs=>?_,fun b hb=>?_,fun b b' s s' g h1 h2 m1 m2=>?_,fun b s x hs hx=>?_,hM.inv⟩,?_,rfl⟩
 ·grind
 ·obtain⟨b,s,hb,hx⟩:=hx
  rcases fJ hb with⟨rfl,rfl⟩|⟨rfl,rfl⟩
  ·exact .inr ⟨0,_,rfl,k4 x hx⟩
  exact .inr ⟨0,_,rfl,(k5 x hx).1⟩
 ·rcases fJ hs with⟨rfl,rfl⟩|⟨rfl,rfl⟩
  ·exact .inr h0
  exact⟨.inl rfl,q2,q3,q4,q5⟩
 ·rcases fJ hs with⟨rfl,rfl⟩|⟨rfl,rfl⟩
  ·refine⟨v,k2,fun b' hb'=>?_⟩
   grind
  exact q1
 ·show b<2
  rcases hb with rfl|hb
  ·decide
  have:=hM.bound b hb;simp at this;omega
 ·rcases fJ h1 with⟨rfl,rfl⟩|⟨rfl,rfl⟩<;>rcases fJ h2 with⟨rfl,rfl⟩|⟨rfl,rfl⟩
  ·rfl
  ·exact absurd m1 (k5 g m2).2
  ·exact absurd m2 (k5 g m1).2
  rfl
 ·rcases fJ hs with⟨rfl,rfl⟩|⟨rfl,rfl⟩
  ·exact hav x (k4 x hx)
  exact hav x (k5 x hx).1
 unfold VR
 grind
theorem alp{R R':Rsc}{lk:Option Nat}{ty:TypeId}{n:Nat}{l:List (List Lf)}(h:∀(e:Env) (w:World) (vs:List Value) (v0:Value),e.ok 0→R.At e.I w (e.m 0) (e.im 0) (e.fp 0) v0→(lk=some 1→e.sv 1=v0)→Rw e.I w ty n (e.sv 1) l→(∀x,(e.sv 1).ownBlock=some x→¬e.fp 0 x)→VRs e ds vs→
 ∃v w' F' v1,(k.run vs).run P w=.ok v w'∧R'.At e.I w' (e.m 0) (e.im 0) F' v1∧Only (e.fp 0) w w'∧(∀x,F' x→e.fp 0 x∨(e.sv 1).ownBlock=some x)∧∀e':Env,VR e' r v):
 OpH P G k ds [.res R lk,.row ty n l] r [.res R' none,.dead]:=by
 intro e C w vs hG hM hvs
 have h0:e.ok 0:=hM.hv 0 _ rfl
 obtain⟨v0,hAt,hlk⟩:=hM.hw 0 _ rfl
 have hr:=hM.hv 1 _ rfl
 have hrw:w.ownsRow 0 ty n (e.sv 1) l.length (C 1):=hM.hw 1 _ rfl
 obtain⟨v,w',F',v1,k1,k2,k3,k4,k5⟩:=h e w vs v0 h0 hAt (fun hq=>(hlk 1 hq).2) ⟨C 1,hrw,hr.2⟩ (fun x hx hf=>by have:=hM.inj 0 1 _ _ x rfl rfl hf hx;cases this) hvs
 have hav:∀x,e.fp 0 x→Av e.I x:=fun x hx=>hM.av 0 _ x rfl hx
 refine⟨{ e with fp:=fun b=>if b=0 then F' else e.fp b },C,v,w',k1,⟨⟨fun _ h=>h,fun _ _=>rfl,fun _ _=>rfl,Le.refl _,fun _ _ _ _ h=>h⟩,⟨k3.os,k3.tape,k3.output,k3.size,fun i hi hn=>k3.block i hi (fun hf=>hn ⟨0,_,rfl,hf⟩)⟩,fun b o u m1 m2=>(by rw[m2] at m1;cases m1),fun x hx=>?_⟩,⟨fun b s hs=>?_,fun b s hs=>?_,fun b hb=>hM.bound b hb,fun b b' s s' g h1 h2 m1 m2=>?_,fun b s x hs hx=>?_,hM.inv.O6 k3 hav⟩,k5 _,rfl⟩
 ·obtain⟨b,s,hb,hx⟩:=hx
  rcases fJ hb with⟨rfl,rfl⟩|⟨rfl,rfl⟩
  ·rcases k4 x hx with h1|h1
   ·exact .inr ⟨0,_,rfl,h1⟩
   exact .inr ⟨1,_,rfl,h1⟩
  cases hx
 ·rcases fJ hs with⟨rfl,rfl⟩|⟨rfl,rfl⟩
  ·exact h0
  trivial
 ·rcases fJ hs with⟨rfl,rfl⟩|⟨rfl,rfl⟩
  ·exact⟨v1,k2,fun _ h=>by cases h⟩
  trivial
 ·rcases fJ h1 with⟨rfl,rfl⟩|⟨rfl,rfl⟩<;>rcases fJ h2 with⟨rfl,rfl⟩|⟨rfl,rfl⟩
  ·rfl
  ·cases m2
  ·cases m1
  rfl
 rcases fJ hs with⟨rfl,rfl⟩|⟨rfl,rfl⟩
 ·rcases k4 x hx with h1|h1
  ·grind
  exact hM.av 1 _ x rfl h1
 cases hx
theorem alq{R R':Rsc}{ty:TypeId}{n:Nat}{l:List (List Lf)}(h:∀(e:Env) (w:World) (v0:Value),e.ok 0→R.At e.I w (e.m 0) (e.im 0) (e.fp 0) v0→Rw e.I w ty n v0 l→(∀x,v0.ownBlock=some x→¬e.fp 0 x)→
 ∃F' v1,R'.At e.I w (e.m 0) (e.im 0) F' v1∧∀x,F' x→e.fp 0 x∨v0.ownBlock=some x):
 GhH [.res R (some 1),.row ty n l] [.res R' none,.dead]:=by
 intro e C w hM
 have h0:e.ok 0:=hM.hv 0 _ rfl
 obtain⟨v0,hAt,hlk⟩:=hM.hw 0 _ rfl
 have hr:=hM.hv 1 _ rfl
 have hrw:w.ownsRow 0 ty n (e.sv 1) l.length (C 1):=hM.hw 1 _ rfl
 have hs1:=(hlk 1 rfl).2
 obtain⟨F',v1,k2,k4⟩:=h e w v0 h0 hAt (by rw[←hs1];exact⟨C 1,hrw,hr.2⟩) (fun x hx hf=>by have:=hM.inj 0 1 _ _ x rfl rfl hf (by rw[←hs1] at hx;exact hx);cases this)
 rw[←hs1] at k4
 have hav:∀x,e.fp 0 x→Av e.I x:=fun x hx=>hM.av 0 _ x rfl hx
 refine⟨{ e with fp:=fun b=>if b=0 then F' else e.fp b },C,⟨⟨fun _ h=>h,fun _ _=>rfl,fun _ _=>rfl,Le.refl _,fun _ _ _ _ h=>h⟩,Only.refl _ w,fun b o u m1 m2=>(by rw[m2] at m1;cases m1),fun x hx=>?_⟩,⟨fun b s hs=>?_,fun b s hs=>?_,fun b hb=>hM.bound b hb,fun b b' s s' g h1 h2 m1 m2=>?_,fun b s x hs hx=>?_,hM.inv⟩⟩
 ·obtain⟨b,s,hb,hx⟩:=hx
  rcases fJ hb with⟨rfl,rfl⟩|⟨rfl,rfl⟩
  ·rcases k4 x hx with h1|h1
   ·exact .inr ⟨0,_,rfl,h1⟩
   exact .inr ⟨1,_,rfl,h1⟩
  cases hx
 ·rcases fJ hs with⟨rfl,rfl⟩|⟨rfl,rfl⟩
  ·exact h0
  trivial
 ·rcases fJ hs with⟨rfl,rfl⟩|⟨rfl,rfl⟩
  ·exact⟨v1,k2,fun _ h=>by cases h⟩
  trivial
 ·rcases fJ h1 with⟨rfl,rfl⟩|⟨rfl,rfl⟩<;>rcases fJ h2 with⟨rfl,rfl⟩|⟨rfl,rfl⟩
  ·rfl
  ·cases m2
  ·cases m1
  rfl
 rcases fJ hs with⟨rfl,rfl⟩|⟨rfl,rfl⟩
 ·rcases k4 x hx with h1|h1
  ·grind
  exact hM.av 1 _ x rfl h1
 cases hx
theorem ajh{R R' R2:Rsc}(h:∀(e:Env) (w:World) (vs:List Value) (v0 v2:Value),e.ok 0→e.ok 1→R.At e.I w (e.m 0) (e.im 0) (e.fp 0) v0→R2.At e.I w (e.m 1) (e.im 1) (e.fp 1) v2→(∀x,e.fp 1 x→¬e.fp 0 x)→VRs e ds vs→
 ∃v w' im' F' v1,(k.run vs).run P w=.ok v w'∧R'.At e.I w' (e.m 0) im' F' v1∧(∀j x,e.im 0 j=some x→im' j=some x)∧Only (e.fp 0) w w'∧(∀x,F' x→e.fp 0 x∨e.fp 1 x)∧∀e':Env,VR e' r v):
 OpH P G k ds [.res R none,.res R2 none] r [.res R' none,.dead]:=by
 intro e C w vs hG hM hvs
 have h0:e.ok 0:=hM.hv 0 _ rfl
 have h1:e.ok 1:=hM.hv 1 _ rfl
 obtain⟨v0,hAt,_⟩:=hM.hw 0 _ rfl
 obtain⟨v2,hAt2,_⟩:=hM.hw 1 _ rfl
 obtain⟨v,w',im',F',v1,k1,k2,kim,k3,k4,k5⟩:=h e w vs v0 v2 h0 h1 hAt hAt2 (fun x hx hf=>by have:=hM.inj 0 1 _ _ x rfl rfl hf hx;cases this) hvs
 have hav:∀x,e.fp 0 x→Av e.I x:=fun x hx=>hM.av 0 _ x rfl hx
 refine⟨{ e with im:=fun b=>if b=0 then im' else e.im b,fp:=fun b=>if b=0 then F' else e.fp b },C,v,w',k1,⟨⟨fun _ h=>h,fun _ _=>rfl,fun _ _=>rfl,Le.refl _,fun b _ j x hx=>?_⟩,⟨k3.os,k3.tape,k3.output,k3.size,fun i hi hn=>k3.block i hi (fun hf=>hn ⟨0,_,rfl,hf⟩)⟩,fun b o u m1 m2=>(by rw[m2] at m1;cases m1),fun x hx=>?_⟩,⟨fun b s hs=>?_,fun b s hs=>?_,fun b hb=>hM.bound b hb,fun b b' s s' g h1 h2 m1 m2=>?_,fun b s x hs hx=>?_,hM.inv.O6 k3 hav⟩,k5 _,rfl⟩
 ·grind
 ·obtain⟨b,s,hb,hx⟩:=hx
  rcases fJ hb with⟨rfl,rfl⟩|⟨rfl,rfl⟩
  ·rcases k4 x hx with h1|h1
   ·exact .inr ⟨0,_,rfl,h1⟩
   exact .inr ⟨1,_,rfl,h1⟩
  cases hx
 ·rcases fJ hs with⟨rfl,rfl⟩|⟨rfl,rfl⟩
  ·exact h0
  trivial
 ·rcases fJ hs with⟨rfl,rfl⟩|⟨rfl,rfl⟩
  ·exact⟨v1,k2,fun _ h=>by cases h⟩
  trivial
 ·rcases fJ h1 with⟨rfl,rfl⟩|⟨rfl,rfl⟩<;>rcases fJ h2 with⟨rfl,rfl⟩|⟨rfl,rfl⟩
  ·rfl
  ·cases m2
  ·cases m1
  rfl
 rcases fJ hs with⟨rfl,rfl⟩|⟨rfl,rfl⟩
 ·rcases k4 x hx with h1|h1
  ·grind
  exact hM.av 1 _ x rfl h1
 cases hx
theorem BF(n:Nat):∀(l:List (List Lf)) (k:Nat),(∀r∈l,r.length=n)→(l.take k).flatten=l.flatten.take (k*n)
 |[],k,_=>by simp
 |a::r,0,_=>by simp
 |a::r,k+1,h=>by
  have ha:=h a (by simp)
  rw[List.take_succ_cons,List.flatten_cons,List.flatten_cons,List.take_append,BF n r k (fun z hz=>h z (by simp[hz])),ha,Nat.succ_mul,Nat.add_sub_cancel,List.take_of_length_le (l:=a) (by rw[ha];omega)]
theorem alr{t ty:TypeId}{n:Nat}{l:List (List Lf)}{m:Int}(ht:P.underlying t=some (.slice ty)){s0:Nat}(hi:(P.info? ty).map (·.size)=some s0)(h0:0≤m)(h1:m≤l.length):OpH P G (.cut t) [.own 0,.lf (.int .i64 m)] [.row ty n l] (.own 1) [.dead,.row ty n (l.take m.toNat)]:=by
 intro e C w vs hG hM hvs
 unfold VRs at hvs
 obtain⟨u,q,rfl,hu,hq⟩:=hvs
 unfold VRs at hq
 obtain⟨x,q',rfl,hx,hq⟩:=hq
 unfold VRs at hq
 subst hq
 unfold VR at hu
 obtain⟨k0,rfl,_⟩:=hu
 obtain⟨rfl,_⟩:=hx.int
 have hr:=hM.hv 0 _ rfl
 have hrw:w.ownsRow 0 ty n (e.sv 0) l.length (C 0):=hM.hw 0 _ rfl
 have n1:¬e.ok 1:=fun hb=>by have:=hM.bound 1 hb;simp at this
 have hm:m.toNat≤l.length:=by omega
 have hlen:(l.take m.toNat).length=m.toNat:=by rw[List.length_take];omega
 have hfl:(l.take m.toNat).flatten=l.flatten.take (m.toNat*n):=BF n l m.toNat hr.2.2.1
 have htw:∀x∈l.take m.toNat,x.length=n:=fun x hx=>hr.2.2.1 x (List.mem_of_mem_take hx)
 have hel:P.elem t=ty:=by unfold Program.elem;rw[ht]
 have hts:P.underlying t=some (.slice (P.elem t)):=by rw[hel];exact ht
 have fin:∀v:Value,(Instr.sliceAt t (e.sv 0) none (some (.int .i64 m)) none).run P w=.ok v w→(∀x,v.ownBlock=some x→(e.sv 0).ownBlock=some x)→w.ownsRow 0 ty n v m.toNat ((C 0).take (m.toNat*n))→((v=.slice none 0 0∧l.take m.toNat=[])∨∃g c,v=.slice (some ⟨g,0,none⟩) (l.take m.toNat).length c)→
  ∃e' C' v w',((OpK.cut t).run [e.sv 0,.int .i64 m]).run P w=.ok v w'∧GrH e [.row ty n l] e' [.dead,.row ty n (l.take m.toNat)] w w'∧mY e' C' [.dead,.row ty n (l.take m.toNat)] w'∧VR e' (.own 1) v∧e'.I=e.I:=fun v q1 q2 q3 q4=>by
  have q2':∀b s x,([Slot.dead,.row ty n (l.take m.toNat)]:List Slot)[b]?=some s→dV (⟨fun b=>b=1∨e.ok b,e.m,fun b=>if b=1 then v else e.sv b,e.I,e.im,e.fp⟩:Env) b s x→b=1∧(e.sv 0).ownBlock=some x:=fun b s x hs hx=>by
   rcases fJ hs with⟨rfl,rfl⟩|⟨rfl,rfl⟩
   ·cases hx
   exact⟨rfl,q2 x hx⟩
  refine⟨⟨fun b=>b=1∨e.ok b,e.m,fun b=>if b=1 then v else e.sv b,e.I,e.im,e.fp⟩,fun b=>if b=1 then(C 0).take (m.toNat*n) else C b,v,w,q1,⟨⟨fun _ h=>.inr h,fun _ _=>rfl,fun b hb=>?_,Le.refl _,fun _ _ _ _ h=>h⟩,Only.refl _ w,fun b o u m1 m2=>(by rw[m2] at m1;cases m1),fun x hx=>?_⟩,⟨fun b s hs=>?_,fun b s hs=>?_,fun b hb=>?_,fun b b' s s' g h1 h2 m1 m2=>?_,fun b s x hs hx=>?_,hM.inv⟩,?_,rfl⟩
  ·show(if b=1 then v else e.sv b)=e.sv b
   rw[if_neg (by rintro rfl;exact n1 hb)]
  ·obtain⟨b,s,hb,hx⟩:=hx
   exact .inr ⟨0,_,rfl,(q2' b s x hb hx).2⟩
  ·rcases fJ hs with⟨rfl,rfl⟩|⟨rfl,rfl⟩
   ·trivial
   refine⟨.inl rfl, ?_, htw, Nat.le_trans (by rw[hlen];exact hm) hr.2.2.2.1, q4⟩
   show bV e.I _ ((C 0).take (m.toNat*n))
   rw[hfl]
   exact bV.takeN _ _ _ hr.2.1
  ·rcases fJ hs with⟨rfl,rfl⟩|⟨rfl,rfl⟩
   ·trivial
   show w.ownsRow 0 ty n v (l.take m.toNat).length _
   rw[hlen];exact q3
  ·show b<2
   rcases hb with rfl|hb
   ·decide
   have:=hM.bound b hb;simp at this;omega
  ·rw[(q2' b s g h1 m1).1,(q2' b' s' g h2 m2).1]
  ·exact hM.av 0 _ x rfl (q2' b s x hs hx).2
  unfold VR
  refine⟨.inl rfl,rfl,?_⟩
  rcases q4 with q4|⟨g,c,q4⟩
  ·exact⟨_,_,_,q4.1⟩
  exact⟨_,_,_,q4⟩
 have hrun:∀a len cap,e.sv 0=.slice a len cap→m≤cap→(Instr.sliceAt t (e.sv 0) none (some (.int .i64 m)) none).run P w=.ok (sliced a 0 m.toNat cap s0) w:=fun a len cap ha hc=>by
  rw[ha,run_sliceAt_slice w t _ _ _ _ hts,run_slice_h w t a len cap hts .i64 m h0 hc,hel,run_sizeOf' hi];rfl
 rcases hrw.2 with⟨q1,q2⟩|⟨g,cap,cur,q1,q2,q3,q4,q5,q6,q7⟩
 ·have hm0:m.toNat=0:=by omega
  refine fin (.slice none 0 0) ?_ (fun x hx=>by cases hx) ?_ (.inl ⟨rfl,by rw[hm0];rfl⟩)
  ·rw[hrun none 0 0 q1 (by omega),hm0];rfl
  rw[hm0,Nat.zero_mul,List.take_zero];exact World.ownsRow_nil _ _ _ _
 refine fin (.slice (some ⟨g, 0, none⟩) m.toNat cap) ?_ (fun x hx=>by rw[q1];exact hx) ?_ (.inr ⟨g, cap, by rw[hlen]⟩)
 ·rw[hrun _ _ _ q1 (by omega)]
  unfold sliced
  simp[Addr.add]
 have hc:(C 0).length=l.length*n:=hrw.1
 refine⟨?_,.inr ⟨g,cap,cur,rfl,q2,q3,by omega,q5,q6,?_⟩⟩
 ·simp_all
 rw[←q7,List.take_take,Nat.min_eq_left (Nat.mul_le_mul_right n hm)]
theorem als{t ty:TypeId}{n:Nat}{α:Type}{f:α→List Lf}{l:List α}{m:Int}(ht:P.underlying t=some (.slice ty)){s0:Nat}(hi:(P.info? ty).map (·.size)=some s0)(h0:0≤m)(h1:m≤l.length):OpH P G (.aaT t) [.own 0,.lf (.int .i64 m)] [.row ty n (l.map f)] .any [.row ty n (l.map f)]:=by
 intro e C w vs hG hM hvs
 unfold VRs at hvs
 obtain⟨u,q,rfl,hu,hq⟩:=hvs
 unfold VRs at hq
 obtain⟨x,q',rfl,hx,hq⟩:=hq
 unfold VRs at hq
 subst hq
 unfold VR at hu
 obtain⟨k0,rfl,_⟩:=hu
 obtain⟨rfl,_⟩:=hx.int
 have hr:=hM.hv 0 _ rfl
 have hel:P.elem t=ty:=by unfold Program.elem;rw[ht]
 have hts:P.underlying t=some (.slice (P.elem t)):=by rw[hel];exact ht
 have hlen:(l.map f).length=l.length:=List.length_map ..
 have hrw:w.ownsRow 0 ty n (e.sv 0) (l.map f).length (C 0):=hM.hw 0 _ rfl
 have fin:∀a len cap,e.sv 0=.slice a len cap→m≤len→len≤cap→∃e' C' v w',((OpK.aaT t).run [e.sv 0,.int .i64 m]).run P w=.ok v w'∧GrH e [.row ty n (l.map f)] e' [.row ty n (l.map f)] w w'∧mY e' C' [.row ty n (l.map f)] w'∧VR e' .any v∧e'.I=e.I:=fun a len cap ha hm hc=>
  ⟨e,C,sliced a m.toNat len cap s0,w,by
   show(Instr.sliceAt t (e.sv 0) (some (.int .i64 m)) none none).run P w=_
   rw[ha,run_sliceAt_slice w t _ _ _ _ hts,run_slice_l w t a len cap hts .i64 m h0 hm,hel,run_sizeOf' hi];rfl,⟨Env.le.refl e,Only.refl _ w,fun b o u m1 m2=>(by rw[m2] at m1;cases m1),fun x hx=>.inr hx⟩,hM,by unfold VR;trivial,rfl⟩
 rcases hrw.2 with⟨q1,q2⟩|⟨g,cap,cur,q1,q2,q3,q4,q5,q6,q7⟩
 all_goals grind
end
end Go.Proofs.YtpdlghcgekojlaaGreatDoor
namespace Go.Proofs.YtpdlghcgekojlaaGreatDoor
open Go.RowKit
structure RM (α:Type) where
 dir:List (ByteArray×Nat)
 maps:List (List (ByteArray×List α))
section
variable {α:Type}
def RM.inner(d:RM α)(j:Nat):List (ByteArray×List α):=d.maps.getD j []
def RM.row(d:RM α):Option Nat→ByteArray→List α
 |none,_=>[]
 |some j,s=>(aI s (d.inner j)).getD []
def RM.has(d:RM α):Option Nat→ByteArray→Bool
 |none,_=>false
 |some j,s=>(aI s (d.inner j)).isSome
def outOf:Option Nat→ByteArray→Option (Nat×ByteArray)
 |none,_=>none
 |some j,s=>some (j,s)
def RM.set(d:RM α)(j:Nat)(l:List (ByteArray×List α)):RM α:=⟨d.dir,d.maps.set j l⟩
def RM.put(d:RM α)(j:Nat)(s:ByteArray)(r:List α):RM α:=d.set j (eF s r (d.inner j))
def RM.del(d:RM α)(j:Nat)(s:ByteArray):RM α:=d.set j (dH s (d.inner j))
def RM.link(d:RM α)(s:ByteArray)(j:Nat):RM α:=⟨eF s j d.dir,d.maps⟩
def RM.unlink(d:RM α)(s:ByteArray):RM α:=⟨dH s d.dir,d.maps⟩
def RM.make(d:RM α)(s:ByteArray):RM α:=⟨eF s d.maps.length d.dir,d.maps++[[]]⟩
inductive Tag where
 |root
 |map (j:Nat)
 |row (j:Nat) (s:ByteArray)
def mM(d:RM α)(out:Option (Nat×ByteArray))(g:Nat)(bm:Nat→Nat)(rv:Nat→ByteArray→Value):Tag→Nat→Prop
 |.root,x=>x=g
 |.map j,x=>j<d.maps.length∧x=bm j
 |.row j s,x=>j<d.maps.length∧(aI s (d.inner j)).isSome=true∧out≠some (j,s)∧(rv j s).ownBlock=some x
structure Dv (P:Program) (kO kI ty:TypeId) (n:Nat) (f:α→List Lf) (d:RM α) (out:Option (Nat×ByteArray)) (I:Gh) (w:World) (g:Nat) (im:Nat→Option Nat) (F:Nat→Prop) (v:Value) (bm:Nat→Nat) (rv:Nat→ByteArray→Value):Prop where
 im:∀j,im j=if j<d.maps.length then some (bm j) else none
 root:ji w P kO g (d.dir.map fun p=>(p.1,.map (some (bm p.2))))
 dir:∀p∈d.dir,p.2<d.maps.length
 inner:∀j,j<d.maps.length→ji w P kI (bm j) ((d.inner j).map fun p=>(p.1,rv j p.1))
 rows:∀j s r,j<d.maps.length→aI s (d.inner j)=some r→out≠some (j,s)→Rw I w ty n (rv j s) (r.map f)
 G9:∀j s,out=some (j,s)→j<d.maps.length→v=if(aI s (d.inner j)).isSome then rv j s else .slice none 0 0
 F:∀x,F x↔∃t,mM d out g bm rv t x
 inj:∀t t' x,mM d out g bm rv t x→mM d out g bm rv t' x→t=t'
theorem Dv.lt{P:Program}{kO kI ty:TypeId}{n:Nat}{f:α→List Lf}{d:RM α}{out:Option (Nat×ByteArray)}{I:Gh}{w:World}{g:Nat}{im:Nat→Option Nat}{F:Nat→Prop}{v:Value}{bm:Nat→Nat}{rv:Nat→ByteArray→Value}
 (h:Dv P kO kI ty n f d out I w g im F v bm rv):∀x,F x→x<w.heap.size:=fun x hx=>by
 obtain⟨t,ht⟩:=(h.F x).1 hx
 cases t with
 |root=>have ht:x=g:=ht;rw[ht];exact h.root.lt
 |map j=>obtain⟨h1,rfl⟩:=ht;exact(h.inner j h1).lt
 |row j s=>
  obtain⟨h1,h2,h3,h4⟩:=ht
  obtain⟨r,hr⟩:=Option.isSome_iff_exists.1 h2
  exact(h.rows j s r h1 hr h3).lt h4
theorem Dv.mono{P:Program}{kO kI ty:TypeId}{n:Nat}{f:α→List Lf}{d:RM α}{out:Option (Nat×ByteArray)}{I I':Gh}{w w':World}{g:Nat}{im:Nat→Option Nat}{F:Nat→Prop}{v:Value}{bm:Nat→Nat}{rv:Nat→ByteArray→Value}
 (h:Dv P kO kI ty n f d out I w g im F v bm rv) (hI:Le I I') (k:∀x,F x→w'.heap[x]?=w.heap[x]?):Dv P kO kI ty n f d out I' w' g im F v bm rv where
 im:=h.im
 root:=h.root.congr (k _ ((h.F _).2 ⟨.root,rfl⟩))
 dir:=h.dir
 inner:=fun j hj=>(h.inner j hj).congr (k _ ((h.F _).2 ⟨.map j,hj,rfl⟩))
 rows:=fun j s r hj hr ho=>(h.rows j s r hj hr ho).congr hI fun x hx=>k _ ((h.F _).2 ⟨.row j s,hj,by rw[hr];rfl,ho,hx⟩)
 G9:=h.G9
 F:=h.F
 inj:=h.inj
def MM(P:Program)(kO kI ty:TypeId)(n:Nat)(f:α→List Lf)(d:RM α)(out:Option (Nat×ByteArray)):Rsc where
 At:=fun I w g im F v=>∃bm rv,Dv P kO kI ty n f d out I w g im F v bm rv
 mono:=fun⟨bm,rv,h⟩ hI k=>⟨bm,rv,h.mono hI k⟩
 lt:=fun⟨_,_,h⟩=>h.lt
def IM(P:Program)(kI:TypeId):Rsc where
 At:=fun _ w g _ F _=>ji w P kI g []∧∀x,F x↔x=g
 mono:=fun⟨h,k⟩ _ q=>⟨h.congr (q _ ((k _).2 rfl)),k⟩
 lt:=fun⟨h,k⟩ x hx=>by rw[(k x).1 hx];exact h.lt
structure LW (P:Program) (tO tI kO kI:TypeId):Prop where
 sO:P.underlying kO=some .string
 sI:P.underlying kI=some .string
 mO:∃e,P.underlying tO=some (.map kO e)∧∀w,(zeroValue e).run P w=.ok (.map none) w
 mI:∃e,P.underlying tI=some (.map kI e)∧∀w,(zeroValue e).run P w=.ok (.slice none 0 0) w
section
variable {P:Program} {G:Gh→Prop} {tO tI kO kI ty:TypeId} {n:Nat} {f:α→List Lf} {d:RM α} {s:ByteArray}
theorem LX{e:Env}{x y:AV}{vs:List Value}(h:VRs e [x,y] vs):∃u v,vs=[u,v]∧VR e x u∧VR e y v:=by
 unfold VRs at h
 obtain⟨u,q,rfl,h1,h2⟩:=h
 unfold VRs at h2
 obtain⟨v,q',rfl,h3,h4⟩:=h2
 unfold VRs at h4
 grind
theorem LY{e:Env}{x y z:AV}{vs:List Value}(h:VRs e [x,y,z] vs):∃u v t,vs=[u,v,t]∧VR e x u∧VR e y v∧VR e z t:=by
 unfold VRs at h
 obtain⟨u,q,rfl,h1,h2⟩:=h
 obtain⟨v,t,rfl,h3,h4⟩:=LX h2
 grind
theorem Wv(d:RM α)(bm:Nat→Nat)(s:ByteArray):aI s (d.dir.map fun p=>(p.1,Value.map (some (bm p.2))))=(aI s d.dir).map fun j=>.map (some (bm j)):=IC (fun j=>Value.map (some (bm j))) s d.dir
theorem qR{γ:Type}(l:List (ByteArray×γ))(h:ByteArray→Value)(s:ByteArray):aI s (l.map fun p=>(p.1,h p.1))=(aI s l).map fun _=>h s:=by
 induction l with
 |nil=>rfl
 |cons p r ih=>
  obtain⟨t,y⟩:=p
  simp only[List.map_cons,aI]
  grind
theorem abm{e:Env}{o:Option Nat}{bm:Nat→Nat}(h0:e.ok 0)(hj:∀j,o=some j→e.im 0 j=some (bm j)):VR e (.hnd 0 o) ((o.map fun j=>Value.map (some (bm j))).getD (.map none)):=by
 unfold VR
 grind
theorem MM.look(T:LW P tO tI kO kI)(out:Option (Nat×ByteArray)):OpH P G (.lk tO false) [.mp 0,.lf (.str s)] [.res (MM P kO kI ty n f d out) none] (.hnd 0 (aI s d.dir)) [.res (MM P kO kI ty n f d out) none]:=by
 refine Ht fun e w vs v0 h0 ⟨bm,rv,hA⟩ hvs=>?_
 obtain⟨u,v,rfl,hu,hv⟩:=LX hvs
 unfold VR at hu
 obtain⟨rfl,hs⟩:=hv.str
 rw[hu.2]
 obtain⟨eO,mO,zO⟩:=T.mO
 have h1:=hA.root.look T.sO mO (zO w) hs
 rw[Wv] at h1
 refine⟨_,w,e.im 0,e.fp 0,v0,h1,⟨bm,rv,hA⟩,fun _ _ h=>h,Only.refl _ w,fun _ h=>.inr h,fun e' q0 qi qI=>abm q0 fun j hj=>?_⟩
 rw[qi,hA.im j,if_pos (hA.dir (s,j) (kQ hj))]
theorem MM.Uf(T:LW P tO tI kO kI)(out:Option (Nat×ByteArray)):OpH P G (.lk tO true) [.mp 0,.lf (.str s)] [.res (MM P kO kI ty n f d out) none] (.tup [.hnd 0 (aI s d.dir),.lf (.bool (aI s d.dir).isSome)]) [.res (MM P kO kI ty n f d out) none]:=by
 refine Ht fun e w vs v0 h0 ⟨bm,rv,hA⟩ hvs=>?_
 obtain⟨u,v,rfl,hu,hv⟩:=LX hvs
 unfold VR at hu
 obtain⟨rfl,hs⟩:=hv.str
 rw[hu.2]
 obtain⟨eO,mO,zO⟩:=T.mO
 have h1:=hA.root.look_ok T.sO mO (zO w) hs
 rw[Wv,Option.isSome_map] at h1
 refine⟨_,w,e.im 0,e.fp 0,v0,h1,⟨bm,rv,hA⟩,fun _ _ h=>h,Only.refl _ w,fun _ h=>.inr h,fun e' q0 qi qI=>VR.tup.2 ⟨[_,_],rfl,VRs.cons (abm q0 fun j hj=>?_) (VRs.one VR.jd)⟩⟩
 rw[qi,hA.im j,if_pos (hA.dir (s,j) (kQ hj))]
theorem mM.LZ{out:Option (Nat×ByteArray)}{g:Nat}{bm:Nat→Nat}{rv:Nat→ByteArray→Value}{t:Tag}{x:Nat}(h:mM d out g bm rv t x):mM d none g bm rv t x:=by
 cases t with
 |root=>exact h
 |map j=>exact h
 |row j s=>exact⟨h.1,h.2.1,(by simp),h.2.2.2⟩
theorem MM.take(T:LW P tO tI kO kI)(o:Option Nat):OpH P G (.lk tI false) [.hnd 0 o,.lf (.str s)] [.res (MM P kO kI ty n f d none) none] (.own 1) [.res (MM P kO kI ty n f d (outOf o s)) (some 1),.row ty n ((d.row o s).map f)]:=by
 refine ajg fun e w vs v0 h0 ⟨bm,rv,hA⟩ hvs=>?_
 obtain⟨u,v,rfl,hu,hv⟩:=LX hvs
 unfold VR at hu
 obtain⟨rfl,hs⟩:=hv.str
 obtain⟨eI,mI,zI⟩:=T.mI
 cases o with
 |none=>
  obtain⟨_,rfl⟩:=hu
  exact⟨_,e.fp 0,Maps.look_nil false (Maps.string_keyed T.sI) mI (zI w) (WideMaps.keyOf_string_mk T.sI hs),⟨bm,rv,{ hA with G9:=fun _ _ h=>by cases h }⟩,Rw.nil _ _ _ _,fun _ h=>h,fun x hx=>by cases hx⟩
 |some j=>
  obtain⟨_,r,hj,rfl⟩:=hu
  rw[hA.im j] at hj
  split at hj
  ·rename_i hlt
   injection hj with hj
   subst hj
   have h1:=(hA.inner j hlt).look T.sI mI (zI w) hs
   rw[qR] at h1
   have hsub:∀x,(∃t,mM d (some (j,s)) (e.m 0) bm rv t x)→e.fp 0 x:=fun x ⟨t,ht⟩=>(hA.F x).2 ⟨t,ht.LZ⟩
   refine⟨_,fun x=>∃t,mM d (some (j,s)) (e.m 0) bm rv t x,h1,⟨bm,rv,⟨hA.im,hA.root,hA.dir,hA.inner,fun j' s' r hj' hr _=>hA.rows j' s' r hj' hr (by simp),fun j' s' hq _=>?_,fun x=>Iff.rfl,fun t t' x k1 k2=>hA.inj t t' x k1.LZ k2.LZ⟩⟩,?_,hsub,fun x hx=>?_⟩
   ·injection hq with hq;injection hq with q1 q2;subst q1 q2
    cases aI s (d.inner j)<;>rfl
   ·show Rw e.I w ty n _ (((aI s (d.inner j)).getD []).map f)
    cases hg:aI s (d.inner j) with
    |none=>exact Rw.nil _ _ _ _
    |some r=>exact hA.rows j s r hlt hg (by simp)
   cases hg:aI s (d.inner j) with
   |none=>rw[hg] at hx;cases hx
   |some r=>
    rw[hg] at hx
    have hx:(rv j s).ownBlock=some x:=hx
    have ht:mM d none (e.m 0) bm rv (.row j s) x:=⟨hlt,by rw[hg];rfl,by simp,hx⟩
    refine⟨(hA.F x).2 ⟨_,ht⟩,fun⟨t,h2⟩=>?_⟩
    have:=hA.inj t _ x h2.LZ ht
    subst this
    exact h2.2.2.1 rfl
  cases hj
theorem MM.back(o:Option Nat):GhH [.res (MM P kO kI ty n f d (outOf o s)) (some 1),.row ty n ((d.row o s).map f)] [.res (MM P kO kI ty n f d none) none,.dead]:=by
 refine alq fun e w v0 h0 ⟨bm,rv,hA⟩ hr hd=>?_
 cases o with
 |none=>exact⟨e.fp 0,v0,⟨bm,rv,hA⟩,fun x hx=>.inl hx⟩
 |some j=>
  have cs:∀t x,mM d none (e.m 0) bm rv t x→mM d (some (j,s)) (e.m 0) bm rv t x∨(t=.row j s∧v0.ownBlock=some x):=fun t x ht=>by
   cases t with
   |root=>exact .inl ht
   |map j'=>exact .inl ht
   |row j' s'=>
    by_cases hq:(some (j,s):Option (Nat×ByteArray))=some (j',s')
    ·injection hq with hq;injection hq with q1 q2;subst q1 q2
     refine .inr ⟨rfl,?_⟩
     have:=hA.G9 j s rfl ht.1
     rw[if_pos ht.2.1] at this
     rw[this];exact ht.2.2.2
    exact .inl ⟨ht.1,ht.2.1,hq,ht.2.2.2⟩
  refine⟨fun x=>∃t,mM d none (e.m 0) bm rv t x,v0,⟨bm,rv,⟨hA.im,hA.root,hA.dir,hA.inner,fun j' s' r hj' hr' _=>?_,fun _ _ h=>(by cases h),fun x=>Iff.rfl,fun t t' x k1 k2=>?_⟩⟩,fun x ⟨t,ht⟩=>?_⟩
  ·by_cases hq:(some (j,s):Option (Nat×ByteArray))=some (j',s')
   ·injection hq with hq;injection hq with q1 q2;subst q1 q2
    have:=hA.G9 j s rfl hj'
    simp only[hr',Option.isSome_some,if_true] at this
    have h2:d.row (some j) s=r:=by show(aI s (d.inner j)).getD []=r;rw[hr'];rfl
    grind
   exact hA.rows j' s' r hj' hr' hq
  ·rcases cs t x k1 with q1|⟨rfl,q1⟩<;>rcases cs t' x k2 with q2|⟨rfl,q2⟩
   ·exact hA.inj t t' x q1 q2
   ·exact absurd ((hA.F x).2 ⟨t,q1⟩) (hd x q2)
   ·exact absurd ((hA.F x).2 ⟨t',q2⟩) (hd x q1)
   rfl
  rcases cs t x ht with k1|⟨_,k1⟩
  ·exact .inl ((hA.F x).2 ⟨t,k1⟩)
  grind
theorem BG(d:RM α){j:Nat}(hj:j<d.maps.length)(l:List (ByteArray×List α)):(d.set j l).inner j=l:=by
 unfold RM.set RM.inner
 grind
theorem sS(d:RM α){j j':Nat}(hne:j'≠j)(l:List (ByteArray×List α)):(d.set j l).inner j'=d.inner j':=by
 unfold RM.set RM.inner
 grind
theorem Dv.Wx{out:Option (Nat×ByteArray)}{I:Gh}{w w':World}{g:Nat}{im:Nat→Option Nat}{F:Nat→Prop}{v:Value}{bm:Nat→Nat}{rv rv':Nat→ByteArray→Value}(h:Dv P kO kI ty n f d out I w g im F v bm rv)
 {j:Nat} (hj:j<d.maps.length) (hg:w.grownBy w' (some (bm j))) {l:List (ByteArray×List α)} (hl:ji w' P kI (bm j) (l.map fun p=>(p.1,rv' j p.1))) (ho:out=none∨∃s,out=some (j,s)) (hne:∀j',j'≠j→rv' j'=rv j') (N:Nat→Prop) (hN:∀x,N x→¬F x) (s0:ByteArray)
 (hr:∀s r,aI s l=some r→Rw I w' ty n (rv' j s) (r.map f)) (hb:∀s x,(aI s l).isSome=true→(rv' j s).ownBlock=some x→(mM d out g bm rv (.row j s) x)∨(s=s0∧N x)):
 ∃F',Dv P kO kI ty n f (d.set j l) none I w' g im F' v bm rv'∧∀x,F' x→F x∨N x:=by
 have hlen:(d.set j l).maps.length=d.maps.length:=by simp[RM.set]
 have hF:∀t x,mM d out g bm rv t x→F x:=fun t x ht=>(h.F x).2 ⟨t,ht⟩
 have keep:∀t x,mM d out g bm rv t x→t≠.map j→w'.heap[x]?=w.heap[x]?:=fun t x ht hne=>hg.block x (h.lt x (hF t x ht)) (fun e=>by
  injection e with e;subst e
  exact hne (h.inj _ _ _ ht ⟨hj,rfl⟩))
 have hout:∀j' s',j'≠j→out≠some (j',s'):=fun j' s' hj' e=>by
  grind
 have cs:∀t x,mM (d.set j l) none g bm rv' t x→mM d out g bm rv t x∨(t=.row j s0∧N x):=fun t x ht=>by
  cases t with
  |root=>exact .inl ht
  |map j'=>obtain⟨h1,h2⟩:=ht;exact .inl ⟨by rw[←hlen];exact h1,h2⟩
  |row j' s'=>
   obtain⟨h1,h2,_,h4⟩:=ht
   rw[hlen] at h1
   by_cases hjj:j'=j
   ·subst hjj
    rw[BG d hj] at h2
    grind
   rw[sS d hjj] at h2
   rw[hne j' hjj] at h4
   exact .inl ⟨h1,h2,hout j' s' hjj,h4⟩
 refine⟨fun x=>∃t,mM (d.set j l) none g bm rv' t x,⟨fun j'=>?_,?_,fun p hp=>?_,fun j' hj'=>?_,fun j' s' r hj' hr' _=>?_,fun _ _ e=>(by cases e),fun x=>Iff.rfl,fun t t' x k1 k2=>?_⟩,fun x ⟨t,ht⟩=>?_⟩
 ·rw[hlen];exact h.im j'
 ·exact h.root.congr (keep .root _ rfl (by simp))
 ·rw[hlen];exact h.dir p hp
 ·rw[hlen] at hj'
  by_cases hjj:j'=j
  ·subst hjj;rw[BG d hj];exact hl
  rw[sS d hjj,hne j' hjj]
  exact(h.inner j' hj').congr (keep (.map j') _ ⟨hj',rfl⟩ (fun e=>hjj (by injection e)))
 ·rw[hlen] at hj'
  by_cases hjj:j'=j
  ·subst hjj
   rw[BG d hj] at hr'
   grind
  rw[sS d hjj] at hr'
  rw[hne j' hjj]
  exact(h.rows j' s' r hj' hr' (hout j' s' hjj)).congr (Le.refl _) fun x hx=>keep (.row j' s') x ⟨hj',by rw[hr'];rfl,hout j' s' hjj,hx⟩ (by simp)
 ·rcases cs t x k1 with q1|⟨rfl,q1⟩<;>rcases cs t' x k2 with q2|⟨rfl,q2⟩
  ·exact h.inj t t' x q1 q2
  all_goals grind
 grind
theorem IG{β γ:Type}(h h':ByteArray→β)(s:ByteArray)(x:γ)(l:List (ByteArray×γ))(hh:∀t,t≠s→h' t=h t):(eF s x l).map (fun p=>(p.1,h' p.1))=eF s (h' s) (l.map fun p=>(p.1,h p.1)):=by
 unfold eF
 have e1:dH s (l.map fun p=>(p.1,h p.1))=(dH s l).map fun p=>(p.1,h' p.1):=by
  unfold dH
  rw[List.filter_map]
  refine List.map_congr_left fun p hp=>?_
  grind
 rw[e1]
 generalize dH s l=m
 induction m with
 |nil=>rfl
 |cons p r ih=>
  obtain⟨t,y⟩:=p
  simp only[iQ,List.map_cons]
  grind
theorem II{β γ:Type}(h:ByteArray→β)(s:ByteArray)(l:List (ByteArray×γ)):(dH s l).map (fun p=>(p.1,h p.1))=dH s (l.map fun p=>(p.1,h p.1)):=by
 unfold dH
 rw[List.filter_map];rfl
theorem MM.putRow(T:LW P tO tI kO kI){out:Option (Nat×ByteArray)}{lk:Option Nat}{j:Nat}{r:List α}(hlen:(d.inner j).length<maxLen)(ho:out=none∨out=some (j,s)):
 OpH P G (.up tI) [.hnd 0 (some j),.lf (.str s),.own 1] [.res (MM P kO kI ty n f d out) lk,.row ty n (r.map f)] (.raw undef) [.res (MM P kO kI ty n f (d.put j s r) none) none,.dead]:=by
 refine alp fun e w vs v0 h0 ⟨bm,rv,hA⟩ _ hrow hdis hvs=>?_
 obtain⟨u,v,y,rfl,hu,hv,hy⟩:=LY hvs
 unfold VR at hu hy
 obtain⟨rfl,hs⟩:=hv.str
 obtain⟨_,rfl,_⟩:=hy
 obtain⟨_,q,hj,rfl⟩:=hu
 rw[hA.im j] at hj
 split at hj
 ·rename_i hlt
  injection hj with hj
  subst hj
  obtain⟨eI,mI,zI⟩:=T.mI
  obtain⟨w',h1,h2,h3,h4⟩:=(hA.inner j hlt).store T.sI mI (by rw[List.length_map];exact hlen) hs (e.sv 1)
  obtain⟨rv',hrv⟩:∃rv':Nat→ByteArray→Value,rv'=fun a b=>if a=j∧b=s then e.sv 1 else rv a b:=⟨_,rfl⟩
  have r1:rv' j s=e.sv 1:=by subst hrv;simp
  have r2:∀b,b≠s→rv' j b=rv j b:=fun b hb=>by subst hrv;simp[hb]
  have r3:∀a,a≠j→rv' a=rv a:=fun a ha=>by subst hrv;funext b;simp[ha]
  have hFj:e.fp 0 (bm j):=(hA.F _).2 ⟨.map j,hlt,rfl⟩
  have H2:∀s' r',aI s' (eF s r (d.inner j))=some r'→Rw e.I w' ty n (rv' j s') (r'.map f):=fun s' r' hr'=>by
   by_cases hss:s'=s
   ·subst hss
    rw[fH] at hr'
    injection hr' with hr'
    rw[r1,←hr']
    exact hrow.congr (Le.refl _) fun x hx=>h3.block x (hrow.lt hx) (fun eq=>by injection eq with eq;subst eq;exact hdis _ hx hFj)
   rw[gV (Ne.symm hss)] at hr'
   rw[r2 s' hss]
   have hout:out≠some (j,s'):=fun eq=>by
    rcases ho with rfl|rfl
    ·cases eq
    injection eq with eq;injection eq with _ eq;exact hss eq.symm
   have hRw:=hA.rows j s' r' hlt hr' hout
   exact hRw.congr (Le.refl _) fun x hx=>h3.block x (hRw.lt hx) (fun eq=>by
    injection eq with eq;subst eq
    have:=hA.inj (.row j s') (.map j) _ ⟨hlt,by rw[hr'];rfl,hout,hx⟩ ⟨hlt,rfl⟩
    cases this)
  have H3:∀s' x,(aI s' (eF s r (d.inner j))).isSome=true→(rv' j s').ownBlock=some x→(mM d out (e.m 0) bm rv (.row j s') x)∨(s'=s∧(e.sv 1).ownBlock=some x):=fun s' x hs' hx=>by
   by_cases hss:s'=s
   ·subst hss
    rw[r1] at hx
    exact .inr ⟨rfl,hx⟩
   rw[gV (Ne.symm hss)] at hs'
   rw[r2 s' hss] at hx
   refine .inl ⟨hlt,hs',fun eq=>?_,hx⟩
   rcases ho with rfl|rfl
   ·cases eq
   injection eq with eq;injection eq with _ eq;exact hss eq.symm
  obtain⟨F',k1,k2⟩:=hA.Wx (rv':=rv') hlt h3 (l:=eF s r (d.inner j)) (by rw[IG (rv j) (rv' j) s r _ r2,r1];exact h2) (by rcases ho with h|h;exact .inl h;exact .inr ⟨s,h⟩) r3 (fun x=>(e.sv 1).ownBlock=some x) hdis s H2 H3
  refine⟨undef,w',F',v0,?_,⟨bm,rv',k1⟩,lM h3 hFj,k2,fun e'=>by unfold VR;rfl⟩
  show((do Instr.mapUpdate tI _ _ _;pure undef:Sem Value)).run P w=_
  rw[Sem.run_bind,h1];rfl
 cases hj
theorem MM.delRow(T:LW P tO tI kO kI){j:Nat}:OpH P G (.del tI kI) [.hnd 0 (some j),.lf (.str s)] [.res (MM P kO kI ty n f d none) none] (.tup []) [.res (MM P kO kI ty n f (d.del j s) none) none]:=by
 refine Ht fun e w vs v0 h0 ⟨bm,rv,hA⟩ hvs=>?_
 obtain⟨u,v,rfl,hu,hv⟩:=LX hvs
 unfold VR at hu
 obtain⟨rfl,hs⟩:=hv.str
 obtain⟨_,q,hj,rfl⟩:=hu
 rw[hA.im j] at hj
 split at hj
 ·rename_i hlt
  injection hj with hj
  subst hj
  obtain⟨eI,mI,zI⟩:=T.mI
  obtain⟨w',h1,h2,h3,h4⟩:=(hA.inner j hlt).drop T.sI mI hs 0
  have hFj:e.fp 0 (bm j):=(hA.F _).2 ⟨.map j,hlt,rfl⟩
  have old:∀s',(aI s' (dH s (d.inner j))).isSome=true→aI s' (dH s (d.inner j))=aI s' (d.inner j):=fun s' hs'=>by
   by_cases hss:s=s'
   ·subst hss;rw[fZ] at hs';cases hs'
   exact gU hss _
  have H2:∀s' r',aI s' (dH s (d.inner j))=some r'→Rw e.I w' ty n (rv j s') (r'.map f):=fun s' r' hr'=>by
   have hr2:=hr'
   rw[old s' (by rw[hr'];rfl)] at hr2
   have hRw:=hA.rows j s' r' hlt hr2 (by simp)
   exact hRw.congr (Le.refl _) fun x hx=>h3.block x (hRw.lt hx) (fun eq=>by
    injection eq with eq;subst eq
    have:=hA.inj (.row j s') (.map j) _ ⟨hlt,by rw[hr2];rfl,by simp,hx⟩ ⟨hlt,rfl⟩
    cases this)
  have H3:∀s' x,(aI s' (dH s (d.inner j))).isSome=true→(rv j s').ownBlock=some x→(mM d none (e.m 0) bm rv (.row j s') x)∨(s'=s∧False):=fun s' x hs' hx=>by
   exact .inl ⟨hlt,by rw[←old s' hs'];exact hs',by simp,hx⟩
  obtain⟨F',k1,k2⟩:=hA.Wx (rv':=rv) hlt h3 (l:=dH s (d.inner j)) (by rw[II];exact h2) (.inl rfl) (fun _ _=>rfl) (fun _=>False) (fun _ h=>h.elim) s H2 H3
  exact⟨_,w',e.im 0,F',v0,h1,⟨bm,rv,k1⟩,fun _ _ h=>h,lM h3 hFj,fun x hx=>.inr ((k2 x hx).elim id False.elim),fun e' _ _ _=>VR.tup.2 ⟨[],rfl,VRs.nil⟩⟩
 cases hj
theorem Dv.abn{out:Option (Nat×ByteArray)}{I:Gh}{w w':World}{g:Nat}{im:Nat→Option Nat}{F:Nat→Prop}{v:Value}{bm:Nat→Nat}{rv:Nat→ByteArray→Value}(h:Dv P kO kI ty n f d out I w g im F v bm rv)
 (hg:w.grownBy w' (some g)) {dir:List (ByteArray×Nat)} (hl:ji w' P kO g (dir.map fun p=>(p.1,.map (some (bm p.2))))) (hd:∀p∈dir,p.2<d.maps.length):Dv P kO kI ty n f ⟨dir,d.maps⟩ out I w' g im F v bm rv:=by
 have keep:∀t x,mM d out g bm rv t x→t≠.root→w'.heap[x]?=w.heap[x]?:=fun t x ht hne=>hg.block x (h.lt x ((h.F x).2 ⟨t,ht⟩)) (fun e=>by
  injection e with e;subst e
  exact hne (h.inj _ _ _ ht rfl))
 have tg:∀t x,mM (⟨dir,d.maps⟩:RM α) out g bm rv t x↔mM d out g bm rv t x:=fun t x=>by cases t<;>exact Iff.rfl
 exact⟨h.im,hl,hd,fun j hj=>(h.inner j hj).congr (keep (.map j) _ ⟨hj,rfl⟩ (by simp)),fun j s r hj hr ho=>(h.rows j s r hj hr ho).congr (Le.refl _) fun x hx=>keep (.row j s) x ⟨hj,by show(aI s (d.inner j)).isSome=true;rw[show aI s (d.inner j)=some r from hr];rfl,ho,hx⟩ (by simp),h.G9,fun x=>(h.F x).trans ⟨fun⟨t,ht⟩=>⟨t,(tg t x).2 ht⟩,fun⟨t,ht⟩=>⟨t,(tg t x).1 ht⟩⟩,fun t t' x k1 k2=>h.inj t t' x ((tg t x).1 k1) ((tg t' x).1 k2)⟩
theorem MM.link(T:LW P tO tI kO kI){j:Nat}(hlen:d.dir.length<maxLen):OpH P G (.up tO) [.mp 0,.lf (.str s),.hnd 0 (some j)] [.res (MM P kO kI ty n f d none) none] (.raw undef) [.res (MM P kO kI ty n f (d.link s j) none) none]:=by
 refine Ht fun e w vs v0 h0 ⟨bm,rv,hA⟩ hvs=>?_
 obtain⟨u,v,y,rfl,hu,hv,hy⟩:=LY hvs
 unfold VR at hu hy
 obtain⟨rfl,hs⟩:=hv.str
 obtain⟨_,q,hj,rfl⟩:=hy
 rw[hu.2]
 rw[hA.im j] at hj
 split at hj
 ·rename_i hlt
  injection hj with hj
  subst hj
  obtain⟨eO,mO,zO⟩:=T.mO
  obtain⟨w',h1,h2,h3,h4⟩:=hA.root.store T.sO mO (by rw[List.length_map];exact hlen) hs (.map (some (bm j)))
  refine⟨undef,w',e.im 0,e.fp 0,v0,?_,⟨bm,rv,hA.abn h3 (dir:=eF s j d.dir) ?_ fun p hp=>?_⟩,fun _ _ h=>h,lM h3 ((hA.F _).2 ⟨.root,rfl⟩),fun x hx=>.inr hx,fun e' _ _ _=>by unfold VR;rfl⟩
  ·show((do Instr.mapUpdate tO _ _ _;pure undef:Sem Value)).run P w=_
   simp_all
  ·rw[IB (fun j=>Value.map (some (bm j)))];exact h2
  rcases BD.1 hp with rfl|⟨hp,_⟩
  ·exact hlt
  exact hA.dir p hp
 cases hj
theorem MM.unlink(T:LW P tO tI kO kI):OpH P G (.del tO kO) [.mp 0,.lf (.str s)] [.res (MM P kO kI ty n f d none) none] (.tup []) [.res (MM P kO kI ty n f (d.unlink s) none) none]:=by
 refine Ht fun e w vs v0 h0 ⟨bm,rv,hA⟩ hvs=>?_
 obtain⟨u,v,rfl,hu,hv⟩:=LX hvs
 unfold VR at hu
 obtain⟨rfl,hs⟩:=hv.str
 rw[hu.2]
 obtain⟨eO,mO,zO⟩:=T.mO
 obtain⟨w',h1,h2,h3,h4⟩:=hA.root.drop T.sO mO hs 0
 refine⟨_,w',e.im 0,e.fp 0,v0,h1,⟨bm,rv,hA.abn h3 (dir:=dH s d.dir) ?_ fun p hp=>hA.dir p (lU.1 hp).1⟩,fun _ _ h=>h,lM h3 ((hA.F _).2 ⟨.root,rfl⟩),fun x hx=>.inr hx,fun e' _ _ _=>VR.tup.2 ⟨[],rfl,VRs.nil⟩⟩
 rw[Iz (fun j=>Value.map (some (bm j)))];exact h2
theorem MM.mkI:OpH P G (.mk tI) [] [] (.mp 0) [.res (IM P kI) none]:=
 ajf (fun I w vs hvs=>by
  unfold VRs at hvs
  subst hvs
  exact⟨_,_,w.heap.size,fun _=>none,fun x=>x=w.heap.size,undef,run_makeMap tI w,⟨ji.made w P kI,fun _=>Iff.rfl⟩,(Ext.refl w).alloc _,fun x hx=>by rw[hx];exact Nat.le_refl _,fun e' h0 hm=>by unfold VR;exact⟨h0,by rw[hm]⟩⟩) rfl
theorem MM.mkO:OpH P G (.mk tO) [] [] (.mp 0) [.res (MM P kO kI ty n f ⟨[],[]⟩ none) none]:=
 ajf (fun I w vs hvs=>by
  unfold VRs at hvs
  subst hvs
  have tg:∀t x,mM (⟨[],[]⟩:RM α) none w.heap.size (fun _=>0) (fun _ _=>undef) t x→t=.root∧x=w.heap.size:=fun t x ht=>by
   cases t with
   |root=>exact⟨rfl,ht⟩
   |map j=>exact absurd ht.1 (Nat.not_lt_zero _)
   |row j s=>exact absurd ht.1 (Nat.not_lt_zero _)
  refine⟨_,_,w.heap.size,fun _=>none,fun x=>x=w.heap.size,undef,run_makeMap tO w,⟨fun _=>0,fun _ _=>undef,⟨fun j=>rfl,ji.made w P kO,fun p hp=>(by cases hp),fun j hj=>absurd hj (Nat.not_lt_zero _),fun j s r hj=>absurd hj (Nat.not_lt_zero _),fun _ _ h=>(by cases h),fun x=>⟨fun h=>⟨.root,h⟩,fun⟨t,ht⟩=>(tg t x ht).2⟩,fun t t' x k1 k2=>(tg t x k1).1.trans (tg t' x k2).1.symm⟩⟩,(Ext.refl w).alloc _,fun x hx=>by rw[hx];exact Nat.le_refl _,fun e' h0 hm=>by unfold VR;exact⟨h0,by rw[hm]⟩⟩) rfl
theorem yD(d:RM α)(s:ByteArray){j:Nat}(hj:j<d.maps.length):(d.make s).inner j=d.inner j:=by
 unfold RM.make RM.inner
 grind
theorem anI(d:RM α)(s:ByteArray):(d.make s).inner d.maps.length=[]:=by
 unfold RM.make RM.inner
 rw[List.getD_eq_getElem?_getD];simp
theorem MM.make(T:LW P tO tI kO kI)(hlen:d.dir.length<maxLen):OpH P G (.up tO) [.mp 0,.lf (.str s),.mp 1] [.res (MM P kO kI ty n f d none) none,.res (IM P kI) none] (.raw undef) [.res (MM P kO kI ty n f (d.make s) none) none,.dead]:=by
 refine ajh fun e w vs v0 v2 h0 h1 ⟨bm,rv,hA⟩ ⟨hB,hBF⟩ hdis hvs=>?_
 obtain⟨u,v,y,rfl,hu,hv,hy⟩:=LY hvs
 unfold VR at hu hy
 obtain⟨rfl,hs⟩:=hv.str
 rw[hu.2,hy.2]
 obtain⟨eO,mO,zO⟩:=T.mO
 obtain⟨w',h1,h2,h3,h4⟩:=hA.root.store T.sO mO (by rw[List.length_map];exact hlen) hs (.map (some (e.m 1)))
 obtain⟨bm',hbm⟩:∃bm':Nat→Nat,bm'=fun j=>if j=d.maps.length then e.m 1 else bm j:=⟨_,rfl⟩
 have b1:bm' d.maps.length=e.m 1:=by subst hbm;simp
 have b2:∀j,j<d.maps.length→bm' j=bm j:=fun j hj=>by subst hbm;simp[Nat.ne_of_lt hj]
 have hl:(d.make s).maps.length=d.maps.length+1:=by simp[RM.make]
 have hg:e.fp 0 (e.m 0):=(hA.F _).2 ⟨.root,rfl⟩
 have hn:¬e.fp 0 (e.m 1):=hdis _ ((hBF _).2 rfl)
 have cs:∀t x,mM (d.make s) none (e.m 0) bm' rv t x→mM d none (e.m 0) bm rv t x∨(t=.map d.maps.length∧x=e.m 1):=fun t x ht=>by
  cases t with
  |root=>exact .inl ht
  |map j=>
   obtain⟨q1,q2⟩:=ht
   rw[hl] at q1
   by_cases hj:j=d.maps.length
   ·subst hj;rw[b1] at q2;exact .inr ⟨rfl,q2⟩
   have hj:j<d.maps.length:=by omega
   rw[b2 j hj] at q2
   exact .inl ⟨hj,q2⟩
  |row j s'=>
   obtain⟨q1,q2,q3,q4⟩:=ht
   rw[hl] at q1
   by_cases hj:j=d.maps.length
   ·subst hj;rw[anI] at q2;cases q2
   have hj:j<d.maps.length:=by omega
   rw[yD d s hj] at q2
   exact .inl ⟨hj,q2,q3,q4⟩
 have keep:∀t x,mM d none (e.m 0) bm rv t x→t≠.root→w'.heap[x]?=w.heap[x]?:=fun t x ht hne=>h3.block x (hA.lt x ((hA.F x).2 ⟨t,ht⟩)) (fun e=>by
  injection e with e;subst e
  exact hne (hA.inj _ _ _ ht rfl))
 refine⟨undef,w',fun j=>if j<d.maps.length+1 then some (bm' j) else none,fun x=>∃t,mM (d.make s) none (e.m 0) bm' rv t x,v0,?_,⟨bm',rv,⟨fun j=>by rw[hl],?_,fun p hp=>?_,fun j hj=>?_,fun j s' r hj hr ho=>?_,fun _ _ h=>(by cases h),fun x=>Iff.rfl,fun t t' x k1 k2=>?_⟩⟩,fun j x hx=>?_,lM h3 hg,fun x ⟨t,ht⟩=>?_,fun e'=>by unfold VR;rfl⟩
 ·show((do Instr.mapUpdate tO _ _ _;pure undef:Sem Value)).run P w=_
  rw[Sem.run_bind,h1];rfl
 ·show ji w' P kO (e.m 0) ((eF s d.maps.length d.dir).map fun p=>(p.1,.map (some (bm' p.2))))
  rw[IB (fun j=>Value.map (some (bm' j))),b1]
  have e1:(d.dir.map fun p=>(p.1,Value.map (some (bm' p.2))))=d.dir.map fun p=>(p.1,Value.map (some (bm p.2))):=List.map_congr_left fun p hp=>by rw[b2 _ (hA.dir p hp)]
  rw[e1];exact h2
 ·rw[hl]
  rcases BD.1 hp with rfl|⟨hp,_⟩
  ·exact Nat.lt_succ_self _
  exact Nat.lt_succ_of_lt (hA.dir p hp)
 ·rw[hl] at hj
  by_cases hq:j=d.maps.length
  ·subst hq
   rw[anI,b1]
   exact hB.congr (h3.block _ hB.lt (fun eq=>by injection eq with eq;rw[eq] at hn;exact hn hg))
  have hj:j<d.maps.length:=by omega
  rw[yD d s hj,b2 j hj]
  exact(hA.inner j hj).congr (keep (.map j) _ ⟨hj,rfl⟩ (by simp))
 ·rw[hl] at hj
  by_cases hq:j=d.maps.length
  ·subst hq;rw[anI] at hr;cases hr
  have hj:j<d.maps.length:=by omega
  rw[yD d s hj] at hr
  exact(hA.rows j s' r hj hr ho).congr (Le.refl _) fun x hx=>keep (.row j s') x ⟨hj,by rw[hr];rfl,ho,hx⟩ (by simp)
 ·rcases cs t x k1 with q1|⟨rfl,q1⟩<;>rcases cs t' x k2 with q2|⟨rfl,q2⟩
  ·exact hA.inj t t' x q1 q2
  ·exact absurd ((hA.F _).2 ⟨t,by rw[←q2];exact q1⟩) hn
  ·exact absurd ((hA.F _).2 ⟨t',by rw[←q1];exact q2⟩) hn
  rfl
 ·rw[hA.im j] at hx
  split at hx
  ·rename_i hj
   show(if j<d.maps.length+1 then some (bm' j) else none)=some x
   rw[if_pos (by omega),b2 j hj];exact hx
  cases hx
 rcases cs t x ht with k1|⟨_,k1⟩
 ·exact .inl ((hA.F x).2 ⟨t,k1⟩)
 exact .inr ((hBF x).2 k1)
end
end
end Go.Proofs.YtpdlghcgekojlaaGreatDoor
namespace Go.Proofs.YtpdlghcgekojlaaGreatDoor
open Go.RowKit
section
variable {α:Type}
def SM(P:Program)(k:TypeId)(f:α→List Lf)(l:List (ByteArray×α)):Rsc where
 At:=fun I w g _ F _=>∃vs:ByteArray→Value,ji w P k g (l.map fun p:ByteArray×α=>(p.1,vs p.1))∧(∀s x,aI s l=some x→∃cs,vs s=.agg cs.toArray∧bV I (f x) cs)∧∀x,F x↔x=g
 mono:=fun⟨vs,h1,h2,h3⟩ hI k=>⟨vs,h1.congr (k _ ((h3 _).2 rfl)),fun s x hx=>(by obtain⟨cs,q1,q2⟩:=h2 s x hx;exact⟨cs,q1,bV.mono hI _ _ q2⟩),h3⟩
 lt:=fun⟨vs,h1,h2,h3⟩ x hx=>by rw[(h3 x).1 hx];exact h1.lt
structure Yk (P:Program) (t k:TypeId) (f:α→List Lf) (z:α):Prop where
 s:P.underlying k=some .string
 m:∃e,P.underlying t=some (.map k e)∧∃cs:List Value,(∀w,(zeroValue e).run P w=.ok (.agg cs.toArray) w)∧∀I,bV I (f z) cs
variable {P:Program} {G:Gh→Prop} {t k:TypeId} {f:α→List Lf} {z:α} {l:List (ByteArray×α)} {s:ByteArray}
theorem abo{I:Gh}{vs:ByteArray→Value}{cs:List Value}(hz:bV I (f z) cs)(h:∀s x,aI s l=some x→∃cs,vs s=.agg cs.toArray∧bV I (f x) cs)(s:ByteArray):∃ds,((aI s l).map fun _=>vs s).getD (.agg cs.toArray)=.agg ds.toArray∧bV I (f ((aI s l).getD z)) ds:=by
 cases hg:aI s l with
 |none=>grind
 |some x=>grind
theorem SM.look(T:Yk P t k f z):OpH P G (.lk t false) [.mp 0,.lf (.str s)] [.res (SM P k f l) none] (.dat (f ((aI s l).getD z))) [.res (SM P k f l) none]:=by
 refine Ht fun e w vs v0 h0 ⟨rv,hA,hB,hF⟩ hvs=>?_
 obtain⟨u,v,rfl,hu,hv⟩:=LX hvs
 unfold VR at hu
 obtain⟨rfl,hs⟩:=hv.str
 rw[hu.2]
 obtain⟨et,mt,cs,zO,hz⟩:=T.m
 have h1:=hA.look T.s mt (zO w) hs
 rw[qR] at h1
 obtain⟨ds,q1,q2⟩:=abo (hz e.I) hB s
 rw[q1] at h1
 exact⟨_,w,e.im 0,e.fp 0,v0,h1,⟨rv,hA,hB,hF⟩,fun _ _ h=>h,Only.refl _ w,fun _ h=>.inr h,fun e' q0 qi qI=>VR.dat.2 ⟨ds,rfl,by rw[qI];exact q2⟩⟩
theorem SM.Uf(T:Yk P t k f z):OpH P G (.lk t true) [.mp 0,.lf (.str s)] [.res (SM P k f l) none] (.tup [.dat (f ((aI s l).getD z)),.lf (.bool (aI s l).isSome)]) [.res (SM P k f l) none]:=by
 refine Ht fun e w vs v0 h0 ⟨rv,hA,hB,hF⟩ hvs=>?_
 obtain⟨u,v,rfl,hu,hv⟩:=LX hvs
 unfold VR at hu
 obtain⟨rfl,hs⟩:=hv.str
 rw[hu.2]
 obtain⟨et,mt,cs,zO,hz⟩:=T.m
 have h1:=hA.look_ok T.s mt (zO w) hs
 rw[qR,Option.isSome_map] at h1
 obtain⟨ds,q1,q2⟩:=abo (hz e.I) hB s
 rw[q1] at h1
 exact⟨_,w,e.im 0,e.fp 0,v0,h1,⟨rv,hA,hB,hF⟩,fun _ _ h=>h,Only.refl _ w,fun _ h=>.inr h,fun e' q0 qi qI=>VR.tup.2 ⟨[_,_],rfl,VRs.cons (VR.dat.2 ⟨ds,rfl,by rw[qI];exact q2⟩) (VRs.one VR.jd)⟩⟩
theorem SM.put(T:Yk P t k f z){x:α}(hlen:l.length<maxLen):OpH P G (.up t) [.mp 0,.lf (.str s),.dat (f x)] [.res (SM P k f l) none] (.raw undef) [.res (SM P k f (eF s x l)) none]:=by
 refine Ht fun e w vs v0 h0 ⟨rv,hA,hB,hF⟩ hvs=>?_
 obtain⟨u,v,y,rfl,hu,hv,hy⟩:=LY hvs
 unfold VR at hu
 obtain⟨rfl,hs⟩:=hv.str
 rw[hu.2]
 obtain⟨ds,rfl,hd⟩:=VR.dat.1 hy
 obtain⟨et,mt,cs,zO,hz⟩:=T.m
 obtain⟨w',h1,h2,h3,h4⟩:=hA.store T.s mt (by rw[List.length_map];exact hlen) hs (.agg ds.toArray)
 obtain⟨rv',hrv⟩:∃rv':ByteArray→Value,rv'=fun b=>if b=s then .agg ds.toArray else rv b:=⟨_,rfl⟩
 have r1:rv' s=.agg ds.toArray:=by subst hrv;simp
 have r2:∀b,b≠s→rv' b=rv b:=fun b hb=>by subst hrv;simp[hb]
 have e1:(eF s x l).map (fun p=>(p.1,rv' p.1))=eF s (rv' s) (l.map fun p=>(p.1,rv p.1)):=
  IG rv rv' s x l r2
 refine⟨undef,w',e.im 0,e.fp 0,v0,?_,⟨rv',by rw[e1,r1];exact h2,fun s' x' hx=>?_,hF⟩,fun _ _ h=>h,lM h3 ((hF _).2 rfl),fun _ h=>.inr h,fun e' _ _ _=>by unfold VR;rfl⟩
 ·show((do Instr.mapUpdate t _ _ _;pure undef:Sem Value)).run P w=_
  simp_all
 by_cases hss:s'=s
 ·subst hss
  rw[fH] at hx
  grind
 rw[gV (Ne.symm hss)] at hx
 grind
theorem SM.del(T:Yk P t k f z):OpH P G (.del t k) [.mp 0,.lf (.str s)] [.res (SM P k f l) none] (.tup []) [.res (SM P k f (dH s l)) none]:=by
 refine Ht fun e w vs v0 h0 ⟨rv,hA,hB,hF⟩ hvs=>?_
 obtain⟨u,v,rfl,hu,hv⟩:=LX hvs
 unfold VR at hu
 obtain⟨rfl,hs⟩:=hv.str
 rw[hu.2]
 obtain⟨et,mt,cs,zO,hz⟩:=T.m
 obtain⟨w',h1,h2,h3,h4⟩:=hA.drop T.s mt hs 0
 have e1:=II rv s l
 refine⟨_,w',e.im 0,e.fp 0,v0,h1,⟨rv,by rw[e1];exact h2,fun s' x' hx=>?_,hF⟩,fun _ _ h=>h,lM h3 ((hF _).2 rfl),fun _ h=>.inr h,fun e' _ _ _=>VR.tup.2 ⟨[],rfl,VRs.nil⟩⟩
 by_cases hss:s=s'
 ·subst hss;rw[fZ] at hx;cases hx
 rw[gU hss] at hx
 grind
theorem SM.mk:OpH P G (.mk t) [] [] (.mp 0) [.res (SM P k f []) none]:=
 ajf (fun I w vs hvs=>by
  unfold VRs at hvs
  subst hvs
  exact⟨_,_,w.heap.size,fun _=>none,fun x=>x=w.heap.size,undef,run_makeMap t w,⟨fun _=>undef,ji.made w P k,fun s x hx=>(by cases hx),fun _=>Iff.rfl⟩,(Ext.refl w).alloc _,fun x hx=>(by rw[hx];exact Nat.le_refl _),fun e' h0 hm=>by unfold VR;exact⟨h0,by rw[hm]⟩⟩) rfl
end
end Go.Proofs.YtpdlghcgekojlaaGreatDoor
