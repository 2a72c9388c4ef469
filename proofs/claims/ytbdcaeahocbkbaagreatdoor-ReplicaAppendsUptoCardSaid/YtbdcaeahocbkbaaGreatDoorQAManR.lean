/- Contracts that were shown by hand, in the form that the printed ones have. -/
import Derived.Test.YtbdcaeahocbkbaaGreatDoorQA4
import Derived.Test.YtbdcaeahocbkbaaGreatDoorQASlC
set_option linter.unusedSimpArgs false
set_option linter.unusedVariables false
namespace Go.Proofs.YtbdcaeahocbkbaaGreatDoor
open Go.RowKit
theorem VRs.aeR{e:Env}{x:AV}{l:List AV}{vs:List Value}(h:VRs e (x::l) vs):∃v q,vs=v::q∧VR e x v∧VRs e l q:=by unfold VRs at h;exact h
theorem VRs.arZ{e:Env}{vs:List Value}(h:VRs e [] vs):vs=[]:=by unfold VRs at h;exact h
noncomputable def ar0(l:List Int):Option (List Int):=if l.length≤16777216 then some l else none
theorem anq(l:List Int)(r:List Int)(h:ar0 l=some r):FnH Tryz.prog GI 40 [.lf (.rows 1 (l.map lfI))] [] (.own 0) [.row 3 1 (r.map lfI)]:=by
 obtain⟨hb,h⟩:=abv h
 injection h with h;subst h
 refine⟨by kernel_rfl,fun e C w vs hG hM hvs=>?_⟩
 obtain⟨v,q,rfl,h1,h2⟩:=VRs.aeR hvs
 obtain rfl:=VRs.arZ h2
 refine(agV l v e.I w (VR.lf.1 h1) hM.inv hb).mono ?_
 rintro en w' ⟨v',rfl,hA,he⟩
 obtain⟨xs,k1,k2,k3,k4⟩:=hA
 have hn:∀b,¬e.ok b:=fun b hb=>by have:=hM.bound b hb;simp at this
 have h0:∀b (s:Slot),[Slot.row 3 1 (l.map lfI)][b]?=some s→b=0∧s=Slot.row 3 1 (l.map lfI):=fun b s hs=>by
  cases b with
  |zero=>simpa using hs.symm
  |succ b=>simp at hs
 have hsh:∃a ln c,v'=.slice a ln c:=by
  rcases k1.2 with⟨rfl,_⟩|⟨g,cap,cur,rfl,_⟩
  ·exact⟨_,_,_,rfl⟩
  ·exact⟨_,_,_,rfl⟩
 have hlow:w'.ownsRow 0 3 1 v' (l.map lfI).length xs:=by
  have:=Acc.low (base':=0) (⟨xs,k1,k2,k3,k4⟩:Acc e.I w' w.heap.size 3 1 v' (ints l)) (Nat.zero_le _)
  refine⟨k1.1,?_⟩
  rcases k1.2 with h|⟨g,cap,cur,h3,hg,hr⟩
  ·exact .inl h
  ·exact .inr ⟨g,cap,cur,h3,Nat.zero_le _,hr⟩
 refine⟨⟨fun b=>b=0,e.m,fun _=>v',e.I⟩,fun _=>xs,v',rfl,⟨⟨fun b hb=>absurd hb (hn b),fun b hb=>absurd hb (hn b),fun b hb=>absurd hb (hn b),Le.refl _⟩,?_,fun b o u h3 h4=>?_,fun g h3=>?_⟩,⟨fun b s hs=>?_,fun b s hs=>?_,fun b hb=>?_,fun b b' s s' g h3 h4 _ _=>?_,fun b s g hs hg=>?_,hM.inv.ext he⟩,?_⟩
 ·obtain⟨q1,q2,q3,q4,q5⟩:=he
  exact⟨q1,q2,q3,q4,fun i hi _=>q5 i hi⟩
 ·have h3:e.I b o=some u:=h3
  rw[h4] at h3;cases h3
 ·obtain⟨b,s,hs,hg⟩:=h3
  obtain⟨rfl,rfl⟩:=h0 b s hs
  left
  have hg:v'.ownBlock=some g:=hg
  rcases k1.2 with⟨rfl,_⟩|⟨g',cap,cur,rfl,hg',_⟩
  ·cases hg
  ·injection hg with hg;subst hg;exact hg'
 ·obtain⟨rfl,rfl⟩:=h0 b s hs
  refine⟨rfl,k2,k3,?_,?_⟩
  ·rw[List.length_map];unfold maxLen;omega
  ·rcases k1.2 with⟨rfl,h5⟩|⟨g',cap,cur,rfl,_⟩
   ·exact .inl ⟨rfl,List.eq_nil_of_length_eq_zero h5⟩
   ·exact .inr ⟨g',cap,rfl⟩
 ·obtain⟨rfl,rfl⟩:=h0 b s hs
  exact hlow
 ·obtain rfl:b=0:=hb
  simp
 ·rw[(h0 b s h3).1,(h0 b' s' h4).1]
 ·obtain⟨rfl,rfl⟩:=h0 b s hs
  exact k4 g hg
 ·unfold VR;exact⟨rfl,rfl,hsh⟩
end Go.Proofs.YtbdcaeahocbkbaaGreatDoor
