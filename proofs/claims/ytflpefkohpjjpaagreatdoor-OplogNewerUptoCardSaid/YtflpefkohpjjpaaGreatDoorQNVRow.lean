/- Rows of values of the call's own. -/
import Derived.Test.YtflpefkohpjjpaaGreatDoorQN1
set_option linter.unusedSimpArgs false
set_option linter.unusedVariables false
namespace Go.Proofs.YtflpefkohpjjpaaGreatDoor
open Go.RowKit
def bQ(w:World):List Value→List Tr→Prop
 |[],[]=>True
 |c0::c1::c2::c3::c4::cr,t::r=>fE w t (.agg #[c0,c1,c2,c3,c4])∧bQ w cr r
 |_,_=>False
theorem bQ.ext{w w':World}(h:Ext w w'):∀(ts:List Tr) (cs:List Value),bQ w cs ts→bQ w' cs ts
 |[],[],_=>trivial
 |[],_::_,hv=>by simp[bQ] at hv
 |t::r,[],hv=>by simp[bQ] at hv
 |t::r,[_],hv=>by simp[bQ] at hv
 |t::r,[_,_],hv=>by simp[bQ] at hv
 |t::r,[_,_,_],hv=>by simp[bQ] at hv
 |t::r,[_,_,_,_],hv=>by simp[bQ] at hv
 |t::r,c0::c1::c2::c3::c4::cr,hv=>⟨fE.ext h _ _ hv.1,bQ.ext h r cr hv.2⟩
theorem bQ.snoc{w:World}{t:Tr}{c0 c1 c2 c3 c4:Value}(ht:fE w t (.agg #[c0,c1,c2,c3,c4])):∀(ts:List Tr) (cs:List Value),bQ w cs ts→bQ w (cs++[c0,c1,c2,c3,c4]) (ts++[t])
 |[],[],_=>⟨ht,trivial⟩
 |[],_::_,hv=>by simp[bQ] at hv
 |t::r,[],hv=>by simp[bQ] at hv
 |t::r,[_],hv=>by simp[bQ] at hv
 |t::r,[_,_],hv=>by simp[bQ] at hv
 |t::r,[_,_,_],hv=>by simp[bQ] at hv
 |t::r,[_,_,_,_],hv=>by simp[bQ] at hv
 |t::r,c0::c1::c2::c3::c4::cr,hv=>⟨hv.1,bQ.snoc ht r cr hv.2⟩
theorem bQ.EX{w:World}{g:Nat}:∀(ts:List Tr) (cs:List Value) (o:Nat),bQ w cs ts→(∀j u,cs[j]?=some u→w.cell? ⟨g,0+(o+j),none⟩=some u)→iw w (some ⟨g,0,none⟩) o ts
 |[],_,_,_,_=>by unfold iw;trivial
 |t::r,[],_,hv,_=>by simp[bQ] at hv
 |t::r,[_],_,hv,_=>by simp[bQ] at hv
 |t::r,[_,_],_,hv,_=>by simp[bQ] at hv
 |t::r,[_,_,_],_,hv,_=>by simp[bQ] at hv
 |t::r,[_,_,_,_],_,hv,_=>by simp[bQ] at hv
 |t::r,c0::c1::c2::c3::c4::cr,o,hv,hc=>by
  unfold iw
  refine⟨⟨g,0,c0,c1,c2,c3,c4,rfl,hc 0 _ rfl,hc 1 _ rfl,hc 2 _ rfl,hc 3 _ rfl,hc 4 _ rfl,hv.1⟩,bQ.EX r cr (o+5) hv.2 (fun j u hj=>?_)⟩
  rw[Nat.add_assoc o 5 j,Nat.add_comm 5 j]
  exact hc (j+5) u hj
def wK(W0 w:World)(base:Nat)(v:Value)(ts:List Tr):Prop:=∃cs,w.ownsRow base 25 5 v ts.length cs∧bQ W0 cs ts
theorem wK.nil(W0 w:World)(base:Nat):wK W0 w base (.slice none 0 0) []:=⟨[],World.ownsRow_nil w base 25 5,trivial⟩
theorem wK.ext{W0 w w':World}{base:Nat}{v:Value}{ts:List Tr}(h:wK W0 w base v ts)(he:Ext w w'):wK W0 w' base v ts:=by
 obtain⟨cs,h1,h2⟩:=h
 exact⟨cs,World.ownsRow.kept h1 (he.only none) (by cases v.ownBlock<;>simp),h2⟩
theorem wK.EX{W0 w:World}{base:Nat}{v:Value}{ts:List Tr}(h:wK W0 w base v ts)(hE:Ext W0 w):∃a c,v=.slice a ts.length c∧ts.length≤c∧c≤maxLen∧iw w a 0 ts:=by
 obtain⟨cs,h1,h2⟩:=h
 rcases h1.2 with⟨rfl,hn⟩|⟨g,cap,cur,rfl,hb,hc,hle,hm,_,_⟩
 ·have:ts=[]:=List.eq_nil_of_length_eq_zero hn
  subst this
  exact⟨none,0,rfl,Nat.le_refl _,by unfold maxLen;omega,by unfold iw;trivial⟩
 ·refine⟨_,_,rfl,hle,hm,bQ.EX ts cs 0 (bQ.ext hE _ _ h2) (fun j u hj=>?_)⟩
  have:=h1.cells (g:=g) rfl j u hj
  rw[add_plain] at this
  rw[Nat.zero_add,Nat.zero_add];exact this
theorem wK.grown{W0 w w':World}{base:Nat}{v:Value}{ts:List Tr}{a:World}(h:wK W0 w base v ts)(hg:w.grownBy w' v.ownBlock)(he:Ext a w)(hb:a.heap.size≤base):Ext a w':=by
 obtain⟨cs,h1,_⟩:=h
 exact he.IE h1 hb hg
theorem O7:(Tryz.prog.info? 25).map (fun i=>(i.zero,i.size,i.bytes))=some (some (.agg #[.int .i64 0,.int .i64 0,.string ⟨#[]⟩,.slice none 0 0,.slice none 0 0]),5,80):=by kernel_rfl
end Go.Proofs.YtflpefkohpjjpaaGreatDoor
