/- Rows of values of the call's own. -/
import Derived.Test.YtflpefkohpjjpaaGreatDoorQP1
set_option linter.unusedSimpArgs false
set_option linter.unusedVariables false
namespace Go.Proofs.YtflpefkohpjjpaaGreatDoor
open Go.RowKit
def fB(w:World):List Value→List Tr→Prop
 |[],[]=>True
 |c0::c1::c2::c3::c4::cr,t::r=>jV w t (.agg #[c0,c1,c2,c3,c4])∧fB w cr r
 |_,_=>False
theorem fB.ext{w w':World}(h:Ext w w'):∀(ts:List Tr) (cs:List Value),fB w cs ts→fB w' cs ts
 |[],[],_=>trivial
 |[],_::_,hv=>by simp[fB] at hv
 |t::r,[],hv=>by simp[fB] at hv
 |t::r,[_],hv=>by simp[fB] at hv
 |t::r,[_,_],hv=>by simp[fB] at hv
 |t::r,[_,_,_],hv=>by simp[fB] at hv
 |t::r,[_,_,_,_],hv=>by simp[fB] at hv
 |t::r,c0::c1::c2::c3::c4::cr,hv=>⟨jV.ext h _ _ hv.1,fB.ext h r cr hv.2⟩
theorem fB.snoc{w:World}{t:Tr}{c0 c1 c2 c3 c4:Value}(ht:jV w t (.agg #[c0,c1,c2,c3,c4])):∀(ts:List Tr) (cs:List Value),fB w cs ts→fB w (cs++[c0,c1,c2,c3,c4]) (ts++[t])
 |[],[],_=>⟨ht,trivial⟩
 |[],_::_,hv=>by simp[fB] at hv
 |t::r,[],hv=>by simp[fB] at hv
 |t::r,[_],hv=>by simp[fB] at hv
 |t::r,[_,_],hv=>by simp[fB] at hv
 |t::r,[_,_,_],hv=>by simp[fB] at hv
 |t::r,[_,_,_,_],hv=>by simp[fB] at hv
 |t::r,c0::c1::c2::c3::c4::cr,hv=>⟨hv.1,fB.snoc ht r cr hv.2⟩
theorem fB.afI{w:World}{g:Nat}:∀(ts:List Tr) (cs:List Value) (o:Nat),fB w cs ts→(∀j u,cs[j]?=some u→w.cell? ⟨g,0+(o+j),none⟩=some u)→lV w (some ⟨g,0,none⟩) o ts
 |[],_,_,_,_=>by unfold lV;trivial
 |t::r,[],_,hv,_=>by simp[fB] at hv
 |t::r,[_],_,hv,_=>by simp[fB] at hv
 |t::r,[_,_],_,hv,_=>by simp[fB] at hv
 |t::r,[_,_,_],_,hv,_=>by simp[fB] at hv
 |t::r,[_,_,_,_],_,hv,_=>by simp[fB] at hv
 |t::r,c0::c1::c2::c3::c4::cr,o,hv,hc=>by
  unfold lV
  refine⟨⟨g,0,c0,c1,c2,c3,c4,rfl,hc 0 _ rfl,hc 1 _ rfl,hc 2 _ rfl,hc 3 _ rfl,hc 4 _ rfl,hv.1⟩,fB.afI r cr (o+5) hv.2 (fun j u hj=>?_)⟩
  rw[Nat.add_assoc o 5 j,Nat.add_comm 5 j]
  exact hc (j+5) u hj
def TK(W0 w:World)(base:Nat)(v:Value)(ts:List Tr):Prop:=∃cs,w.ownsRow base 25 5 v ts.length cs∧fB W0 cs ts
theorem TK.nil(W0 w:World)(base:Nat):TK W0 w base (.slice none 0 0) []:=⟨[],World.ownsRow_nil w base 25 5,trivial⟩
theorem TK.ext{W0 w w':World}{base:Nat}{v:Value}{ts:List Tr}(h:TK W0 w base v ts)(he:Ext w w'):TK W0 w' base v ts:=by
 obtain⟨cs,h1,h2⟩:=h
 exact⟨cs,World.ownsRow.kept h1 (he.only none) (by cases v.ownBlock<;>simp),h2⟩
theorem TK.afI{W0 w:World}{base:Nat}{v:Value}{ts:List Tr}(h:TK W0 w base v ts)(hE:Ext W0 w):∃a c,v=.slice a ts.length c∧ts.length≤c∧c≤maxLen∧lV w a 0 ts:=by
 obtain⟨cs,h1,h2⟩:=h
 rcases h1.2 with⟨rfl,hn⟩|⟨g,cap,cur,rfl,hb,hc,hle,hm,_,_⟩
 ·have:ts=[]:=List.eq_nil_of_length_eq_zero hn
  subst this
  exact⟨none,0,rfl,Nat.le_refl _,by unfold maxLen;omega,by unfold lV;trivial⟩
 ·refine⟨_,_,rfl,hle,hm,fB.afI ts cs 0 (fB.ext hE _ _ h2) (fun j u hj=>?_)⟩
  have:=h1.cells (g:=g) rfl j u hj
  rw[add_plain] at this
  rw[Nat.zero_add,Nat.zero_add];exact this
theorem TK.grown{W0 w w':World}{base:Nat}{v:Value}{ts:List Tr}{a:World}(h:TK W0 w base v ts)(hg:w.grownBy w' v.ownBlock)(he:Ext a w)(hb:a.heap.size≤base):Ext a w':=by
 obtain⟨cs,h1,_⟩:=h
 exact he.ahm h1 hb hg
theorem amv:(Tryz.prog.info? 25).map (fun i=>(i.zero,i.size,i.bytes))=some (some (.agg #[.int .i64 0,.int .i64 0,.string ⟨#[]⟩,.slice none 0 0,.slice none 0 0]),5,80):=by kernel_rfl
end Go.Proofs.YtflpefkohpjjpaaGreatDoor
