/- Values whose memory lies in some blocks alone; rows of values under construction. -/
import Derived.Test.YtflpefkohpjjpaaGreatDoorQNVRow
set_option linter.unusedSimpArgs false
set_option linter.unusedVariables false
namespace Go.Proofs.YtflpefkohpjjpaaGreatDoor
open Go.RowKit
noncomputable def win(F:Nat→Prop)(w:World):World:={ w with heap:=w.heap.mapIdx fun i o=>open Classical in if F i then o else .cells #[] 0 }
theorem zJ{F:Nat→Prop}{w:World}{p:Addr}{v:Value}(h:(win F w).cell? p=some v):F p.block∧w.cell? p=some v:=by
 unfold win World.cell? at h
 simp only[Array.getElem?_mapIdx] at h
 unfold World.cell?
 cases hb:w.heap[p.block]? with
 |none=>rw[hb] at h;simp at h
 |some o=>
  rw[hb] at h
  simp only[Option.map_some] at h
  by_cases hF:F p.block
  ·rw[if_pos hF] at h;exact⟨hF,h⟩
  ·rw[if_neg hF] at h;simp at h
theorem BH{F:Nat→Prop}{w:World}{p:Addr}{v:Value}(hF:F p.block)(h:w.cell? p=some v):(win F w).cell? p=some v:=by
 unfold World.cell? at h
 unfold win World.cell?
 simp only[Array.getElem?_mapIdx]
 cases hb:w.heap[p.block]? with
 |none=>rw[hb] at h;simp at h
 |some o=>rw[hb] at h;simp only[Option.map_some];rw[if_pos hF];exact h
def Sub(w w':World):Prop:=∀p v,w.cell? p=some v→w'.cell? p=some v
mutual
theorem fE.sub {w w':World} (h:Sub w w'):∀(t:Tr) (v:Value),fE w t v→fE w' t v
 |.mk k i s l ns ds,v,hv=>by
  unfold fE at hv ⊢
  obtain⟨la,lc,da,dc,h1,h2,h3,h4,h5,h6,h7,h8,h9⟩:=hv
  exact⟨la,lc,da,dc,h1,h2,h3,h4,h5,h6,h7,iw.sub h la 0 l h8,gQ.sub h da 0 ns ds h9⟩
theorem iw.sub {w w':World} (h:Sub w w') (a:Option Addr):∀(o:Nat) (l:List Tr),iw w a o l→iw w' a o l
 |_,[],_=>by unfold iw;trivial
 |o,t::r,hl=>by
  unfold iw at hl ⊢
  obtain⟨⟨b,off,c0,c1,c2,c3,c4,h0,h1,h2,h3,h4,h5,h6⟩,hr⟩:=hl
  exact⟨⟨b,off,c0,c1,c2,c3,c4,h0,h _ _ h1,h _ _ h2,h _ _ h3,h _ _ h4,h _ _ h5,fE.sub h t _ h6⟩,iw.sub h a (o+5) r hr⟩
theorem gQ.sub {w w':World} (h:Sub w w') (a:Option Addr):∀(o:Nat) (ns:List ByteArray) (l:List Tr),gQ w a o ns l→gQ w' a o ns l
 |_,_,[],_=>by unfold gQ;trivial
 |_,[],_::_,hl=>by unfold gQ at hl;exact hl.elim
 |o,n::nr,t::r,hl=>by
  unfold gQ at hl ⊢
  obtain⟨⟨b,off,c0,c1,c2,c3,c4,h0,hn,h1,h2,h3,h4,h5,h6,h7⟩,hr⟩:=hl
  exact⟨⟨b,off,c0,c1,c2,c3,c4,h0,hn,h _ _ h1,h _ _ h2,h _ _ h3,h _ _ h4,h _ _ h5,h _ _ h6,fE.sub h t _ h7⟩,gQ.sub h a (o+6) nr r hr⟩
end
theorem bQ.sub{w w':World}(h:Sub w w'):∀(ts:List Tr) (cs:List Value),bQ w cs ts→bQ w' cs ts
 |[],[],_=>trivial
 |[],_::_,hv=>by simp[bQ] at hv
 |t::r,[],hv=>by simp[bQ] at hv
 |t::r,[_],hv=>by simp[bQ] at hv
 |t::r,[_,_],hv=>by simp[bQ] at hv
 |t::r,[_,_,_],hv=>by simp[bQ] at hv
 |t::r,[_,_,_,_],hv=>by simp[bQ] at hv
 |t::r,c0::c1::c2::c3::c4::cr,hv=>⟨fE.sub h _ _ hv.1,bQ.sub h r cr hv.2⟩
def bH(w:World):List Value→List ByteArray→List Tr→Prop
 |[],[],[]=>True
 |c::c0::c1::c2::c3::c4::cr,n::nr,t::r=>c=.string n∧n.size≤maxLen∧fE w t (.agg #[c0,c1,c2,c3,c4])∧bH w cr nr r
 |_,_,_=>False
theorem bH.sub{w w':World}(h:Sub w w'):∀(ts:List Tr) (ns:List ByteArray) (cs:List Value),bH w cs ns ts→bH w' cs ns ts
 |[],[],[],_=>trivial
 |[],[],_::_,hv=>by simp[bH] at hv
 |[],_::_,_,hv=>by simp[bH] at hv
 |t::r,[],_,hv=>by simp[bH] at hv
 |t::r,n::nr,[],hv=>by simp[bH] at hv
 |t::r,n::nr,[_],hv=>by simp[bH] at hv
 |t::r,n::nr,[_,_],hv=>by simp[bH] at hv
 |t::r,n::nr,[_,_,_],hv=>by simp[bH] at hv
 |t::r,n::nr,[_,_,_,_],hv=>by simp[bH] at hv
 |t::r,n::nr,[_,_,_,_,_],hv=>by simp[bH] at hv
 |t::r,n::nr,c::c0::c1::c2::c3::c4::cr,hv=>⟨hv.1,hv.2.1,fE.sub h _ _ hv.2.2.1,bH.sub h r nr cr hv.2.2.2⟩
theorem bH.snoc{w:World}{t:Tr}{n:ByteArray}{c0 c1 c2 c3 c4:Value}(hn:n.size≤maxLen)(ht:fE w t (.agg #[c0,c1,c2,c3,c4])):∀(ts:List Tr) (ns:List ByteArray) (cs:List Value),bH w cs ns ts→bH w (cs++[.string n,c0,c1,c2,c3,c4]) (ns++[n]) (ts++[t])
 |[],[],[],_=>⟨rfl,hn,ht,trivial⟩
 |[],[],_::_,hv=>by simp[bH] at hv
 |[],_::_,_,hv=>by simp[bH] at hv
 |t::r,[],_,hv=>by simp[bH] at hv
 |t::r,n::nr,[],hv=>by simp[bH] at hv
 |t::r,n::nr,[_],hv=>by simp[bH] at hv
 |t::r,n::nr,[_,_],hv=>by simp[bH] at hv
 |t::r,n::nr,[_,_,_],hv=>by simp[bH] at hv
 |t::r,n::nr,[_,_,_,_],hv=>by simp[bH] at hv
 |t::r,n::nr,[_,_,_,_,_],hv=>by simp[bH] at hv
 |t::r,n::nr,c::c0::c1::c2::c3::c4::cr,hv=>⟨hv.1,hv.2.1,hv.2.2.1,bH.snoc hn ht r nr cr hv.2.2.2⟩
theorem bH.len{w:World}:∀(ts:List Tr) (ns:List ByteArray) (cs:List Value),bH w cs ns ts→ns.length=ts.length
 |[],[],[],_=>rfl
 |[],[],_::_,hv=>by simp[bH] at hv
 |[],_::_,_,hv=>by simp[bH] at hv
 |t::r,[],_,hv=>by simp[bH] at hv
 |t::r,n::nr,[],hv=>by simp[bH] at hv
 |t::r,n::nr,[_],hv=>by simp[bH] at hv
 |t::r,n::nr,[_,_],hv=>by simp[bH] at hv
 |t::r,n::nr,[_,_,_],hv=>by simp[bH] at hv
 |t::r,n::nr,[_,_,_,_],hv=>by simp[bH] at hv
 |t::r,n::nr,[_,_,_,_,_],hv=>by simp[bH] at hv
 |t::r,n::nr,c::c0::c1::c2::c3::c4::cr,hv=>by simp[bH.len r nr cr hv.2.2.2]
theorem bH.O8{w:World}{g:Nat}:∀(ts:List Tr) (ns:List ByteArray) (cs:List Value) (o:Nat),bH w cs ns ts→(∀j u,cs[j]?=some u→w.cell? ⟨g,0+(o+j),none⟩=some u)→gQ w (some ⟨g,0,none⟩) o ns ts
 |[],_,_,_,_,_=>by unfold gQ;trivial
 |t::r,[],_,_,hv,_=>by simp[bH] at hv
 |t::r,n::nr,[],_,hv,_=>by simp[bH] at hv
 |t::r,n::nr,[_],_,hv,_=>by simp[bH] at hv
 |t::r,n::nr,[_,_],_,hv,_=>by simp[bH] at hv
 |t::r,n::nr,[_,_,_],_,hv,_=>by simp[bH] at hv
 |t::r,n::nr,[_,_,_,_],_,hv,_=>by simp[bH] at hv
 |t::r,n::nr,[_,_,_,_,_],_,hv,_=>by simp[bH] at hv
 |t::r,n::nr,c::c0::c1::c2::c3::c4::cr,o,hv,hc=>by
  obtain⟨rfl,hn,hv1,hv2⟩:=hv
  unfold gQ
  refine⟨⟨g,0,c0,c1,c2,c3,c4,rfl,hn,hc 0 _ rfl,hc 1 _ rfl,hc 2 _ rfl,hc 3 _ rfl,hc 4 _ rfl,hc 5 _ rfl,hv1⟩,bH.O8 r nr cr (o+6) hv2 (fun j u hj=>?_)⟩
  rw[Nat.add_assoc o 6 j,Nat.add_comm 6 j]
  exact hc (j+6) u hj
def iC(lo hi:Nat)(w:World)(t:Tr)(v:Value):Prop:=fE (win (fun i=>lo≤i∧i<hi) w) t v
theorem iL{F F':Nat→Prop}{w w':World}(h:∀i,F i→i<w.heap.size→F' i∧w'.heap[i]?=w.heap[i]?):Sub (win F w) (win F' w'):=by
 intro p v hc
 obtain⟨h1,h2⟩:=zJ hc
 have h3:=h p.block h1 (World.block_lt_of_cell? w p h2)
 exact BH h3.1 ((World.cell?_of_block h3.2).trans h2)
theorem iC.keep{lo hi lo' hi':Nat}{w w':World}{t:Tr}{v:Value}(h:iC lo hi w t v)(hl:lo'≤lo)(hh:hi≤hi')(hk:∀i,lo≤i→i<hi→w'.heap[i]?=w.heap[i]?):iC lo' hi' w' t v:=
 fE.sub (iL (fun i hi' _=>⟨⟨by omega,by omega⟩,hk i hi'.1 hi'.2⟩)) _ _ h
theorem iC.leaf(lo hi:Nat)(w:World)(k i:Int)(s:ByteArray)(hk:I64 k)(hi':I64 i)(hs:s.size≤maxLen):iC lo hi w (.mk k i s [] [] []) (.agg #[.int .i64 k,.int .i64 i,.string s,.slice none 0 0,.slice none 0 0]):=by
 unfold iC fE
 refine⟨none,0,none,0,rfl,⟨hs,hk,hi'⟩,⟨Nat.le_refl _,by simp⟩,by unfold maxLen;omega,⟨Nat.le_refl _,by simp⟩,by unfold maxLen;omega,rfl,?_,?_⟩
 ·unfold iw;trivial
 ·unfold gQ;trivial
end Go.Proofs.YtflpefkohpjjpaaGreatDoor
