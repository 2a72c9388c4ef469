/- Byte rows of the call's own. -/
import Derived.Test.YtpdlghcgekojlaaGreatDoorQI1
import Derived.Lib.AppendStr
set_option linter.unusedSimpArgs false
set_option linter.unusedVariables false
namespace Go.Proofs.YtpdlghcgekojlaaGreatDoor
open Go.RowKit
def bv(c:UInt8):Value:=.int .u8 (c.toNat:Int)
def Buf(w:World)(base:Nat)(v:Value)(l:List UInt8):Prop:=w.ownsRow base 5 1 v l.length (l.map bv)
structure Keep (base:Nat) (w w':World):Prop where
 os:w'.os=w.os
 tape:w'.tape=w.tape
 output:w'.output=w.output
 size:w.heap.size≤w'.heap.size
 block:∀i,i<w.heap.size→(i<base∨∀cs,w.heap[i]?≠some (.cells cs 5 (0,0)))→w'.heap[i]?=w.heap[i]?
theorem Keep.refl(base:Nat)(w:World):Keep base w w:=⟨rfl,rfl,rfl,Nat.le_refl _,fun _ _ _=>rfl⟩
theorem Keep.trans{base:Nat}{a b c:World}(h:Keep base a b)(k:Keep base b c):Keep base a c:=
 ⟨k.os.trans h.os,k.tape.trans h.tape,k.output.trans h.output,Nat.le_trans h.size k.size,fun i hi hn=>by
  have e:=h.block i hi hn
  rw[k.block i (Nat.lt_of_lt_of_le hi h.size) (by rw[e];exact hn),e]⟩
theorem Keep.uF{base:Nat}{w w':World}(h:Ext w w'):Keep base w w':=⟨h.below.os,h.below.tape,h.below.output,h.size,fun i hi _=>h.below.block i hi⟩
theorem aeD{a w w':World}(h:Ext a w)(h1:w'.os=w.os)(h2:w'.tape=w.tape)(h3:w'.output=w.output)(h4:w.heap.size≤w'.heap.size)(h5:∀i,i<a.heap.size→w'.heap[i]?=w.heap[i]?):Ext a w':=by
 obtain⟨p1,p2,p3,p4,p5⟩:=h
 exact⟨h1.trans p1,h2.trans p2,h3.trans p3,Nat.le_trans p4 h4,fun i hi=>(h5 i hi).trans (p5 i hi)⟩
theorem Keep.ext{base:Nat}{a w w':World}(k:Keep base w w')(h:Ext a w)(hb:a.heap.size≤base):Ext a w':=
 aeD h k.os k.tape k.output k.size (fun i hi=>k.block i (Nat.lt_of_lt_of_le hi h.size) (.inl (Nat.lt_of_lt_of_le hi hb)))
theorem Keep.alloc{base:Nat}{a w:World}(h:Keep base a w)(o:Obj):Keep base a (w.alloc o):=h.trans (Keep.uF ((Ext.refl w).alloc o))
theorem Keep.drew{base:Nat}{a w:World}(h:Keep base a w):Keep base a w.drew:=h.trans (Keep.uF (Ext.refl w).drew)
theorem Keep.setCell{base:Nat}{a w:World}(h:Keep base a w){p:Addr}(hp:a.heap.size≤p.block)(u:Value):Keep base a (w.setCell p u):=
 ⟨h.os,h.tape,h.output,by simpa[World.setCell] using h.size,fun i hi hn=>(Below.heap_setCell w p u i (by rintro rfl;omega)).trans (h.block i hi hn)⟩
theorem Keep.grown{base n:Nat}{w w':World}{v:Value}{xs:List Value}(h:w.ownsRow base 5 1 v n xs)(g:w.grownBy w' v.ownBlock):Keep base w w':=
 ⟨g.os,g.tape,g.output,g.size,fun i hi hn=>g.block i hi (by
  intro e
  rcases h.2 with⟨rfl,_⟩|⟨g',cap,cur,rfl,hb,hc,_⟩
  ·simp[Value.ownBlock] at e
  simp only[Value.ownBlock,Option.some.injEq] at e
  subst e
  rcases hn with hn|hn
  ·omega
  exact hn _ hc)⟩
theorem Keep.blk{base g:Nat}{w w':World}{cs:Array Value}{t:TypeId}{m:Nat×Nat}(k:Keep base w w')(h:w.heap[g]?=some (.cells cs t m))(ht:t≠5):w'.heap[g]?=some (.cells cs t m):=
 (k.block g (KW h) (.inr (fun c e=>ht (by rw[h] at e;injection e with e;injection e)))).trans h
theorem Keep.amO{base:Nat}{w w1:World}{cs:Array Value}{t:TypeId}(h:Keep base (w.alloc (.cells cs t)) w1)(ht:t≠5)(j:Nat):w1.cell? ⟨w.heap.size,j,none⟩=cs[j]?:=
 lq (h.blk (show(w.alloc (.cells cs t)).heap[w.heap.size]?=some (.cells cs t (0,0)) by show(w.heap.push _)[w.heap.size]?=_;simp) ht) j
theorem Keep.aax{base:Nat}{w w1:World}{o:Obj}(h:Keep base (w.alloc o) w1):Keep base w w1:=((Keep.refl base w).alloc o).trans h
theorem Keep.lt{base:Nat}{w w1:World}{o:Obj}(h:Keep base (w.alloc o) w1):w.heap.size<w1.heap.size:=by have:=h.size;simp at this;omega
theorem Buf.nil(w:World)(base:Nat):Buf w base (.slice none 0 0) []:=World.ownsRow_nil w base 5 1
theorem Buf.alloc{w:World}{base:Nat}{v:Value}{l:List UInt8}(h:Buf w base v l)(o:Obj):Buf (w.alloc o) base v l:=World.ownsRow.alloc h o
theorem Buf.ext{w w':World}{base:Nat}{v:Value}{l:List UInt8}(h:Buf w base v l)(he:Ext w w'):Buf w' base v l:=World.ownsRow.kept h (he.only none) (by cases v.ownBlock<;>simp)
theorem Buf.drew{w:World}{base:Nat}{v:Value}{l:List UInt8}(h:Buf w base v l):Buf w.drew base v l:=h.ext (Ext.refl w).drew
theorem Buf.far{w:World}{base:Nat}{v:Value}{l:List UInt8}(h:Buf w base v l){p:Addr}{cs:Array Value}{t:TypeId}{m:Nat×Nat}(hp:w.heap[p.block]?=some (.cells cs t m))(ht:t≠5)(u:Value):Buf (w.setCell p u) base v l:=by
 refine World.ownsRow.kept h (row:=some p.block) ⟨rfl,rfl,rfl,by simp[World.setCell],fun i hi hn=>Below.heap_setCell w p u i (by rintro rfl;exact hn rfl)⟩ (.inr ?_)
 rcases h.2 with⟨rfl,_⟩|⟨g',cap,cur,rfl,hb,hc,_⟩
 ·simp[Value.ownBlock]
 simp only[Value.ownBlock,ne_eq,Option.some.injEq]
 rintro rfl
 rw[hc] at hp;injection hp with hp;injection hp with _ e;exact ht e.symm
theorem Buf.shape{w:World}{base:Nat}{v:Value}{l:List UInt8}(h:Buf w base v l):∃a c,v=.slice a l.length c:=by
 rcases h.2 with⟨rfl,h0⟩|⟨g,cap,cur,rfl,_⟩
 ·exact⟨none,0,by rw[h0]⟩
 exact⟨_,_,rfl⟩
theorem SG(l:List UInt8):strOfNums (l.map fun c=>(c.toNat:Int))=⟨l.toArray⟩:=by
 unfold strOfNums
 congr 1
 simp[Function.comp_def]
theorem Buf.str{w:World}{base:Nat}{v:Value}{l:List UInt8}(h:Buf w base v l):(convert 217 9 v).run Tryz.prog w=.ok (.string ⟨l.toArray⟩) w:=by
 rw[←SG]
 refine Dq (n:=l.length) (base:=base) 217 5 9 Tryz.underlying217 Tryz.underlying5 Tryz.underlying9 ?_
 rw[List.map_map];exact h
section
variable {o:Oper} {a:Act} {K:Act→World→Prop} {Q:Exit→Act→World→Prop}
end
end Go.Proofs.YtpdlghcgekojlaaGreatDoor
