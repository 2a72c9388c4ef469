/- slices.Clone at ints (out of Sl). -/
import Derived.Test.YtbdcaeahocbkbaaGreatDoorQAOutQ
import Derived.Lib.SliceRun
set_option linter.unusedSimpArgs false
set_option linter.unusedVariables false
namespace Go.Proofs.YtbdcaeahocbkbaaGreatDoor
open Go.RowKit
def ints(l:List Int):List (List Lf):=l.map fun n=>[.int .i64 n]
def SI(I:Gh)(v:Value)(l:List Int):Prop:=LRp I (.rows 1 (ints l)) v
theorem Acc.mono{I J:Gh}{w:World}{base:Nat}{e:TypeId}{n:Nat}{x:Value}{l:List (List Lf)}(h:Acc I w base e n x l)(hl:Le I J)(ha:∀g,x.ownBlock=some g→Av J g):Acc J w base e n x l:=by
 obtain⟨xs,h1,h2,h3,_⟩:=h
 exact⟨xs,h1,dU.mono hl _ _ h2,h3,ha⟩
theorem Acc.keep{I:Gh}{w w':World}{base:Nat}{e:TypeId}{n:Nat}{x:Value}{l:List (List Lf)}(h:Acc I w base e n x l)(hk:∀g,x.ownBlock=some g→w'.heap[g]?=w.heap[g]?):Acc I w' base e n x l:=by
 obtain⟨xs,h1,h2,h3,h4⟩:=h
 refine⟨xs,⟨h1.1,?_⟩,h2,h3,h4⟩
 rcases h1.2 with h|⟨g,cap,cur,rfl,hg,hb,hn⟩
 ·exact .inl h
 ·exact .inr ⟨g,cap,cur,rfl,hg,(hk g rfl).trans hb,hn⟩
theorem Acc.low{I:Gh}{w:World}{base base':Nat}{e:TypeId}{n:Nat}{x:Value}{l:List (List Lf)}(h:Acc I w base e n x l)(hb:base'≤base):Acc I w base' e n x l:=by
 obtain⟨xs,h1,h2,h3,h4⟩:=h
 refine⟨xs,⟨h1.1,?_⟩,h2,h3,h4⟩
 rcases h1.2 with h|⟨g,cap,cur,rfl,hg,hb',hn⟩
 ·exact .inl h
 ·exact .inr ⟨g,cap,cur,rfl,Nat.le_trans hb hg,hb',hn⟩
theorem Acc.own{I:Gh}{w:World}{base:Nat}{e:TypeId}{n:Nat}{x:Value}{l:List (List Lf)}(h:Acc I w base e n x l):∀g,x.ownBlock=some g→base≤g∧g<w.heap.size:=by
 obtain⟨xs,h1,_⟩:=h
 exact fun g hg=>h1.lt g hg
theorem Acc.ext{I:Gh}{w w':World}{base:Nat}{e:TypeId}{n:Nat}{x:Value}{l:List (List Lf)}(h:Acc I w base e n x l)(k:Ext w w'):Acc I w' base e n x l:=
 h.keep fun g hg=>k.below.block g (h.own g hg).2
theorem SI.shape{I:Gh}{v:Value}{l:List Int}(h:SI I v l):∃a c,v=.slice a l.length c∧l.length≤c∧c≤maxLen:=by
 obtain⟨a,c,h1,h2,h3⟩:=LRp.slice h
 have e:(ints l).length=l.length:=by simp[ints]
 rw[e] at h1 h2
 exact⟨a,c,h1,h2,h3⟩
theorem SI.at_{I:Gh}{a:Option Addr}{c:Nat}{l:List Int}(h:SI I (.slice a l.length c) l)(j:Nat)(x:Int)(hj:l[j]?=some x):∃b off,a=some ⟨b,off,none⟩∧I b (off+j)=some (.int .i64 x):=by
 obtain⟨b,off,c',cs,h1,_,_,_,h2,h3⟩:=LRp.elem h j [.int .i64 x] (by simp[ints,hj])
 injection h1 with h1 _ _
 obtain⟨v,q,rfl,h4,_⟩:=h2
 have h5:=h3 0 v rfl
 refine⟨b,off,h1,?_⟩
 rw[Nat.mul_one,Nat.add_zero] at h5
 rw[h5]
 rw[h4.int.1]
theorem SI.wf{I:Gh}{v:Value}{l:List Int}(h:SI I v l):∀x∈l,I64 x:=by
 intro x hx
 obtain⟨j,hj⟩:=List.getElem?_of_mem hx
 obtain⟨b,off,c',cs,h1,_,_,_,h2,h3⟩:=LRp.elem h j [.int .i64 x] (by simp[ints,hj])
 obtain⟨v,q,rfl,h4,_⟩:=h2
 have hb:=bounds_i64 h4.int.2
 unfold I64;omega
theorem wf_i64{x:Int}(h:I64 x):(Lit.int .i64 x).wf=true:=by
 unfold I64 at h
 have h1:IntKind.min .i64 = -9223372036854775808:=by kernel_rfl
 have h2:IntKind.max .i64=9223372036854775807:=by kernel_rfl
 simp only[Lit.wf,Bool.and_eq_true,decide_eq_true_eq];omega
theorem aeQ(I:Gh):∀(l:List Int),(∀x∈l,I64 x)→dU I (ints l).flatten (l.map fun x=>.int .i64 x)
 |[],_=>rfl
 |x::r,h=>⟨_,_,rfl,by unfold LRp;exact⟨rfl,wf_i64 (h x (by simp))⟩,aeQ I r (fun y hy=>h y (by simp[hy]))⟩
theorem au6:(Tryz.prog.info? 3).map (fun i=>(i.zero,i.size,i.bytes))=some (some (.int .i64 0),1,8):=by kernel_rfl
set_option maxRecDepth 20000 in
set_option maxHeartbeats 4000000 in
theorem agV(l:List Int)(v:Value)(I:Gh)(w:World)(hv:SI I v l)(hi:Inv I w)(hb:l.length≤16777216):
 Calls Tryz.prog 40 #[v] w fun e w'=>∃v',e=.returned v'∧Acc I w' w.heap.size 3 1 v' (ints l)∧Ext w w':=by
 obtain⟨a,c,rfl,hc1,hc2⟩:=hv.shape
 have HV:=Lib.hid hv
 have HI:=Lib.hid hi
 clear hv hi
 have hq:∀(w:World) (a:Option Addr) (n c n' c':Nat),(binOp .eql 23 (.slice a n c) (.slice none n' c')).run Tryz.prog w=.ok (.bool a.isNone) w:=fun w a n c n' c'=>Lib.run_eql_slice_nil w _ _ a n c n' c' Tryz.underlying23
 cases a with
 |none=>
  have hl:l=[]:=by
   cases l with
   |nil=>rfl
   |cons x r=>obtain⟨b,off,h,_⟩:=SI.at_ HV.out 0 x rfl;cases h
  subst hl
  go_enter Tryz.func40,Tryz.ntmps40
  go_wp2_with fail
  go_ret
  exact⟨_,rfl,Acc.nil _ _ _ _ _,Ext.refl _⟩
 |some ad=>
  obtain⟨i0,hin,hz0,hz1,hz2⟩:=info_parts au6
  have hcell:∀j u,(l.map (fun x:Int=>(.int .i64 x)))[j]?=some u→w.cell? (ad.add j)=some u:=fun j u hj=>by
   rw[List.getElem?_map] at hj
   cases hx:l[j]? with
   |none=>rw[hx] at hj;cases hj
   |some x=>
    rw[hx] at hj
    injection hj with hj
    obtain⟨b,off,h,hI⟩:=SI.at_ HV.out j x hx
    injection h with h
    subst h hj
    rw[add_plain']
    exact HI.out _ _ _ hI
  go_enter Tryz.func40,Tryz.ntmps40
  go_wp2_with (at_builtin;refine wpList_append_own _ rfl _ _ 23 rfl w.heap.size 3 i0 (.int .i64 0) 1 8 Tryz.underlying23 hin hz0 hz1 hz2 rfl (by decide) _ _ _ rfl (World.ownsRow_made w #[] 0 (Nat.le_refl _) (Nat.zero_le _) rfl) ad l.length c (l.map (fun x:Int=>(.int .i64 x))) rfl ?qc1 ?qc2 ?qc3 ?qc4 ?qc5 ?qc6 ?_)
  case qc1=>simp
  case qc2=>intro j u hj;exact((Ext.refl w).alloc _).keep (hcell j u hj)
  case qc3=>intro u hu;obtain⟨x,_,rfl⟩:=List.mem_map.1 hu;rfl
  case qc4=>unfold maxLen;omega
  case qc5=>omega
  case qc6=>simp
  intro v' w1 hown hgrow hnil
  have hE:Ext w w1:=Ext.grown ((Ext.refl w).alloc _) hgrow (by intro k hk;simp[Value.ownBlock] at hk;omega)
  have hA:Acc I w1 w.heap.size 3 1 v' (ints l):=⟨_,by simpa[ints] using hown,aeQ _ _ HV.out.wf,by intro r hr;obtain⟨x,_,rfl⟩:=List.mem_map.1 (show r∈List.map _ l from hr);rfl,fun g hg=>HI.out.av (hown.lt g hg).1⟩
  have HA:=Lib.hid hA
  have HE:=Lib.hid hE
  clear hA hE hown hgrow hnil hcell hq
  go_wp2_with fail
  go_ret
  exact⟨_,rfl,HA.out,HE.out⟩
end Go.Proofs.YtbdcaeahocbkbaaGreatDoor
