/- Rows of values and of fields under construction, whose elements are new memory too. -/
import Derived.Test.YtflpefkohpjjpaaGreatDoorQNWin
import Derived.Test.YtflpefkohpjjpaaGreatDoorQN2
import Derived.Test.YtflpefkohpjjpaaGreatDoorQNMixP
set_option linter.unusedSimpArgs false
set_option linter.unusedVariables false
namespace Go.Proofs.YtflpefkohpjjpaaGreatDoor
open Go.RowKit
section
variable {P:Program} {ops:Array Oper} {Q:Exit→Act→World→Prop} {S:World→Prop} {L:Nat}
theorem qN(Pn:List PanicEntry→List Deferred→World→Prop)(S:World→Prop)(L:Nat)(l:List (Bool×Nat)){id:Nat}{a:Act}{w:World}(hm:P.follows .mixedOrders=true)(hs:Region.noSelect ops=true)(hl:decide (l.length≤ops.size)=true)(hb:jh ops l (Array.replicate ops.size false)=true)
 (hL:lastB ops L=true) (he:endsB L l=true) (hP:∀c a w,Pn c a.defers w→Q (.panic c) a w) (hS:S w.drew) (h:gW P ops (iQ Pn Q) S L l a w.drew):(Code.region id ops true).wp P Q a w:=
 Code.wp_mono (iQ.imp hP) (wp_region_any hm (nC _ _ _ _ (jR hL hs (fun _ _ d _ _ h=>by cases d<;>exact h) l _ a _ ops.size (of_decide_eq_true hl) hb he hS h)))
theorem zN{Pn:List PanicEntry→List Deferred→World→Prop}{a:Act}{w:World}(h:Q .normal a w):gW P ops (iQ Pn Q) S L [] a w:=h
end
def Same(lo:Nat)(w w':World):Prop:=∀i,lo≤i→i<w.heap.size→w'.heap[i]?=w.heap[i]?
theorem vk{w w':World}{lo base size n:Nat}{e:TypeId}{x:Value}{xs:List Value}(h:w.ownsRow base e size x n xs)(hb:lo≤base)(hk:Same lo w w'):w'.ownsRow base e size x n xs:=by
 refine⟨h.1,?_⟩
 rcases h.2 with h2|⟨g,cap,cur,h1,h2,h3,h4⟩
 ·exact .inl h2
 ·exact .inr ⟨g,cap,cur,h1,h2,(hk g (by omega) (dI h3)).trans h3,h4⟩
def nI(lo:Nat)(w:World)(x:Value)(ts:List Tr):Prop:=∃cs,w.ownsRow lo 25 5 x ts.length cs∧bQ (win (fun i=>lo≤i∧some i≠x.ownBlock) w) cs ts
theorem nI.nil(lo:Nat)(w:World):nI lo w (.slice none 0 0) []:=⟨[],World.ownsRow_nil w lo 25 5,trivial⟩
theorem nI.keep{lo:Nat}{w w':World}{x:Value}{ts:List Tr}(h:nI lo w x ts)(hk:Same lo w w'):nI lo w' x ts:=by
 obtain⟨cs,h1,h2⟩:=h
 exact⟨cs,vk h1 (Nat.le_refl _) hk,bQ.sub (iL (fun i hF hi=>⟨hF,hk i hF.1 hi⟩)) _ _ h2⟩
theorem nI.shape{lo:Nat}{w:World}{x:Value}{ts:List Tr}(h:nI lo w x ts):∃a c,x=.slice a ts.length c:=by
 obtain⟨cs,h1,h2⟩:=h
 rcases h1.2 with⟨rfl,h0⟩|⟨g,cap,cur,rfl,_⟩
 ·exact⟨none,0,by rw[h0]⟩
 ·exact⟨_,_,rfl⟩
theorem nI.EX{lo hi:Nat}{w:World}{x:Value}{ts:List Tr}(h:nI lo w x ts)(hh:w.heap.size≤hi):∃a c,x=.slice a ts.length c∧ts.length≤c∧c≤maxLen∧iw (win (fun i=>lo≤i∧i<hi) w) a 0 ts:=by
 obtain⟨cs,h1,h2⟩:=h
 have h2':bQ (win (fun i=>lo≤i∧i<hi) w) cs ts:=bQ.sub (iL (fun i hF hi=>⟨⟨hF.1,by omega⟩,rfl⟩)) _ _ h2
 rcases h1.2 with⟨rfl,hn⟩|⟨g,cap,cur,rfl,hb,hc,hle,hm,_,_⟩
 ·have:ts=[]:=List.eq_nil_of_length_eq_zero hn
  subst this
  exact⟨none,0,rfl,Nat.le_refl _,by unfold maxLen;omega,by unfold iw;trivial⟩
 ·refine⟨_,_,rfl,hle,hm,bQ.EX ts cs 0 h2' (fun j u hj=>?_)⟩
  have:=h1.cells (g:=g) rfl j u hj
  rw[add_plain] at this
  rw[Nat.zero_add,Nat.zero_add]
  exact BH ⟨hb,Nat.lt_of_lt_of_le (dI hc) hh⟩ this
theorem vw(w:World)(base:Nat)(t ty e:TypeId)(i:TypeInfo)(z:Value)(size bytes:Nat)(ht:Tryz.prog.underlying t=some (.slice e))(hi:Tryz.prog.info? e=some i)(hz:i.zero=some z)
 (hsize:i.size=size) (hby:i.bytes=bytes) (v:Value) (n:Nat) (xs:List Value) (hown:w.ownsRow base e size v n xs)
 (a:Addr) (m c:Nat) (news:List Value) (hl:news.length=m*size) (hnews:∀j u,news[j]?=some u→w.cell? (a.add j)=some u) (h1:∀u∈news,u.oneCell'=true) (hm:0<m)
 (h63:n+m≤maxLen) (hbytes:(n+m)*bytes≤140737488355328) {v':Value} {w':World} (hr:(Builtin.append_ #[t,t] ty #[v,.slice (some a) m c]).run Tryz.prog w=.ok v' w'):
 ∀g',v'.ownBlock=some g'→v.ownBlock=some g'∨g'=w.heap.size:=by
 subst hsize hby
 have hsmall:n+m≤9223372036854775807:=by simp only[maxLen] at h63;omega
 intro g' hg'
 rcases hown.2 with⟨rfl,rfl⟩|⟨g,cap,cur,rfl,hbg,hg,hnc,hcm,hcs,htake⟩
 ·have hr2:=run_append_nil (P:=Tryz.prog) w t ty e i z ht hi hz a m c news hl hnews hm (by omega) (by have hb:=hbytes;simp only[Nat.zero_add] at hb;omega)
  rw[hr] at hr2
  injection hr2 with h2 h3
  subst h2
  simp only[Value.ownBlock,Option.some.injEq] at hg'
  exact .inr hg'.symm
 ·by_cases hroom:n+m≤cap
  ·have hfit:n*i.size+news.length≤cur.size:=by rw[hl, hcs, ←Nat.add_mul];exact Nat.mul_le_mul_right _ hroom
   have hr2:=run_append_room (P:=Tryz.prog) w t ty e i ht hi g n cap cur hg a m c news hl hnews h1 hroom hfit
   rw[hr] at hr2
   injection hr2 with h2 h3
   subst h2
   exact .inl hg'
  ·have holds:∀j u,xs[j]?=some u→w.cell? ((⟨g,0,none⟩:Addr).add j)=some u:=hown.cells (g:=g) rfl
   have hr2:=run_append_grow (P:=Tryz.prog) w t ty e i z ht hi hz ⟨g,0,none⟩ n cap xs hown.1 holds a m c news hl hnews (by omega) (by omega) (growslice_fits (by omega) hbytes)
   rw[hr] at hr2
   injection hr2 with h2 h3
   subst h2
   simp only[Value.ownBlock,Option.some.injEq] at hg'
   exact .inr hg'.symm
theorem sK{o:Oper}{a:Act}{K:Act→World→Prop}{Q:Exit→Act→World→Prop}(w:World)(s x:Operand)(ho:o.op=.call { callee:=.builtin .append,args:=#[s,x],argTypes:=#[22,22] })
 (lo:Nat) (v:Value) (ts:List Tr) (hs:a.eval s=v) (hR:nI lo w v ts) (t:Tr) (c0 c1 c2 c3 c4:Value) (hx:a.eval x=.slice (some ⟨w.heap.size,0,none⟩) 1 1)
 (lo':Nat) (hlo:lo≤lo') (hown:∀g,v.ownBlock=some g→g<lo') (hV:iC lo' w.heap.size w t (.agg #[c0,c1,c2,c3,c4])) (hlen:(ts.length+1)*80≤140737488355328) (hbase:lo≤w.heap.size)
 (h:∀v' w',nI lo w' v' (ts++[t])→(∀g,v'.ownBlock=some g→lo≤g∧g<w'.heap.size)→(w.alloc (.cells #[c0,c1,c2,c3,c4] 25)).grownBy w' v.ownBlock→K (a.put o.dst v') w'):
 o.wp Tryz.prog a (w.alloc (.cells #[c0,c1,c2,c3,c4] 25)) K Q:=by
 obtain⟨i0,hi,hz0,hz1,hz2⟩:=info_parts O7
 obtain⟨cs,h1,h2⟩:=hR
 have hV0:=hV
 unfold iC at hV0
 obtain⟨k',i',s',la',ln',lc',da',dn',dc',rfl,rfl,rfl,rfl,rfl⟩:=hV0.shape5
 obtain⟨news,hnw⟩:∃l:List Value,[.int .i64 k',.int .i64 i',.string s',.slice la' ln' lc',.slice da' dn' dc']=l:=⟨_,rfl⟩
 have hone:∀u∈news,u.oneCell'=true:=by
  rw[←hnw]
  intro u hu
  simp only[List.mem_cons,List.not_mem_nil,or_false] at hu
  rcases hu with rfl|rfl|rfl|rfl|rfl<;>rfl
 have hcells:=uz w [.int .i64 k',.int .i64 i',.string s',.slice la' ln' lc',.slice da' dn' dc'] 25
 rw[hnw] at hcells
 have hl5:news.length=1*5:=by rw[←hnw];rfl
 obtain⟨W,hW⟩:∃W,w.alloc (.cells #[.int .i64 k',.int .i64 i',.string s',.slice la' ln' lc',.slice da' dn' dc'] 25)=W:=⟨_,rfl⟩
 have hcells':∀j u,news[j]?=some u→W.cell? ((⟨w.heap.size,0,none⟩:Addr).add j)=some u:=by rw[←hW,←hnw] at *;exact hcells
 have hEW:Ext w W:=by rw[←hW];exact(Ext.refl w).alloc _
 have hsz:W.heap.size=w.heap.size+1:=by rw[←hW];simp
 have h1W:W.ownsRow lo 25 5 v ts.length cs:=by rw[←hW];exact h1.alloc _
 rw[hW] at h ⊢
 obtain⟨v',w',hr,p1,p2,p3⟩:=run_append_own (P:=Tryz.prog) W lo 22 o.type 25 i0 _ 5 80 Tryz.underlying22 hi hz0 hz1 hz2 rfl (by decide) v ts.length cs h1W ⟨w.heap.size,0,none⟩ 1 1 news hl5 hcells' hone (by unfold maxLen;omega) hlen (by omega)
 have hblk:=vw W lo 22 o.type 25 i0 _ 5 80 Tryz.underlying22 hi hz0 hz1 hz2 v ts.length cs h1W ⟨w.heap.size,0,none⟩ 1 1 news hl5 hcells' hone (by decide) (by unfold maxLen;omega) hlen hr
 unfold Oper.wp execOp
 simp only[ho,resolve,invoke,builtin,Sem.run_bind,Sem.run_pure,Result.andThen_ok,List.map_toArray,List.map_cons,List.map_nil,hs,hx,hr]
 have hsub:Sub (win (fun i=>lo≤i∧some i≠v.ownBlock) w) (win (fun i=>lo≤i∧some i≠v'.ownBlock) w'):=iL (fun i hF hi=>by
  refine⟨⟨hF.1,fun e=>?_⟩,?_⟩
  ·rcases hblk i e.symm with hb|hb
   ·exact hF.2 hb.symm
   ·omega
  ·rw[p2.block i (by omega) hF.2,hEW.below.block i hi])
 have hsub2:Sub (win (fun i=>lo'≤i∧i<w.heap.size) w) (win (fun i=>lo≤i∧some i≠v'.ownBlock) w'):=iL (fun i hF hi=>by
  have hne:some i≠v.ownBlock:=fun e=>by have:=hown i e.symm;omega
  refine⟨⟨by omega,fun e=>?_⟩,?_⟩
  ·rcases hblk i e.symm with hb|hb
   ·exact hne hb.symm
   ·omega
  ·rw[p2.block i (by omega) hne,hEW.below.block i hi])
 refine h v' w' ⟨cs++news,?_,?_⟩ (fun g hg=>p1.lt g hg) p2
 ·rw[List.length_append,List.length_singleton];exact p1
 ·rw[←hnw];exact bQ.snoc (fE.sub hsub2 _ _ hV) _ _ (bQ.sub hsub _ _ h2)
theorem Px:(Tryz.prog.info? 115).map (fun i=>(i.zero,i.size,i.bytes))=some (some (.agg #[.string ⟨#[]⟩,.int .i64 0,.int .i64 0,.string ⟨#[]⟩,.slice none 0 0,.slice none 0 0]),6,96):=by kernel_rfl
def jV(lo:Nat)(w:World)(x:Value)(ns:List ByteArray)(ts:List Tr):Prop:=∃cs,w.ownsRow lo 115 6 x ts.length cs∧bH (win (fun i=>lo≤i∧some i≠x.ownBlock) w) cs ns ts
theorem jV.nil(lo:Nat)(w:World):jV lo w (.slice none 0 0) [] []:=⟨[],World.ownsRow_nil w lo 115 6,trivial⟩
theorem jV.keep{lo:Nat}{w w':World}{x:Value}{ns:List ByteArray}{ts:List Tr}(h:jV lo w x ns ts)(hk:Same lo w w'):jV lo w' x ns ts:=by
 obtain⟨cs,h1,h2⟩:=h
 exact⟨cs,vk h1 (Nat.le_refl _) hk,bH.sub (iL (fun i hF hi=>⟨hF,hk i hF.1 hi⟩)) _ _ _ h2⟩
theorem jV.shape{lo:Nat}{w:World}{x:Value}{ns:List ByteArray}{ts:List Tr}(h:jV lo w x ns ts):∃a c,x=.slice a ts.length c:=by
 obtain⟨cs,h1,h2⟩:=h
 rcases h1.2 with⟨rfl,h0⟩|⟨g,cap,cur,rfl,_⟩
 ·exact⟨none,0,by rw[h0]⟩
 ·exact⟨_,_,rfl⟩
theorem jV.O8{lo hi:Nat}{w:World}{x:Value}{ns:List ByteArray}{ts:List Tr}(h:jV lo w x ns ts)(hh:w.heap.size≤hi):∃a c,x=.slice a ts.length c∧ts.length≤c∧c≤maxLen∧gQ (win (fun i=>lo≤i∧i<hi) w) a 0 ns ts:=by
 obtain⟨cs,h1,h2⟩:=h
 have h2':bH (win (fun i=>lo≤i∧i<hi) w) cs ns ts:=bH.sub (iL (fun i hF hi=>⟨⟨hF.1,by omega⟩,rfl⟩)) _ _ _ h2
 rcases h1.2 with⟨rfl,hn⟩|⟨g,cap,cur,rfl,hb,hc,hle,hm,_,_⟩
 ·have:ts=[]:=List.eq_nil_of_length_eq_zero hn
  subst this
  exact⟨none,0,rfl,Nat.le_refl _,by unfold maxLen;omega,by unfold gQ;trivial⟩
 ·refine⟨_,_,rfl,hle,hm,bH.O8 ts ns cs 0 h2' (fun j u hj=>?_)⟩
  have:=h1.cells (g:=g) rfl j u hj
  rw[add_plain] at this
  rw[Nat.zero_add,Nat.zero_add]
  exact BH ⟨hb,Nat.lt_of_lt_of_le (dI hc) hh⟩ this
theorem sO{o:Oper}{a:Act}{K:Act→World→Prop}{Q:Exit→Act→World→Prop}(w:World)(s x:Operand)(ho:o.op=.call { callee:=.builtin .append,args:=#[s,x],argTypes:=#[23,23] })
 (lo:Nat) (v:Value) (ns:List ByteArray) (ts:List Tr) (hs:a.eval s=v) (hR:jV lo w v ns ts) (t:Tr) (n:ByteArray) (hn:n.size≤maxLen) (c0 c1 c2 c3 c4:Value) (hx:a.eval x=.slice (some ⟨w.heap.size,0,none⟩) 1 1)
 (lo':Nat) (hlo:lo≤lo') (hown:∀g,v.ownBlock=some g→g<lo') (hV:iC lo' w.heap.size w t (.agg #[c0,c1,c2,c3,c4])) (hlen:(ts.length+1)*96≤140737488355328) (hbase:lo≤w.heap.size)
 (h:∀v' w',jV lo w' v' (ns++[n]) (ts++[t])→(∀g,v'.ownBlock=some g→lo≤g∧g<w'.heap.size)→(w.alloc (.cells #[.string n,c0,c1,c2,c3,c4] 115)).grownBy w' v.ownBlock→K (a.put o.dst v') w'):
 o.wp Tryz.prog a (w.alloc (.cells #[.string n,c0,c1,c2,c3,c4] 115)) K Q:=by
 obtain⟨i0,hi,hz0,hz1,hz2⟩:=info_parts Px
 obtain⟨cs,h1,h2⟩:=hR
 have hV0:=hV
 unfold iC at hV0
 obtain⟨k',i',s',la',ln',lc',da',dn',dc',rfl,rfl,rfl,rfl,rfl⟩:=hV0.shape5
 obtain⟨news,hnw⟩:∃l:List Value,[.string n,.int .i64 k',.int .i64 i',.string s',.slice la' ln' lc',.slice da' dn' dc']=l:=⟨_,rfl⟩
 have hone:∀u∈news,u.oneCell'=true:=by
  rw[←hnw]
  intro u hu
  simp only[List.mem_cons,List.not_mem_nil,or_false] at hu
  rcases hu with rfl|rfl|rfl|rfl|rfl|rfl<;>rfl
 have hcells:=uz w [.string n,.int .i64 k',.int .i64 i',.string s',.slice la' ln' lc',.slice da' dn' dc'] 115
 rw[hnw] at hcells
 have hl5:news.length=1*6:=by rw[←hnw];rfl
 obtain⟨W,hW⟩:∃W,w.alloc (.cells #[.string n,.int .i64 k',.int .i64 i',.string s',.slice la' ln' lc',.slice da' dn' dc'] 115)=W:=⟨_,rfl⟩
 have hcells':∀j u,news[j]?=some u→W.cell? ((⟨w.heap.size,0,none⟩:Addr).add j)=some u:=by rw[←hW,←hnw] at *;exact hcells
 have hEW:Ext w W:=by rw[←hW];exact(Ext.refl w).alloc _
 have hsz:W.heap.size=w.heap.size+1:=by rw[←hW];simp
 have h1W:W.ownsRow lo 115 6 v ts.length cs:=by rw[←hW];exact h1.alloc _
 rw[hW] at h ⊢
 obtain⟨v',w',hr,p1,p2,p3⟩:=run_append_own (P:=Tryz.prog) W lo 23 o.type 115 i0 _ 6 96 Tryz.underlying23 hi hz0 hz1 hz2 rfl (by decide) v ts.length cs h1W ⟨w.heap.size,0,none⟩ 1 1 news hl5 hcells' hone (by unfold maxLen;omega) hlen (by omega)
 have hblk:=vw W lo 23 o.type 115 i0 _ 6 96 Tryz.underlying23 hi hz0 hz1 hz2 v ts.length cs h1W ⟨w.heap.size,0,none⟩ 1 1 news hl5 hcells' hone (by decide) (by unfold maxLen;omega) hlen hr
 unfold Oper.wp execOp
 simp only[ho,resolve,invoke,builtin,Sem.run_bind,Sem.run_pure,Result.andThen_ok,List.map_toArray,List.map_cons,List.map_nil,hs,hx,hr]
 have hsub:Sub (win (fun i=>lo≤i∧some i≠v.ownBlock) w) (win (fun i=>lo≤i∧some i≠v'.ownBlock) w'):=iL (fun i hF hi=>by
  refine⟨⟨hF.1,fun e=>?_⟩,?_⟩
  ·rcases hblk i e.symm with hb|hb
   ·exact hF.2 hb.symm
   ·omega
  ·rw[p2.block i (by omega) hF.2,hEW.below.block i hi])
 have hsub2:Sub (win (fun i=>lo'≤i∧i<w.heap.size) w) (win (fun i=>lo≤i∧some i≠v'.ownBlock) w'):=iL (fun i hF hi=>by
  have hne:some i≠v.ownBlock:=fun e=>by have:=hown i e.symm;omega
  refine⟨⟨by omega,fun e=>?_⟩,?_⟩
  ·rcases hblk i e.symm with hb|hb
   ·exact hne hb.symm
   ·omega
  ·rw[p2.block i (by omega) hne,hEW.below.block i hi])
 refine h v' w' ⟨cs++news,?_,?_⟩ (fun g hg=>p1.lt g hg) p2
 ·rw[List.length_append,List.length_singleton];exact p1
 ·rw[←hnw];exact bH.snoc hn (fE.sub hsub2 _ _ hV) _ _ _ (bH.sub hsub _ _ _ h2)
end Go.Proofs.YtflpefkohpjjpaaGreatDoor
