/- The maps of the data, at this program. -/
import Derived.Test.YtpdlghcgekojlaaGreatDoorQDManP
import Derived.Test.YtpdlghcgekojlaaGreatDoorQD3
import Derived.Lib.SliceRun
import Derived.Test.YtpdlghcgekojlaaGreatDoorQDLayZ
import Derived.Maps.RangeWalk
set_option linter.unusedSimpArgs false
set_option linter.unusedVariables false
namespace Go.Proofs.YtpdlghcgekojlaaGreatDoor
open Go.RowKit
abbrev Ver:=aC
abbrev aU:=RM aC
def aY(d:aU)(out:Option (Nat×ByteArray)):Rsc:=MM Tryz.prog 9 9 147 6 aC.lf d out
def ac0:Rsc:=IM Tryz.prog 9
def bD(l:List (ByteArray×au)):Rsc:=SM Tryz.prog 9 au.lf1 l
def bF(l:List (ByteArray×aA)):Rsc:=SM Tryz.prog 9 aA.lf1 l
theorem QK:EC Tryz.prog 109 139 9 9:=⟨by kernel_rfl,by kernel_rfl,⟨139,by kernel_rfl,congrFun (by kernel_rfl:(zeroValue 139).run Tryz.prog=fun w=>.ok (.map none) w)⟩,⟨145,by kernel_rfl,congrFun (by kernel_rfl:(zeroValue 145).run Tryz.prog=fun w=>.ok (.slice none 0 0) w)⟩⟩
theorem aeJ:QI Tryz.prog 111 9 aA.lf1 aA.z:=⟨by kernel_rfl,⟨116,by kernel_rfl,[.int .i64 0,.int .i64 0],congrFun (by kernel_rfl:(zeroValue 116).run Tryz.prog=fun w=>.ok (.agg #[.int .i64 0,.int .i64 0]) w),fun I=>⟨_,_,rfl,by unfold LRp;exact⟨rfl,rfl⟩,_,_,rfl,by unfold LRp;exact⟨rfl,rfl⟩,rfl⟩⟩⟩
section
variable (d:aU) (s:ByteArray)
theorem Zr:OpH Tryz.prog GI (.lk 109 false) [.mp 0,.lf (.str s)] [.res (aY d none) none] (.hnd 0 (aI s d.dir)) [.res (aY d none) none]:=MM.look QK none
theorem tu:OpH Tryz.prog GI (.lk 109 true) [.mp 0,.lf (.str s)] [.res (aY d none) none] (.tup [.hnd 0 (aI s d.dir),.lf (.bool (aI s d.dir).isSome)]) [.res (aY d none) none]:=MM.QG QK none
theorem tC(o:Option Nat):OpH Tryz.prog GI (.lk 139 false) [.hnd 0 o,.lf (.str s)] [.res (aY d none) none] (.own 1) [.res (aY d (outOf o s)) (some 1),.row 147 6 ((d.row o s).map aC.lf)]:=MM.take QK o
theorem rP(o:Option Nat):GhH [.res (aY d (outOf o s)) (some 1),.row 147 6 ((d.row o s).map aC.lf)] [.res (aY d none) none,.dead]:=MM.back o
theorem LJ(o:Option Nat)(j:Nat)(r:List Ver)(h:o=some j)(hl:(d.inner j).length<maxLen):OpH Tryz.prog GI (.up 139) [.hnd 0 o,.lf (.str s),.own 1] [.res (aY d (outOf o s)) none,.row 147 6 (r.map aC.lf)] (.raw undef) [.res (aY (d.put j s r) none) none,.dead]:=by
 subst h;exact MM.putRow QK hl (.inr rfl)
theorem Zt(hl:d.dir.length<maxLen):OpH Tryz.prog GI (.up 109) [.mp 0,.lf (.str s),.mp 1] [.res (aY d none) none,.res ac0 none] (.raw undef) [.res (aY (d.make s) none) none,.dead]:=MM.make QK hl
theorem Zu:OpH Tryz.prog GI (.mk 109) [] [] (.mp 0) [.res (aY ⟨[],[]⟩ none) none]:=MM.mkO
theorem Zv:OpH Tryz.prog GI (.mk 139) [] [] (.mp 0) [.res ac0 none]:=MM.mkI
end
section
variable (l:List (ByteArray×au)) (s:ByteArray)
theorem Zw:OpH Tryz.prog GI (.mk 110) [] [] (.mp 0) [.res (bD []) none]:=SM.mk
end
section
variable (l:List (ByteArray×aA)) (s:ByteArray)
theorem Zx:OpH Tryz.prog GI (.lk 111 false) [.mp 0,.lf (.str s)] [.res (bF l) none] (.dat (aA.lf1 ((aI s l).getD aA.z))) [.res (bF l) none]:=SM.look aeJ
theorem Zy(x:aA)(hl:l.length<maxLen):OpH Tryz.prog GI (.up 111) [.mp 0,.lf (.str s),.dat (aA.lf1 x)] [.res (bF l) none] (.raw undef) [.res (bF (eU s x l)) none]:=SM.put aeJ hl
theorem Zz:OpH Tryz.prog GI (.mk 111) [] [] (.mp 0) [.res (bF []) none]:=SM.mk
end
theorem ZA{α β γ:Type}{m:Option (α⊕β⊕γ)}{b x:γ}(h:m=some (.inr (.inr b)))(k:some b=some x):m=some (.inr (.inr x)):=by injection k with k;rw[h,k]
theorem LK(R:Rsc)(ty:TypeId)(n:Nat)(l:List (List Lf)):GhH [.res R (some 1),.row ty n l] [.res R none,.row ty n l]:=by
 intro e C w hM
 refine⟨e,C,⟨Env.le.refl e,Only.refl _ w,fun b o u m1 m2=>(by rw[m2] at m1;cases m1),fun x hx=>.inr ?_⟩,⟨fun b s hs=>?_,fun b s hs=>?_,fun b hb=>hM.bound b hb,fun b b' s s' g h1 h2 m1 m2=>?_,fun b s x hs hx=>?_,hM.inv⟩⟩
 ·obtain⟨b,s,hb,hx⟩:=hx
  rcases dA hb with⟨rfl,rfl⟩|⟨rfl,rfl⟩
  ·exact⟨0,.res R (some 1),rfl,hx⟩
  ·exact⟨1,_,rfl,hx⟩
 ·rcases dA hs with⟨rfl,rfl⟩|⟨rfl,rfl⟩
  ·exact hM.hv 0 (.res R (some 1)) rfl
  ·exact hM.hv 1 _ rfl
 ·rcases dA hs with⟨rfl,rfl⟩|⟨rfl,rfl⟩
  ·obtain⟨v,h1,_⟩:=hM.hw 0 (.res R (some 1)) rfl
   exact⟨v,h1,fun _ h=>by cases h⟩
  ·exact hM.hw 1 _ rfl
 ·have cv:∀b s,([Slot.res R none,.row ty n l]:List Slot)[b]?=some s→∀x,bK e b s x→∃s',([Slot.res R (some 1),.row ty n l]:List Slot)[b]?=some s'∧bK e b s' x:=fun b s hs x hx=>by
   rcases dA hs with⟨rfl,rfl⟩|⟨rfl,rfl⟩
   ·exact⟨.res R (some 1),rfl,hx⟩
   ·exact⟨_,rfl,hx⟩
  obtain⟨t,k1,k2⟩:=cv b s h1 g m1
  obtain⟨t',k3,k4⟩:=cv b' s' h2 g m2
  exact hM.inj b b' t t' g k1 k3 k2 k4
 ·rcases dA hs with⟨rfl,rfl⟩|⟨rfl,rfl⟩
  ·exact hM.av 0 (.res R (some 1)) x rfl hx
  ·exact hM.av 1 _ x rfl hx
end Go.Proofs.YtpdlghcgekojlaaGreatDoor
set_option linter.unusedSimpArgs false
set_option linter.unusedVariables false
namespace Go.Proofs.YtpdlghcgekojlaaGreatDoor
open Go.RowKit
set_option maxRecDepth 20000 in
set_option maxHeartbeats 4000000 in
theorem KA(a:Option Addr)(c:Nat)(w:World):Calls Tryz.prog 192 #[.slice a 0 c] w fun e w'=>∃a' c',e=.returned (.slice a' 0 c')∧c'≤maxLen∧Ext w w':=by
 have hq:∀(w:World) (a:Option Addr) (n c n' c':Nat),(binOp .eql 42 (.slice a n c) (.slice none n' c')).run Tryz.prog w=.ok (.bool a.isNone) w:=fun w a n c n' c'=>Lib.run_eql_slice_nil w _ _ a n c n' c' Tryz.underlying42
 cases a with
 |none=>
  go_enter Tryz.func192,Tryz.ntmps192
  go_wp2_with fail
  go_ret
  exact⟨_,_,rfl,Nat.zero_le _,Ext.refl _⟩
 |some ad=>
  go_enter Tryz.func192,Tryz.ntmps192
  go_wp2_with fail
  go_ret
  exact⟨_,_,rfl,by first|exact Nat.zero_le _|omega,by first|exact(Ext.refl _).alloc _|exact Ext.refl _⟩
end Go.Proofs.YtpdlghcgekojlaaGreatDoor
set_option linter.unusedSimpArgs false
set_option linter.unusedVariables false
namespace Go.Proofs.YtpdlghcgekojlaaGreatDoor
open Go.RowKit
set_option maxRecDepth 20000 in
set_option maxHeartbeats 4000000 in
noncomputable def QL(p_x:ByteArray)(p_l:List ByteArray):Mo (List ByteArray):=
 .say [.br false,.rows ((p_x::p_l).map lfS),.at_ 0 0,.frz 1] (okc (rfl:false=false) (okc (by simp[lfS]:(p_x::p_l).map lfS=[]++((p_x::p_l).map lfS)) ok0))<|
 .grd ((([]:List ByteArray).length+(p_x::p_l).length)*16≤140737488355328) fun h1=>
 .say [] (okc (by simpa using h1:(([]:List (List Lf)).length+((p_x::p_l).map lfS).length)*16≤140737488355328) ok0)<|
 .ret (cZ 1) ((p_x::p_l))
noncomputable def Q58(p_x:ByteArray)(p_l:List ByteArray):Option (List ByteArray):=Mo.den (QL p_x p_l)
set_option maxRecDepth 20000 in
set_option maxHeartbeats 4000000 in
theorem ac1(p_x:ByteArray)(p_l:List ByteArray)(r:List ByteArray)(h:Q58 p_x p_l=some r):Fn Tryz.prog GI 192 [.lf (.rows 1 ((p_x::p_l).map lfS))] (.lf (.rows 1 (r.map lfS))):=
 dK aG Tryz.func192 (by kernel_rfl) (by kernel_rfl) (by kernel_rfl) (QL p_x p_l) (fun r=>[.lf (.rows 1 (r.map lfS))]) (by kernel_rfl) h
noncomputable def Q83(l:List ByteArray):Option (List ByteArray):=if(0+l.length)*16≤140737488355328 then some l else none
theorem ac2(l r:List ByteArray)(h:Q83 l=some r):Fn Tryz.prog GI 192 [.lf (.rows 1 (l.map lfS))] (.lf (.rows 1 (r.map lfS))):=by
 unfold Q83 at h
 split at h
 ·rename_i hb
  injection h with h;subst h
  cases l with
  |cons x l=>exact ac1 x l (x::l) (by unfold Q58 QL;simp only[Mo.den,Qr];rw[if_pos (by simpa using hb)])
  |nil=>
   refine Fn.of (by kernel_rfl) fun I w vs hG hi hvs=>?_
   obtain⟨v,q,rfl,h1,h2⟩:=VRs.qQ hvs
   obtain rfl:=VRs.Zp h2
   have h1:=VR.lf.1 h1
   unfold LRp at h1
   obtain⟨a,c,rfl,_,_,_⟩:=h1
   refine(KA a c w).mono ?_
   rintro e w' ⟨a',c',rfl,hc,he⟩
   exact⟨I,_,rfl,Gr.Px hi he,VR.lf.2 (by unfold LRp;exact⟨a',c',rfl,Nat.zero_le _,hc,fun h=>absurd rfl h⟩)⟩
 ·cases h
end Go.Proofs.YtpdlghcgekojlaaGreatDoor
set_option linter.unusedSimpArgs false
set_option linter.unusedVariables false
namespace Go.Proofs.YtpdlghcgekojlaaGreatDoor
open Go.RowKit Go.Maps Go.Sort Go.Shelf
def kJ(x y:List UInt8):Bool:=decide (x≤y)
def Ox(x:List UInt8):List (List UInt8)→List (List UInt8)
 |[]=>[x]
 |y::r=>bif kJ x y then x::y::r else y::Ox x r
def QN:List (List UInt8)→List (List UInt8)
 |[]=>[]
 |x::r=>Ox x (QN r)
theorem oQ(x:List UInt8):∀l,(Ox x l).Perm (x::l)
 |[]=>List.Perm.refl _
 |y::r=>by
  unfold Ox
  cases kJ x y
  ·exact((oQ x r).cons y).trans (List.Perm.swap x y r)
  ·exact List.Perm.refl _
theorem kW:∀l,(QN l).Perm l
 |[]=>List.Perm.refl _
 |x::r=>(oQ x _).trans ((kW r).cons x)
theorem tH(x y:List UInt8):kJ x y=true∨kJ y x=true:=by
 unfold kJ;rw[decide_eq_true_iff,decide_eq_true_iff];exact List.le_total x y
theorem tJ{x y z:List UInt8}(h:kJ x y=true)(k:kJ y z=true):kJ x z=true:=by
 unfold kJ at *;rw[decide_eq_true_iff] at *;exact List.le_trans h k
theorem Oy{x y:List UInt8}(h:kJ x y=true)(k:kJ y x=true):x=y:=by
 unfold kJ at *;rw[decide_eq_true_iff] at *;exact List.le_antisymm h k
theorem qR(x:List UInt8):∀l,l.Pairwise (fun a b=>kJ a b=true)→(Ox x l).Pairwise (fun a b=>kJ a b=true)
 |[],_=>List.pairwise_singleton ..
 |y::r,h=>by
  unfold Ox
  have h1:=List.pairwise_cons.1 h
  cases hb:kJ x y
  ·refine List.pairwise_cons.2 ⟨fun z hz=>?_,qR x r h1.2⟩
   have hz:=(oQ x r).mem_iff.1 hz
   rcases List.mem_cons.1 hz with rfl|hz
   ·exact(tH y z).resolve_right (by rw[hb];decide)
   ·exact h1.1 z hz
  ·exact List.pairwise_cons.2 ⟨fun z hz=>by
    rcases List.mem_cons.1 hz with rfl|hz
    ·exact hb
    ·exact tJ hb (h1.1 z hz),h⟩
theorem qU:∀l,(QN l).Pairwise (fun a b=>kJ a b=true)
 |[]=>List.Pairwise.nil
 |x::r=>qR x _ (qU r)
theorem KC{l ks:List (List UInt8)}(h:l.Perm ks):(l.mergeSort fun x y=>decide (x≤y))=QN ks:=by
 refine List.Perm.eq_of_pairwise (le:=fun a b=>kJ a b=true) (fun a b _ _ h k=>Oy h k) ?_ (qU ks) ((List.mergeSort_perm l _).trans (h.trans (kW ks).symm))
 exact List.pairwise_mergeSort (le:=fun x y=>decide (x≤y)) (fun a b c h k=>tJ h k) (fun a b=>by rw[Bool.or_eq_true];exact tH a b) l
def QO(l:List (List UInt8)):List ByteArray:=l.map fun x=>⟨x.toArray⟩
def KD(l:List ByteArray):List (List UInt8):=l.map fun b=>b.data.toList
theorem EH(l:List ByteArray):(KD l).length=l.length:=List.length_map ..
theorem QS(l:List (List UInt8)):(QO l).length=l.length:=List.length_map ..
theorem QT(l:List (List UInt8)):(QO l).map Value.string=l.map encStr:=by unfold QO;rw[List.map_map];rfl
def oU(l:List ByteArray):List ByteArray:=QO (QN (KD l))
theorem QU(l:List ByteArray):(oU l).length=l.length:=by unfold oU;rw[QS,(kW _).length_eq,EH]
theorem QV{l:List ByteArray}{b:ByteArray}(hb:b∈oU l):b∈l:=by
 unfold oU QO at hb
 obtain⟨x,hx,rfl⟩:=List.mem_map.1 hb
 have hx:=(kW _).mem_iff.1 hx
 obtain⟨y,hy,rfl⟩:=List.mem_map.1 hx
 have:(ByteArray.mk y.data.toList.toArray)=y:=by rw[Array.toArray_toList]
 rw[this];exact hy
theorem LP{I:Gh}:∀{l:List ByteArray},(∀b∈l,b.size≤maxLen)→bg I (l.map lfS).flatten (l.map Value.string)
 |[],_=>rfl
 |x::r,h=>⟨_,_,rfl,by unfold LRp;exact⟨rfl,h x (List.mem_cons_self ..)⟩,LP fun b hb=>h b (List.mem_cons_of_mem _ hb)⟩
theorem addRow{e:Env}{C:Nat→List Value}{H:List Slot}{w w':World}(hM:jG e C H w)(hB:Ext w w'){ty:TypeId}{n:Nat}{v:Value}{l:List (List Lf)}{cs:List Value}(hr:w'.ownsRow w.heap.size ty n v l.length cs)(hv:bg e.I l.flatten cs)(hn:∀r∈l,r.length=n)(hl:l.length≤maxLen)
 (hs:(v=.slice none 0 0∧l=[])∨∃g c,v=.slice (some ⟨g,0,none⟩) l.length c):∃e' C',GrH e H e' (H++[.row ty n l]) w w'∧jG e' C' (H++[.row ty n l]) w'∧VR e' (.own H.length) v∧e'.I=e.I:=by
 have nk:∀b,e.ok b→b≠H.length:=fun b hb=>Nat.ne_of_lt (hM.bound b hb)
 have hle:e.le ⟨fun b=>b=H.length∨e.ok b,e.m,fun b=>if b=H.length then v else e.sv b,e.I,e.im,e.fp⟩:=
  ⟨fun _ h=>.inr h,fun _ _=>rfl,fun b hb=>if_neg (nk b hb),Le.refl _,fun _ _ _ _ h=>h⟩
 have hat:∀(b:Nat) (s:Slot),(H++[.row ty n l])[b]?=some s→H[b]?=some s∧b≠H.length∨b=H.length∧s=.row ty n l:=fun b s h=>by
  rw[List.getElem?_append] at h
  split at h
  ·rename_i hb;exact .inl ⟨h,Nat.ne_of_lt hb⟩
  ·rename_i hb
   rcases Nat.eq_or_lt_of_not_lt hb with he|he
   ·subst he
    rw[Nat.sub_self] at h
    injection h with h
    exact .inr ⟨rfl,h.symm⟩
   ·rw[List.getElem?_eq_none (by simp;omega)] at h;cases h
 have hbk:∀b s g,b≠H.length→(bK (⟨fun b=>b=H.length∨e.ok b,e.m,fun b=>if b=H.length then v else e.sv b,e.I,e.im,e.fp⟩:Env) b s g↔bK e b s g):=fun b s g hb=>by
  cases s<;>simp only[bK,if_neg hb]
 have hnew:∀g,bK (⟨fun b=>b=H.length∨e.ok b,e.m,fun b=>if b=H.length then v else e.sv b,e.I,e.im,e.fp⟩:Env) H.length (.row ty n l) g→v.ownBlock=some g:=fun g h=>by
  simpa only[bK,if_true] using h
 have hlo:∀g,v.ownBlock=some g→w.heap.size≤g:=fun g hg=>(World.ownsRow.lt hr g hg).1
 refine⟨⟨fun b=>b=H.length∨e.ok b,e.m,fun b=>if b=H.length then v else e.sv b,e.I,e.im,e.fp⟩,fun b=>if b=H.length then cs else C b,⟨hle,Only.QD _ hB,fun b o u m1 m2=>(by rw[m2] at m1;cases m1),fun x hx=>?_⟩,⟨fun b s hs'=>?_,fun b s hs'=>?_,fun b hb=>?_,fun b b' s s' g h1 h2 m1 m2=>?_,fun b s x hs' hx=>?_,hM.inv.ext hB⟩,?_,rfl⟩
 ·obtain⟨b,s,hb,hx⟩:=hx
  rcases hat b s hb with⟨hb,hne⟩|⟨rfl,rfl⟩
  ·exact .inr ⟨b,s,hb,(hbk b s x hne).1 hx⟩
  ·exact .inl (hlo x (hnew x hx))
 ·rcases hat b s hs' with⟨hb,hne⟩|⟨rfl,rfl⟩
  ·have k:=hM.hv b s hb
   cases s with
   |free=>exact fun h=>h.elim hne k
   |_=>exact jE hle (C:=C) (if_neg hne) (by simp) k
  ·refine⟨.inl rfl,?_,hn,hl,?_⟩
   ·show bg e.I l.flatten (if H.length=H.length then cs else _)
    rw[if_pos rfl];exact hv
   ·simp only[if_true];exact hs
 ·rcases hat b s hs' with⟨hb,hne⟩|⟨rfl,rfl⟩
  ·have k:=jU (hM.hw b s hb) (w':=w') fun g hg=>hB.block g (DV (hM.hw b s hb) hg)
   have hsv:∀b',e.ok b'→(if b'=H.length then v else e.sv b')=e.sv b':=fun b' hb'=>if_neg (nk b' hb')
   cases s with
   |res R lk=>obtain⟨u,h1,h2⟩:=k;exact⟨u,h1,fun b' hb'=>⟨.inr (h2 b' hb').1,(hsv b' (h2 b' hb').1).trans (h2 b' hb').2⟩⟩
   |box ty cs=>show w'.heap[e.m b]?=some (.cells (if b=H.length then _ else C b).toArray _ _);rw[if_neg hne];exact k
   |row ty n l=>show w'.ownsRow 0 _ _ (if b=H.length then _ else e.sv b) _ (if b=H.length then _ else C b);rw[if_neg hne,if_neg hne];exact k
   |map P k' et l=>exact k
   |dead=>trivial
   |free=>trivial
  ·show w'.ownsRow 0 ty n (if H.length=H.length then v else _) l.length (if H.length=H.length then cs else _)
   rw[if_pos rfl,if_pos rfl]
   exact ownsRow_base_a hr (Nat.zero_le _)
 ·show b<(H++[_]).length
  rw[List.length_append]
  rcases hb with rfl|hb
  ·simp
  ·have:=hM.bound b hb;simp;omega
 ·rcases hat b s h1 with⟨k1,hne⟩|⟨rfl,rfl⟩<;>rcases hat b' s' h2 with⟨k2,hne'⟩|⟨rfl,rfl⟩
  ·exact hM.inj b b' s s' g k1 k2 ((hbk b s g hne).1 m1) ((hbk b' s' g hne').1 m2)
  ·have q1:=DV (hM.hw b s k1) ((hbk b s g hne).1 m1)
   have q2:=hlo g (hnew g m2)
   omega
  ·have q1:=DV (hM.hw b' s' k2) ((hbk b' s' g hne').1 m2)
   have q2:=hlo g (hnew g m1)
   omega
  ·rfl
 ·rcases hat b s hs' with⟨hb,hne⟩|⟨rfl,rfl⟩
  ·exact hM.av b s x hb ((hbk b s x hne).1 hx)
  ·exact hM.inv.av (hlo x (hnew x hx))
 ·unfold VR
  refine⟨.inl rfl,(if_pos rfl).symm,?_⟩
  rcases hs with hs|⟨g,c,hs⟩
  ·exact⟨_,_,_,hs.1⟩
  ·exact⟨_,_,_,hs⟩
theorem ac3(m:Nat):AnyZ.SortsIn Tryz.prog Tryz.lH Fence.wide m:=
 ⟨fun blk off cap ss W hH hblk hsz=>callsIn_wide.2 (AnyM.slices_Sort_string Tryz.LM blk off cap ss W hH hblk hsz),
  fun p cap W=>callsIn_wide.2 (AnyM.slices_Sort_string_none Tryz.LM p cap W)⟩
theorem KE(g:Nat)(lb:Array Value)(eg:∀args w,(callFunc g args).run Tryz.prog w=.ok (.enter g args) w)(ks:List ByteArray)(hmax:ks.length≤maxLen)(hb:ks.length*16≤140737488355328)(w:World)
 (hseq:SeqGives Fence.wide 2 Tryz.prog g lb encStr (fun ss=>ss.Perm (KD ks)) ks.length w):
 Calls Tryz.prog 46 #[.func (.func g) #[] lb] w fun e w'=>∃v,e=.returned v∧w'.ownsRow w.heap.size 9 1 v ks.length ((oU ks).map Value.string)∧Ext w w':=by
 refine(callsIn_wide (n:=5)).1 ?_
 have cS:=AnyZ.sorted_in Tryz.Ov Fence.wide 5 trivial trivial trivial trivial rfl (by omega) (ac3 _) (enters_of Tryz.func85 (by kernel_rfl) rfl) g lb trivial eg _ _ hmax hb w hseq
 refine CallsIn.mono cS ?_
 rintro e w' ⟨v,ss,rfl,hS,hrow,hnil,hbl⟩
 refine⟨v,rfl,?_,hbl⟩
 rw[KC hS] at hrow
 rw[hS.length_eq,EH] at hrow
 unfold oU
 rw[QT]
 exact hrow
theorem KG{base:Nat}{w:World}{ty:TypeId}{v:Value}{n:Nat}{xs:List Value}{l:List (List Lf)}(h:w.ownsRow base ty 1 v n xs)(hl:l.length=n):(v=.slice none 0 0∧l=[])∨∃g c,v=.slice (some ⟨g,0,none⟩) l.length c:=by
 subst hl
 rcases h.2 with⟨h1,h2⟩|⟨g,cap,cur,h1,_⟩
 ·exact .inl ⟨h1,List.eq_nil_of_length_eq_zero h2⟩
 ·exact .inr ⟨g,cap,h1⟩
theorem CO{KF bt:Nat}{mv:AV}{H:List Slot}(ks:List ByteArray)(eg:∀args w,(callFunc KF args).run Tryz.prog w=.ok (.enter KF args) w)(hb:ks.length*16≤140737488355328)
 (h:∀e C w x,jG e C (.box bt (.agg [mv])::H) w→VR e mv x→(∀b∈ks,b.size≤maxLen)∧ks.length≤maxLen∧(w.cell? ⟨e.m 0,0,none⟩=some x→e.m 0<w.heap.size→SeqGives Fence.wide 2 Tryz.prog KF #[.pointer (some ⟨e.m 0,0,none⟩)] encStr (fun ss=>ss.Perm (KD ks)) ks.length w)):
 FnH Tryz.prog GI 46 [.clo KF [.ptr 0 0]] (.box bt (.agg [mv])::H) (.own (H.length+1)) (.box bt (.agg [mv])::H++[.row 9 1 ((oU ks).map lfS)]):=by
 refine⟨by kernel_rfl,fun e C w vs hG hM hvs=>?_⟩
 obtain⟨v,q,rfl,hv,hq⟩:=VRs.qQ hvs
 obtain rfl:=VRs.Zp hq
 obtain⟨cs,rfl,hcs⟩:=VR.clo.1 hv
 obtain⟨p,q,rfl,hp,hq⟩:=VRs.qQ hcs
 obtain rfl:=VRs.Zp hq
 obtain⟨h0,rfl⟩:e.ok 0∧p=.pointer (some ⟨e.m 0,0 ,none⟩):=by unfold VR at hp;exact hp
 have hbx:w.heap[e.m 0]?=some (.cells (C 0).toArray bt (0,0)):=hM.hw 0 _ rfl
 obtain⟨_,hc⟩:=hM.hv 0 (.box bt (.agg [mv])) rfl
 obtain⟨ds,hds,hq⟩:=VR.agg.1 hc
 obtain⟨x,r,rfl,hx,hr⟩:=VRs.qQ hq
 obtain rfl:=VRs.Zp hr
 have hC:C 0=[x]:=by injection hds with hds;have:=congrArg Array.toList hds;simpa using this
 have hcell:w.cell? ⟨e.m 0,0,none⟩=some x:=by
  unfold World.cell?
  simp[hbx,hC]
 obtain⟨hk,hl,hs⟩:=h e C w x hM hx
 have hseq:=hs hcell (Array.getElem?_eq_some_iff.1 hbx).1
 refine(KE KF _ eg ks hl hb w hseq).mono ?_
 rintro en w' ⟨v,rfl,hrow,hE⟩
 have hlen:((oU ks).map lfS).length=ks.length:=by rw[List.length_map,QU]
 obtain⟨e',C',k1,k2,k3,_⟩:=addRow hM hE (ty:=9) (n:=1) (v:=v) (l:=(oU ks).map lfS) (cs:=(oU ks).map Value.string) (by rw[hlen];exact hrow) (LP fun b hb=>hk b (QV hb)) (fun r hr=>by obtain⟨x,_,rfl⟩:=List.mem_map.1 hr;rfl) (by rw[hlen];exact hl) (KG hrow hlen)
 exact⟨e',C',v,rfl,k1,k2,k3⟩
theorem mQ(l:List (ByteArray×Value)):strKeys (.map (iJ l))=KD (l.map fun p=>p.1):=by
 show(iJ l).map (fun p=>strOf p.1)=_
 unfold iJ KD
 rw[List.map_map,List.map_map]
 rfl
theorem zT(l:List (ByteArray×Value)):Maps.size (.map (iJ l))=(l.map fun p=>p.1).length:=by
 simp[Maps.size,iJ]
theorem EI{α:Type}(l:List (ByteArray×α))(f:ByteArray×α→Value):(l.map fun p=>(p.1,f p)).map (fun p:ByteArray×Value=>p.1)=l.map fun p=>p.1:=by
 rw[List.map_map];rfl
noncomputable def ac4(l:List (ByteArray×au)):Option (List ByteArray):=if l.length≤maxLen∧l.length*16≤140737488355328 then some (oU (l.map fun p=>p.1)) else none
set_option maxRecDepth 20000 in
theorem ZB(l:List (ByteArray×au))(r:List ByteArray)(h:ac4 l=some r):FnH Tryz.prog GI 46 [.clo 86 [.ptr 0 0]] [.box 110 (.agg [.mp 1]),.res (bD l) none] (.own 2) [.box 110 (.agg [.mp 1]),.res (bD l) none,.row 9 1 (r.map lfS)]:=by
 unfold ac4 at h
 split at h
 ·rename_i hb
  injection h with h;subst h
  refine CO (H:=[.res (bD l) none]) _ (enters_of Tryz.func86 (by kernel_rfl) rfl) (by rw[List.length_map];exact hb.2) fun e C w x hM hx=>?_
  obtain⟨v,⟨vs,hA,hB,hF⟩,_⟩:=hM.hw 1 (.res (bD l) none) rfl
  have hA:fO w Tryz.prog 9 (e.m 1) (l.map fun p=>(p.1,vs p.1)):=hA
  unfold VR at hx
  obtain⟨_,rfl⟩:=hx
  refine⟨fun b hb=>?_,by rw[List.length_map];exact hb.1,fun hc hlt=>?_⟩
  ·obtain⟨p,hp,rfl⟩:=List.mem_map.1 hb
   exact hA.QB (by kernel_rfl) (p.1,vs p.1) (List.mem_map.2 ⟨p,hp,rfl⟩)
  ·have:=AnyZ.keys_gives (ρ:=Tryz.mP) { Tryz.QM with } Fence.wide 2 trivial rfl (by omega) (e.m 0) (e.m 1) _ _ w hlt hc hA
   rw[mQ,zT,EI] at this
   exact this
 ·cases h
noncomputable def ac5(o:Option Nat)(d:aU):Option (List ByteArray):=match o with
 |none=>some (oU [])
 |some j=>if j<d.maps.length∧(d.inner j).length≤maxLen∧(d.inner j).length*16≤140737488355328 then some (oU ((d.inner j).map fun p=>p.1)) else none
set_option maxRecDepth 20000 in
theorem ZC(o:Option Nat)(d:aU)(r:List ByteArray)(h:ac5 o d=some r):FnH Tryz.prog GI 46 [.clo 106 [.ptr 0 0]] [.box 139 (.agg [.hnd 1 o]),.res (aY d none) none] (.own 2) [.box 139 (.agg [.hnd 1 o]),.res (aY d none) none,.row 9 1 (r.map lfS)]:=by
 unfold ac5 at h
 cases o with
 |none=>
  injection h with h;subst h
  refine CO (H:=[.res (aY d none) none]) _ (enters_of Tryz.func106 (by kernel_rfl) rfl) (by decide) fun e C w x hM hx=>?_
  unfold VR at hx
  obtain⟨_,rfl⟩:=hx
  refine⟨fun b hb=>(by cases hb),Nat.zero_le _,fun hc hlt=>?_⟩
  have:=AnyZ.keys_gives_nil (ρ:=Tryz.jM) { Tryz.EF with } Fence.wide 2 trivial rfl (e.m 0) w hlt hc
  have e1:(fun ss:List (List UInt8)=>ss=[])=fun ss=>ss.Perm (KD []):=by
   funext ss;exact propext ⟨fun h=>by rw[h];exact List.Perm.refl _,fun h=>h.eq_nil⟩
  rw[e1] at this
  exact this
 |some j=>
  dsimp only at h
  split at h
  ·rename_i hb
   injection h with h;subst h
   refine CO (H:=[.res (aY d none) none]) _ (enters_of Tryz.func106 (by kernel_rfl) rfl) (by rw[List.length_map];exact hb.2.2) fun e C w x hM hx=>?_
   obtain⟨v,⟨bm,rv,hA⟩,_⟩:=hM.hw 1 (.res (aY d none) none) rfl
   have hA2:fO w Tryz.prog 9 (bm j) ((d.inner j).map fun p=>(p.1,rv j p.1)):=hA.inner j hb.1
   unfold VR at hx
   obtain⟨_,u,hu,rfl⟩:=hx
   rw[hA.im j,if_pos hb.1] at hu
   injection hu with hu;subst hu
   refine⟨fun b hb=>?_,by rw[List.length_map];exact hb.2.1,fun hc hlt=>?_⟩
   ·obtain⟨p,hp,rfl⟩:=List.mem_map.1 hb
    exact hA2.QB (by kernel_rfl) (p.1,rv j p.1) (List.mem_map.2 ⟨p,hp,rfl⟩)
   ·have:=AnyZ.keys_gives (ρ:=Tryz.jM) { Tryz.EF with } Fence.wide 2 trivial rfl (by omega) (e.m 0) (bm j) _ _ w hlt hc hA2
    rw[mQ,zT,EI] at this
    exact this
  ·cases h
end Go.Proofs.YtpdlghcgekojlaaGreatDoor
set_option linter.unusedSimpArgs false
set_option linter.unusedVariables false
namespace Go.Proofs.YtpdlghcgekojlaaGreatDoor
open Go.RowKit Go.Maps
theorem zh{P:Program}{k:TypeId}(hk:P.underlying k=some .string)(key:Value)(kl:Lit)(h:keyOf P k key=some kl):∃x:ByteArray,key=.string x:=by
 cases key<;>simp[keyOf,hk,mapKey] at h
 exact⟨_,rfl⟩
set_option maxRecDepth 20000 in
set_option maxHeartbeats 4000000 in
theorem holds_none(w:World)(p b:Nat)(s:ByteArray)(t:Int)(hc:w.cell? ⟨p,3,none⟩=some (.map (some b)))(hm:w.ownsMap Tryz.prog 9 zQ b 0 (.map [])):
 Calls Tryz.prog 67 #[.pointer (some ⟨p,0,none⟩),.string s,.int .i64 t] w fun e w'=>e=.returned (.bool false)∧Ext w w':=by
 go_enter Tryz.func67,Tryz.ntmps67
 go_wp2_with (first
  |(at_range;refine wpList_range_own _ rfl _ 110 rfl 9 128 (string_keyed (by kernel_rfl)) Tryz.underlying110 _ b 0 _ rfl hm ?_;intro w0 hrg0 hg0 hs0)
  |go_in)
 go_frame
 go_loopw [6] (fun _ wr=>wr.ranges Tryz.prog 9 zQ b w.heap.size 0 (.map []) (has (.map [])) 0∧Ext w wr) (fun _ _=>0)
 case atStart=>exact⟨hrg0,(Ext.refl w).trans ⟨hg0.os,hg0.tape,hg0.output,hg0.size,fun i hi=>hg0.block i hi (by simp)⟩⟩
 case round=>
  obtain⟨hrg,hE⟩:=hrel
  go_wp2_with (first
   |(at_next;refine wpList_next_ranges _ rfl _ rfl 9 (string_keyed (by kernel_rfl)) zQ (fun x:ByteArray=>.string x) (fun v:Value=>v) (zh (by kernel_rfl)) (fun v y _=>⟨v,rfl⟩) b w.heap.size 0 _ _ _ rfl hrg ?_ ?_)
   |go_in)
  ·intro _
   go_wp2
   go_ret
   exact⟨rfl,hE⟩
theorem jG.ext{e:Env}{C:Nat→List Value}{H:List Slot}{w w':World}(hM:jG e C H w)(hB:Ext w w'):GrH e H e H w w'∧jG e C H w':=
 ⟨⟨Env.le.refl e,Only.QD _ hB,fun b o u m1 m2=>(by rw[m2] at m1;cases m1),fun x hx=>.inr hx⟩,⟨hM.hv,fun b s hs=>jU (hM.hw b s hs) fun g hg=>hB.block g (DV (hM.hw b s hs) hg),hM.bound,hM.inj,hM.av,hM.inv.ext hB⟩⟩
noncomputable def Q90(s:ByteArray)(t:Int)(a:Int)(q:List ak)(d:aU)(l:List (ByteArray×au))(z:List (ByteArray×aA)):Option Bool:=match l with
 |[]=>some false
 |_::_=>none
set_option maxRecDepth 20000 in
theorem ac6(s:ByteArray)(t:Int)(a:Int)(q:List ak)(d:aU)(l:List (ByteArray×au))(z:List (ByteArray×aA))(r:Bool)(h:Q90 s t a q d l z=some r):
 FnH Tryz.prog GI 67 [.ptr 0 0,.lf (.str s),.lf (.int .i64 t)] [.box 113 (.agg [.lf (.int .i64 a),.lf (.rows 25 (q.map ak.lf)),.mp 1,.mp 2,.mp 3]),.res (aY d none) none,.res (bD l) none,.res (bF z) none] (.lf (.bool r)) [.box 113 (.agg [.lf (.int .i64 a),.lf (.rows 25 (q.map ak.lf)),.mp 1,.mp 2,.mp 3]),.res (aY d none) none,.res (bD l) none,.res (bF z) none]:=by
 refine⟨by kernel_rfl,fun e C w vs hG hM hvs=>?_⟩
 cases l with
 |cons p l=>cases h
 |nil=>
  injection h with h;subst h
  obtain⟨u,v,x,rfl,hu,hv,hx⟩:=QE hvs
  obtain⟨rfl,_⟩:=hv.str
  obtain⟨rfl,_⟩:=hx.int
  unfold VR at hu
  obtain⟨_,rfl⟩:=hu
  have hbx:w.heap[e.m 0]?=some (.cells (C 0).toArray 113 (0,0)):=hM.hw 0 _ rfl
  obtain⟨_,hc⟩:=hM.hv 0 (.box 113 (.agg [.lf (.int .i64 a),.lf (.rows 25 (q.map ak.lf)),.mp 1,.mp 2,.mp 3])) rfl
  obtain⟨ds,hds,hq⟩:=VR.agg.1 hc
  obtain⟨c0,r0,rfl,_,hq⟩:=VRs.qQ hq
  obtain⟨c1,r1,rfl,_,hq⟩:=VRs.qQ hq
  obtain⟨c2,r2,rfl,_,hq⟩:=VRs.qQ hq
  obtain⟨c3,r3,rfl,h3,hq⟩:=VRs.qQ hq
  unfold VR at h3
  obtain⟨_,rfl⟩:=h3
  have hC:C 0=c0::c1::c2::.map (some (e.m 2))::r3:=by injection hds with hds;have:=congrArg Array.toList hds;simpa using this
  have hcell:w.cell? ⟨e.m 0,3,none⟩=some (.map (some (e.m 2))):=by
   unfold World.cell?
   simp[hbx,hC]
  obtain⟨v,⟨rv,hA,hB,hF⟩,_⟩:=hM.hw 2 (.res (bD []) none) rfl
  refine(holds_none w (e.m 0) (e.m 2) s t hcell hA).mono ?_
  rintro en w' ⟨rfl,hE⟩
  obtain⟨k1,k2⟩:=hM.ext hE
  exact⟨e,C,_,rfl,k1,k2,VR.eu⟩
theorem ZE(l:List ak)(m:Int)(h0:0≤m)(h1:m≤l.length):OpH Tryz.prog GI (.Qa 28) [.own 0,.lf (.int .i64 m)] [.row 48 25 (l.map ak.lf)] .any [.row 48 25 (l.map ak.lf)]:=
 aeI (by kernel_rfl) (by kernel_rfl:(Tryz.prog.info? 48).map (·.size)=some 25) h0 h1
end Go.Proofs.YtpdlghcgekojlaaGreatDoor
set_option linter.unusedSimpArgs false
set_option linter.unusedVariables false
namespace Go.Proofs.YtpdlghcgekojlaaGreatDoor
open Go.RowKit
set_option maxRecDepth 20000
set_option maxHeartbeats 4000000
noncomputable section
noncomputable def aaw(p_space:ByteArray)(p_key:ah)(p_stamp:Int):Mo (ah×Int):=
 .say [.br true] (ok1 (rfl:true=true))<|
 .ret ⟨[.kill 0,.kill 1],[0,1],[],0⟩ (ah.mk 0 0 ⟨#[]⟩ [] [],3)
noncomputable def Q76(p_space:ByteArray)(p_key:ah)(p_stamp:Int):Option (ah×Int):=Mo.den (aaw p_space p_key p_stamp)
theorem ac7(p_space:ByteArray)(p_key:ah)(p_stamp:Int)(r:ah×Int)(h:Q76 p_space p_key p_stamp=some r):FnH Tryz.prog GI 29 [.raw (.pointer none),.lf (.str p_space),.dat (ah.lf1 p_key),.i_ p_stamp] [] (.tup [.dat (ah.lf1 r.1),.i_ r.2]) []:=
 dh aG Tryz.func29 (by kernel_rfl) (by kernel_rfl) (by kernel_rfl) (aaw p_space p_key p_stamp) (fun r=>[.dat (ah.lf1 r.1),.i_ r.2]) (fun r=>[]) (by kernel_rfl) h
noncomputable def aax(p_space:ByteArray)(p_stamp:Int):Mo ((List ah)×Int):=
 .say [.br true] (ok1 (rfl:true=true))<|
 .ret ⟨[.nil 0 5,.tod 0],[0,1],[],0⟩ ([],3)
noncomputable def Q71(p_space:ByteArray)(p_stamp:Int):Option ((List ah)×Int):=Mo.den (aax p_space p_stamp)
theorem ac8(p_space:ByteArray)(p_stamp:Int)(r:(List ah)×Int)(h:Q71 p_space p_stamp=some r):FnH Tryz.prog GI 37 [.raw (.pointer none),.lf (.str p_space),.i_ p_stamp] [] (.tup [.lf (.rows 5 (r.1.map ah.lf)),.i_ r.2]) []:=
 dh aG Tryz.func37 (by kernel_rfl) (by kernel_rfl) (by kernel_rfl) (aax p_space p_stamp) (fun r=>[.lf (.rows 5 (r.1.map ah.lf)),.i_ r.2]) (fun r=>[]) (by kernel_rfl) h
noncomputable def aay(p_space:ByteArray)(p_key:ah):Mo (Int):=
 .say [.br true] (ok1 (rfl:true=true))<|
 .ret ⟨[.kill 0],[0],[],0⟩ (0)
noncomputable def Q72(p_space:ByteArray)(p_key:ah):Option (Int):=Mo.den (aay p_space p_key)
theorem ac9(p_space:ByteArray)(p_key:ah)(r:Int)(h:Q72 p_space p_key=some r):FnH Tryz.prog GI 31 [.raw (.pointer none),.lf (.str p_space),.dat (ah.lf1 p_key)] [] (.i_ r) []:=
 dh aG Tryz.func31 (by kernel_rfl) (by kernel_rfl) (by kernel_rfl) (aay p_space p_key) (fun r=>[.i_ r]) (fun r=>[]) (by kernel_rfl) h
noncomputable def aaz(p_space:ByteArray)(p_key:ah):Mo (ByteArray):=
 .say [.br true] (ok1 (rfl:true=true))<|
 .ret ⟨[.kill 0],[0],[],0⟩ (⟨#[]⟩)
noncomputable def Q63(p_space:ByteArray)(p_key:ah):Option (ByteArray):=Mo.den (aaz p_space p_key)
theorem ada(p_space:ByteArray)(p_key:ah)(r:ByteArray)(h:Q63 p_space p_key=some r):FnH Tryz.prog GI 30 [.raw (.pointer none),.lf (.str p_space),.dat (ah.lf1 p_key)] [] (.lf (.str r)) []:=
 dh aG Tryz.func30 (by kernel_rfl) (by kernel_rfl) (by kernel_rfl) (aaz p_space p_key) (fun r=>[.lf (.str r)]) (fun r=>[]) (by kernel_rfl) h
noncomputable def aaA(p_session:ByteArray):Mo (Int×Int):=
 .say [.br true] (ok1 (rfl:true=true))<|
 .ret ⟨[],[0,1],[],0⟩ (0,0)
noncomputable def Q73(p_session:ByteArray):Option (Int×Int):=Mo.den (aaA p_session)
theorem adb(p_session:ByteArray)(r:Int×Int)(h:Q73 p_session=some r):FnH Tryz.prog GI 38 [.raw (.pointer none),.lf (.str p_session)] [] (.tup [.i_ r.1,.i_ r.2]) []:=
 dh aG Tryz.func38 (by kernel_rfl) (by kernel_rfl) (by kernel_rfl) (aaA p_session) (fun r=>[.i_ r.1,.i_ r.2]) (fun r=>[]) (by kernel_rfl) h
noncomputable def aaB(p_q:bf):Mo (aH):=
 .ask (Q76 p_q.aT p_q.jh p_q.bP) fun r3 h4=>
 .say [.dP [] (.tup [.dat (ah.lf1 r3.1),.i_ r3.2]) []] (ok1 (ac7 _ _ _ _ h4))<|
 .ask (Q71 p_q.aT p_q.bP) fun r7 h8=>
 .say [.dP [] (.tup [.lf (.rows 5 (r7.1.map ah.lf)),.i_ r7.2]) [],.order [(true,0),(true,1),(true,2),(true,3),(true,4),(true,6),(true,7),(true,8),(true,9),(true,10),(false,5),(true,12),(false,11),(false,13),(true,14),(false,15)] (some 15) [2]] (ok1 (ac8 _ _ _ h8))<|
 .ask (Q72 p_q.aT p_q.jh) fun r0 h0=>
 .say [.dP [] (.i_ r0) []] (ok1 (ac9 _ _ _ h0))<|
 .ask (Q63 p_q.aT p_q.jh) fun r1 h1=>
 .say [.dP [] (.lf (.str r1)) []] (ok1 (ada _ _ _ h1))<|
 .ask (Q73 p_q.eP) fun r2 h2=>
 .say [.dP [] (.tup [.i_ r2.1,.i_ r2.2]) []] (ok1 (adb _ _ h2))<|
 .ret ⟨[.kill 0,.kill 1,.kill 2],[0],[],0⟩ (aH.mk r3.1 r3.2 r7.1 r7.2 r0 r1 r2.1 r2.2)
noncomputable def Q74(p_q:bf):Option (aH):=Mo.den (aaB p_q)
theorem ade(p_q:bf)(r:aH)(h:Q74 p_q=some r):FnH Tryz.prog GI 24 [.raw (.pointer none),.dat (bf.lf1 p_q)] [] (.dat (aH.lf1 r)) []:=
 dh aG Tryz.func24 (by kernel_rfl) (by kernel_rfl) (by kernel_rfl) (aaB p_q) (fun r=>[.dat (aH.lf1 r)]) (fun r=>[]) (by kernel_rfl) h
noncomputable def aaC(p_e:aZ):Mo (Int):=
 .say [.br true] (ok1 (rfl:true=true))<|
 .ret ⟨[.kill 0],[0],[],0⟩ (3)
noncomputable def Q66(p_e:aZ):Option (Int):=Mo.den (aaC p_e)
theorem adf(p_e:aZ)(r:Int)(h:Q66 p_e=some r):FnH Tryz.prog GI 13 [.raw (.pointer none),.dat (aZ.lf1 p_e)] [] (.i_ r) []:=
 dh aG Tryz.func13 (by kernel_rfl) (by kernel_rfl) (by kernel_rfl) (aaC p_e) (fun r=>[.i_ r]) (fun r=>[]) (by kernel_rfl) h
structure RB1 where
 m1:(p_a:ah)→(p_b:ah)→Option (Bool)
 ok1:∀(p_a:ah) (p_b:ah) (r:Bool),m1 p_a p_b=some r→Fn Tryz.prog GI 27 [.dat (ah.lf1 p_a),.dat (ah.lf1 p_b)] (.b_ r)
noncomputable def LQ(R_:RB1)(p_a:ah)(p_b:ah):Mo (Bool):=
 .ite (p_a.aK != p_b.aK) (fun c0=>
 .say [.gd 4005 true] (ok1 c0)<|
 .ret ⟨[],[2,3,18],[],2⟩ (true)) fun c0=>
 .say [.gd 4005 false] (ok1 c0)<|
 .ret ⟨[],[2,3,18],[],2⟩ (p_a.fB != p_b.fB)
noncomputable def aaD(R_:RB1)(p_a:ah)(p_b:ah):Option (Bool):=Mo.den (LQ R_ p_a p_b)
noncomputable def CP(p_a:ah)(p_b:ah)(r_:Bool):St:=⟨[(2,.ptr 0 0),(3,.ptr 1 0),(18,.b_ r_)],[.box 40 (.dat (ah.lf1 p_a)),.box 40 (.dat (ah.lf1 p_b))]⟩
theorem ZF{R_:RB1}{p_a:ah}{p_b:ah}{r_:Bool}(h:aaD R_ p_a p_b=some r_):aS Tryz.f27 0 [1,0,0] [0,1,2,3,4,5,6,7,8,9,10,11] (CP p_a p_b r_) ⟨[(2,.ptr 0 0),(3,.ptr 1 0)],[.box 40 (.dat (ah.lf1 p_a)),.box 40 (.dat (ah.lf1 p_b))]⟩:=
 aQ aG (LQ R_ p_a p_b) (CP p_a p_b) (by kernel_rfl) h
noncomputable def LU(R_:RB1)(p_a:ah)(p_b:ah)(r0:Bool):Mo (Bool):=
 .ite (r0) (fun c0=>
 .say [.gd 4012 true] (ok1 c0)<|
 .ret ⟨[],[2,3,25],[],2⟩ (true)) fun c0=>
 .say [.gd 4012 false] (ok1 c0)<|
 .ret ⟨[],[2,3,25],[],2⟩ (!decide ((p_a.fText:ByteArray)=(p_b.fText:ByteArray)))
noncomputable def aaE(R_:RB1)(p_a:ah)(p_b:ah)(r0:Bool):Option (Bool):=Mo.den (LU R_ p_a p_b r0)
noncomputable def CQ(p_a:ah)(p_b:ah)(r_:Bool):St:=⟨[(2,.ptr 0 0),(3,.ptr 1 0),(25,.b_ r_)],[.box 40 (.dat (ah.lf1 p_a)),.box 40 (.dat (ah.lf1 p_b))]⟩
theorem ZG{R_:RB1}{p_a:ah}{p_b:ah}{r0:Bool}{r_:Bool}(h:aaE R_ p_a p_b r0=some r_):aS Tryz.f27 0 [1,0,0] [12,13,14,15,16,17,18] (CQ p_a p_b r_) ⟨[(2,.ptr 0 0),(3,.ptr 1 0),(18,.b_ r0)],[.box 40 (.dat (ah.lf1 p_a)),.box 40 (.dat (ah.lf1 p_b))]⟩:=
 aQ aG (LU R_ p_a p_b r0) (CQ p_a p_b) (by kernel_rfl) h
noncomputable def EJ(R_:RB1)(p_a:ah)(p_b:ah)(r0:Bool):Mo (Bool):=
 .ite (r0) (fun c0=>
 .say [.gd 4019 true] (ok1 c0)<|
 .ret ⟨[],[2,3,34],[],2⟩ (true)) fun c0=>
 .say [.gd 4019 false,.num p_a.dL.length,.num p_b.dL.length] (okc c0 (okc (ln_ p_a.dL ah.lf) (okc (ln_ p_b.dL ah.lf) ok0)))<|
 .ret ⟨[],[2,3,34],[],2⟩ ((p_a.dL.length:Int) != (p_b.dL.length:Int))
noncomputable def QW(R_:RB1)(p_a:ah)(p_b:ah)(r0:Bool):Option (Bool):=Mo.den (EJ R_ p_a p_b r0)
noncomputable def tK(p_a:ah)(p_b:ah)(r_:Bool):St:=⟨[(2,.ptr 0 0),(3,.ptr 1 0),(34,.b_ r_)],[.box 40 (.dat (ah.lf1 p_a)),.box 40 (.dat (ah.lf1 p_b))]⟩
theorem QX{R_:RB1}{p_a:ah}{p_b:ah}{r0:Bool}{r_:Bool}(h:QW R_ p_a p_b r0=some r_):aS Tryz.f27 0 [1,0,0] [19,20,21,22,23,24,25,26,27] (tK p_a p_b r_) ⟨[(2,.ptr 0 0),(3,.ptr 1 0),(25,.b_ r0)],[.box 40 (.dat (ah.lf1 p_a)),.box 40 (.dat (ah.lf1 p_b))]⟩:=
 aQ aG (EJ R_ p_a p_b r0) (tK p_a p_b) (by kernel_rfl) h
noncomputable def EK(R_:RB1)(p_a:ah)(p_b:ah)(r0:Bool):Mo (Bool):=
 .ite (r0) (fun c0=>
 .say [.gd 4028 true] (ok1 c0)<|
 .ret ⟨[],[2,3,43],[],2⟩ (true)) fun c0=>
 .say [.gd 4028 false,.num p_a.bI.length,.num p_b.bI.length] (okc c0 (okc (ln_ p_a.bI aF.lf) (okc (ln_ p_b.bI aF.lf) ok0)))<|
 .ret ⟨[],[2,3,43],[],2⟩ ((p_a.bI.length:Int) != (p_b.bI.length:Int))
noncomputable def QY(R_:RB1)(p_a:ah)(p_b:ah)(r0:Bool):Option (Bool):=Mo.den (EK R_ p_a p_b r0)
noncomputable def tN(p_a:ah)(p_b:ah)(r_:Bool):St:=⟨[(2,.ptr 0 0),(3,.ptr 1 0),(43,.b_ r_)],[.box 40 (.dat (ah.lf1 p_a)),.box 40 (.dat (ah.lf1 p_b))]⟩
theorem QZ{R_:RB1}{p_a:ah}{p_b:ah}{r0:Bool}{r_:Bool}(h:QY R_ p_a p_b r0=some r_):aS Tryz.f27 0 [1,0,0] [28,29,30,31,32,33,34,35,36] (tN p_a p_b r_) ⟨[(2,.ptr 0 0),(3,.ptr 1 0),(34,.b_ r0)],[.box 40 (.dat (ah.lf1 p_a)),.box 40 (.dat (ah.lf1 p_b))]⟩:=
 aQ aG (EK R_ p_a p_b r0) (tN p_a p_b) (by kernel_rfl) h
noncomputable def EL(R_:RB1)(p_a:ah)(p_b:ah):(Int)→Mo ((Int)⊕(Unit⊕Unit)):=fun(v0)=>
 .say [.num p_a.dL.length] (okc (ln_ p_a.dL ah.lf) ok0)<|
 .ite (decide ((v0:Int)<(p_a.dL.length:Int))) (fun c0=>
 .say [.br true] (ok1 c0)<|
 .ask (iM p_a.dL v0) fun x0 h0=>
 .say [] (okc (bZ ah.aW h0) ok0)<|
 .ask (iM p_b.dL v0) fun x1 h1=>
 .say [] (okc (bZ ah.aW h1) ok0)<|
 .ask (R_.m1 x0 x1) fun r0 h2=>
 .say [.iY (.q 0 (.q 1 (.q 2 (.q 3 (.q 4 (.q 5 (.q 6 (.q 7 (.q 8 (.q 9 (.l 10 (.q 11 .fin)))))))))))) (some 10) [] [.row (ah.lf1 x0),.row (ah.lf1 x1),.res (.b_ r0)] [2,3,5,62] 2 [(2,.ptr 0 0),(3,.ptr 1 0),(5,.i_ v0),(62,.lf (.bool (!r0)))] [.box 40 (.dat (ah.lf1 p_a)),.box 40 (.dat (ah.lf1 p_b))]] (okc (R_.ok1 _ _ _ h2) (okc (rf_ ⟨[(2,.ptr 0 0),(3,.ptr 1 0),(5,.i_ v0),(62,.lf (.bool (!r0)))],[.box 40 (.dat (ah.lf1 p_a)),.box 40 (.dat (ah.lf1 p_b))]⟩) ok0))<|
 .ite (!r0) (fun c1=>
 .say [.br true] (ok1 c1)<|
 .ret ⟨[.kill 0,.kill 1],[4],[],2⟩ (.inr (.inl ()))) fun c1=>
 .say [.br false] (ok1 c1)<|
 .ret ⟨[],[2,3,5],[],2⟩ (.inl (IntKind.wrap .i64 (v0+1)))) fun c0=>
 .say [.br false] (ok1 c0)<|
 .ret ⟨[],[2,3],[],2⟩ (.inr (.inr (())))
noncomputable def Rf(R_:RB1)(p_a:ah)(p_b:ah)(v0:Int):Option (Unit⊕Unit):=dF (fun v_=>(EL R_ p_a p_b v_).den) FU (v0)
noncomputable def EM(R_:RB1)(p_a:ah)(p_b:ah):(Int)→St:=fun(v0)=>⟨[(2,.ptr 0 0),(3,.ptr 1 0),(5,.i_ v0)],[.box 40 (.dat (ah.lf1 p_a)),.box 40 (.dat (ah.lf1 p_b))]⟩
noncomputable def mV(r_:Unit⊕Unit):Exit:=match r_ with
 |.inl o_=>.ret
 |.inr (o_)=>.exit 0
noncomputable def mW(p_a:ah)(p_b:ah)(r_:Unit⊕Unit):St:=match r_ with
 |.inl o_=>⟨[(4,.b_ false)],[.dead,.dead]⟩
 |.inr (o_)=>⟨[(2,.ptr 0 0),(3,.ptr 1 0)],[.box 40 (.dat (ah.lf1 p_a)),.box 40 (.dat (ah.lf1 p_b))]⟩
theorem EN{R_:RB1}{p_a:ah}{p_b:ah}{v0:Int}{r_:Unit⊕Unit}(h:Rf R_ p_a p_b v0=some r_):bQ Tryz.f27 0 [1,1,0,1,0] (mV r_) (mW p_a p_b r_) (EM R_ p_a p_b (v0)):=
 bU aG (body:=(Code.sub (bodyC Tryz.f27) [1,1,0,1,0,0])) (by kernel_rfl) (EL R_ p_a p_b) (EM R_ p_a p_b) mV (mW p_a p_b) (fun r_=>by rcases r_ with _|_<;>rfl) (fun v_=>by kernel_rfl) h
theorem afv:Qi (opsOf (Code.sub (bodyC Tryz.f27) [1,1,1,0,1,0,0,1,0,0,0])) [(true,0),(true,1),(true,2),(true,3),(true,4),(true,5),(true,6),(true,7),(true,8),(true,9),(true,10),(true,11),(true,12),(true,13),(true,14),(true,15),(true,16),(true,17),(true,18),(true,19),(true,20),(true,21),(true,22),(true,23),(true,24),(true,25),(false,26),(true,27),(true,28)] none=true:=by kernel_rfl
noncomputable def EO(R_:RB1)(p_a:ah)(p_b:ah)(v0:Int):Mo (Bool):=
 .say [.JR [(true,0),(true,1),(true,2),(true,3),(true,4),(true,5),(true,6),(true,7),(true,8),(true,9),(true,10),(true,11),(true,12),(true,13),(true,14),(true,15),(true,16),(true,17),(true,18),(true,19),(true,20),(true,21),(true,22),(true,23),(true,24),(true,25),(false,26),(true,27),(true,28)] none []] (ok1 afv)<|
 .ask (iM p_a.bI v0) fun x0 h0=>
 .say [.row (aF.lf1 x0)] (okc (bZ aF.aW h0) ok0)<|
 .ask (iM p_b.bI v0) fun x1 h1=>
 .say [.row (aF.lf1 x1)] (okc (bZ aF.aW h1) ok0)<|
 .ite (!decide ((x0.fName:ByteArray)=(x1.fName:ByteArray))) (fun c0=>
 .say [.gd 24013 true] (ok1 c0)<|
 .ret ⟨[],[2,3,6,98],[],2⟩ (true)) fun c0=>
 .say [.gd 24013 false] (ok1 c0)<|
 .ask (iM p_a.bI v0) fun x2 h2=>
 .say [.row (aF.lf1 x2)] (okc (bZ aF.aW h2) ok0)<|
 .ask (iM p_b.bI v0) fun x3 h3=>
 .say [.row (aF.lf1 x3)] (okc (bZ aF.aW h3) ok0)<|
 .ask (R_.m1 x2.fValue x3.fValue) fun r0 h4=>
 .say [.res (.b_ r0)] (ok1 (R_.ok1 _ _ _ h4))<|
 .ret ⟨[],[2,3,6,98],[],2⟩ (!r0)
noncomputable def Rh(R_:RB1)(p_a:ah)(p_b:ah)(v0:Int):Option (Bool):=Mo.den (EO R_ p_a p_b v0)
noncomputable def tV(p_a:ah)(p_b:ah)(v0:Int)(r_:Bool):St:=⟨[(2,.ptr 0 0),(3,.ptr 1 0),(6,.i_ v0),(98,.b_ r_)],[.box 40 (.dat (ah.lf1 p_a)),.box 40 (.dat (ah.lf1 p_b))]⟩
theorem Ri{R_:RB1}{p_a:ah}{p_b:ah}{v0:Int}{r_:Bool}(h:Rh R_ p_a p_b v0=some r_):bQ Tryz.f27 0 [1,1,1,0,1,0,0,1,0,0,0] (.normal) (tV p_a p_b v0 r_) ⟨[(2,.ptr 0 0),(3,.ptr 1 0),(6,.i_ v0)],[.box 40 (.dat (ah.lf1 p_a)),.box 40 (.dat (ah.lf1 p_b))]⟩:=
 bM aG (EO R_ p_a p_b v0) (fun _=>.normal) (tV p_a p_b v0) (by kernel_rfl) h
noncomputable def EP(R_:RB1)(p_a:ah)(p_b:ah):(Int)→Mo ((Int)⊕(Unit⊕Unit)):=fun(v0)=>
 .say [.num p_a.bI.length] (okc (ln_ p_a.bI aF.lf) ok0)<|
 .ite (decide ((v0:Int)<(p_a.bI.length:Int))) (fun c0=>
 .say [.br true] (ok1 c0)<|
 .ask (Rh R_ p_a p_b v0) fun r0 h0=>
 .say [.pt_ 29 [2,3,6] 2 (.normal) (tV p_a p_b v0 r0)] (ok1 (Ri h0))<|
 .ite (r0) (fun c1=>
 .say [.br true] (ok1 c1)<|
 .ret ⟨[.kill 0,.kill 1],[4],[],2⟩ (.inr (.inl ()))) fun c1=>
 .say [.br false] (ok1 c1)<|
 .ret ⟨[],[2,3,6],[],2⟩ (.inl (IntKind.wrap .i64 (v0+1)))) fun c0=>
 .say [.br false] (ok1 c0)<|
 .ret ⟨[.kill 0,.kill 1],[],[],2⟩ (.inr (.inr (())))
noncomputable def Rj(R_:RB1)(p_a:ah)(p_b:ah)(v0:Int):Option (Unit⊕Unit):=dF (fun v_=>(EP R_ p_a p_b v_).den) FU (v0)
noncomputable def ER(R_:RB1)(p_a:ah)(p_b:ah):(Int)→St:=fun(v0)=>⟨[(2,.ptr 0 0),(3,.ptr 1 0),(6,.i_ v0)],[.box 40 (.dat (ah.lf1 p_a)),.box 40 (.dat (ah.lf1 p_b))]⟩
noncomputable def mX(r_:Unit⊕Unit):Exit:=match r_ with
 |.inl o_=>.ret
 |.inr (o_)=>.exit 2
noncomputable def mY  (r_:Unit⊕Unit):St:=match r_ with
 |.inl o_=>⟨[(4,.b_ false)],[.dead,.dead]⟩
 |.inr (o_)=>⟨[],[.dead,.dead]⟩
theorem ES{R_:RB1}{p_a:ah}{p_b:ah}{v0:Int}{r_:Unit⊕Unit}(h:Rj R_ p_a p_b v0=some r_):bQ Tryz.f27 0 [1,1,1,0,1,0] (mX r_) (mY r_) (ER R_ p_a p_b (v0)):=
 bU aG (body:=(Code.sub (bodyC Tryz.f27) [1,1,1,0,1,0,0])) (by kernel_rfl) (EP R_ p_a p_b) (ER R_ p_a p_b) mX mY (fun r_=>by rcases r_ with _|_<;>rfl) (fun v_=>by kernel_rfl) h
noncomputable def adg(R_:RB1)(p_a:ah)(p_b:ah):Mo (Bool):=
 .ask (aaD R_ p_a p_b) fun r0 h0=>
 .say [.sg_ 1 12 [2,3] 2 (CP p_a p_b r0)] (ok1 (ZF h0))<|
 .ask (aaE R_ p_a p_b r0) fun r1 h1=>
 .say [.sg_ 1 7 [2,3,18] 2 (CQ p_a p_b r1)] (ok1 (ZG h1))<|
 .ask (QW R_ p_a p_b r1) fun r2 h2=>
 .say [.sg_ 1 9 [2,3,25] 2 (tK p_a p_b r2)] (ok1 (QX h2))<|
 .ask (QY R_ p_a p_b r2) fun r3 h3=>
 .say [.sg_ 1 9 [2,3,34] 2 (tN p_a p_b r3)] (ok1 (QZ h3))<|
 .ite (r3) (fun c0=>
 .say [.br true] (ok1 c0)<|
 .ret (cZ 1) (false)) fun c0=>
 .say [.br false] (ok1 c0)<|
 .ask2 (Rf R_ p_a p_b 0) (fun o0 h4=>
 .say [.pt_ 0 [2,3,5] 2 (mV (.inl o0)) (mW p_a p_b (.inl o0))] (ok1 (EN h4))<|
 .ret (cZ 1) (false)) fun o1 h4=>
 .say [.pt_ 0 [2,3,5] 2 (mV (.inr (o1))) (mW p_a p_b (.inr (o1)))] (ok1 (EN h4))<|
 .ask2 (Rj R_ p_a p_b 0) (fun o2 h5=>
 .say [.pt_ 0 [2,3,6] 2 (mX (.inl o2)) (mY (.inl o2))] (ok1 (ES h5))<|
 .ret (cZ 1) (false)) fun o3 h5=>
 .say [.pt_ 0 [2,3,6] 2 (mX (.inr (o3))) (mY (.inr (o3)))] (ok1 (ES h5))<|
 .ret (cZ 1) (true)
theorem adh(R_:RB1)(p_a:ah)(p_b:ah)(r:Bool)(h:Mo.den (adg R_ p_a p_b)=some r):Fn Tryz.prog GI 27 [.dat (ah.lf1 p_a),.dat (ah.lf1 p_b)] (.b_ r):=
 dK aG Tryz.func27 (by kernel_rfl) (by kernel_rfl) (by kernel_rfl) (adg R_ p_a p_b) (fun r=>[.b_ r]) (by kernel_rfl) h
noncomputable def LV:Nat→RB1
 |0=>{ m1:=fun p_a p_b=>none,ok1:=fun _ _ _ h=>(by cases h) }
 |n_+1=>{ m1:=fun p_a p_b=>Mo.den (adg (LV n_) p_a p_b),ok1:=fun p_a p_b r h=>adh (LV n_) p_a p_b r h }
noncomputable def Q5(p_a:ah)(p_b:ah):Option (Bool):=(LV FU).m1 p_a p_b
theorem aaF(p_a:ah)(p_b:ah)(r:Bool)(h:Q5 p_a p_b=some r):Fn Tryz.prog GI 27 [.dat (ah.lf1 p_a),.dat (ah.lf1 p_b)] (.b_ r):=(LV FU).ok1 p_a p_b r h
noncomputable def aaG :Mo (Int):=
 .say [.br true] (ok1 (rfl:true=true))<|
 .ret ⟨[],[0],[],0⟩ (0)
noncomputable def Q67 :Option (Int):=Mo.den (aaG )
theorem adi  (r:Int) (h:Q67 =some r):FnH Tryz.prog GI 15 [.raw (.pointer none)] [] (.i_ r) []:=
 dh aG Tryz.func15 (by kernel_rfl) (by kernel_rfl) (by kernel_rfl) (aaG ) (fun r=>[.i_ r]) (fun r=>[]) (by kernel_rfl) h
noncomputable def aaH :Mo (List ak):=
 .say [.br true] (ok1 (rfl:true=true))<|
 .ret ⟨[.nil 0 25,.tod 0],[0],[],0⟩ ([])
noncomputable def Q64 :Option (List ak):=Mo.den (aaH )
theorem adk  (r:List ak) (h:Q64 =some r):FnH Tryz.prog GI 18 [.raw (.pointer none)] [] (.lf (.rows 25 (r.map ak.lf))) []:=
 dh aG Tryz.func18 (by kernel_rfl) (by kernel_rfl) (by kernel_rfl) (aaH ) (fun r=>[.lf (.rows 25 (r.map ak.lf))]) (fun r=>[]) (by kernel_rfl) h
noncomputable def aaI :Mo (List ByteArray):=
 .say [.br true] (ok1 (rfl:true=true))<|
 .ret ⟨[.nil 0 1,.tod 0],[0],[],0⟩ ([])
noncomputable def Q62 :Option (List ByteArray):=Mo.den (aaI )
theorem adl  (r:List ByteArray) (h:Q62 =some r):FnH Tryz.prog GI 21 [.raw (.pointer none)] [] (.lf (.rows 1 (r.map lfS))) []:=
 dh aG Tryz.func21 (by kernel_rfl) (by kernel_rfl) (by kernel_rfl) (aaI ) (fun r=>[.lf (.rows 1 (r.map lfS))]) (fun r=>[]) (by kernel_rfl) h
noncomputable def aeK  (r:Unit):List AV:=[.ptr 3 0]
noncomputable def aaJ  (r:Unit):List Slot:=[.res (aY (⟨[],[]⟩:aU) none) none,.res (bD ([]:List (ByteArray×au))) none,.res (bF ([]:List (ByteArray×aA))) none,.box 113 (.agg [.i_ 0,.lf (.rows 25 (([]:List ak).map ak.lf)),.mp 0,.mp 1,.mp 2])]
noncomputable def aaK :Mo (Unit):=
 .say [.opH [] (.mp 0) [.res (aY (⟨[],[]⟩:aU) none) none],.opH [] (.mp 0) [.res (bD ([]:List (ByteArray×au))) none],.opH [] (.mp 0) [.res (bF ([]:List (ByteArray×aA))) none]] (okc Zu (okc Zw (ok1 Zz)))<|
 .ret ⟨[.norm 3],[0],[],4⟩ ()
noncomputable def Q75 :Option (Unit):=Mo.den (aaK )
theorem adn  (r:Unit) (h:Q75 =some r):FnH Tryz.prog GI 11 [] [] (resV (aeK r)) (aaJ r):=
 dh aG Tryz.func11 (by kernel_rfl) (by kernel_rfl) (by kernel_rfl) (aaK ) (aeK) (aaJ) (by kernel_rfl) h
noncomputable def aeL(p_b0_0:Int)(p_b0_1:List ak)(p_s1:aU)(p_s2:List (ByteArray×au))(p_s3:List (ByteArray×aA))(r:Unit):List AV:=[.i_ p_b0_0]
noncomputable def aaL(p_b0_0:Int)(p_b0_1:List ak)(p_s1:aU)(p_s2:List (ByteArray×au))(p_s3:List (ByteArray×aA))(r:Unit):List Slot:=[.box 113 (.agg [.i_ p_b0_0,.lf (.rows 25 (p_b0_1.map ak.lf)),.mp 1,.mp 2,.mp 3]),.res (aY p_s1 none) none,.res (bD p_s2) none,.res (bF p_s3) none]
noncomputable def aaM(p_b0_0:Int)(p_b0_1:List ak)(p_s1:aU)(p_s2:List (ByteArray×au))(p_s3:List (ByteArray×aA)):Mo (Unit):=
 .say [.br false] (ok1 (rfl:false=false))<|
 .ret ⟨[],[0],[],4⟩ ()
noncomputable def Q54(p_b0_0:Int)(p_b0_1:List ak)(p_s1:aU)(p_s2:List (ByteArray×au))(p_s3:List (ByteArray×aA)):Option (Unit):=Mo.den (aaM p_b0_0 p_b0_1 p_s1 p_s2 p_s3)
theorem ado(p_b0_0:Int)(p_b0_1:List ak)(p_s1:aU)(p_s2:List (ByteArray×au))(p_s3:List (ByteArray×aA))(r:Unit)(h:Q54 p_b0_0 p_b0_1 p_s1 p_s2 p_s3=some r):FnH Tryz.prog GI 15 [.ptr 0 0] [.box 113 (.agg [.i_ p_b0_0,.lf (.rows 25 (p_b0_1.map ak.lf)),.mp 1,.mp 2,.mp 3]),.res (aY p_s1 none) none,.res (bD p_s2) none,.res (bF p_s3) none] (resV (aeL p_b0_0 p_b0_1 p_s1 p_s2 p_s3 r)) (aaL p_b0_0 p_b0_1 p_s1 p_s2 p_s3 r):=
 dh aG Tryz.func15 (by kernel_rfl) (by kernel_rfl) (by kernel_rfl) (aaM p_b0_0 p_b0_1 p_s1 p_s2 p_s3) (aeL p_b0_0 p_b0_1 p_s1 p_s2 p_s3) (aaL p_b0_0 p_b0_1 p_s1 p_s2 p_s3) (by kernel_rfl) h
noncomputable def ET(p_s:ByteArray):Mo (Bool):=
 .ite (decide (((p_s.size:Int):Int)<1)) (fun _=>.stop) fun c0=>
 .say [.gd 4003 false] (ok1 c0)<|
 .ret ⟨[],[0,11],[],0⟩ (decide ((32:Int)<(p_s.size:Int)))
noncomputable def Rk(p_s:ByteArray):Option (Bool):=Mo.den (ET p_s)
noncomputable def tX(p_s:ByteArray)(r_:Bool):St:=⟨[(0,.lf (.str p_s)),(11,.b_ r_)],[]⟩
theorem Rl{p_s:ByteArray}{r_:Bool}(h:Rk p_s=some r_):aS Tryz.f69 0 [1,0,0] [0,1,2,3,4,5,6,7] (tX p_s r_) ⟨[(0,.lf (.str p_s))],[]⟩:=
 aQ aG (ET p_s) (tX p_s) (by kernel_rfl) h
noncomputable def EU(p_s:ByteArray)(r0:Bool):Mo (Bool):=
 .ite (r0) (fun _=>.stop) fun c0=>
 .say [.gd 4008 false] (ok1 c0)<|
 .ask (mG p_s 0) fun b0 h0=>
 .say [.byt b0] (okc (gI h0) ok0)<|
 .ret ⟨[],[0,16],[],0⟩ ((b0.toNat:Int)==36)
noncomputable def Rn(p_s:ByteArray)(r0:Bool):Option (Bool):=Mo.den (EU p_s r0)
noncomputable def tY(p_s:ByteArray)(r_:Bool):St:=⟨[(0,.lf (.str p_s)),(16,.b_ r_)],[]⟩
theorem Ro{p_s:ByteArray}{r0:Bool}{r_:Bool}(h:Rn p_s r0=some r_):aS Tryz.f69 0 [1,0,0] [8,9,10,11,12] (tY p_s r_) ⟨[(0,.lf (.str p_s)),(11,.b_ r0)],[]⟩:=
 aQ aG (EU p_s r0) (tY p_s) (by kernel_rfl) h
noncomputable def zU(p_s:ByteArray)(v0:Int):Mo (Bool):=
 .ask (mG p_s v0) fun b0 h0=>
 .say [.byt b0] (okc (gI h0) ok0)<|
 .ite (decide (((b0.toNat:Int):Int)<33)) (fun _=>.stop) fun c0=>
 .say [.gd 14004 false] (ok1 c0)<|
 .ask (mG p_s v0) fun b1 h1=>
 .say [.byt b1] (okc (gI h1) ok0)<|
 .ret ⟨[],[0,3,18,19,31],[],0⟩ (decide ((126:Int)<(b1.toNat:Int)))
noncomputable def LW(p_s:ByteArray)(v0:Int):Option (Bool):=Mo.den (zU p_s v0)
noncomputable def oV(p_s:ByteArray)(v0:Int)(r_:Bool):St:=⟨[(0,.lf (.str p_s)),(3,.i_ v0),(18,.i_ (p_s.size:Int)),(19,.i_ v0),(31,.b_ r_)],[]⟩
theorem Oz{p_s:ByteArray}{v0:Int}{r_:Bool}(h:LW p_s v0=some r_):aS Tryz.f69 0 [1,1,0,1,0,0,1,1,0,0,1,0] [0,1,2,3,4,5,6,7,8,9] (oV p_s v0 r_) ⟨[(0,.lf (.str p_s)),(3,.i_ v0),(18,.i_ (p_s.size:Int)),(19,.i_ v0)],[]⟩:=
 aQ aG (zU p_s v0) (oV p_s v0) (by kernel_rfl) h
noncomputable def zV(p_s:ByteArray)(r0:Bool)(v0:Int):Mo (Bool):=
 .ite (r0) (fun _=>.stop) fun c0=>
 .say [.gd 14010 false] (ok1 c0)<|
 .ask (mG p_s v0) fun b0 h0=>
 .say [.byt b0] (okc (gI h0) ok0)<|
 .ret ⟨[],[0,18,19,37],[],0⟩ ((b0.toNat:Int)==46)
noncomputable def LX(p_s:ByteArray)(r0:Bool)(v0:Int):Option (Bool):=Mo.den (zV p_s r0 v0)
noncomputable def oW(p_s:ByteArray)(v0:Int)(r_:Bool):St:=⟨[(0,.lf (.str p_s)),(18,.i_ (p_s.size:Int)),(19,.i_ v0),(37,.b_ r_)],[]⟩
theorem OA{p_s:ByteArray}{r0:Bool}{v0:Int}{r_:Bool}(h:LX p_s r0 v0=some r_):aS Tryz.f69 0 [1,1,0,1,0,0,1,1,0,0,1,0] [10,11,12,13,14,15] (oW p_s v0 r_) ⟨[(0,.lf (.str p_s)),(3,.i_ v0),(18,.i_ (p_s.size:Int)),(19,.i_ v0),(31,.b_ r0)],[]⟩:=
 aQ aG (zV p_s r0 v0) (oW p_s v0) (by kernel_rfl) h
noncomputable def zW(p_s:ByteArray):(Int)→Mo ((Int)⊕(Unit⊕Unit)):=fun(v0)=>
 .ite (decide ((v0:Int)<(p_s.size:Int))) (fun c0=>
 .say [.br true] (ok1 c0)<|
 .ask (LW p_s v0) fun r0 h0=>
 .say [.sg_ 6 10 [0,3,18,19] 0 (oV p_s v0 r0)] (ok1 (Oz h0))<|
 .ask (LX p_s r0 v0) fun r1 h1=>
 .say [.sg_ 6 6 [0,3,18,19,31] 0 (oW p_s v0 r1)] (ok1 (OA h1))<|
 .ite (r1) (fun _=>.stop) fun c1=>
 .say [.br false] (ok1 c1)<|
 .ret ⟨[],[0,18,19],[],0⟩ (.inl (IntKind.wrap .i64 (v0+1)))) fun c0=>
 .say [.br false] (ok1 c0)<|
 .ret ⟨[],[],[],0⟩ (.inr (.inr (())))
noncomputable def LY(p_s:ByteArray)(v0:Int):Option (Unit⊕Unit):=dF (fun v_=>(zW p_s v_).den) FU (v0)
noncomputable def zX(p_s:ByteArray):(Int)→St:=fun(v0)=>⟨[(0,.lf (.str p_s)),(18,.i_ (p_s.size:Int)),(19,.i_ v0)],[]⟩
noncomputable def oZ(r_:Unit⊕Unit):Exit:=match r_ with
 |.inl o_=>.ret
 |.inr (o_)=>.exit 0
noncomputable def o7  (r_:Unit⊕Unit):St:=match r_ with
 |.inl o_=>⟨[(2,.b_ false)],[]⟩
 |.inr (o_)=>⟨[],[]⟩
theorem OB{p_s:ByteArray}{v0:Int}{r_:Unit⊕Unit}(h:LY p_s v0=some r_):bQ Tryz.f69 0 [1,1,0,1,0] (oZ r_) (o7 r_) (zX p_s (v0)):=
 bU aG (body:=(Code.sub (bodyC Tryz.f69) [1,1,0,1,0,0])) (by kernel_rfl) (zW p_s) (zX p_s) oZ o7 (fun r_=>by rcases r_ with _|_<;>rfl) (fun v_=>by kernel_rfl) h
noncomputable def aaN(p_s:ByteArray):Mo (Bool):=
 .ask (Rk p_s) fun r0 h0=>
 .say [.sg_ 1 8 [0] 0 (tX p_s r0)] (ok1 (Rl h0))<|
 .ask (Rn p_s r0) fun r1 h1=>
 .say [.sg_ 1 5 [0,11] 0 (tY p_s r1)] (ok1 (Ro h1))<|
 .ite (r1) (fun _=>.stop) fun c0=>
 .say [.br false] (ok1 c0)<|
 .ask2 (LY p_s 0) (fun _ _=>.stop) fun o0 h2=>
 .say [.pt_ 0 [0,18,19] 0 (oZ (.inr (o0))) (o7 (.inr (o0)))] (ok1 (OB h2))<|
 .ret (cZ 1) (true)
noncomputable def Q14(p_s:ByteArray):Option (Bool):=Mo.den (aaN p_s)
theorem Rq(p_s:ByteArray)(r:Bool)(h:Q14 p_s=some r):Fn Tryz.prog GI 69 [.lf (.str p_s)] (.b_ r):=
 dK aG Tryz.func69 (by kernel_rfl) (by kernel_rfl) (by kernel_rfl) (aaN p_s) (fun r=>[.b_ r]) (by kernel_rfl) h
noncomputable def aaO(p_kind:Int):Mo (aB):=
 .ite (p_kind==2) (fun c0=>
 .say [.br true] (ok1 c0)<|
 .ret (cZ 1) (aB.aey (aB.afh (aB.acN aB.z true) true) true)) fun c0=>
 .say [.br false] (ok1 c0)<|
 .ite (p_kind==3) (fun _=>.stop) fun c1=>
 .say [.br false] (ok1 c1)<|
 .ite (p_kind==4) (fun c2=>
 .say [.br true] (ok1 c2)<|
 .ret (cZ 1) (aB.afi aB.z true)) fun c2=>
 .say [.br false] (ok1 c2)<|
 .ite (p_kind==5) (fun _=>.stop) fun c3=>
 .say [.br false] (ok1 c3)<|
 .ite (p_kind==6) (fun _=>.stop) fun c4=>
 .say [.br false] (ok1 c4)<|
 .ite (p_kind==7) (fun _=>.stop) fun c5=>
 .say [.br false] (ok1 c5)<|
 .ite (p_kind==8) (fun _=>.stop) fun c6=>
 .say [.br false] (ok1 c6)<|
 .ite (p_kind==9) (fun _=>.stop) fun c7=>
 .say [.br false] (ok1 c7)<|
 .ite (p_kind==10) (fun _=>.stop) fun c8=>
 .say [.br false] (ok1 c8)<|
 .ite (p_kind==11) (fun _=>.stop) fun c9=>
 .say [.br false] (ok1 c9)<|
 .ite (p_kind==12) (fun _=>.stop) fun c10=>
 .say [.br false] (ok1 c10)<|
 .ret (cZ 1) (aB.z)
noncomputable def Q77(p_kind:Int):Option (aB):=Mo.den (aaO p_kind)
theorem Rt(p_kind:Int)(r:aB)(h:Q77 p_kind=some r):Fn Tryz.prog GI 107 [.i_ p_kind] (.dat (aB.lf1 r)):=
 dK aG Tryz.func107 (by kernel_rfl) (by kernel_rfl) (by kernel_rfl) (aaO p_kind) (fun r=>[.dat (aB.lf1 r)]) (by kernel_rfl) h
noncomputable def EW(p_v:ah):Mo (Bool):=
 .ite (p_v.aK==0) (fun c0=>
 .say [.gd 4003 true] (ok1 c0)<|
 .ret ⟨[],[1,2,10],[],1⟩ (p_v.fB==0)) fun _=>.stop
noncomputable def Ru(p_v:ah):Option (Bool):=Mo.den (EW p_v)
noncomputable def tZ(p_v:ah)(r_:Bool):St:=⟨[(1,.ptr 0 0),(2,.b_ false),(10,.b_ r_)],[.box 40 (.dat (ah.lf1 p_v))]⟩
theorem Rx{p_v:ah}{r_:Bool}(h:Ru p_v=some r_):aS Tryz.f172 0 [1,0] [0,1,2,3,4,5,6,7] (tZ p_v r_) ⟨[(1,.ptr 0 0),(2,.b_ false)],[.box 40 (.dat (ah.lf1 p_v))]⟩:=
 aQ aG (EW p_v) (tZ p_v) (by kernel_rfl) h
noncomputable def EX(p_v:ah)(r0:Bool):Mo (Bool):=
 .ite (r0) (fun c0=>
 .say [.gd 4008 true] (ok1 c0)<|
 .ret ⟨[],[1,2,15],[],1⟩ (decide ((p_v.fText:ByteArray)=(⟨#[]⟩:ByteArray)))) fun _=>.stop
noncomputable def Ry(p_v:ah)(r0:Bool):Option (Bool):=Mo.den (EX p_v r0)
noncomputable def uf(p_v:ah)(r_:Bool):St:=⟨[(1,.ptr 0 0),(2,.b_ false),(15,.b_ r_)],[.box 40 (.dat (ah.lf1 p_v))]⟩
theorem Rz{p_v:ah}{r0:Bool}{r_:Bool}(h:Ry p_v r0=some r_):aS Tryz.f172 0 [1,0] [8,9,10,11,12] (uf p_v r_) ⟨[(1,.ptr 0 0),(2,.b_ false),(10,.b_ r0)],[.box 40 (.dat (ah.lf1 p_v))]⟩:=
 aQ aG (EX p_v r0) (uf p_v) (by kernel_rfl) h
noncomputable def zY(p_v:ah)(r0:Bool):Mo (Bool):=
 .ite (r0) (fun c0=>
 .say [.gd 4013 true,.num p_v.dL.length] (okc c0 (okc (ln_ p_v.dL ah.lf) ok0))<|
 .ret ⟨[],[1,2,21],[],1⟩ ((p_v.dL.length:Int)==0)) fun _=>.stop
noncomputable def LZ(p_v:ah)(r0:Bool):Option (Bool):=Mo.den (zY p_v r0)
noncomputable def o8(p_v:ah)(r_:Bool):St:=⟨[(1,.ptr 0 0),(2,.b_ false),(21,.b_ r_)],[.box 40 (.dat (ah.lf1 p_v))]⟩
theorem OC{p_v:ah}{r0:Bool}{r_:Bool}(h:LZ p_v r0=some r_):aS Tryz.f172 0 [1,0] [13,14,15,16,17,18] (o8 p_v r_) ⟨[(1,.ptr 0 0),(2,.b_ false),(15,.b_ r0)],[.box 40 (.dat (ah.lf1 p_v))]⟩:=
 aQ aG (zY p_v r0) (o8 p_v) (by kernel_rfl) h
noncomputable def zZ(p_v:ah)(r0:Bool):Mo (Bool):=
 .ite (r0) (fun c0=>
 .say [.gd 4019 true,.num p_v.bI.length] (okc c0 (okc (ln_ p_v.bI aF.lf) ok0))<|
 .ret ⟨[.kill 0],[2,27],[],1⟩ ((p_v.bI.length:Int)==0)) fun _=>.stop
noncomputable def L6(p_v:ah)(r0:Bool):Option (Bool):=Mo.den (zZ p_v r0)
noncomputable def o9  (r_:Bool):St:=⟨[(2,.b_ false),(27,.b_ r_)],[.dead]⟩
theorem OD{p_v:ah}{r0:Bool}{r_:Bool}(h:L6 p_v r0=some r_):aS Tryz.f172 0 [1,0] [19,20,21,22,23,24] (o9 r_) ⟨[(1,.ptr 0 0),(2,.b_ false),(21,.b_ r0)],[.box 40 (.dat (ah.lf1 p_v))]⟩:=
 aQ aG (zZ p_v r0) o9 (by kernel_rfl) h
noncomputable def Aa(r0:Bool):Mo (Unit):=
 .ret ⟨[],[2],[],1⟩ ()
noncomputable def L8(r0:Bool):Option (Unit):=Mo.den (Aa r0)
noncomputable def pq(r0:Bool)(r_:Unit):St:=⟨[(2,.b_ r0)],[.dead]⟩
theorem OE{r0:Bool}{r_:Unit}(h:L8 r0=some r_):aS Tryz.f172 0 [1,0] [25] (pq r0 r_) ⟨[(2,.b_ false),(27,.b_ r0)],[.dead]⟩:=
 aQ aG (Aa r0) (pq r0) (by kernel_rfl) h
noncomputable def aaP(p_v:ah):Mo (Bool):=
 .ask (Ru p_v) fun r0 h0=>
 .say [.sg_ 1 8 [1,2] 1 (tZ p_v r0)] (ok1 (Rx h0))<|
 .ask (Ry p_v r0) fun r1 h1=>
 .say [.sg_ 1 5 [1,2,10] 1 (uf p_v r1)] (ok1 (Rz h1))<|
 .ask (LZ p_v r1) fun r2 h2=>
 .say [.sg_ 1 6 [1,2,15] 1 (o8 p_v r2)] (ok1 (OC h2))<|
 .ask (L6 p_v r2) fun r3 h3=>
 .say [.sg_ 1 6 [1,2,21] 1 (o9 r3)] (ok1 (OD h3))<|
 .ask (L8 r3) fun r4 h4=>
 .say [.sg_ 1 1 [2,27] 1 (pq r3 r4)] (ok1 (OE h4))<|
 .ret (cZ 1) (r3)
noncomputable def Q11(p_v:ah):Option (Bool):=Mo.den (aaP p_v)
theorem kK(p_v:ah)(r:Bool)(h:Q11 p_v=some r):Fn Tryz.prog GI 172 [.dat (ah.lf1 p_v)] (.b_ r):=
 dK aG Tryz.func172 (by kernel_rfl) (by kernel_rfl) (by kernel_rfl) (aaP p_v) (fun r=>[.b_ r]) (by kernel_rfl) h
noncomputable def L9(p_s:aj):Mo (Bool):=
 .ite (p_s.iy==0) (fun c0=>
 .say [.gd 4003 true] (ok1 c0)<|
 .ret ⟨[],[1,2,10],[],1⟩ (!p_s.fP)) fun _=>.stop
noncomputable def aaQ(p_s:aj):Option (Bool):=Mo.den (L9 p_s)
noncomputable def CS(p_s:aj)(r_:Bool):St:=⟨[(1,.ptr 0 0),(2,.b_ false),(10,.b_ r_)],[.box 46 (.dat (aj.lf1 p_s))]⟩
theorem ZH{p_s:aj}{r_:Bool}(h:aaQ p_s=some r_):aS Tryz.f256 0 [1,0] [0,1,2,3,4,5,6,7] (CS p_s r_) ⟨[(1,.ptr 0 0),(2,.b_ false)],[.box 46 (.dat (aj.lf1 p_s))]⟩:=
 aQ aG (L9 p_s) (CS p_s) (by kernel_rfl) h
noncomputable def Mc(p_s:aj)(r0:Bool):Mo (Bool):=
 .ite (r0) (fun c0=>
 .say [.gd 4008 true] (ok1 c0)<|
 .ask (Q11 p_s.iR) fun r1 h0=>
 .say [.res (.b_ r1)] (ok1 (kK _ _ h0))<|
 .ret ⟨[],[1,2,15],[],1⟩ (r1)) fun _=>.stop
noncomputable def aaR(p_s:aj)(r0:Bool):Option (Bool):=Mo.den (Mc p_s r0)
noncomputable def CU(p_s:aj)(r_:Bool):St:=⟨[(1,.ptr 0 0),(2,.b_ false),(15,.b_ r_)],[.box 46 (.dat (aj.lf1 p_s))]⟩
theorem ZI{p_s:aj}{r0:Bool}{r_:Bool}(h:aaR p_s r0=some r_):aS Tryz.f256 0 [1,0] [8,9,10,11,12] (CU p_s r_) ⟨[(1,.ptr 0 0),(2,.b_ false),(10,.b_ r0)],[.box 46 (.dat (aj.lf1 p_s))]⟩:=
 aQ aG (Mc p_s r0) (CU p_s) (by kernel_rfl) h
noncomputable def EY(p_s:aj)(r0:Bool):Mo (Bool):=
 .ite (r0) (fun c0=>
 .say [.gd 4013 true] (ok1 c0)<|
 .ret ⟨[],[1,2,20],[],1⟩ (!p_s.fQ)) fun _=>.stop
noncomputable def RD(p_s:aj)(r0:Bool):Option (Bool):=Mo.den (EY p_s r0)
noncomputable def ug(p_s:aj)(r_:Bool):St:=⟨[(1,.ptr 0 0),(2,.b_ false),(20,.b_ r_)],[.box 46 (.dat (aj.lf1 p_s))]⟩
theorem RF{p_s:aj}{r0:Bool}{r_:Bool}(h:RD p_s r0=some r_):aS Tryz.f256 0 [1,0] [13,14,15,16,17] (ug p_s r_) ⟨[(1,.ptr 0 0),(2,.b_ false),(15,.b_ r0)],[.box 46 (.dat (aj.lf1 p_s))]⟩:=
 aQ aG (EY p_s r0) (ug p_s) (by kernel_rfl) h
noncomputable def EZ(p_s:aj)(r0:Bool):Mo (Bool):=
 .ite (r0) (fun c0=>
 .say [.gd 4018 true] (ok1 c0)<|
 .ask (Q11 p_s.iT) fun r1 h0=>
 .say [.res (.b_ r1)] (ok1 (kK _ _ h0))<|
 .ret ⟨[],[1,2,25],[],1⟩ (r1)) fun _=>.stop
noncomputable def RG(p_s:aj)(r0:Bool):Option (Bool):=Mo.den (EZ p_s r0)
noncomputable def uh(p_s:aj)(r_:Bool):St:=⟨[(1,.ptr 0 0),(2,.b_ false),(25,.b_ r_)],[.box 46 (.dat (aj.lf1 p_s))]⟩
theorem RH{p_s:aj}{r0:Bool}{r_:Bool}(h:RG p_s r0=some r_):aS Tryz.f256 0 [1,0] [18,19,20,21,22] (uh p_s r_) ⟨[(1,.ptr 0 0),(2,.b_ false),(20,.b_ r0)],[.box 46 (.dat (aj.lf1 p_s))]⟩:=
 aQ aG (EZ p_s r0) (uh p_s) (by kernel_rfl) h
noncomputable def E5(p_s:aj)(r0:Bool):Mo (Bool):=
 .ite (r0) (fun c0=>
 .say [.gd 4023 true,.num p_s.gY.length] (okc c0 (okc (ln_ p_s.gY ah.lf) ok0))<|
 .ret ⟨[],[1,2,31],[],1⟩ ((p_s.gY.length:Int)==0)) fun _=>.stop
noncomputable def RI(p_s:aj)(r0:Bool):Option (Bool):=Mo.den (E5 p_s r0)
noncomputable def uj(p_s:aj)(r_:Bool):St:=⟨[(1,.ptr 0 0),(2,.b_ false),(31,.b_ r_)],[.box 46 (.dat (aj.lf1 p_s))]⟩
theorem RJ{p_s:aj}{r0:Bool}{r_:Bool}(h:RI p_s r0=some r_):aS Tryz.f256 0 [1,0] [23,24,25,26,27,28] (uj p_s r_) ⟨[(1,.ptr 0 0),(2,.b_ false),(25,.b_ r0)],[.box 46 (.dat (aj.lf1 p_s))]⟩:=
 aQ aG (E5 p_s r0) (uj p_s) (by kernel_rfl) h
noncomputable def E8(p_s:aj)(r0:Bool):Mo (Bool):=
 .ite (r0) (fun c0=>
 .say [.gd 4029 true] (ok1 c0)<|
 .ret ⟨[],[1,2,36],[],1⟩ (p_s.fU==0)) fun _=>.stop
noncomputable def RN(p_s:aj)(r0:Bool):Option (Bool):=Mo.den (E8 p_s r0)
noncomputable def um(p_s:aj)(r_:Bool):St:=⟨[(1,.ptr 0 0),(2,.b_ false),(36,.b_ r_)],[.box 46 (.dat (aj.lf1 p_s))]⟩
theorem RP{p_s:aj}{r0:Bool}{r_:Bool}(h:RN p_s r0=some r_):aS Tryz.f256 0 [1,0] [29,30,31,32,33] (um p_s r_) ⟨[(1,.ptr 0 0),(2,.b_ false),(31,.b_ r0)],[.box 46 (.dat (aj.lf1 p_s))]⟩:=
 aQ aG (E8 p_s r0) (um p_s) (by kernel_rfl) h
noncomputable def Fa(p_s:aj)(r0:Bool):Mo (Bool):=
 .ite (r0) (fun c0=>
 .say [.gd 4034 true] (ok1 c0)<|
 .ret ⟨[],[1,2,41],[],1⟩ (p_s.gB==0)) fun _=>.stop
noncomputable def RQ(p_s:aj)(r0:Bool):Option (Bool):=Mo.den (Fa p_s r0)
noncomputable def uo(p_s:aj)(r_:Bool):St:=⟨[(1,.ptr 0 0),(2,.b_ false),(41,.b_ r_)],[.box 46 (.dat (aj.lf1 p_s))]⟩
theorem RS{p_s:aj}{r0:Bool}{r_:Bool}(h:RQ p_s r0=some r_):aS Tryz.f256 0 [1,0] [34,35,36,37,38] (uo p_s r_) ⟨[(1,.ptr 0 0),(2,.b_ false),(36,.b_ r0)],[.box 46 (.dat (aj.lf1 p_s))]⟩:=
 aQ aG (Fa p_s r0) (uo p_s) (by kernel_rfl) h
noncomputable def Fb(p_s:aj)(r0:Bool):Mo (Bool):=
 .ite (r0) (fun c0=>
 .say [.gd 4039 true,.num p_s.bT.length] (okc c0 (okc (ln_ p_s.bT lfS) ok0))<|
 .ret ⟨[],[1,2,47],[],1⟩ ((p_s.bT.length:Int)==0)) fun _=>.stop
noncomputable def RU(p_s:aj)(r0:Bool):Option (Bool):=Mo.den (Fb p_s r0)
noncomputable def uq(p_s:aj)(r_:Bool):St:=⟨[(1,.ptr 0 0),(2,.b_ false),(47,.b_ r_)],[.box 46 (.dat (aj.lf1 p_s))]⟩
theorem RV{p_s:aj}{r0:Bool}{r_:Bool}(h:RU p_s r0=some r_):aS Tryz.f256 0 [1,0] [39,40,41,42,43,44] (uq p_s r_) ⟨[(1,.ptr 0 0),(2,.b_ false),(41,.b_ r0)],[.box 46 (.dat (aj.lf1 p_s))]⟩:=
 aQ aG (Fb p_s r0) (uq p_s) (by kernel_rfl) h
noncomputable def Fe(p_s:aj)(r0:Bool):Mo (Bool):=
 .ite (r0) (fun c0=>
 .say [.gd 4045 true,.num p_s.dD.length] (okc c0 (okc (ln_ p_s.dD bC.lf) ok0))<|
 .ret ⟨[],[1,2,53],[],1⟩ ((p_s.dD.length:Int)==0)) fun _=>.stop
noncomputable def RX(p_s:aj)(r0:Bool):Option (Bool):=Mo.den (Fe p_s r0)
noncomputable def uw(p_s:aj)(r_:Bool):St:=⟨[(1,.ptr 0 0),(2,.b_ false),(53,.b_ r_)],[.box 46 (.dat (aj.lf1 p_s))]⟩
theorem RY{p_s:aj}{r0:Bool}{r_:Bool}(h:RX p_s r0=some r_):aS Tryz.f256 0 [1,0] [45,46,47,48,49,50] (uw p_s r_) ⟨[(1,.ptr 0 0),(2,.b_ false),(47,.b_ r0)],[.box 46 (.dat (aj.lf1 p_s))]⟩:=
 aQ aG (Fe p_s r0) (uw p_s) (by kernel_rfl) h
noncomputable def Fg(p_s:aj)(r0:Bool):Mo (Bool):=
 .ite (r0) (fun c0=>
 .say [.gd 4051 true] (ok1 c0)<|
 .ret ⟨[],[1,2,58],[],1⟩ (!p_s.gG)) fun _=>.stop
noncomputable def RZ(p_s:aj)(r0:Bool):Option (Bool):=Mo.den (Fg p_s r0)
noncomputable def uy(p_s:aj)(r_:Bool):St:=⟨[(1,.ptr 0 0),(2,.b_ false),(58,.b_ r_)],[.box 46 (.dat (aj.lf1 p_s))]⟩
theorem Si{p_s:aj}{r0:Bool}{r_:Bool}(h:RZ p_s r0=some r_):aS Tryz.f256 0 [1,0] [51,52,53,54,55] (uy p_s r_) ⟨[(1,.ptr 0 0),(2,.b_ false),(53,.b_ r0)],[.box 46 (.dat (aj.lf1 p_s))]⟩:=
 aQ aG (Fg p_s r0) (uy p_s) (by kernel_rfl) h
noncomputable def Fh(p_s:aj)(r0:Bool):Mo (Bool):=
 .ite (r0) (fun c0=>
 .say [.gd 4056 true,.num p_s.dI.length] (okc c0 (okc (ln_ p_s.dI aj.lf) ok0))<|
 .ret ⟨[],[1,2,64],[],1⟩ ((p_s.dI.length:Int)==0)) fun _=>.stop
noncomputable def Sj(p_s:aj)(r0:Bool):Option (Bool):=Mo.den (Fh p_s r0)
noncomputable def uz(p_s:aj)(r_:Bool):St:=⟨[(1,.ptr 0 0),(2,.b_ false),(64,.b_ r_)],[.box 46 (.dat (aj.lf1 p_s))]⟩
theorem Sl{p_s:aj}{r0:Bool}{r_:Bool}(h:Sj p_s r0=some r_):aS Tryz.f256 0 [1,0] [56,57,58,59,60,61] (uz p_s r_) ⟨[(1,.ptr 0 0),(2,.b_ false),(58,.b_ r0)],[.box 46 (.dat (aj.lf1 p_s))]⟩:=
 aQ aG (Fh p_s r0) (uz p_s) (by kernel_rfl) h
noncomputable def Fj(p_s:aj)(r0:Bool):Mo (Bool):=
 .ite (r0) (fun c0=>
 .say [.gd 4062 true] (ok1 c0)<|
 .ret ⟨[.kill 0],[2,69],[],1⟩ (!p_s.dY)) fun _=>.stop
noncomputable def Sm(p_s:aj)(r0:Bool):Option (Bool):=Mo.den (Fj p_s r0)
noncomputable def uD  (r_:Bool):St:=⟨[(2,.b_ false),(69,.b_ r_)],[.dead]⟩
theorem Sr{p_s:aj}{r0:Bool}{r_:Bool}(h:Sm p_s r0=some r_):aS Tryz.f256 0 [1,0] [62,63,64,65,66] (uD r_) ⟨[(1,.ptr 0 0),(2,.b_ false),(64,.b_ r0)],[.box 46 (.dat (aj.lf1 p_s))]⟩:=
 aQ aG (Fj p_s r0) uD (by kernel_rfl) h
noncomputable def Fp(r0:Bool):Mo (Unit):=
 .ret ⟨[],[2],[],1⟩ ()
noncomputable def Sv(r0:Bool):Option (Unit):=Mo.den (Fp r0)
noncomputable def uF(r0:Bool)(r_:Unit):St:=⟨[(2,.b_ r0)],[.dead]⟩
theorem Sz{r0:Bool}{r_:Unit}(h:Sv r0=some r_):aS Tryz.f256 0 [1,0] [67] (uF r0 r_) ⟨[(2,.b_ false),(69,.b_ r0)],[.dead]⟩:=
 aQ aG (Fp r0) (uF r0) (by kernel_rfl) h
noncomputable def aeM(p_s:aj):Mo (Bool):=
 .ask (aaQ p_s) fun r0 h0=>
 .say [.sg_ 1 8 [1,2] 1 (CS p_s r0)] (ok1 (ZH h0))<|
 .ask (aaR p_s r0) fun r1 h1=>
 .say [.sg_ 1 5 [1,2,10] 1 (CU p_s r1)] (ok1 (ZI h1))<|
 .ask (RD p_s r1) fun r2 h2=>
 .say [.sg_ 1 5 [1,2,15] 1 (ug p_s r2)] (ok1 (RF h2))<|
 .ask (RG p_s r2) fun r3 h3=>
 .say [.sg_ 1 5 [1,2,20] 1 (uh p_s r3)] (ok1 (RH h3))<|
 .ask (RI p_s r3) fun r4 h4=>
 .say [.sg_ 1 6 [1,2,25] 1 (uj p_s r4)] (ok1 (RJ h4))<|
 .ask (RN p_s r4) fun r5 h5=>
 .say [.sg_ 1 5 [1,2,31] 1 (um p_s r5)] (ok1 (RP h5))<|
 .ask (RQ p_s r5) fun r6 h6=>
 .say [.sg_ 1 5 [1,2,36] 1 (uo p_s r6)] (ok1 (RS h6))<|
 .ask (RU p_s r6) fun r7 h7=>
 .say [.sg_ 1 6 [1,2,41] 1 (uq p_s r7)] (ok1 (RV h7))<|
 .ask (RX p_s r7) fun r8 h8=>
 .say [.sg_ 1 6 [1,2,47] 1 (uw p_s r8)] (ok1 (RY h8))<|
 .ask (RZ p_s r8) fun r9 h9=>
 .say [.sg_ 1 5 [1,2,53] 1 (uy p_s r9)] (ok1 (Si h9))<|
 .ask (Sj p_s r9) fun r10 h10=>
 .say [.sg_ 1 6 [1,2,58] 1 (uz p_s r10)] (ok1 (Sl h10))<|
 .ask (Sm p_s r10) fun r11 h11=>
 .say [.sg_ 1 5 [1,2,64] 1 (uD r11)] (ok1 (Sr h11))<|
 .ask (Sv r11) fun r12 h12=>
 .say [.sg_ 1 1 [2,69] 1 (uF r11 r12)] (ok1 (Sz h12))<|
 .ret (cZ 1) (r11)
noncomputable def Q1(p_s:aj):Option (Bool):=Mo.den (aeM p_s)
theorem aeN(p_s:aj)(r:Bool)(h:Q1 p_s=some r):Fn Tryz.prog GI 256 [.dat (aj.lf1 p_s)] (.b_ r):=
 dK aG Tryz.func256 (by kernel_rfl) (by kernel_rfl) (by kernel_rfl) (aeM p_s) (fun r=>[.b_ r]) (by kernel_rfl) h
noncomputable def Fq(p_d:ak):Mo (Bool):=
 .ite (decide ((p_d.fName:ByteArray)=(⟨#[]⟩:ByteArray))) (fun c0=>
 .say [.gd 4003 true,.num p_d.dJ.length] (okc c0 (okc (ln_ p_d.dJ aP.lf) ok0))<|
 .ret ⟨[],[1,2,11],[],1⟩ ((p_d.dJ.length:Int)==0)) fun _=>.stop
noncomputable def SA(p_d:ak):Option (Bool):=Mo.den (Fq p_d)
noncomputable def uG(p_d:ak)(r_:Bool):St:=⟨[(1,.ptr 0 0),(2,.b_ false),(11,.b_ r_)],[.box 48 (.dat (ak.lf1 p_d))]⟩
theorem SB{p_d:ak}{r_:Bool}(h:SA p_d=some r_):aS Tryz.f220 0 [1,0] [0,1,2,3,4,5,6,7,8] (uG p_d r_) ⟨[(1,.ptr 0 0),(2,.b_ false)],[.box 48 (.dat (ak.lf1 p_d))]⟩:=
 aQ aG (Fq p_d) (uG p_d) (by kernel_rfl) h
noncomputable def Fv(p_d:ak)(r0:Bool):Mo (Bool):=
 .ite (r0) (fun c0=>
 .say [.gd 4009 true] (ok1 c0)<|
 .ask (Q1 p_d.jm) fun r1 h0=>
 .say [.res (.b_ r1)] (ok1 (aeN _ _ h0))<|
 .ret ⟨[],[1,2,16],[],1⟩ (r1)) fun _=>.stop
noncomputable def SC(p_d:ak)(r0:Bool):Option (Bool):=Mo.den (Fv p_d r0)
noncomputable def uH(p_d:ak)(r_:Bool):St:=⟨[(1,.ptr 0 0),(2,.b_ false),(16,.b_ r_)],[.box 48 (.dat (ak.lf1 p_d))]⟩
theorem SE{p_d:ak}{r0:Bool}{r_:Bool}(h:SC p_d r0=some r_):aS Tryz.f220 0 [1,0] [9,10,11,12,13] (uH p_d r_) ⟨[(1,.ptr 0 0),(2,.b_ false),(11,.b_ r0)],[.box 48 (.dat (ak.lf1 p_d))]⟩:=
 aQ aG (Fv p_d r0) (uH p_d) (by kernel_rfl) h
noncomputable def Ac(p_d:ak)(r0:Bool):Mo (Bool):=
 .ite (r0) (fun c0=>
 .say [.gd 4014 true] (ok1 c0)<|
 .ret ⟨[],[1,2,21],[],1⟩ (p_d.sS==0)) fun _=>.stop
noncomputable def Md(p_d:ak)(r0:Bool):Option (Bool):=Mo.den (Ac p_d r0)
noncomputable def pz(p_d:ak)(r_:Bool):St:=⟨[(1,.ptr 0 0),(2,.b_ false),(21,.b_ r_)],[.box 48 (.dat (ak.lf1 p_d))]⟩
theorem OG{p_d:ak}{r0:Bool}{r_:Bool}(h:Md p_d r0=some r_):aS Tryz.f220 0 [1,0] [14,15,16,17,18] (pz p_d r_) ⟨[(1,.ptr 0 0),(2,.b_ false),(16,.b_ r0)],[.box 48 (.dat (ak.lf1 p_d))]⟩:=
 aQ aG (Ac p_d r0) (pz p_d) (by kernel_rfl) h
noncomputable def Ad(p_d:ak)(r0:Bool):Mo (Bool):=
 .ite (r0) (fun c0=>
 .say [.gd 4019 true] (ok1 c0)<|
 .ret ⟨[.kill 0],[2,26],[],1⟩ (p_d.rH==0)) fun _=>.stop
noncomputable def Me(p_d:ak)(r0:Bool):Option (Bool):=Mo.den (Ad p_d r0)
noncomputable def pF  (r_:Bool):St:=⟨[(2,.b_ false),(26,.b_ r_)],[.dead]⟩
theorem OH{p_d:ak}{r0:Bool}{r_:Bool}(h:Me p_d r0=some r_):aS Tryz.f220 0 [1,0] [19,20,21,22,23] (pF r_) ⟨[(1,.ptr 0 0),(2,.b_ false),(21,.b_ r0)],[.box 48 (.dat (ak.lf1 p_d))]⟩:=
 aQ aG (Ad p_d r0) pF (by kernel_rfl) h
noncomputable def Ae(r0:Bool):Mo (Unit):=
 .ret ⟨[],[2],[],1⟩ ()
noncomputable def MB(r0:Bool):Option (Unit):=Mo.den (Ae r0)
noncomputable def pG(r0:Bool)(r_:Unit):St:=⟨[(2,.b_ r0)],[.dead]⟩
theorem OI{r0:Bool}{r_:Unit}(h:MB r0=some r_):aS Tryz.f220 0 [1,0] [24] (pG r0 r_) ⟨[(2,.b_ false),(26,.b_ r0)],[.dead]⟩:=
 aQ aG (Ae r0) (pG r0) (by kernel_rfl) h
noncomputable def aaS(p_d:ak):Mo (Bool):=
 .ask (SA p_d) fun r0 h0=>
 .say [.sg_ 1 9 [1,2] 1 (uG p_d r0)] (ok1 (SB h0))<|
 .ask (SC p_d r0) fun r1 h1=>
 .say [.sg_ 1 5 [1,2,11] 1 (uH p_d r1)] (ok1 (SE h1))<|
 .ask (Md p_d r1) fun r2 h2=>
 .say [.sg_ 1 5 [1,2,16] 1 (pz p_d r2)] (ok1 (OG h2))<|
 .ask (Me p_d r2) fun r3 h3=>
 .say [.sg_ 1 5 [1,2,21] 1 (pF r3)] (ok1 (OH h3))<|
 .ask (MB r3) fun r4 h4=>
 .say [.sg_ 1 1 [2,26] 1 (pG r3 r4)] (ok1 (OI h4))<|
 .ret (cZ 1) (r3)
noncomputable def Q13(p_d:ak):Option (Bool):=Mo.den (aaS p_d)
theorem adp(p_d:ak)(r:Bool)(h:Q13 p_d=some r):Fn Tryz.prog GI 220 [.dat (ak.lf1 p_d)] (.b_ r):=
 dK aG Tryz.func220 (by kernel_rfl) (by kernel_rfl) (by kernel_rfl) (aaS p_d) (fun r=>[.b_ r]) (by kernel_rfl) h
noncomputable def Fz(p_e:aO):Mo (Bool):=
 .ite (p_e.fOp==0) (fun c0=>
 .say [.gd 4003 true,.num p_e.fG.length] (okc c0 (okc (ln_ p_e.fG lfS) ok0))<|
 .ret ⟨[],[1,2,11],[],1⟩ ((p_e.fG.length:Int)==0)) fun _=>.stop
noncomputable def SG(p_e:aO):Option (Bool):=Mo.den (Fz p_e)
noncomputable def uI(p_e:aO)(r_:Bool):St:=⟨[(1,.ptr 0 0),(2,.b_ false),(11,.b_ r_)],[.box 55 (.dat (aO.lf1 p_e))]⟩
theorem SH{p_e:aO}{r_:Bool}(h:SG p_e=some r_):aS Tryz.f280 0 [1,0] [0,1,2,3,4,5,6,7,8] (uI p_e r_) ⟨[(1,.ptr 0 0),(2,.b_ false)],[.box 55 (.dat (aO.lf1 p_e))]⟩:=
 aQ aG (Fz p_e) (uI p_e) (by kernel_rfl) h
noncomputable def FB(p_e:aO)(r0:Bool):Mo (Bool):=
 .ite (r0) (fun c0=>
 .say [.gd 4009 true] (ok1 c0)<|
 .ret ⟨[],[1,2,16],[],1⟩ (decide ((p_e.fName:ByteArray)=(⟨#[]⟩:ByteArray)))) fun _=>.stop
noncomputable def SI(p_e:aO)(r0:Bool):Option (Bool):=Mo.den (FB p_e r0)
noncomputable def uJ(p_e:aO)(r_:Bool):St:=⟨[(1,.ptr 0 0),(2,.b_ false),(16,.b_ r_)],[.box 55 (.dat (aO.lf1 p_e))]⟩
theorem SK{p_e:aO}{r0:Bool}{r_:Bool}(h:SI p_e r0=some r_):aS Tryz.f280 0 [1,0] [9,10,11,12,13] (uJ p_e r_) ⟨[(1,.ptr 0 0),(2,.b_ false),(11,.b_ r0)],[.box 55 (.dat (aO.lf1 p_e))]⟩:=
 aQ aG (FB p_e r0) (uJ p_e) (by kernel_rfl) h
noncomputable def Af(p_e:aO)(r0:Bool):Mo (Bool):=
 .ite (r0) (fun c0=>
 .say [.gd 4014 true,.num p_e.iL.length] (okc c0 (okc (ln_ p_e.iL lfS) ok0))<|
 .ret ⟨[],[1,2,22],[],1⟩ ((p_e.iL.length:Int)==0)) fun _=>.stop
noncomputable def MC(p_e:aO)(r0:Bool):Option (Bool):=Mo.den (Af p_e r0)
noncomputable def pI(p_e:aO)(r_:Bool):St:=⟨[(1,.ptr 0 0),(2,.b_ false),(22,.b_ r_)],[.box 55 (.dat (aO.lf1 p_e))]⟩
theorem OJ{p_e:aO}{r0:Bool}{r_:Bool}(h:MC p_e r0=some r_):aS Tryz.f280 0 [1,0] [14,15,16,17,18,19] (pI p_e r_) ⟨[(1,.ptr 0 0),(2,.b_ false),(16,.b_ r0)],[.box 55 (.dat (aO.lf1 p_e))]⟩:=
 aQ aG (Af p_e r0) (pI p_e) (by kernel_rfl) h
noncomputable def Ag(p_e:aO)(r0:Bool):Mo (Bool):=
 .ite (r0) (fun c0=>
 .say [.gd 4020 true] (ok1 c0)<|
 .ask (Q11 p_e.fArg) fun r1 h0=>
 .say [.res (.b_ r1)] (ok1 (kK _ _ h0))<|
 .ret ⟨[],[1,2,27],[],1⟩ (r1)) fun _=>.stop
noncomputable def MF(p_e:aO)(r0:Bool):Option (Bool):=Mo.den (Ag p_e r0)
noncomputable def pJ(p_e:aO)(r_:Bool):St:=⟨[(1,.ptr 0 0),(2,.b_ false),(27,.b_ r_)],[.box 55 (.dat (aO.lf1 p_e))]⟩
theorem OL{p_e:aO}{r0:Bool}{r_:Bool}(h:MF p_e r0=some r_):aS Tryz.f280 0 [1,0] [20,21,22,23,24] (pJ p_e r_) ⟨[(1,.ptr 0 0),(2,.b_ false),(22,.b_ r0)],[.box 55 (.dat (aO.lf1 p_e))]⟩:=
 aQ aG (Ag p_e r0) (pJ p_e) (by kernel_rfl) h
noncomputable def Ah(p_e:aO)(r0:Bool):Mo (Bool):=
 .ite (r0) (fun c0=>
 .say [.gd 4025 true] (ok1 c0)<|
 .ret ⟨[],[1,2,32],[],1⟩ (p_e.fN==0)) fun _=>.stop
noncomputable def MG(p_e:aO)(r0:Bool):Option (Bool):=Mo.den (Ah p_e r0)
noncomputable def pK(p_e:aO)(r_:Bool):St:=⟨[(1,.ptr 0 0),(2,.b_ false),(32,.b_ r_)],[.box 55 (.dat (aO.lf1 p_e))]⟩
theorem OM{p_e:aO}{r0:Bool}{r_:Bool}(h:MG p_e r0=some r_):aS Tryz.f280 0 [1,0] [25,26,27,28,29] (pK p_e r_) ⟨[(1,.ptr 0 0),(2,.b_ false),(27,.b_ r0)],[.box 55 (.dat (aO.lf1 p_e))]⟩:=
 aQ aG (Ah p_e r0) (pK p_e) (by kernel_rfl) h
noncomputable def Ai(p_e:aO)(r0:Bool):Mo (Bool):=
 .ite (r0) (fun c0=>
 .say [.gd 4030 true,.num p_e.gq.length] (okc c0 (okc (ln_ p_e.gq aO.lf) ok0))<|
 .ret ⟨[.kill 0],[2,38],[],1⟩ ((p_e.gq.length:Int)==0)) fun _=>.stop
noncomputable def MH(p_e:aO)(r0:Bool):Option (Bool):=Mo.den (Ai p_e r0)
noncomputable def pO  (r_:Bool):St:=⟨[(2,.b_ false),(38,.b_ r_)],[.dead]⟩
theorem OO{p_e:aO}{r0:Bool}{r_:Bool}(h:MH p_e r0=some r_):aS Tryz.f280 0 [1,0] [30,31,32,33,34,35] (pO r_) ⟨[(1,.ptr 0 0),(2,.b_ false),(32,.b_ r0)],[.box 55 (.dat (aO.lf1 p_e))]⟩:=
 aQ aG (Ai p_e r0) pO (by kernel_rfl) h
noncomputable def Aj(r0:Bool):Mo (Unit):=
 .ret ⟨[],[2],[],1⟩ ()
noncomputable def MI(r0:Bool):Option (Unit):=Mo.den (Aj r0)
noncomputable def pR(r0:Bool)(r_:Unit):St:=⟨[(2,.b_ r0)],[.dead]⟩
theorem OQ{r0:Bool}{r_:Unit}(h:MI r0=some r_):aS Tryz.f280 0 [1,0] [36] (pR r0 r_) ⟨[(2,.b_ false),(38,.b_ r0)],[.dead]⟩:=
 aQ aG (Aj r0) (pR r0) (by kernel_rfl) h
noncomputable def aaT(p_e:aO):Mo (Bool):=
 .ask (SG p_e) fun r0 h0=>
 .say [.sg_ 1 9 [1,2] 1 (uI p_e r0)] (ok1 (SH h0))<|
 .ask (SI p_e r0) fun r1 h1=>
 .say [.sg_ 1 5 [1,2,11] 1 (uJ p_e r1)] (ok1 (SK h1))<|
 .ask (MC p_e r1) fun r2 h2=>
 .say [.sg_ 1 6 [1,2,16] 1 (pI p_e r2)] (ok1 (OJ h2))<|
 .ask (MF p_e r2) fun r3 h3=>
 .say [.sg_ 1 5 [1,2,22] 1 (pJ p_e r3)] (ok1 (OL h3))<|
 .ask (MG p_e r3) fun r4 h4=>
 .say [.sg_ 1 5 [1,2,27] 1 (pK p_e r4)] (ok1 (OM h4))<|
 .ask (MH p_e r4) fun r5 h5=>
 .say [.sg_ 1 6 [1,2,32] 1 (pO r5)] (ok1 (OO h5))<|
 .ask (MI r5) fun r6 h6=>
 .say [.sg_ 1 1 [2,38] 1 (pR r5 r6)] (ok1 (OQ h6))<|
 .ret (cZ 1) (r5)
noncomputable def Q10(p_e:aO):Option (Bool):=Mo.den (aaT p_e)
theorem adq(p_e:aO)(r:Bool)(h:Q10 p_e=some r):Fn Tryz.prog GI 280 [.dat (aO.lf1 p_e)] (.b_ r):=
 dK aG Tryz.func280 (by kernel_rfl) (by kernel_rfl) (by kernel_rfl) (aaT p_e) (fun r=>[.b_ r]) (by kernel_rfl) h
noncomputable def MJ(p_p:aJ):Mo (Bool):=
 .ite (p_p.fOp==0) (fun c0=>
 .say [.gd 4003 true,.num p_p.fG.length] (okc c0 (okc (ln_ p_p.fG lfS) ok0))<|
 .ret ⟨[],[1,2,11],[],1⟩ ((p_p.fG.length:Int)==0)) fun _=>.stop
noncomputable def aaU(p_p:aJ):Option (Bool):=Mo.den (MJ p_p)
noncomputable def CV(p_p:aJ)(r_:Bool):St:=⟨[(1,.ptr 0 0),(2,.b_ false),(11,.b_ r_)],[.box 58 (.dat (aJ.lf1 p_p))]⟩
theorem ZJ{p_p:aJ}{r_:Bool}(h:aaU p_p=some r_):aS Tryz.f257 0 [1,0] [0,1,2,3,4,5,6,7,8] (CV p_p r_) ⟨[(1,.ptr 0 0),(2,.b_ false)],[.box 58 (.dat (aJ.lf1 p_p))]⟩:=
 aQ aG (MJ p_p) (CV p_p) (by kernel_rfl) h
noncomputable def MK(p_p:aJ)(r0:Bool):Mo (Bool):=
 .ite (r0) (fun c0=>
 .say [.gd 4009 true] (ok1 c0)<|
 .ask (Q11 p_p.fArg) fun r1 h0=>
 .say [.res (.b_ r1)] (ok1 (kK _ _ h0))<|
 .ret ⟨[],[1,2,16],[],1⟩ (r1)) fun _=>.stop
noncomputable def aaV(p_p:aJ)(r0:Bool):Option (Bool):=Mo.den (MK p_p r0)
noncomputable def CW(p_p:aJ)(r_:Bool):St:=⟨[(1,.ptr 0 0),(2,.b_ false),(16,.b_ r_)],[.box 58 (.dat (aJ.lf1 p_p))]⟩
theorem ZK{p_p:aJ}{r0:Bool}{r_:Bool}(h:aaV p_p r0=some r_):aS Tryz.f257 0 [1,0] [9,10,11,12,13] (CW p_p r_) ⟨[(1,.ptr 0 0),(2,.b_ false),(11,.b_ r0)],[.box 58 (.dat (aJ.lf1 p_p))]⟩:=
 aQ aG (MK p_p r0) (CW p_p) (by kernel_rfl) h
noncomputable def FC(p_p:aJ)(r0:Bool):Mo (Bool):=
 .ite (r0) (fun c0=>
 .say [.gd 4014 true,.num p_p.fArgs.length] (okc c0 (okc (ln_ p_p.fArgs ah.lf) ok0))<|
 .ret ⟨[],[1,2,22],[],1⟩ ((p_p.fArgs.length:Int)==0)) fun _=>.stop
noncomputable def SL(p_p:aJ)(r0:Bool):Option (Bool):=Mo.den (FC p_p r0)
noncomputable def uK(p_p:aJ)(r_:Bool):St:=⟨[(1,.ptr 0 0),(2,.b_ false),(22,.b_ r_)],[.box 58 (.dat (aJ.lf1 p_p))]⟩
theorem SN{p_p:aJ}{r0:Bool}{r_:Bool}(h:SL p_p r0=some r_):aS Tryz.f257 0 [1,0] [14,15,16,17,18,19] (uK p_p r_) ⟨[(1,.ptr 0 0),(2,.b_ false),(16,.b_ r0)],[.box 58 (.dat (aJ.lf1 p_p))]⟩:=
 aQ aG (FC p_p r0) (uK p_p) (by kernel_rfl) h
noncomputable def FD(p_p:aJ)(r0:Bool):Mo (Bool):=
 .ite (r0) (fun c0=>
 .say [.gd 4020 true] (ok1 c0)<|
 .ret ⟨[],[1,2,27],[],1⟩ (p_p.fN==0)) fun _=>.stop
noncomputable def SQ(p_p:aJ)(r0:Bool):Option (Bool):=Mo.den (FD p_p r0)
noncomputable def uM(p_p:aJ)(r_:Bool):St:=⟨[(1,.ptr 0 0),(2,.b_ false),(27,.b_ r_)],[.box 58 (.dat (aJ.lf1 p_p))]⟩
theorem SS{p_p:aJ}{r0:Bool}{r_:Bool}(h:SQ p_p r0=some r_):aS Tryz.f257 0 [1,0] [20,21,22,23,24] (uM p_p r_) ⟨[(1,.ptr 0 0),(2,.b_ false),(22,.b_ r0)],[.box 58 (.dat (aJ.lf1 p_p))]⟩:=
 aQ aG (FD p_p r0) (uM p_p) (by kernel_rfl) h
noncomputable def FH(p_p:aJ)(r0:Bool):Mo (Bool):=
 .ite (r0) (fun c0=>
 .say [.gd 4025 true] (ok1 c0)<|
 .ret ⟨[],[1,2,32],[],1⟩ (p_p.fM==0)) fun _=>.stop
noncomputable def SV(p_p:aJ)(r0:Bool):Option (Bool):=Mo.den (FH p_p r0)
noncomputable def uN(p_p:aJ)(r_:Bool):St:=⟨[(1,.ptr 0 0),(2,.b_ false),(32,.b_ r_)],[.box 58 (.dat (aJ.lf1 p_p))]⟩
theorem SX{p_p:aJ}{r0:Bool}{r_:Bool}(h:SV p_p r0=some r_):aS Tryz.f257 0 [1,0] [25,26,27,28,29] (uN p_p r_) ⟨[(1,.ptr 0 0),(2,.b_ false),(27,.b_ r0)],[.box 58 (.dat (aJ.lf1 p_p))]⟩:=
 aQ aG (FH p_p r0) (uN p_p) (by kernel_rfl) h
noncomputable def FI(p_p:aJ)(r0:Bool):Mo (Bool):=
 .ite (r0) (fun c0=>
 .say [.gd 4030 true] (ok1 c0)<|
 .ret ⟨[],[1,2,38],[],1⟩ (p_p.iw.aK==0)) fun _=>.stop
noncomputable def SY(p_p:aJ)(r0:Bool):Option (Bool):=Mo.den (FI p_p r0)
noncomputable def uO(p_p:aJ)(r_:Bool):St:=⟨[(1,.ptr 0 0),(2,.b_ false),(38,.b_ r_)],[.box 58 (.dat (aJ.lf1 p_p))]⟩
theorem S9{p_p:aJ}{r0:Bool}{r_:Bool}(h:SY p_p r0=some r_):aS Tryz.f257 0 [1,0] [30,31,32,33,34,35] (uO p_p r_) ⟨[(1,.ptr 0 0),(2,.b_ false),(32,.b_ r0)],[.box 58 (.dat (aJ.lf1 p_p))]⟩:=
 aQ aG (FI p_p r0) (uO p_p) (by kernel_rfl) h
noncomputable def FK(p_p:aJ)(r0:Bool):Mo (Bool):=
 .ite (r0) (fun c0=>
 .say [.gd 4036 true,.num p_p.iw.rG.length] (okc c0 (okc (ln_ p_p.iw.rG dW.lf) ok0))<|
 .ret ⟨[],[1,2,45],[],1⟩ ((p_p.iw.rG.length:Int)==0)) fun _=>.stop
noncomputable def Tc(p_p:aJ)(r0:Bool):Option (Bool):=Mo.den (FK p_p r0)
noncomputable def uP(p_p:aJ)(r_:Bool):St:=⟨[(1,.ptr 0 0),(2,.b_ false),(45,.b_ r_)],[.box 58 (.dat (aJ.lf1 p_p))]⟩
theorem Td{p_p:aJ}{r0:Bool}{r_:Bool}(h:Tc p_p r0=some r_):aS Tryz.f257 0 [1,0] [36,37,38,39,40,41,42] (uP p_p r_) ⟨[(1,.ptr 0 0),(2,.b_ false),(38,.b_ r0)],[.box 58 (.dat (aJ.lf1 p_p))]⟩:=
 aQ aG (FK p_p r0) (uP p_p) (by kernel_rfl) h
noncomputable def FM(p_p:aJ)(r0:Bool):Mo (Bool):=
 .ite (r0) (fun c0=>
 .say [.gd 4043 true] (ok1 c0)<|
 .ret ⟨[],[1,2,51],[],1⟩ (p_p.iw.fR==0)) fun _=>.stop
noncomputable def Tf(p_p:aJ)(r0:Bool):Option (Bool):=Mo.den (FM p_p r0)
noncomputable def uQ(p_p:aJ)(r_:Bool):St:=⟨[(1,.ptr 0 0),(2,.b_ false),(51,.b_ r_)],[.box 58 (.dat (aJ.lf1 p_p))]⟩
theorem Ti{p_p:aJ}{r0:Bool}{r_:Bool}(h:Tf p_p r0=some r_):aS Tryz.f257 0 [1,0] [43,44,45,46,47,48] (uQ p_p r_) ⟨[(1,.ptr 0 0),(2,.b_ false),(45,.b_ r0)],[.box 58 (.dat (aJ.lf1 p_p))]⟩:=
 aQ aG (FM p_p r0) (uQ p_p) (by kernel_rfl) h
noncomputable def FN(p_p:aJ)(r0:Bool):Mo (Bool):=
 .ite (r0) (fun c0=>
 .say [.gd 4049 true] (ok1 c0)<|
 .ask (Q10 p_p.fExpr) fun r1 h0=>
 .say [.res (.b_ r1)] (ok1 (adq _ _ h0))<|
 .ret ⟨[],[1,2,56],[],1⟩ (r1)) fun _=>.stop
noncomputable def Tj(p_p:aJ)(r0:Bool):Option (Bool):=Mo.den (FN p_p r0)
noncomputable def uS(p_p:aJ)(r_:Bool):St:=⟨[(1,.ptr 0 0),(2,.b_ false),(56,.b_ r_)],[.box 58 (.dat (aJ.lf1 p_p))]⟩
theorem Tn{p_p:aJ}{r0:Bool}{r_:Bool}(h:Tj p_p r0=some r_):aS Tryz.f257 0 [1,0] [49,50,51,52,53] (uS p_p r_) ⟨[(1,.ptr 0 0),(2,.b_ false),(51,.b_ r0)],[.box 58 (.dat (aJ.lf1 p_p))]⟩:=
 aQ aG (FN p_p r0) (uS p_p) (by kernel_rfl) h
noncomputable def FP(p_p:aJ)(r0:Bool):Mo (Bool):=
 .ite (r0) (fun c0=>
 .say [.gd 4054 true,.num p_p.gq.length] (okc c0 (okc (ln_ p_p.gq aJ.lf) ok0))<|
 .ret ⟨[.kill 0],[2,62],[],1⟩ ((p_p.gq.length:Int)==0)) fun _=>.stop
noncomputable def Tq(p_p:aJ)(r0:Bool):Option (Bool):=Mo.den (FP p_p r0)
noncomputable def uT  (r_:Bool):St:=⟨[(2,.b_ false),(62,.b_ r_)],[.dead]⟩
theorem Tt{p_p:aJ}{r0:Bool}{r_:Bool}(h:Tq p_p r0=some r_):aS Tryz.f257 0 [1,0] [54,55,56,57,58,59] (uT r_) ⟨[(1,.ptr 0 0),(2,.b_ false),(56,.b_ r0)],[.box 58 (.dat (aJ.lf1 p_p))]⟩:=
 aQ aG (FP p_p r0) uT (by kernel_rfl) h
noncomputable def FQ(r0:Bool):Mo (Unit):=
 .ret ⟨[],[2],[],1⟩ ()
noncomputable def Tv(r0:Bool):Option (Unit):=Mo.den (FQ r0)
noncomputable def uU(r0:Bool)(r_:Unit):St:=⟨[(2,.b_ r0)],[.dead]⟩
theorem Tz{r0:Bool}{r_:Unit}(h:Tv r0=some r_):aS Tryz.f257 0 [1,0] [60] (uU r0 r_) ⟨[(2,.b_ false),(62,.b_ r0)],[.dead]⟩:=
 aQ aG (FQ r0) (uU r0) (by kernel_rfl) h
noncomputable def aeO(p_p:aJ):Mo (Bool):=
 .ask (aaU p_p) fun r0 h0=>
 .say [.sg_ 1 9 [1,2] 1 (CV p_p r0)] (ok1 (ZJ h0))<|
 .ask (aaV p_p r0) fun r1 h1=>
 .say [.sg_ 1 5 [1,2,11] 1 (CW p_p r1)] (ok1 (ZK h1))<|
 .ask (SL p_p r1) fun r2 h2=>
 .say [.sg_ 1 6 [1,2,16] 1 (uK p_p r2)] (ok1 (SN h2))<|
 .ask (SQ p_p r2) fun r3 h3=>
 .say [.sg_ 1 5 [1,2,22] 1 (uM p_p r3)] (ok1 (SS h3))<|
 .ask (SV p_p r3) fun r4 h4=>
 .say [.sg_ 1 5 [1,2,27] 1 (uN p_p r4)] (ok1 (SX h4))<|
 .ask (SY p_p r4) fun r5 h5=>
 .say [.sg_ 1 6 [1,2,32] 1 (uO p_p r5)] (ok1 (S9 h5))<|
 .ask (Tc p_p r5) fun r6 h6=>
 .say [.sg_ 1 7 [1,2,38] 1 (uP p_p r6)] (ok1 (Td h6))<|
 .ask (Tf p_p r6) fun r7 h7=>
 .say [.sg_ 1 6 [1,2,45] 1 (uQ p_p r7)] (ok1 (Ti h7))<|
 .ask (Tj p_p r7) fun r8 h8=>
 .say [.sg_ 1 5 [1,2,51] 1 (uS p_p r8)] (ok1 (Tn h8))<|
 .ask (Tq p_p r8) fun r9 h9=>
 .say [.sg_ 1 6 [1,2,56] 1 (uT r9)] (ok1 (Tt h9))<|
 .ask (Tv r9) fun r10 h10=>
 .say [.sg_ 1 1 [2,62] 1 (uU r9 r10)] (ok1 (Tz h10))<|
 .ret (cZ 1) (r9)
noncomputable def Q4(p_p:aJ):Option (Bool):=Mo.den (aeO p_p)
theorem aeP(p_p:aJ)(r:Bool)(h:Q4 p_p=some r):Fn Tryz.prog GI 257 [.dat (aJ.lf1 p_p)] (.b_ r):=
 dK aG Tryz.func257 (by kernel_rfl) (by kernel_rfl) (by kernel_rfl) (aeO p_p) (fun r=>[.b_ r]) (by kernel_rfl) h
noncomputable def ML(p_x:aP):Mo (Bool):=
 .ite (decide ((p_x.fName:ByteArray)=(⟨#[]⟩:ByteArray))) (fun c0=>
 .say [.gd 4003 true] (ok1 c0)<|
 .ret ⟨[],[1,2,10],[],1⟩ (p_x.aK==0)) fun _=>.stop
noncomputable def aaW(p_x:aP):Option (Bool):=Mo.den (ML p_x)
noncomputable def CX(p_x:aP)(r_:Bool):St:=⟨[(1,.ptr 0 0),(2,.b_ false),(10,.b_ r_)],[.box 60 (.dat (aP.lf1 p_x))]⟩
theorem ZL{p_x:aP}{r_:Bool}(h:aaW p_x=some r_):aS Tryz.f221 0 [1,0] [0,1,2,3,4,5,6,7] (CX p_x r_) ⟨[(1,.ptr 0 0),(2,.b_ false)],[.box 60 (.dat (aP.lf1 p_x))]⟩:=
 aQ aG (ML p_x) (CX p_x) (by kernel_rfl) h
noncomputable def MN(p_x:aP)(r0:Bool):Mo (Bool):=
 .ite (r0) (fun c0=>
 .say [.gd 4008 true,.num p_x.sK.length] (okc c0 (okc (ln_ p_x.sK dV.lf) ok0))<|
 .ret ⟨[],[1,2,16],[],1⟩ ((p_x.sK.length:Int)==0)) fun _=>.stop
noncomputable def aaX(p_x:aP)(r0:Bool):Option (Bool):=Mo.den (MN p_x r0)
noncomputable def CY(p_x:aP)(r_:Bool):St:=⟨[(1,.ptr 0 0),(2,.b_ false),(16,.b_ r_)],[.box 60 (.dat (aP.lf1 p_x))]⟩
theorem ZM{p_x:aP}{r0:Bool}{r_:Bool}(h:aaX p_x r0=some r_):aS Tryz.f221 0 [1,0] [8,9,10,11,12,13] (CY p_x r_) ⟨[(1,.ptr 0 0),(2,.b_ false),(10,.b_ r0)],[.box 60 (.dat (aP.lf1 p_x))]⟩:=
 aQ aG (MN p_x r0) (CY p_x) (by kernel_rfl) h
noncomputable def FT(p_x:aP)(r0:Bool):Mo (Bool):=
 .ite (r0) (fun c0=>
 .say [.gd 4014 true] (ok1 c0)<|
 .ret ⟨[],[1,2,21],[],1⟩ (!p_x.dY)) fun _=>.stop
noncomputable def TA(p_x:aP)(r0:Bool):Option (Bool):=Mo.den (FT p_x r0)
noncomputable def uV(p_x:aP)(r_:Bool):St:=⟨[(1,.ptr 0 0),(2,.b_ false),(21,.b_ r_)],[.box 60 (.dat (aP.lf1 p_x))]⟩
theorem TB{p_x:aP}{r0:Bool}{r_:Bool}(h:TA p_x r0=some r_):aS Tryz.f221 0 [1,0] [14,15,16,17,18] (uV p_x r_) ⟨[(1,.ptr 0 0),(2,.b_ false),(16,.b_ r0)],[.box 60 (.dat (aP.lf1 p_x))]⟩:=
 aQ aG (FT p_x r0) (uV p_x) (by kernel_rfl) h
noncomputable def FV(p_x:aP)(r0:Bool):Mo (Bool):=
 .ite (r0) (fun c0=>
 .say [.gd 4019 true] (ok1 c0)<|
 .ret ⟨[],[1,2,26],[],1⟩ (!p_x.mF)) fun _=>.stop
noncomputable def TF(p_x:aP)(r0:Bool):Option (Bool):=Mo.den (FV p_x r0)
noncomputable def uX(p_x:aP)(r_:Bool):St:=⟨[(1,.ptr 0 0),(2,.b_ false),(26,.b_ r_)],[.box 60 (.dat (aP.lf1 p_x))]⟩
theorem TG{p_x:aP}{r0:Bool}{r_:Bool}(h:TF p_x r0=some r_):aS Tryz.f221 0 [1,0] [19,20,21,22,23] (uX p_x r_) ⟨[(1,.ptr 0 0),(2,.b_ false),(21,.b_ r0)],[.box 60 (.dat (aP.lf1 p_x))]⟩:=
 aQ aG (FV p_x r0) (uX p_x) (by kernel_rfl) h
noncomputable def FW(p_x:aP)(r0:Bool):Mo (Bool):=
 .ite (r0) (fun c0=>
 .say [.gd 4024 true] (ok1 c0)<|
 .ret ⟨[],[1,2,31],[],1⟩ (!p_x.ku)) fun _=>.stop
noncomputable def TJ(p_x:aP)(r0:Bool):Option (Bool):=Mo.den (FW p_x r0)
noncomputable def uY(p_x:aP)(r_:Bool):St:=⟨[(1,.ptr 0 0),(2,.b_ false),(31,.b_ r_)],[.box 60 (.dat (aP.lf1 p_x))]⟩
theorem TK{p_x:aP}{r0:Bool}{r_:Bool}(h:TJ p_x r0=some r_):aS Tryz.f221 0 [1,0] [24,25,26,27,28] (uY p_x r_) ⟨[(1,.ptr 0 0),(2,.b_ false),(26,.b_ r0)],[.box 60 (.dat (aP.lf1 p_x))]⟩:=
 aQ aG (FW p_x r0) (uY p_x) (by kernel_rfl) h
noncomputable def FX(p_x:aP)(r0:Bool):Mo (Bool):=
 .ite (r0) (fun c0=>
 .say [.gd 4029 true] (ok1 c0)<|
 .ask (Q4 p_x.sQ) fun r1 h0=>
 .say [.res (.b_ r1)] (ok1 (aeP _ _ h0))<|
 .ret ⟨[.kill 0],[2,36],[],1⟩ (r1)) fun _=>.stop
noncomputable def TL(p_x:aP)(r0:Bool):Option (Bool):=Mo.den (FX p_x r0)
noncomputable def uZ  (r_:Bool):St:=⟨[(2,.b_ false),(36,.b_ r_)],[.dead]⟩
theorem TM{p_x:aP}{r0:Bool}{r_:Bool}(h:TL p_x r0=some r_):aS Tryz.f221 0 [1,0] [29,30,31,32,33] (uZ r_) ⟨[(1,.ptr 0 0),(2,.b_ false),(31,.b_ r0)],[.box 60 (.dat (aP.lf1 p_x))]⟩:=
 aQ aG (FX p_x r0) uZ (by kernel_rfl) h
noncomputable def FY(r0:Bool):Mo (Unit):=
 .ret ⟨[],[2],[],1⟩ ()
noncomputable def TN(r0:Bool):Option (Unit):=Mo.den (FY r0)
noncomputable def vg(r0:Bool)(r_:Unit):St:=⟨[(2,.b_ r0)],[.dead]⟩
theorem TP{r0:Bool}{r_:Unit}(h:TN r0=some r_):aS Tryz.f221 0 [1,0] [34] (vg r0 r_) ⟨[(2,.b_ false),(36,.b_ r0)],[.dead]⟩:=
 aQ aG (FY r0) (vg r0) (by kernel_rfl) h
noncomputable def aeQ(p_x:aP):Mo (Bool):=
 .ask (aaW p_x) fun r0 h0=>
 .say [.sg_ 1 8 [1,2] 1 (CX p_x r0)] (ok1 (ZL h0))<|
 .ask (aaX p_x r0) fun r1 h1=>
 .say [.sg_ 1 6 [1,2,10] 1 (CY p_x r1)] (ok1 (ZM h1))<|
 .ask (TA p_x r1) fun r2 h2=>
 .say [.sg_ 1 5 [1,2,16] 1 (uV p_x r2)] (ok1 (TB h2))<|
 .ask (TF p_x r2) fun r3 h3=>
 .say [.sg_ 1 5 [1,2,21] 1 (uX p_x r3)] (ok1 (TG h3))<|
 .ask (TJ p_x r3) fun r4 h4=>
 .say [.sg_ 1 5 [1,2,26] 1 (uY p_x r4)] (ok1 (TK h4))<|
 .ask (TL p_x r4) fun r5 h5=>
 .say [.sg_ 1 5 [1,2,31] 1 (uZ r5)] (ok1 (TM h5))<|
 .ask (TN r5) fun r6 h6=>
 .say [.sg_ 1 1 [2,36] 1 (vg r5 r6)] (ok1 (TP h6))<|
 .ret (cZ 1) (r5)
noncomputable def Q9(p_x:aP):Option (Bool):=Mo.den (aeQ p_x)
theorem aeR(p_x:aP)(r:Bool)(h:Q9 p_x=some r):Fn Tryz.prog GI 221 [.dat (aP.lf1 p_x)] (.b_ r):=
 dK aG Tryz.func221 (by kernel_rfl) (by kernel_rfl) (by kernel_rfl) (aeQ p_x) (fun r=>[.b_ r]) (by kernel_rfl) h
noncomputable def MO(p_w:ay):Mo (Bool):=
 .ite (p_w.aK==0) (fun c0=>
 .say [.gd 4003 true] (ok1 c0)<|
 .ret ⟨[],[1,2,10],[],1⟩ (decide ((p_w.aT:ByteArray)=(⟨#[]⟩:ByteArray)))) fun _=>.stop
noncomputable def aaY(p_w:ay):Option (Bool):=Mo.den (MO p_w)
noncomputable def CZ(p_w:ay)(r_:Bool):St:=⟨[(1,.ptr 0 0),(2,.b_ false),(10,.b_ r_)],[.box 64 (.dat (ay.lf1 p_w))]⟩
theorem ZN{p_w:ay}{r_:Bool}(h:aaY p_w=some r_):aS Tryz.f169 0 [1,0] [0,1,2,3,4,5,6,7] (CZ p_w r_) ⟨[(1,.ptr 0 0),(2,.b_ false)],[.box 64 (.dat (ay.lf1 p_w))]⟩:=
 aQ aG (MO p_w) (CZ p_w) (by kernel_rfl) h
noncomputable def MP(p_w:ay)(r0:Bool):Mo (Bool):=
 .ite (r0) (fun c0=>
 .say [.gd 4008 true] (ok1 c0)<|
 .ask (Q11 p_w.jh) fun r1 h0=>
 .say [.res (.b_ r1)] (ok1 (kK _ _ h0))<|
 .ret ⟨[],[1,2,15],[],1⟩ (r1)) fun _=>.stop
noncomputable def aaZ(p_w:ay)(r0:Bool):Option (Bool):=Mo.den (MP p_w r0)
noncomputable def C9(p_w:ay)(r_:Bool):St:=⟨[(1,.ptr 0 0),(2,.b_ false),(15,.b_ r_)],[.box 64 (.dat (ay.lf1 p_w))]⟩
theorem ZO{p_w:ay}{r0:Bool}{r_:Bool}(h:aaZ p_w r0=some r_):aS Tryz.f169 0 [1,0] [8,9,10,11,12] (C9 p_w r_) ⟨[(1,.ptr 0 0),(2,.b_ false),(10,.b_ r0)],[.box 64 (.dat (ay.lf1 p_w))]⟩:=
 aQ aG (MP p_w r0) (C9 p_w) (by kernel_rfl) h
noncomputable def FZ(p_w:ay)(r0:Bool):Mo (Bool):=
 .ite (r0) (fun c0=>
 .say [.gd 4013 true] (ok1 c0)<|
 .ask (Q11 p_w.bI) fun r1 h0=>
 .say [.res (.b_ r1)] (ok1 (kK _ _ h0))<|
 .ret ⟨[],[1,2,20],[],1⟩ (r1)) fun _=>.stop
noncomputable def TQ(p_w:ay)(r0:Bool):Option (Bool):=Mo.den (FZ p_w r0)
noncomputable def vk(p_w:ay)(r_:Bool):St:=⟨[(1,.ptr 0 0),(2,.b_ false),(20,.b_ r_)],[.box 64 (.dat (ay.lf1 p_w))]⟩
theorem TR{p_w:ay}{r0:Bool}{r_:Bool}(h:TQ p_w r0=some r_):aS Tryz.f169 0 [1,0] [13,14,15,16,17] (vk p_w r_) ⟨[(1,.ptr 0 0),(2,.b_ false),(15,.b_ r0)],[.box 64 (.dat (ay.lf1 p_w))]⟩:=
 aQ aG (FZ p_w r0) (vk p_w) (by kernel_rfl) h
noncomputable def F5(p_w:ay)(r0:Bool):Mo (Bool):=
 .ite (r0) (fun c0=>
 .say [.gd 4018 true] (ok1 c0)<|
 .ask (Q11 p_w.gZ) fun r1 h0=>
 .say [.res (.b_ r1)] (ok1 (kK _ _ h0))<|
 .ret ⟨[],[1,2,25],[],1⟩ (r1)) fun _=>.stop
noncomputable def TS(p_w:ay)(r0:Bool):Option (Bool):=Mo.den (F5 p_w r0)
noncomputable def vw(p_w:ay)(r_:Bool):St:=⟨[(1,.ptr 0 0),(2,.b_ false),(25,.b_ r_)],[.box 64 (.dat (ay.lf1 p_w))]⟩
theorem TU{p_w:ay}{r0:Bool}{r_:Bool}(h:TS p_w r0=some r_):aS Tryz.f169 0 [1,0] [18,19,20,21,22] (vw p_w r_) ⟨[(1,.ptr 0 0),(2,.b_ false),(20,.b_ r0)],[.box 64 (.dat (ay.lf1 p_w))]⟩:=
 aQ aG (F5 p_w r0) (vw p_w) (by kernel_rfl) h
noncomputable def F6(p_w:ay)(r0:Bool):Mo (Bool):=
 .ite (r0) (fun c0=>
 .say [.gd 4023 true] (ok1 c0)<|
 .ask (Q13 p_w.kC) fun r1 h0=>
 .say [.res (.b_ r1)] (ok1 (adp _ _ h0))<|
 .ret ⟨[],[1,2,30],[],1⟩ (r1)) fun _=>.stop
noncomputable def TV(p_w:ay)(r0:Bool):Option (Bool):=Mo.den (F6 p_w r0)
noncomputable def vC(p_w:ay)(r_:Bool):St:=⟨[(1,.ptr 0 0),(2,.b_ false),(30,.b_ r_)],[.box 64 (.dat (ay.lf1 p_w))]⟩
theorem TW{p_w:ay}{r0:Bool}{r_:Bool}(h:TV p_w r0=some r_):aS Tryz.f169 0 [1,0] [23,24,25,26,27] (vC p_w r_) ⟨[(1,.ptr 0 0),(2,.b_ false),(25,.b_ r0)],[.box 64 (.dat (ay.lf1 p_w))]⟩:=
 aQ aG (F6 p_w r0) (vC p_w) (by kernel_rfl) h
noncomputable def F7(p_w:ay)(r0:Bool):Mo (Bool):=
 .ite (r0) (fun c0=>
 .say [.gd 4028 true] (ok1 c0)<|
 .ask (Q9 p_w.jc) fun r1 h0=>
 .say [.res (.b_ r1)] (ok1 (aeR _ _ h0))<|
 .ret ⟨[],[1,2,35],[],1⟩ (r1)) fun _=>.stop
noncomputable def TY(p_w:ay)(r0:Bool):Option (Bool):=Mo.den (F7 p_w r0)
noncomputable def vF(p_w:ay)(r_:Bool):St:=⟨[(1,.ptr 0 0),(2,.b_ false),(35,.b_ r_)],[.box 64 (.dat (ay.lf1 p_w))]⟩
theorem Ua{p_w:ay}{r0:Bool}{r_:Bool}(h:TY p_w r0=some r_):aS Tryz.f169 0 [1,0] [28,29,30,31,32] (vF p_w r_) ⟨[(1,.ptr 0 0),(2,.b_ false),(30,.b_ r0)],[.box 64 (.dat (ay.lf1 p_w))]⟩:=
 aQ aG (F7 p_w r0) (vF p_w) (by kernel_rfl) h
noncomputable def F8(p_w:ay)(r0:Bool):Mo (Bool):=
 .ite (r0) (fun c0=>
 .say [.gd 4033 true] (ok1 c0)<|
 .ret ⟨[],[1,2,40],[],1⟩ (decide ((p_w.sU:ByteArray)=(⟨#[]⟩:ByteArray)))) fun _=>.stop
noncomputable def Ub(p_w:ay)(r0:Bool):Option (Bool):=Mo.den (F8 p_w r0)
noncomputable def vG(p_w:ay)(r_:Bool):St:=⟨[(1,.ptr 0 0),(2,.b_ false),(40,.b_ r_)],[.box 64 (.dat (ay.lf1 p_w))]⟩
theorem Uc{p_w:ay}{r0:Bool}{r_:Bool}(h:Ub p_w r0=some r_):aS Tryz.f169 0 [1,0] [33,34,35,36,37] (vG p_w r_) ⟨[(1,.ptr 0 0),(2,.b_ false),(35,.b_ r0)],[.box 64 (.dat (ay.lf1 p_w))]⟩:=
 aQ aG (F8 p_w r0) (vG p_w) (by kernel_rfl) h
noncomputable def F9(p_w:ay)(r0:Bool):Mo (Bool):=
 .ite (r0) (fun c0=>
 .say [.gd 4038 true] (ok1 c0)<|
 .ret ⟨[],[1,2,45],[],1⟩ (p_w.bP==0)) fun _=>.stop
noncomputable def Ud(p_w:ay)(r0:Bool):Option (Bool):=Mo.den (F9 p_w r0)
noncomputable def vH(p_w:ay)(r_:Bool):St:=⟨[(1,.ptr 0 0),(2,.b_ false),(45,.b_ r_)],[.box 64 (.dat (ay.lf1 p_w))]⟩
theorem Ue{p_w:ay}{r0:Bool}{r_:Bool}(h:Ud p_w r0=some r_):aS Tryz.f169 0 [1,0] [38,39,40,41,42] (vH p_w r_) ⟨[(1,.ptr 0 0),(2,.b_ false),(40,.b_ r0)],[.box 64 (.dat (ay.lf1 p_w))]⟩:=
 aQ aG (F9 p_w r0) (vH p_w) (by kernel_rfl) h
noncomputable def Gf(p_w:ay)(r0:Bool):Mo (Bool):=
 .ite (r0) (fun c0=>
 .say [.gd 4043 true,.num p_w.bY.length] (okc c0 (okc (ln_ p_w.bY ay.lf) ok0))<|
 .ret ⟨[],[1,2,51],[],1⟩ ((p_w.bY.length:Int)==0)) fun _=>.stop
noncomputable def Uf(p_w:ay)(r0:Bool):Option (Bool):=Mo.den (Gf p_w r0)
noncomputable def vI(p_w:ay)(r_:Bool):St:=⟨[(1,.ptr 0 0),(2,.b_ false),(51,.b_ r_)],[.box 64 (.dat (ay.lf1 p_w))]⟩
theorem Ug{p_w:ay}{r0:Bool}{r_:Bool}(h:Uf p_w r0=some r_):aS Tryz.f169 0 [1,0] [43,44,45,46,47,48] (vI p_w r_) ⟨[(1,.ptr 0 0),(2,.b_ false),(45,.b_ r0)],[.box 64 (.dat (ay.lf1 p_w))]⟩:=
 aQ aG (Gf p_w r0) (vI p_w) (by kernel_rfl) h
noncomputable def Gg(p_w:ay)(r0:Bool):Mo (Bool):=
 .ite (r0) (fun c0=>
 .say [.gd 4049 true,.num p_w.fV.length] (okc c0 (okc (ln_ p_w.fV lfI) ok0))<|
 .ret ⟨[],[1,2,57],[],1⟩ ((p_w.fV.length:Int)==0)) fun _=>.stop
noncomputable def Uh(p_w:ay)(r0:Bool):Option (Bool):=Mo.den (Gg p_w r0)
noncomputable def vJ(p_w:ay)(r_:Bool):St:=⟨[(1,.ptr 0 0),(2,.b_ false),(57,.b_ r_)],[.box 64 (.dat (ay.lf1 p_w))]⟩
theorem Ui{p_w:ay}{r0:Bool}{r_:Bool}(h:Uh p_w r0=some r_):aS Tryz.f169 0 [1,0] [49,50,51,52,53,54] (vJ p_w r_) ⟨[(1,.ptr 0 0),(2,.b_ false),(51,.b_ r0)],[.box 64 (.dat (ay.lf1 p_w))]⟩:=
 aQ aG (Gg p_w r0) (vJ p_w) (by kernel_rfl) h
noncomputable def Gi(p_w:ay)(r0:Bool):Mo (Bool):=
 .ite (r0) (fun c0=>
 .say [.gd 4055 true] (ok1 c0)<|
 .ret ⟨[.kill 0],[2,62],[],1⟩ (!p_w.iE)) fun _=>.stop
noncomputable def Uj(p_w:ay)(r0:Bool):Option (Bool):=Mo.den (Gi p_w r0)
noncomputable def vK  (r_:Bool):St:=⟨[(2,.b_ false),(62,.b_ r_)],[.dead]⟩
theorem Uk{p_w:ay}{r0:Bool}{r_:Bool}(h:Uj p_w r0=some r_):aS Tryz.f169 0 [1,0] [55,56,57,58,59] (vK r_) ⟨[(1,.ptr 0 0),(2,.b_ false),(57,.b_ r0)],[.box 64 (.dat (ay.lf1 p_w))]⟩:=
 aQ aG (Gi p_w r0) vK (by kernel_rfl) h
noncomputable def Gj(r0:Bool):Mo (Unit):=
 .ret ⟨[],[2],[],1⟩ ()
noncomputable def Ul(r0:Bool):Option (Unit):=Mo.den (Gj r0)
noncomputable def vM(r0:Bool)(r_:Unit):St:=⟨[(2,.b_ r0)],[.dead]⟩
theorem Um{r0:Bool}{r_:Unit}(h:Ul r0=some r_):aS Tryz.f169 0 [1,0] [60] (vM r0 r_) ⟨[(2,.b_ false),(62,.b_ r0)],[.dead]⟩:=
 aQ aG (Gj r0) (vM r0) (by kernel_rfl) h
noncomputable def aeS(p_w:ay):Mo (Bool):=
 .ask (aaY p_w) fun r0 h0=>
 .say [.sg_ 1 8 [1,2] 1 (CZ p_w r0)] (ok1 (ZN h0))<|
 .ask (aaZ p_w r0) fun r1 h1=>
 .say [.sg_ 1 5 [1,2,10] 1 (C9 p_w r1)] (ok1 (ZO h1))<|
 .ask (TQ p_w r1) fun r2 h2=>
 .say [.sg_ 1 5 [1,2,15] 1 (vk p_w r2)] (ok1 (TR h2))<|
 .ask (TS p_w r2) fun r3 h3=>
 .say [.sg_ 1 5 [1,2,20] 1 (vw p_w r3)] (ok1 (TU h3))<|
 .ask (TV p_w r3) fun r4 h4=>
 .say [.sg_ 1 5 [1,2,25] 1 (vC p_w r4)] (ok1 (TW h4))<|
 .ask (TY p_w r4) fun r5 h5=>
 .say [.sg_ 1 5 [1,2,30] 1 (vF p_w r5)] (ok1 (Ua h5))<|
 .ask (Ub p_w r5) fun r6 h6=>
 .say [.sg_ 1 5 [1,2,35] 1 (vG p_w r6)] (ok1 (Uc h6))<|
 .ask (Ud p_w r6) fun r7 h7=>
 .say [.sg_ 1 5 [1,2,40] 1 (vH p_w r7)] (ok1 (Ue h7))<|
 .ask (Uf p_w r7) fun r8 h8=>
 .say [.sg_ 1 6 [1,2,45] 1 (vI p_w r8)] (ok1 (Ug h8))<|
 .ask (Uh p_w r8) fun r9 h9=>
 .say [.sg_ 1 6 [1,2,51] 1 (vJ p_w r9)] (ok1 (Ui h9))<|
 .ask (Uj p_w r9) fun r10 h10=>
 .say [.sg_ 1 5 [1,2,57] 1 (vK r10)] (ok1 (Uk h10))<|
 .ask (Ul r10) fun r11 h11=>
 .say [.sg_ 1 1 [2,62] 1 (vM r10 r11)] (ok1 (Um h11))<|
 .ret (cZ 1) (r10)
noncomputable def Q3(p_w:ay):Option (Bool):=Mo.den (aeS p_w)
theorem aeT(p_w:ay)(r:Bool)(h:Q3 p_w=some r):Fn Tryz.prog GI 169 [.dat (ay.lf1 p_w)] (.b_ r):=
 dK aG Tryz.func169 (by kernel_rfl) (by kernel_rfl) (by kernel_rfl) (aeS p_w) (fun r=>[.b_ r]) (by kernel_rfl) h
noncomputable def MQ(p_w:ay)(r0:aB):Mo (ay):=
 .ite (r0.kD) (fun c0=>
 .say [.br true] (ok1 c0)<|
 .ret ⟨[],[1,3],[],2⟩ (ay.Qo (ay.sV p_w 0) ⟨#[]⟩)) fun c0=>
 .say [.br false] (ok1 c0)<|
 .ret ⟨[],[1,3],[],2⟩ (ay.sV p_w 0)
noncomputable def aa0(p_w:ay)(r0:aB):Option (ay):=Mo.den (MQ p_w r0)
noncomputable def Dc(r0:aB)(r_:ay):St:=⟨[(1,.ptr 0 0),(3,.ptr 1 0)],[.box 64 (.dat (ay.lf1 r_)),.box 187 (.agg ((aB.lf1 r0).map AV.lf))]⟩
theorem ZP{p_w:ay}{r0:aB}{r_:ay}(h:aa0 p_w r0=some r_):bQ Tryz.f108 0 [1,1,1,0,1] (.normal) (Dc r0 r_) ⟨[(1,.ptr 0 0),(3,.ptr 1 0),(9,.b_ r0.kD)],[.box 64 (.dat (ay.lf1 (ay.sV p_w 0))),.box 187 (.agg ((aB.lf1 r0).map AV.lf))]⟩:=
 bM aG (MQ p_w r0) (fun _=>.normal) (Dc r0) (by kernel_rfl) h
noncomputable def MR(r0:aB)(r1:ay):Mo (ay):=
 .ite (r0.Cj) (fun c0=>
 .say [.br true] (ok1 c0)<|
 .ret ⟨[.norm 0],[1,3],[],2⟩ (ay.Zl (ay.Zk (ay.aev r1 (ah.mk 0 0 ⟨#[]⟩ [] [])) (ah.mk 0 0 ⟨#[]⟩ [] [])) false)) fun c0=>
 .say [.br false] (ok1 c0)<|
 .ret ⟨[],[1,3],[],2⟩ (r1)
noncomputable def aa1(r0:aB)(r1:ay):Option (ay):=Mo.den (MR r0 r1)
noncomputable def Df(r0:aB)(r_:ay):St:=⟨[(1,.ptr 0 0),(3,.ptr 1 0)],[.box 64 (.dat (ay.lf1 r_)),.box 187 (.agg ((aB.lf1 r0).map AV.lf))]⟩
theorem ZQ{r0:aB}{r1:ay}{r_:ay}(h:aa1 r0 r1=some r_):bQ Tryz.f108 0 [1,1,1,1,0,1] (.normal) (Df r0 r_) ⟨[(1,.ptr 0 0),(3,.ptr 1 0),(12,.b_ r0.Cj)],[.box 64 (.dat (ay.lf1 r1)),.box 187 (.agg ((aB.lf1 r0).map AV.lf))]⟩:=
 bM aG (MR r0 r1) (fun _=>.normal) (Df r0) (by kernel_rfl) h
noncomputable def Gl(r0:aB)(r1:ay):Mo (ay):=
 .ite (r0.jS) (fun c0=>
 .say [.br true] (ok1 c0)<|
 .ret ⟨[.norm 0],[1,3],[],2⟩ (ay.aew r1 (ah.mk 0 0 ⟨#[]⟩ [] []))) fun c0=>
 .say [.br false] (ok1 c0)<|
 .ret ⟨[],[1,3],[],2⟩ (r1)
noncomputable def Un(r0:aB)(r1:ay):Option (ay):=Mo.den (Gl r0 r1)
noncomputable def vN(r0:aB)(r_:ay):St:=⟨[(1,.ptr 0 0),(3,.ptr 1 0)],[.box 64 (.dat (ay.lf1 r_)),.box 187 (.agg ((aB.lf1 r0).map AV.lf))]⟩
theorem Uo{r0:aB}{r1:ay}{r_:ay}(h:Un r0 r1=some r_):bQ Tryz.f108 0 [1,1,1,1,1,0,1] (.normal) (vN r0 r_) ⟨[(1,.ptr 0 0),(3,.ptr 1 0),(19,.b_ r0.jS)],[.box 64 (.dat (ay.lf1 r1)),.box 187 (.agg ((aB.lf1 r0).map AV.lf))]⟩:=
 bM aG (Gl r0 r1) (fun _=>.normal) (vN r0) (by kernel_rfl) h
noncomputable def Gm(r0:aB)(r1:ay):Mo (ay):=
 .ite (r0.Kt) (fun c0=>
 .say [.br true] (ok1 c0)<|
 .ret ⟨[.norm 0],[1,3],[],2⟩ (ay.aex r1 (ak.mk ⟨#[]⟩ [] aj.z 0 0))) fun c0=>
 .say [.br false] (ok1 c0)<|
 .ret ⟨[],[1,3],[],2⟩ (r1)
noncomputable def Ur(r0:aB)(r1:ay):Option (ay):=Mo.den (Gm r0 r1)
noncomputable def vO(r0:aB)(r_:ay):St:=⟨[(1,.ptr 0 0),(3,.ptr 1 0)],[.box 64 (.dat (ay.lf1 r_)),.box 187 (.agg ((aB.lf1 r0).map AV.lf))]⟩
theorem Us{r0:aB}{r1:ay}{r_:ay}(h:Ur r0 r1=some r_):bQ Tryz.f108 0 [1,1,1,1,1,1,0,1] (.normal) (vO r0 r_) ⟨[(1,.ptr 0 0),(3,.ptr 1 0),(23,.b_ r0.Kt)],[.box 64 (.dat (ay.lf1 r1)),.box 187 (.agg ((aB.lf1 r0).map AV.lf))]⟩:=
 bM aG (Gm r0 r1) (fun _=>.normal) (vO r0) (by kernel_rfl) h
noncomputable def Gn(r0:aB)(r1:ay):Mo (ay):=
 .ite (r0.kE) (fun _=>.stop) fun c0=>
 .say [.br false] (ok1 c0)<|
 .ret ⟨[],[1,3],[],2⟩ (r1)
noncomputable def Ut(r0:aB)(r1:ay):Option (ay):=Mo.den (Gn r0 r1)
noncomputable def vP(r0:aB)(r_:ay):St:=⟨[(1,.ptr 0 0),(3,.ptr 1 0)],[.box 64 (.dat (ay.lf1 r_)),.box 187 (.agg ((aB.lf1 r0).map AV.lf))]⟩
theorem Uu{r0:aB}{r1:ay}{r_:ay}(h:Ut r0 r1=some r_):bQ Tryz.f108 0 [1,1,1,1,1,1,1,0,1] (.normal) (vP r0 r_) ⟨[(1,.ptr 0 0),(3,.ptr 1 0),(27,.b_ r0.kE)],[.box 64 (.dat (ay.lf1 r1)),.box 187 (.agg ((aB.lf1 r0).map AV.lf))]⟩:=
 bM aG (Gn r0 r1) (fun _=>.normal) (vP r0) (by kernel_rfl) h
noncomputable def Gp(r0:aB)(r1:ay):Mo (ay):=
 .ite (r0.fA) (fun _=>.stop) fun c0=>
 .say [.br false] (ok1 c0)<|
 .ret ⟨[],[1,3],[],2⟩ (r1)
noncomputable def Uw(r0:aB)(r1:ay):Option (ay):=Mo.den (Gp r0 r1)
noncomputable def vS(r0:aB)(r_:ay):St:=⟨[(1,.ptr 0 0),(3,.ptr 1 0)],[.box 64 (.dat (ay.lf1 r_)),.box 187 (.agg ((aB.lf1 r0).map AV.lf))]⟩
theorem Ux{r0:aB}{r1:ay}{r_:ay}(h:Uw r0 r1=some r_):bQ Tryz.f108 0 [1,1,1,1,1,1,1,1,0,1] (.normal) (vS r0 r_) ⟨[(1,.ptr 0 0),(3,.ptr 1 0),(31,.b_ r0.fA)],[.box 64 (.dat (ay.lf1 r1)),.box 187 (.agg ((aB.lf1 r0).map AV.lf))]⟩:=
 bM aG (Gp r0 r1) (fun _=>.normal) (vS r0) (by kernel_rfl) h
noncomputable def Gq(r0:aB)(r1:ay):Mo (ay):=
 .ite (r0.Cm) (fun _=>.stop) fun c0=>
 .say [.br false] (ok1 c0)<|
 .ret ⟨[],[1,3],[],2⟩ (r1)
noncomputable def Uy(r0:aB)(r1:ay):Option (ay):=Mo.den (Gq r0 r1)
noncomputable def vT(r0:aB)(r_:ay):St:=⟨[(1,.ptr 0 0),(3,.ptr 1 0)],[.box 64 (.dat (ay.lf1 r_)),.box 187 (.agg ((aB.lf1 r0).map AV.lf))]⟩
theorem Uz{r0:aB}{r1:ay}{r_:ay}(h:Uy r0 r1=some r_):bQ Tryz.f108 0 [1,1,1,1,1,1,1,1,1,0,1] (.normal) (vT r0 r_) ⟨[(1,.ptr 0 0),(3,.ptr 1 0),(35,.b_ r0.Cm)],[.box 64 (.dat (ay.lf1 r1)),.box 187 (.agg ((aB.lf1 r0).map AV.lf))]⟩:=
 bM aG (Gq r0 r1) (fun _=>.normal) (vT r0) (by kernel_rfl) h
noncomputable def Gs(r0:aB)(r1:ay):Mo (ay):=
 .ite (r0.dS) (fun _=>.stop) fun c0=>
 .say [.br false] (ok1 c0)<|
 .ret ⟨[],[1,3],[],2⟩ (r1)
noncomputable def UA(r0:aB)(r1:ay):Option (ay):=Mo.den (Gs r0 r1)
noncomputable def vU(r0:aB)(r_:ay):St:=⟨[(1,.ptr 0 0),(3,.ptr 1 0)],[.box 64 (.dat (ay.lf1 r_)),.box 187 (.agg ((aB.lf1 r0).map AV.lf))]⟩
theorem UC{r0:aB}{r1:ay}{r_:ay}(h:UA r0 r1=some r_):bQ Tryz.f108 0 [1,1,1,1,1,1,1,1,1,1,0,1] (.normal) (vU r0 r_) ⟨[(1,.ptr 0 0),(3,.ptr 1 0),(38,.b_ r0.dS)],[.box 64 (.dat (ay.lf1 r1)),.box 187 (.agg ((aB.lf1 r0).map AV.lf))]⟩:=
 bM aG (Gs r0 r1) (fun _=>.normal) (vU r0) (by kernel_rfl) h
noncomputable def Gt(r0:aB)(r1:ay):Mo (ay):=
 .ite (r0.ig) (fun _=>.stop) fun c0=>
 .say [.br false] (ok1 c0)<|
 .ret ⟨[],[1,3],[],2⟩ (r1)
noncomputable def UD(r0:aB)(r1:ay):Option (ay):=Mo.den (Gt r0 r1)
noncomputable def vV(r0:aB)(r_:ay):St:=⟨[(1,.ptr 0 0),(3,.ptr 1 0)],[.box 64 (.dat (ay.lf1 r_)),.box 187 (.agg ((aB.lf1 r0).map AV.lf))]⟩
theorem UE{r0:aB}{r1:ay}{r_:ay}(h:UD r0 r1=some r_):bQ Tryz.f108 0 [1,1,1,1,1,1,1,1,1,1,1,0,1] (.normal) (vV r0 r_) ⟨[(1,.ptr 0 0),(3,.ptr 1 0),(41,.b_ r0.ig)],[.box 64 (.dat (ay.lf1 r1)),.box 187 (.agg ((aB.lf1 r0).map AV.lf))]⟩:=
 bM aG (Gt r0 r1) (fun _=>.normal) (vV r0) (by kernel_rfl) h
noncomputable def Gu(r0:aB)(r1:ay):Mo (ay):=
 .ite (r0.iU) (fun _=>.stop) fun c0=>
 .say [.br false] (ok1 c0)<|
 .ret ⟨[],[1],[],2⟩ (r1)
noncomputable def UF(r0:aB)(r1:ay):Option (ay):=Mo.den (Gu r0 r1)
noncomputable def mZ  (r_:ay):St:=⟨[(1,.ptr 0 0)],[.box 64 (.dat (ay.lf1 r_)),.dead]⟩
theorem UG{r0:aB}{r1:ay}{r_:ay}(h:UF r0 r1=some r_):bQ Tryz.f108 0 [1,1,1,1,1,1,1,1,1,1,1,1,0,1] (.normal) (mZ r_) ⟨[(1,.ptr 0 0),(44,.b_ r0.iU)],[.box 64 (.dat (ay.lf1 r1)),.dead]⟩:=
 bM aG (Gu r0 r1) (fun _=>.normal) mZ (by kernel_rfl) h
noncomputable def aeU(p_w:ay):Mo (Bool):=
 .ask (Q77 p_w.aK) fun r0 h0=>
 .say [.res (.dat (aB.lf1 r0))] (ok1 (Rt _ _ h0))<|
 .ask (aa0 p_w r0) fun r1 h1=>
 .say [.pt_ 1 [1,3,9] 2 (.normal) (Dc r0 r1)] (ok1 (ZP h1))<|
 .ask (aa1 r0 r1) fun r2 h2=>
 .say [.pt_ 1 [1,3,12] 2 (.normal) (Df r0 r2)] (ok1 (ZQ h2))<|
 .ask (Un r0 r2) fun r3 h3=>
 .say [.pt_ 1 [1,3,19] 2 (.normal) (vN r0 r3)] (ok1 (Uo h3))<|
 .ask (Ur r0 r3) fun r4 h4=>
 .say [.pt_ 1 [1,3,23] 2 (.normal) (vO r0 r4)] (ok1 (Us h4))<|
 .ask (Ut r0 r4) fun r5 h5=>
 .say [.pt_ 1 [1,3,27] 2 (.normal) (vP r0 r5)] (ok1 (Uu h5))<|
 .ask (Uw r0 r5) fun r6 h6=>
 .say [.pt_ 1 [1,3,31] 2 (.normal) (vS r0 r6)] (ok1 (Ux h6))<|
 .ask (Uy r0 r6) fun r7 h7=>
 .say [.pt_ 1 [1,3,35] 2 (.normal) (vT r0 r7)] (ok1 (Uz h7))<|
 .ask (UA r0 r7) fun r8 h8=>
 .say [.pt_ 1 [1,3,38] 2 (.normal) (vU r0 r8)] (ok1 (UC h8))<|
 .ask (UD r0 r8) fun r9 h9=>
 .say [.pt_ 1 [1,3,41] 2 (.normal) (vV r0 r9)] (ok1 (UE h9))<|
 .ask (UF r0 r9) fun r10 h10=>
 .say [.part [.kill 1] 1 [1,44] 2 (.normal) (mZ r10).T (mZ r10).H] (ok1 (UG h10))<|
 .ask (Q3 r10) fun r11 h11=>
 .say [.res (.b_ r11)] (ok1 (aeT _ _ h11))<|
 .ret (cZ 1) (r11)
noncomputable def Q6(p_w:ay):Option (Bool):=Mo.den (aeU p_w)
theorem aeV(p_w:ay)(r:Bool)(h:Q6 p_w=some r):Fn Tryz.prog GI 108 [.dat (ay.lf1 p_w)] (.b_ r):=
 dK aG Tryz.func108 (by kernel_rfl) (by kernel_rfl) (by kernel_rfl) (aeU p_w) (fun r=>[.b_ r]) (by kernel_rfl) h
structure RB3 where
 m1:(p_v:ah)→(p_most:Int)→Option (Int)
 ok1:∀(p_v:ah) (p_most:Int) (r:Int),m1 p_v p_most=some r→Fn Tryz.prog GI 213 [.dat (ah.lf1 p_v),.i_ p_most] (.i_ r)
 m2:(p_v:ah)→(p_b0:Int)→(p_b1:Int)→Option (Int×Int)
 ok2:∀(p_v:ah) (p_b0:Int) (p_b1:Int) (r:Int×Int),m2 p_v p_b0 p_b1=some r→FnH Tryz.prog GI 248 [.dat (ah.lf1 p_v),.clo 249 [.ptr 0 0,.ptr 1 0]] [.box 3 (.dat [(.int .i64 p_b0)]),.box 3 (.dat [(.int .i64 p_b1)])] (.tup []) [.box 3 (.dat [(.int .i64 r.1)]),.box 3 (.dat [(.int .i64 r.2)])]
 m3:(p_p:ah)→(p_b0:Int)→(p_b1:Int)→Option (Bool×Int×Int)
 ok3:∀(p_p:ah) (p_b0:Int) (p_b1:Int) (r:Bool×Int×Int),m3 p_p p_b0 p_b1=some r→FnH Tryz.prog GI 249 [.dat (ah.lf1 p_p),.ptr 0 0,.ptr 1 0] [.box 3 (.dat [(.int .i64 p_b0)]),.box 3 (.dat [(.int .i64 p_b1)])] (.b_ r.1) [.box 3 (.dat [(.int .i64 r.2.1)]),.box 3 (.dat [(.int .i64 r.2.2)])]
noncomputable def UH(R_:RB3)(p_v:ah)(p_most:Int):Mo (Int):=
 .ite (1==p_most) (fun _=>.stop) fun c0=>
 .say [.br false] (ok1 c0)<|
 .ask (R_.m2 p_v 1 p_most) fun r0 h0=>
 .say [.dP [2,1] (.tup []) [.box 3 (.dat [(.int .i64 r0.1)]),.box 3 (.dat [(.int .i64 r0.2)])]] (ok1 (R_.ok2 _ _ _ _ h0))<|
 .ret (cZ 1) (r0.1)
theorem ZR(R_:RB3)(p_v:ah)(p_most:Int)(r:Int)(h:Mo.den (UH R_ p_v p_most)=some r):Fn Tryz.prog GI 213 [.dat (ah.lf1 p_v),.i_ p_most] (.i_ r):=
 dK aG Tryz.func213 (by kernel_rfl) (by kernel_rfl) (by kernel_rfl) (UH R_ p_v p_most) (fun r=>[.i_ r]) (by kernel_rfl) h
noncomputable def Gv(R_:RB3)(p_v:ah):(Int×Int×Int)→Mo ((Int×Int×Int)⊕(Int×Int)⊕(Int×Int)):=fun(v0,v1,v2)=>
 .ite (decide ((v0:Int)<(p_v.bI.length:Int))) (fun c0=>
 .say [.br true] (ok1 c0)<|
 .ask (iM p_v.bI v0) fun x0 h0=>
 .say [.row (aF.lf1 x0),.at_ 26 3,.tod 35] (okc (bZ aF.aW h0) ok0)<|
 .ask (R_.m3 x0.fValue v1 v2) fun r0 h1=>
 .say [.dP [0,1] (.b_ r0.1) [.box 3 (.dat [(.int .i64 r0.2.1)]),.box 3 (.dat [(.int .i64 r0.2.2)])]] (ok1 (R_.ok3 _ _ _ _ h1))<|
 .ite (!r0.1) (fun _=>.stop) fun c1=>
 .say [.br false] (ok1 c1)<|
 .ret ⟨[],[1,27,28,29],[],3⟩ (.inl (IntKind.wrap .i64 (v0+1),r0.2.1,r0.2.2))) fun c0=>
 .say [.br false] (ok1 c0)<|
 .ret ⟨[],[],[],3⟩ (.inr (.inr ((v1,v2))))
noncomputable def UJ(R_:RB3)(p_v:ah)(v0:Int)(v1:Int)(v2:Int):Option ((Int×Int)⊕(Int×Int)):=dF (fun v_=>(Gv R_ p_v v_).den) FU (v0,v1,v2)
noncomputable def Gw(R_:RB3)(p_v:ah):(Int×Int×Int)→St:=fun(v0,v1,v2)=>⟨[(1,.clo 249 [.ptr 0 0,.ptr 1 0]),(27,.lf (.rows 6 (p_v.bI.map aF.lf))),(28,.i_ (p_v.bI.length:Int)),(29,.i_ v0)],[.box 3 (.dat [(.int .i64 v1)]),.box 3 (.dat [(.int .i64 v2)]),.dead]⟩
noncomputable def vW(r_:(Int×Int)⊕(Int×Int)):Exit:=match r_ with
 |.inl o_=>.ret
 |.inr (o_)=>.exit 3
noncomputable def ng  (r_:(Int×Int)⊕(Int×Int)):St:=match r_ with
 |.inl o_=>⟨[],[.box 3 (.dat [(.int .i64 o_.1)]),.box 3 (.dat [(.int .i64 o_.2)]),.dead]⟩
 |.inr (o_)=>⟨[],[.box 3 (.dat [(.int .i64 o_.1)]),.box 3 (.dat [(.int .i64 o_.2)]),.dead]⟩
theorem UK{R_:RB3}{p_v:ah}{v0:Int}{v1:Int}{v2:Int}{r_:(Int×Int)⊕(Int×Int)}(h:UJ R_ p_v v0 v1 v2=some r_):bQ Tryz.f248 2 [1,1,0,1,1,1,0,1,0] (vW r_) (ng r_) (Gw R_ p_v (v0,v1,v2)):=
 bU aG (body:=(Code.sub (bodyC Tryz.f248) [1,1,0,1,1,1,0,1,0,0])) (by kernel_rfl) (Gv R_ p_v) (Gw R_ p_v) vW ng (fun r_=>by rcases r_ with _|_<;>rfl) (fun v_=>by kernel_rfl) h
noncomputable def UL(R_:RB3)(p_v:ah)(p_b0:Int)(p_b1:Int):Mo (Int×Int):=
 .ite (p_v.aK==6) (fun _=>.stop) fun c0=>
 .say [.br false] (ok1 c0)<|
 .ite (p_v.aK==5) (fun c1=>
 .say [.br true,.num p_v.bI.length] (okc c1 (okc (ln_ p_v.bI aF.lf) ok0))<|
 .ask2 (UJ R_ p_v 0 p_b0 p_b1) (fun _ _=>.stop) fun o0 h0=>
 .say [.part [.kill 2] 0 [1,27,28,29] 3 (vW (.inr (o0))) (ng (.inr (o0))).T (ng (.inr (o0))).H] (ok1 (UK h0))<|
 .ret ⟨[],[],[],2⟩ (o0.1,o0.2)) fun c1=>
 .say [.br false] (ok1 c1)<|
 .ret ⟨[.kill 2],[],[],2⟩ (p_b0,p_b1)
theorem ZT(R_:RB3)(p_v:ah)(p_b0:Int)(p_b1:Int)(r:Int×Int)(h:Mo.den (UL R_ p_v p_b0 p_b1)=some r):FnH Tryz.prog GI 248 [.dat (ah.lf1 p_v),.clo 249 [.ptr 0 0,.ptr 1 0]] [.box 3 (.dat [(.int .i64 p_b0)]),.box 3 (.dat [(.int .i64 p_b1)])] (.tup []) [.box 3 (.dat [(.int .i64 r.1)]),.box 3 (.dat [(.int .i64 r.2)])]:=
 dh aG Tryz.func248 (by kernel_rfl) (by kernel_rfl) (by kernel_rfl) (UL R_ p_v p_b0 p_b1) (fun r=>[]) (fun r=>[.box 3 (.dat [(.int .i64 r.1)]),.box 3 (.dat [(.int .i64 r.2)])]) (by kernel_rfl) h
noncomputable def UM(R_:RB3)(p_p:ah)(p_b0:Int)(p_b1:Int):Mo (Bool×Int×Int):=
 .say [.order [(true,0),(true,1),(true,2),(true,3),(true,4),(false,5),(true,6),(false,7)] (some 7) []] ok0<|
 .ask (R_.m1 p_p (IntKind.wrap .i64 (p_b1-p_b0))) fun r0 h0=>
 .say [.res (.i_ r0)] (ok1 (R_.ok1 _ _ _ h0))<|
 .ret ⟨[.kill 2],[0],[],2⟩ (decide ((IntKind.wrap .i64 (p_b0+r0):Int)<p_b1),IntKind.wrap .i64 (p_b0+r0),p_b1)
theorem ZU(R_:RB3)(p_p:ah)(p_b0:Int)(p_b1:Int)(r:Bool×Int×Int)(h:Mo.den (UM R_ p_p p_b0 p_b1)=some r):FnH Tryz.prog GI 249 [.dat (ah.lf1 p_p),.ptr 0 0,.ptr 1 0] [.box 3 (.dat [(.int .i64 p_b0)]),.box 3 (.dat [(.int .i64 p_b1)])] (.b_ r.1) [.box 3 (.dat [(.int .i64 r.2.1)]),.box 3 (.dat [(.int .i64 r.2.2)])]:=
 dh aG Tryz.func249 (by kernel_rfl) (by kernel_rfl) (by kernel_rfl) (UM R_ p_p p_b0 p_b1) (fun r=>[.b_ r.1]) (fun r=>[.box 3 (.dat [(.int .i64 r.2.1)]),.box 3 (.dat [(.int .i64 r.2.2)])]) (by kernel_rfl) h
noncomputable def qV:Nat→RB3
 |0=>{ m1:=fun p_v p_most=>none,ok1:=fun _ _ _ h=>(by cases h),m2:=fun p_v p_b0 p_b1=>none,ok2:=fun _ _ _ _ h=>(by cases h),m3:=fun p_p p_b0 p_b1=>none,ok3:=fun _ _ _ _ h=>(by cases h) }
 |n_+1=>{ m1:=fun p_v p_most=>Mo.den (UH (qV n_) p_v p_most),ok1:=fun p_v p_most r h=>ZR (qV n_) p_v p_most r h,m2:=fun p_v p_b0 p_b1=>Mo.den (UL (qV n_) p_v p_b0 p_b1),ok2:=fun p_v p_b0 p_b1 r h=>ZT (qV n_) p_v p_b0 p_b1 r h,m3:=fun p_p p_b0 p_b1=>Mo.den (UM (qV n_) p_p p_b0 p_b1),ok3:=fun p_p p_b0 p_b1 r h=>ZU (qV n_) p_p p_b0 p_b1 r h }
noncomputable def Q68(p_v:ah)(p_most:Int):Option (Int):=(qV FU).m1 p_v p_most
theorem adr(p_v:ah)(p_most:Int)(r:Int)(h:Q68 p_v p_most=some r):Fn Tryz.prog GI 213 [.dat (ah.lf1 p_v),.i_ p_most] (.i_ r):=(qV FU).ok1 p_v p_most r h
noncomputable def aa2(p_v:ah):Mo (Int):=
 .ask (Q68 p_v 1025) fun r0 h0=>
 .say [.res (.i_ r0)] (ok1 (adr _ _ _ h0))<|
 .ret (cZ 1) (r0)
noncomputable def Q87(p_v:ah):Option (Int):=Mo.den (aa2 p_v)
theorem ads(p_v:ah)(r:Int)(h:Q87 p_v=some r):Fn Tryz.prog GI 158 [.dat (ah.lf1 p_v)] (.i_ r):=
 dK aG Tryz.func158 (by kernel_rfl) (by kernel_rfl) (by kernel_rfl) (aa2 p_v) (fun r=>[.i_ r]) (by kernel_rfl) h
structure RB4 where
 m1:(p_v:ah)→(p_most:Int)→Option (Int)
 ok1:∀(p_v:ah) (p_most:Int) (r:Int),m1 p_v p_most=some r→Fn Tryz.prog GI 214 [.dat (ah.lf1 p_v),.i_ p_most] (.i_ r)
 m2:(p_v:ah)→(p_b0:Int)→(p_b1:Int)→Option (Int×Int)
 ok2:∀(p_v:ah) (p_b0:Int) (p_b1:Int) (r:Int×Int),m2 p_v p_b0 p_b1=some r→FnH Tryz.prog GI 248 [.dat (ah.lf1 p_v),.clo 250 [.ptr 0 0,.ptr 1 0]] [.box 3 (.dat [(.int .i64 p_b0)]),.box 3 (.dat [(.int .i64 p_b1)])] (.tup []) [.box 3 (.dat [(.int .i64 r.1)]),.box 3 (.dat [(.int .i64 r.2)])]
 m3:(p_p:ah)→(p_b0:Int)→(p_b1:Int)→Option (Bool×Int×Int)
 ok3:∀(p_p:ah) (p_b0:Int) (p_b1:Int) (r:Bool×Int×Int),m3 p_p p_b0 p_b1=some r→FnH Tryz.prog GI 250 [.dat (ah.lf1 p_p),.ptr 0 0,.ptr 1 0] [.box 3 (.dat [(.int .i64 p_b0)]),.box 3 (.dat [(.int .i64 p_b1)])] (.b_ r.1) [.box 3 (.dat [(.int .i64 r.2.1)]),.box 3 (.dat [(.int .i64 r.2.2)])]
noncomputable def UN(R_:RB4)(p_v:ah)(p_most:Int):Mo (Int):=
 .ite (p_most==1) (fun _=>.stop) fun c0=>
 .say [.br false] (ok1 c0)<|
 .ask (R_.m2 p_v 0 p_most) fun r0 h0=>
 .say [.dP [2,1] (.tup []) [.box 3 (.dat [(.int .i64 r0.1)]),.box 3 (.dat [(.int .i64 r0.2)])]] (ok1 (R_.ok2 _ _ _ _ h0))<|
 .ret (cZ 1) (IntKind.wrap .i64 (1+r0.1))
theorem ZV(R_:RB4)(p_v:ah)(p_most:Int)(r:Int)(h:Mo.den (UN R_ p_v p_most)=some r):Fn Tryz.prog GI 214 [.dat (ah.lf1 p_v),.i_ p_most] (.i_ r):=
 dK aG Tryz.func214 (by kernel_rfl) (by kernel_rfl) (by kernel_rfl) (UN R_ p_v p_most) (fun r=>[.i_ r]) (by kernel_rfl) h
noncomputable def Gx(R_:RB4)(p_v:ah):(Int×Int×Int)→Mo ((Int×Int×Int)⊕(Int×Int)⊕(Int×Int)):=fun(v0,v1,v2)=>
 .ite (decide ((v0:Int)<(p_v.bI.length:Int))) (fun c0=>
 .say [.br true] (ok1 c0)<|
 .ask (iM p_v.bI v0) fun x0 h0=>
 .say [.row (aF.lf1 x0),.at_ 26 3,.tod 35] (okc (bZ aF.aW h0) ok0)<|
 .ask (R_.m3 x0.fValue v1 v2) fun r0 h1=>
 .say [.dP [0,1] (.b_ r0.1) [.box 3 (.dat [(.int .i64 r0.2.1)]),.box 3 (.dat [(.int .i64 r0.2.2)])]] (ok1 (R_.ok3 _ _ _ _ h1))<|
 .ite (!r0.1) (fun _=>.stop) fun c1=>
 .say [.br false] (ok1 c1)<|
 .ret ⟨[],[1,27,28,29],[],3⟩ (.inl (IntKind.wrap .i64 (v0+1),r0.2.1,r0.2.2))) fun c0=>
 .say [.br false] (ok1 c0)<|
 .ret ⟨[],[],[],3⟩ (.inr (.inr ((v1,v2))))
noncomputable def UO(R_:RB4)(p_v:ah)(v0:Int)(v1:Int)(v2:Int):Option ((Int×Int)⊕(Int×Int)):=dF (fun v_=>(Gx R_ p_v v_).den) FU (v0,v1,v2)
noncomputable def Gy(R_:RB4)(p_v:ah):(Int×Int×Int)→St:=fun(v0,v1,v2)=>⟨[(1,.clo 250 [.ptr 0 0,.ptr 1 0]),(27,.lf (.rows 6 (p_v.bI.map aF.lf))),(28,.i_ (p_v.bI.length:Int)),(29,.i_ v0)],[.box 3 (.dat [(.int .i64 v1)]),.box 3 (.dat [(.int .i64 v2)]),.dead]⟩
noncomputable def vX(r_:(Int×Int)⊕(Int×Int)):Exit:=match r_ with
 |.inl o_=>.ret
 |.inr (o_)=>.exit 3
noncomputable def ni  (r_:(Int×Int)⊕(Int×Int)):St:=match r_ with
 |.inl o_=>⟨[],[.box 3 (.dat [(.int .i64 o_.1)]),.box 3 (.dat [(.int .i64 o_.2)]),.dead]⟩
 |.inr (o_)=>⟨[],[.box 3 (.dat [(.int .i64 o_.1)]),.box 3 (.dat [(.int .i64 o_.2)]),.dead]⟩
theorem UQ{R_:RB4}{p_v:ah}{v0:Int}{v1:Int}{v2:Int}{r_:(Int×Int)⊕(Int×Int)}(h:UO R_ p_v v0 v1 v2=some r_):bQ Tryz.f248 2 [1,1,0,1,1,1,0,1,0] (vX r_) (ni r_) (Gy R_ p_v (v0,v1,v2)):=
 bU aG (body:=(Code.sub (bodyC Tryz.f248) [1,1,0,1,1,1,0,1,0,0])) (by kernel_rfl) (Gx R_ p_v) (Gy R_ p_v) vX ni (fun r_=>by rcases r_ with _|_<;>rfl) (fun v_=>by kernel_rfl) h
noncomputable def UR(R_:RB4)(p_v:ah)(p_b0:Int)(p_b1:Int):Mo (Int×Int):=
 .ite (p_v.aK==6) (fun _=>.stop) fun c0=>
 .say [.br false] (ok1 c0)<|
 .ite (p_v.aK==5) (fun c1=>
 .say [.br true,.num p_v.bI.length] (okc c1 (okc (ln_ p_v.bI aF.lf) ok0))<|
 .ask2 (UO R_ p_v 0 p_b0 p_b1) (fun _ _=>.stop) fun o0 h0=>
 .say [.part [.kill 2] 0 [1,27,28,29] 3 (vX (.inr (o0))) (ni (.inr (o0))).T (ni (.inr (o0))).H] (ok1 (UQ h0))<|
 .ret ⟨[],[],[],2⟩ (o0.1,o0.2)) fun c1=>
 .say [.br false] (ok1 c1)<|
 .ret ⟨[.kill 2],[],[],2⟩ (p_b0,p_b1)
theorem ZW(R_:RB4)(p_v:ah)(p_b0:Int)(p_b1:Int)(r:Int×Int)(h:Mo.den (UR R_ p_v p_b0 p_b1)=some r):FnH Tryz.prog GI 248 [.dat (ah.lf1 p_v),.clo 250 [.ptr 0 0,.ptr 1 0]] [.box 3 (.dat [(.int .i64 p_b0)]),.box 3 (.dat [(.int .i64 p_b1)])] (.tup []) [.box 3 (.dat [(.int .i64 r.1)]),.box 3 (.dat [(.int .i64 r.2)])]:=
 dh aG Tryz.func248 (by kernel_rfl) (by kernel_rfl) (by kernel_rfl) (UR R_ p_v p_b0 p_b1) (fun r=>[]) (fun r=>[.box 3 (.dat [(.int .i64 r.1)]),.box 3 (.dat [(.int .i64 r.2)])]) (by kernel_rfl) h
noncomputable def UU(R_:RB4)(p_p:ah)(p_b0:Int)(p_b1:Int):Mo (Bool×Int×Int):=
 .say [.order [(true,0),(true,1),(true,2),(true,3),(false,4),(true,5),(false,6)] (some 6) []] ok0<|
 .ask (R_.m1 p_p (IntKind.wrap .i64 (p_b1-1))) fun r0 h0=>
 .say [.res (.i_ r0)] (ok1 (R_.ok1 _ _ _ h0))<|
 .ret ⟨[.kill 2],[0],[],2⟩ (decide (((if r0 > p_b0 then r0 else p_b0):Int)<(IntKind.wrap .i64 (p_b1-1))),(if r0 > p_b0 then r0 else p_b0),p_b1)
theorem ZX(R_:RB4)(p_p:ah)(p_b0:Int)(p_b1:Int)(r:Bool×Int×Int)(h:Mo.den (UU R_ p_p p_b0 p_b1)=some r):FnH Tryz.prog GI 250 [.dat (ah.lf1 p_p),.ptr 0 0,.ptr 1 0] [.box 3 (.dat [(.int .i64 p_b0)]),.box 3 (.dat [(.int .i64 p_b1)])] (.b_ r.1) [.box 3 (.dat [(.int .i64 r.2.1)]),.box 3 (.dat [(.int .i64 r.2.2)])]:=
 dh aG Tryz.func250 (by kernel_rfl) (by kernel_rfl) (by kernel_rfl) (UU R_ p_p p_b0 p_b1) (fun r=>[.b_ r.1]) (fun r=>[.box 3 (.dat [(.int .i64 r.2.1)]),.box 3 (.dat [(.int .i64 r.2.2)])]) (by kernel_rfl) h
noncomputable def qW:Nat→RB4
 |0=>{ m1:=fun p_v p_most=>none,ok1:=fun _ _ _ h=>(by cases h),m2:=fun p_v p_b0 p_b1=>none,ok2:=fun _ _ _ _ h=>(by cases h),m3:=fun p_p p_b0 p_b1=>none,ok3:=fun _ _ _ _ h=>(by cases h) }
 |n_+1=>{ m1:=fun p_v p_most=>Mo.den (UN (qW n_) p_v p_most),ok1:=fun p_v p_most r h=>ZV (qW n_) p_v p_most r h,m2:=fun p_v p_b0 p_b1=>Mo.den (UR (qW n_) p_v p_b0 p_b1),ok2:=fun p_v p_b0 p_b1 r h=>ZW (qW n_) p_v p_b0 p_b1 r h,m3:=fun p_p p_b0 p_b1=>Mo.den (UU (qW n_) p_p p_b0 p_b1),ok3:=fun p_p p_b0 p_b1 r h=>ZX (qW n_) p_p p_b0 p_b1 r h }
noncomputable def Q69(p_v:ah)(p_most:Int):Option (Int):=(qW FU).m1 p_v p_most
theorem adt(p_v:ah)(p_most:Int)(r:Int)(h:Q69 p_v p_most=some r):Fn Tryz.prog GI 214 [.dat (ah.lf1 p_v),.i_ p_most] (.i_ r):=(qW FU).ok1 p_v p_most r h
noncomputable def aa3(p_v:ah):Mo (Int):=
 .ask (Q69 p_v 17) fun r0 h0=>
 .say [.res (.i_ r0)] (ok1 (adt _ _ _ h0))<|
 .ret (cZ 1) (r0)
noncomputable def Q88(p_v:ah):Option (Int):=Mo.den (aa3 p_v)
theorem adu(p_v:ah)(r:Int)(h:Q88 p_v=some r):Fn Tryz.prog GI 159 [.dat (ah.lf1 p_v)] (.i_ r):=
 dK aG Tryz.func159 (by kernel_rfl) (by kernel_rfl) (by kernel_rfl) (aa3 p_v) (fun r=>[.i_ r]) (by kernel_rfl) h
noncomputable def Gz(p_s:ByteArray):Mo (Bool):=
 .ite (decide (((p_s.size:Int):Int)<1)) (fun _=>.stop) fun c0=>
 .say [.gd 4003 false] (ok1 c0)<|
 .ret ⟨[],[0,11],[],0⟩ (decide ((32:Int)<(p_s.size:Int)))
noncomputable def UW(p_s:ByteArray):Option (Bool):=Mo.den (Gz p_s)
noncomputable def vY(p_s:ByteArray)(r_:Bool):St:=⟨[(0,.lf (.str p_s)),(11,.b_ r_)],[]⟩
theorem UY{p_s:ByteArray}{r_:Bool}(h:UW p_s=some r_):aS Tryz.f252 0 [1,0,0] [0,1,2,3,4,5,6,7] (vY p_s r_) ⟨[(0,.lf (.str p_s))],[]⟩:=
 aQ aG (Gz p_s) (vY p_s) (by kernel_rfl) h
noncomputable def GH(p_s:ByteArray)(r0:Bool):Mo (Bool):=
 .ite (r0) (fun _=>.stop) fun c0=>
 .say [.gd 4008 false] (ok1 c0)<|
 .ask (mG p_s 0) fun b0 h0=>
 .say [.byt b0] (okc (gI h0) ok0)<|
 .ret ⟨[],[0,16],[],0⟩ ((b0.toNat:Int)==36)
noncomputable def UZ(p_s:ByteArray)(r0:Bool):Option (Bool):=Mo.den (GH p_s r0)
noncomputable def vZ(p_s:ByteArray)(r_:Bool):St:=⟨[(0,.lf (.str p_s)),(16,.b_ r_)],[]⟩
theorem U0{p_s:ByteArray}{r0:Bool}{r_:Bool}(h:UZ p_s r0=some r_):aS Tryz.f252 0 [1,0,0] [8,9,10,11,12] (vZ p_s r_) ⟨[(0,.lf (.str p_s)),(11,.b_ r0)],[]⟩:=
 aQ aG (GH p_s r0) (vZ p_s) (by kernel_rfl) h
noncomputable def Ak(p_s:ByteArray)(v0:Int):Mo (Bool):=
 .ask (mG p_s v0) fun b0 h0=>
 .say [.byt b0] (okc (gI h0) ok0)<|
 .ite (decide (((b0.toNat:Int):Int)<33)) (fun _=>.stop) fun c0=>
 .say [.gd 14004 false] (ok1 c0)<|
 .ask (mG p_s v0) fun b1 h1=>
 .say [.byt b1] (okc (gI h1) ok0)<|
 .ret ⟨[],[0,3,18,19,31],[],0⟩ (decide ((126:Int)<(b1.toNat:Int)))
noncomputable def MS(p_s:ByteArray)(v0:Int):Option (Bool):=Mo.den (Ak p_s v0)
noncomputable def pU(p_s:ByteArray)(v0:Int)(r_:Bool):St:=⟨[(0,.lf (.str p_s)),(3,.i_ v0),(18,.i_ (p_s.size:Int)),(19,.i_ v0),(31,.b_ r_)],[]⟩
theorem OT{p_s:ByteArray}{v0:Int}{r_:Bool}(h:MS p_s v0=some r_):aS Tryz.f252 0 [1,1,0,1,0,0,1,1,0,0,1,0] [0,1,2,3,4,5,6,7,8,9] (pU p_s v0 r_) ⟨[(0,.lf (.str p_s)),(3,.i_ v0),(18,.i_ (p_s.size:Int)),(19,.i_ v0)],[]⟩:=
 aQ aG (Ak p_s v0) (pU p_s v0) (by kernel_rfl) h
noncomputable def Am(p_s:ByteArray)(r0:Bool)(v0:Int):Mo (Bool):=
 .ite (r0) (fun _=>.stop) fun c0=>
 .say [.gd 14010 false] (ok1 c0)<|
 .ask (mG p_s v0) fun b0 h0=>
 .say [.byt b0] (okc (gI h0) ok0)<|
 .ret ⟨[],[0,18,19,37],[],0⟩ ((b0.toNat:Int)==46)
noncomputable def MV(p_s:ByteArray)(r0:Bool)(v0:Int):Option (Bool):=Mo.den (Am p_s r0 v0)
noncomputable def pV(p_s:ByteArray)(v0:Int)(r_:Bool):St:=⟨[(0,.lf (.str p_s)),(18,.i_ (p_s.size:Int)),(19,.i_ v0),(37,.b_ r_)],[]⟩
theorem OU{p_s:ByteArray}{r0:Bool}{v0:Int}{r_:Bool}(h:MV p_s r0 v0=some r_):aS Tryz.f252 0 [1,1,0,1,0,0,1,1,0,0,1,0] [10,11,12,13,14,15] (pV p_s v0 r_) ⟨[(0,.lf (.str p_s)),(3,.i_ v0),(18,.i_ (p_s.size:Int)),(19,.i_ v0),(31,.b_ r0)],[]⟩:=
 aQ aG (Am p_s r0 v0) (pV p_s v0) (by kernel_rfl) h
noncomputable def Ap(p_s:ByteArray):(Int)→Mo ((Int)⊕(Unit⊕Unit)):=fun(v0)=>
 .ite (decide ((v0:Int)<(p_s.size:Int))) (fun c0=>
 .say [.br true] (ok1 c0)<|
 .ask (MS p_s v0) fun r0 h0=>
 .say [.sg_ 6 10 [0,3,18,19] 0 (pU p_s v0 r0)] (ok1 (OT h0))<|
 .ask (MV p_s r0 v0) fun r1 h1=>
 .say [.sg_ 6 6 [0,3,18,19,31] 0 (pV p_s v0 r1)] (ok1 (OU h1))<|
 .ite (r1) (fun _=>.stop) fun c1=>
 .say [.br false] (ok1 c1)<|
 .ret ⟨[],[0,18,19],[],0⟩ (.inl (IntKind.wrap .i64 (v0+1)))) fun c0=>
 .say [.br false] (ok1 c0)<|
 .ret ⟨[],[],[],0⟩ (.inr (.inr (())))
noncomputable def MW(p_s:ByteArray)(v0:Int):Option (Unit⊕Unit):=dF (fun v_=>(Ap p_s v_).den) FU (v0)
noncomputable def Aq(p_s:ByteArray):(Int)→St:=fun(v0)=>⟨[(0,.lf (.str p_s)),(18,.i_ (p_s.size:Int)),(19,.i_ v0)],[]⟩
noncomputable def pW(r_:Unit⊕Unit):Exit:=match r_ with
 |.inl o_=>.ret
 |.inr (o_)=>.exit 0
noncomputable def pX  (r_:Unit⊕Unit):St:=match r_ with
 |.inl o_=>⟨[(2,.b_ false)],[]⟩
 |.inr (o_)=>⟨[],[]⟩
theorem OV{p_s:ByteArray}{v0:Int}{r_:Unit⊕Unit}(h:MW p_s v0=some r_):bQ Tryz.f252 0 [1,1,0,1,0] (pW r_) (pX r_) (Aq p_s (v0)):=
 bU aG (body:=(Code.sub (bodyC Tryz.f252) [1,1,0,1,0,0])) (by kernel_rfl) (Ap p_s) (Aq p_s) pW pX (fun r_=>by rcases r_ with _|_<;>rfl) (fun v_=>by kernel_rfl) h
noncomputable def aa4(p_s:ByteArray):Mo (Bool):=
 .ask (UW p_s) fun r0 h0=>
 .say [.sg_ 1 8 [0] 0 (vY p_s r0)] (ok1 (UY h0))<|
 .ask (UZ p_s r0) fun r1 h1=>
 .say [.sg_ 1 5 [0,11] 0 (vZ p_s r1)] (ok1 (U0 h1))<|
 .ite (r1) (fun _=>.stop) fun c0=>
 .say [.br false] (ok1 c0)<|
 .ask2 (MW p_s 0) (fun _ _=>.stop) fun o0 h2=>
 .say [.pt_ 0 [0,18,19] 0 (pW (.inr (o0))) (pX (.inr (o0)))] (ok1 (OV h2))<|
 .ret (cZ 1) (true)
noncomputable def Q15(p_s:ByteArray):Option (Bool):=Mo.den (aa4 p_s)
theorem adv(p_s:ByteArray)(r:Bool)(h:Q15 p_s=some r):Fn Tryz.prog GI 252 [.lf (.str p_s)] (.b_ r):=
 dK aG Tryz.func252 (by kernel_rfl) (by kernel_rfl) (by kernel_rfl) (aa4 p_s) (fun r=>[.b_ r]) (by kernel_rfl) h
structure RB5 where
 m1:(p_v:ah)→Option (Bool)
 ok1:∀(p_v:ah) (r:Bool),m1 p_v=some r→Fn Tryz.prog GI 160 [.dat (ah.lf1 p_v)] (.b_ r)
 m2:(p_l:List aF)→Option (Bool)
 ok2:∀(p_l:List aF) (r:Bool),m2 p_l=some r→Fn Tryz.prog GI 216 [.lf (.rows 6 (p_l.map aF.lf))] (.b_ r)
noncomputable def MX(R_:RB5)(p_v:ah):Mo (Bool):=
 .ite (p_v.aK==3) (fun c0=>
 .say [.gd 4003 true] (ok1 c0)<|
 .ret ⟨[],[1,14],[],1⟩ (true)) fun c0=>
 .say [.gd 4003 false] (ok1 c0)<|
 .ret ⟨[],[1,14],[],1⟩ (p_v.aK==9)
noncomputable def aa5(R_:RB5)(p_v:ah):Option (Bool):=Mo.den (MX R_ p_v)
noncomputable def Dh(p_v:ah)(r_:Bool):St:=⟨[(1,.ptr 0 0),(14,.b_ r_)],[.box 40 (.dat (ah.lf1 p_v))]⟩
theorem ZY{R_:RB5}{p_v:ah}{r_:Bool}(h:aa5 R_ p_v=some r_):aS Tryz.f160 0 [1,0] [0,1,2,3,4,5,6,7] (Dh p_v r_) ⟨[(1,.ptr 0 0)],[.box 40 (.dat (ah.lf1 p_v))]⟩:=
 aQ aG (MX R_ p_v) (Dh p_v) (by kernel_rfl) h
noncomputable def MZ(R_:RB5)(p_v:ah)(r0:Bool):Mo (Bool):=
 .ite (r0) (fun c0=>
 .say [.gd 4008 true] (ok1 c0)<|
 .ret ⟨[],[1,19],[],1⟩ (true)) fun c0=>
 .say [.gd 4008 false] (ok1 c0)<|
 .ret ⟨[],[1,19],[],1⟩ (p_v.aK==10)
noncomputable def aa6(R_:RB5)(p_v:ah)(r0:Bool):Option (Bool):=Mo.den (MZ R_ p_v r0)
noncomputable def Di(p_v:ah)(r_:Bool):St:=⟨[(1,.ptr 0 0),(19,.b_ r_)],[.box 40 (.dat (ah.lf1 p_v))]⟩
theorem Z4{R_:RB5}{p_v:ah}{r0:Bool}{r_:Bool}(h:aa6 R_ p_v r0=some r_):aS Tryz.f160 0 [1,0] [8,9,10,11,12] (Di p_v r_) ⟨[(1,.ptr 0 0),(14,.b_ r0)],[.box 40 (.dat (ah.lf1 p_v))]⟩:=
 aQ aG (MZ R_ p_v r0) (Di p_v) (by kernel_rfl) h
noncomputable def GK(R_:RB5)(p_v:ah)(r0:Bool):Mo (Unit):=
 .ret ⟨[],[1,3],[],1⟩ ()
noncomputable def U1(R_:RB5)(p_v:ah)(r0:Bool):Option (Unit):=Mo.den (GK R_ p_v r0)
noncomputable def wo(p_v:ah)(r0:Bool)(r_:Unit):St:=⟨[(1,.ptr 0 0),(3,.b_ r0)],[.box 40 (.dat (ah.lf1 p_v))]⟩
theorem U2{R_:RB5}{p_v:ah}{r0:Bool}{r_:Unit}(h:U1 R_ p_v r0=some r_):aS Tryz.f160 0 [1,0] [13] (wo p_v r0 r_) ⟨[(1,.ptr 0 0),(19,.b_ r0)],[.box 40 (.dat (ah.lf1 p_v))]⟩:=
 aQ aG (GK R_ p_v r0) (wo p_v r0) (by kernel_rfl) h
noncomputable def GL(R_:RB5)(p_v:ah)(r0:Bool):Mo (Bool):=
 .ite (p_v.aK==4) (fun _=>.stop) fun c0=>
 .say [.gd 6003 false] (ok1 c0)<|
 .ret ⟨[],[1,3,27],[],1⟩ (p_v.aK==7)
noncomputable def U3(R_:RB5)(p_v:ah)(r0:Bool):Option (Bool):=Mo.den (GL R_ p_v r0)
noncomputable def wu(p_v:ah)(r0:Bool)(r_:Bool):St:=⟨[(1,.ptr 0 0),(3,.b_ r0),(27,.b_ r_)],[.box 40 (.dat (ah.lf1 p_v))]⟩
theorem U4{R_:RB5}{p_v:ah}{r0:Bool}{r_:Bool}(h:U3 R_ p_v r0=some r_):aS Tryz.f160 0 [1,1,0] [0,1,2,3,4,5,6,7] (wu p_v r0 r_) ⟨[(1,.ptr 0 0),(3,.b_ r0)],[.box 40 (.dat (ah.lf1 p_v))]⟩:=
 aQ aG (GL R_ p_v r0) (wu p_v r0) (by kernel_rfl) h
noncomputable def GN(R_:RB5)(p_v:ah)(r0:Bool)(r1:Bool):Mo (Bool):=
 .ite (r1) (fun _=>.stop) fun c0=>
 .say [.gd 6008 false] (ok1 c0)<|
 .ret ⟨[],[1,3,32],[],1⟩ (p_v.aK==8)
noncomputable def U5(R_:RB5)(p_v:ah)(r0:Bool)(r1:Bool):Option (Bool):=Mo.den (GN R_ p_v r0 r1)
noncomputable def wz(p_v:ah)(r0:Bool)(r_:Bool):St:=⟨[(1,.ptr 0 0),(3,.b_ r0),(32,.b_ r_)],[.box 40 (.dat (ah.lf1 p_v))]⟩
theorem U6{R_:RB5}{p_v:ah}{r0:Bool}{r1:Bool}{r_:Bool}(h:U5 R_ p_v r0 r1=some r_):aS Tryz.f160 0 [1,1,0] [8,9,10,11,12] (wz p_v r0 r_) ⟨[(1,.ptr 0 0),(3,.b_ r0),(27,.b_ r1)],[.box 40 (.dat (ah.lf1 p_v))]⟩:=
 aQ aG (GN R_ p_v r0 r1) (wz p_v r0) (by kernel_rfl) h
noncomputable def GU(R_:RB5)(p_v:ah)(r0:Bool)(r1:Bool):Mo (Unit):=
 .ret ⟨[],[1,3,4],[],1⟩ ()
noncomputable def U7(R_:RB5)(p_v:ah)(r0:Bool)(r1:Bool):Option (Unit):=Mo.den (GU R_ p_v r0 r1)
noncomputable def wB(p_v:ah)(r0:Bool)(r1:Bool)(r_:Unit):St:=⟨[(1,.ptr 0 0),(3,.b_ r0),(4,.b_ r1)],[.box 40 (.dat (ah.lf1 p_v))]⟩
theorem U8{R_:RB5}{p_v:ah}{r0:Bool}{r1:Bool}{r_:Unit}(h:U7 R_ p_v r0 r1=some r_):aS Tryz.f160 0 [1,1,0] [13] (wB p_v r0 r1 r_) ⟨[(1,.ptr 0 0),(3,.b_ r0),(32,.b_ r1)],[.box 40 (.dat (ah.lf1 p_v))]⟩:=
 aQ aG (GU R_ p_v r0 r1) (wB p_v r0 r1) (by kernel_rfl) h
noncomputable def GV(R_:RB5)(p_v:ah)(r0:Bool)(r1:Bool):Mo (Bool):=
 .ite (!r0) (fun c0=>
 .say [.gd 8002 true] (ok1 c0)<|
 .ret ⟨[],[1,4,39],[],1⟩ (p_v.fB != 0)) fun c0=>
 .say [.gd 8002 false] (ok1 c0)<|
 .ret ⟨[],[1,4,39],[],1⟩ (false)
noncomputable def U9(R_:RB5)(p_v:ah)(r0:Bool)(r1:Bool):Option (Bool):=Mo.den (GV R_ p_v r0 r1)
noncomputable def wC(p_v:ah)(r0:Bool)(r_:Bool):St:=⟨[(1,.ptr 0 0),(4,.b_ r0),(39,.b_ r_)],[.box 40 (.dat (ah.lf1 p_v))]⟩
theorem Va{R_:RB5}{p_v:ah}{r0:Bool}{r1:Bool}{r_:Bool}(h:U9 R_ p_v r0 r1=some r_):aS Tryz.f160 0 [1,1,1,0,0] [0,1,2,3,4,5,6] (wC p_v r1 r_) ⟨[(1,.ptr 0 0),(3,.b_ r0),(4,.b_ r1)],[.box 40 (.dat (ah.lf1 p_v))]⟩:=
 aQ aG (GV R_ p_v r0 r1) (wC p_v r1) (by kernel_rfl) h
noncomputable def GX(R_:RB5)(p_v:ah)(r0:Bool)(r1:Bool):Mo (Bool):=
 .ite (r1) (fun _=>.stop) fun c0=>
 .say [.gd 8007 false] (ok1 c0)<|
 .ite (!r0) (fun c1=>
 .say [.gd 8010 true] (ok1 c1)<|
 .ret ⟨[],[1,48],[],1⟩ (!decide ((p_v.fText:ByteArray)=(⟨#[]⟩:ByteArray)))) fun _=>.stop
noncomputable def Vb(R_:RB5)(p_v:ah)(r0:Bool)(r1:Bool):Option (Bool):=Mo.den (GX R_ p_v r0 r1)
noncomputable def wE(p_v:ah)(r_:Bool):St:=⟨[(1,.ptr 0 0),(48,.b_ r_)],[.box 40 (.dat (ah.lf1 p_v))]⟩
theorem Vd{R_:RB5}{p_v:ah}{r0:Bool}{r1:Bool}{r_:Bool}(h:Vb R_ p_v r0 r1=some r_):aS Tryz.f160 0 [1,1,1,0,0] [7,8,9,10,11,12,13,14,15] (wE p_v r_) ⟨[(1,.ptr 0 0),(4,.b_ r0),(39,.b_ r1)],[.box 40 (.dat (ah.lf1 p_v))]⟩:=
 aQ aG (GX R_ p_v r0 r1) (wE p_v) (by kernel_rfl) h
noncomputable def GY(R_:RB5)(p_v:ah):Mo (Bool):=
 .ite (p_v.aK != 6) (fun c0=>
 .say [.gd 12003 true,.num p_v.dL.length] (okc c0 (okc (ln_ p_v.dL ah.lf) ok0))<|
 .ret ⟨[],[1,57],[],1⟩ (decide ((0:Int)<(p_v.dL.length:Int)))) fun _=>.stop
noncomputable def Ve(R_:RB5)(p_v:ah):Option (Bool):=Mo.den (GY R_ p_v)
noncomputable def wF(p_v:ah)(r_:Bool):St:=⟨[(1,.ptr 0 0),(57,.b_ r_)],[.box 40 (.dat (ah.lf1 p_v))]⟩
theorem Vf{R_:RB5}{p_v:ah}{r_:Bool}(h:Ve R_ p_v=some r_):aS Tryz.f160 0 [1,1,1,1,0,0] [0,1,2,3,4,5,6,7,8] (wF p_v r_) ⟨[(1,.ptr 0 0)],[.box 40 (.dat (ah.lf1 p_v))]⟩:=
 aQ aG (GY R_ p_v) (wF p_v) (by kernel_rfl) h
noncomputable def GZ(R_:RB5)(p_v:ah)(r0:Bool):Mo (Bool):=
 .ite (r0) (fun _=>.stop) fun c0=>
 .say [.gd 12009 false] (ok1 c0)<|
 .ite (p_v.aK != 5) (fun c1=>
 .say [.gd 12013 true,.num p_v.bI.length] (okc c1 (okc (ln_ p_v.bI aF.lf) ok0))<|
 .ret ⟨[],[1,68],[],1⟩ (decide ((0:Int)<(p_v.bI.length:Int)))) fun c1=>
 .say [.gd 12013 false] (ok1 c1)<|
 .ret ⟨[],[1,68],[],1⟩ (false)
noncomputable def Vg(R_:RB5)(p_v:ah)(r0:Bool):Option (Bool):=Mo.den (GZ R_ p_v r0)
noncomputable def wG(p_v:ah)(r_:Bool):St:=⟨[(1,.ptr 0 0),(68,.b_ r_)],[.box 40 (.dat (ah.lf1 p_v))]⟩
theorem Vh{R_:RB5}{p_v:ah}{r0:Bool}{r_:Bool}(h:Vg R_ p_v r0=some r_):aS Tryz.f160 0 [1,1,1,1,0,0] [9,10,11,12,13,14,15,16,17,18,19] (wG p_v r_) ⟨[(1,.ptr 0 0),(57,.b_ r0)],[.box 40 (.dat (ah.lf1 p_v))]⟩:=
 aQ aG (GZ R_ p_v r0) (wG p_v) (by kernel_rfl) h
noncomputable def G5(R_:RB5)(p_v:ah):Mo (Bool):=
 .ite (p_v.aK==1) (fun _=>.stop) fun c0=>
 .say [.br false] (ok1 c0)<|
 .ite (p_v.aK==2) (fun _=>.stop) fun c1=>
 .say [.br false] (ok1 c1)<|
 .ite (p_v.aK==11) (fun _=>.stop) fun c2=>
 .say [.br false] (ok1 c2)<|
 .ret ⟨[],[1,70,71],[],1⟩ (p_v.aK==3)
noncomputable def Vj(R_:RB5)(p_v:ah):Option (Bool):=Mo.den (G5 R_ p_v)
noncomputable def wH(p_v:ah)(r_:Bool):St:=⟨[(1,.ptr 0 0),(70,.i_ p_v.aK),(71,.b_ r_)],[.box 40 (.dat (ah.lf1 p_v))]⟩
theorem Vk{R_:RB5}{p_v:ah}{r_:Bool}(h:Vj R_ p_v=some r_):bQ Tryz.f160 0 [1,1,1,1,1,0,1,0,0,1] (.normal) (wH p_v r_) ⟨[(1,.ptr 0 0),(70,.i_ p_v.aK),(71,.lf (.bool (p_v.aK==1)))],[.box 40 (.dat (ah.lf1 p_v))]⟩:=
 bM aG (G5 R_ p_v) (fun _=>.normal) (wH p_v) (by kernel_rfl) h
noncomputable def adw(R_:RB5)(p_v:ah):Mo (Bool):=
 .ask (aa5 R_ p_v) fun r0 h0=>
 .say [.sg_ 1 8 [1] 1 (Dh p_v r0)] (ok1 (ZY h0))<|
 .ask (aa6 R_ p_v r0) fun r1 h1=>
 .say [.sg_ 1 5 [1,14] 1 (Di p_v r1)] (ok1 (Z4 h1))<|
 .ask (U1 R_ p_v r1) fun r2 h2=>
 .say [.sg_ 1 1 [1,19] 1 (wo p_v r1 r2)] (ok1 (U2 h2))<|
 .ask (U3 R_ p_v r1) fun r3 h3=>
 .say [.sg_ 2 8 [1,3] 1 (wu p_v r1 r3)] (ok1 (U4 h3))<|
 .ask (U5 R_ p_v r1 r3) fun r4 h4=>
 .say [.sg_ 2 5 [1,3,27] 1 (wz p_v r1 r4)] (ok1 (U6 h4))<|
 .ask (U7 R_ p_v r1 r4) fun r5 h5=>
 .say [.sg_ 2 1 [1,3,32] 1 (wB p_v r1 r4 r5)] (ok1 (U8 h5))<|
 .ask (U9 R_ p_v r1 r4) fun r6 h6=>
 .say [.sg_ 3 7 [1,3,4] 1 (wC p_v r4 r6)] (ok1 (Va h6))<|
 .ask (Vb R_ p_v r4 r6) fun r7 h7=>
 .say [.sg_ 3 9 [1,4,39] 1 (wE p_v r7)] (ok1 (Vd h7))<|
 .ite (r7) (fun _=>.stop) fun c0=>
 .say [.br false] (ok1 c0)<|
 .ask (Ve R_ p_v) fun r8 h8=>
 .say [.sg_ 5 9 [1] 1 (wF p_v r8)] (ok1 (Vf h8))<|
 .ask (Vg R_ p_v r8) fun r9 h9=>
 .say [.sg_ 5 11 [1,57] 1 (wG p_v r9)] (ok1 (Vh h9))<|
 .ite (r9) (fun _=>.stop) fun c1=>
 .say [.br false] (ok1 c1)<|
 .ask (Vj R_ p_v) fun r10 h10=>
 .say [.pt_ 1 [1,70,71] 1 (.normal) (wH p_v r10)] (ok1 (Vk h10))<|
 .ite (r10) (fun c2=>
 .say [.br true] (ok1 c2)<|
 .ret (cZ 1) (true)) fun c2=>
 .say [.br false] (ok1 c2)<|
 .ite (p_v.aK==9) (fun _=>.stop) fun c3=>
 .say [.br false] (ok1 c3)<|
 .ite (p_v.aK==10) (fun _=>.stop) fun c4=>
 .say [.br false] (ok1 c4)<|
 .ite (p_v.aK==4) (fun _=>.stop) fun c5=>
 .say [.br false] (ok1 c5)<|
 .ite (p_v.aK==7) (fun _=>.stop) fun c6=>
 .say [.br false] (ok1 c6)<|
 .ite (p_v.aK==8) (fun _=>.stop) fun c7=>
 .say [.br false] (ok1 c7)<|
 .ite (p_v.aK==6) (fun _=>.stop) fun c8=>
 .say [.br false] (ok1 c8)<|
 .ite (p_v.aK==5) (fun c9=>
 .say [.br true] (ok1 c9)<|
 .ask (R_.m2 p_v.bI) fun r11 h11=>
 .say [.res (.b_ r11)] (ok1 (R_.ok2 _ _ h11))<|
 .ret (cZ 1) (r11)) fun _=>.stop
theorem adx(R_:RB5)(p_v:ah)(r:Bool)(h:Mo.den (adw R_ p_v)=some r):Fn Tryz.prog GI 160 [.dat (ah.lf1 p_v)] (.b_ r):=
 dK aG Tryz.func160 (by kernel_rfl) (by kernel_rfl) (by kernel_rfl) (adw R_ p_v) (fun r=>[.b_ r]) (by kernel_rfl) h
noncomputable def G6(R_:RB5)(m1836:List (ByteArray×Bool))(p_l:List aF)(v0:Int)(x0:aF):Mo (Bool):=
 .ask (Q15 x0.fName) fun r0 h0=>
 .say [.res (.b_ r0)] (ok1 (adv _ _ h0))<|
 .ite (!r0) (fun _=>.stop) fun c0=>
 .say [.gd 12004 false,.row [.bool (Oq m1836 x0.fName false)]] (okc c0 (okc (rfl:Tryz.prog=Tryz.prog) (okc (Qv _ _ _:iZ (m1836.map mvB) x0.fName (.bool false)=(.bool (Oq m1836 x0.fName false))) ok0)))<|
 .ret ⟨[],[3,5,7,8,9,22],[],2⟩ (Oq m1836 x0.fName false)
noncomputable def Vl(R_:RB5)(m1836:List (ByteArray×Bool))(p_l:List aF)(v0:Int)(x0:aF):Option (Bool):=Mo.den (G6 R_ m1836 p_l v0 x0)
noncomputable def wI(m1836:List (ByteArray×Bool))(p_l:List aF)(v0:Int)(x0:aF)(r_:Bool):St:=⟨[(3,.mp 0),(5,.ptr 1 0),(7,.lf (.rows 6 (p_l.map aF.lf))),(8,.i_ (p_l.length:Int)),(9,.i_ v0),(22,.b_ r_)],[.map Tryz.prog 9 4 (m1836.map mvB),.box 138 (.agg ((aF.lf1 x0).map AV.lf))]⟩
theorem Vm{R_:RB5}{m1836:List (ByteArray×Bool)}{p_l:List aF}{v0:Int}{x0:aF}{r_:Bool}(h:Vl R_ m1836 p_l v0 x0=some r_):aS Tryz.f216 0 [1,1,0,1,0,0,1,1,0,0,1,0,0] [0,1,2,3,4,5,6,7,8,9] (wI m1836 p_l v0 x0 r_) ⟨[(3,.mp 0),(5,.ptr 1 0),(7,.lf (.rows 6 (p_l.map aF.lf))),(8,.i_ (p_l.length:Int)),(9,.i_ v0)],[.map Tryz.prog 9 4 (m1836.map mvB),.box 138 (.agg ((aF.lf1 x0).map AV.lf))]⟩:=
 aQ aG (G6 R_ m1836 p_l v0 x0) (wI m1836 p_l v0 x0) (by kernel_rfl) h
noncomputable def G7(R_:RB5)(m1836:List (ByteArray×Bool))(p_l:List aF)(r0:Bool)(v0:Int)(x0:aF):Mo (Bool):=
 .ite (r0) (fun _=>.stop) fun c0=>
 .say [.gd 12010 false] (ok1 c0)<|
 .ask (R_.m1 x0.fValue) fun r1 h0=>
 .say [.res (.b_ r1)] (ok1 (R_.ok1 _ _ h0))<|
 .ret ⟨[],[3,5,7,8,9,28],[],2⟩ (!r1)
noncomputable def Vo(R_:RB5)(m1836:List (ByteArray×Bool))(p_l:List aF)(r0:Bool)(v0:Int)(x0:aF):Option (Bool):=Mo.den (G7 R_ m1836 p_l r0 v0 x0)
noncomputable def wJ(m1836:List (ByteArray×Bool))(p_l:List aF)(v0:Int)(x0:aF)(r_:Bool):St:=⟨[(3,.mp 0),(5,.ptr 1 0),(7,.lf (.rows 6 (p_l.map aF.lf))),(8,.i_ (p_l.length:Int)),(9,.i_ v0),(28,.b_ r_)],[.map Tryz.prog 9 4 (m1836.map mvB),.box 138 (.agg ((aF.lf1 x0).map AV.lf))]⟩
theorem Vp{R_:RB5}{m1836:List (ByteArray×Bool)}{p_l:List aF}{r0:Bool}{v0:Int}{x0:aF}{r_:Bool}(h:Vo R_ m1836 p_l r0 v0 x0=some r_):aS Tryz.f216 0 [1,1,0,1,0,0,1,1,0,0,1,0,0] [10,11,12,13,14,15] (wJ m1836 p_l v0 x0 r_) ⟨[(3,.mp 0),(5,.ptr 1 0),(7,.lf (.rows 6 (p_l.map aF.lf))),(8,.i_ (p_l.length:Int)),(9,.i_ v0),(22,.b_ r0)],[.map Tryz.prog 9 4 (m1836.map mvB),.box 138 (.agg ((aF.lf1 x0).map AV.lf))]⟩:=
 aQ aG (G7 R_ m1836 p_l r0 v0 x0) (wJ m1836 p_l v0 x0) (by kernel_rfl) h
noncomputable def Ar(R_:RB5)(p_l:List aF):(Int×(List (ByteArray×Bool)))→Mo ((Int×(List (ByteArray×Bool)))⊕(Unit⊕Unit)):=fun(v0,m1836)=>
 .ite (decide ((v0:Int)<(p_l.length:Int))) (fun c0=>
 .say [.br true] (ok1 c0)<|
 .ask (iM p_l v0) fun x0 h0=>
 .say [.row (aF.lf1 x0)] (okc (bZ aF.aW h0) ok0)<|
 .ask (Vl R_ m1836 p_l v0 x0) fun r0 h1=>
 .say [.sg_ 5 10 [3,5,7,8,9] 2 (wI m1836 p_l v0 x0 r0)] (ok1 (Vm h1))<|
 .ask (Vo R_ m1836 p_l r0 v0 x0) fun r1 h2=>
 .say [.sg_ 5 6 [3,5,7,8,9,22] 2 (wJ m1836 p_l v0 x0 r1)] (ok1 (Vp h2))<|
 .ite (r1) (fun _=>.stop) fun c1=>
 .say [.br false] (okc c1 (ok1 (rfl:Tryz.prog=Tryz.prog)))<|
 .grd (m1836.length<maxLen) fun h3=>
 .say [] (okc (by simpa using h3:(m1836.map mvB).length<maxLen) ok0)<|
 .ret ⟨[],[3,7,8,9],[],1⟩ (.inl (IntKind.wrap .i64 (v0+1),(x0.fName,true)::m1836))) fun c0=>
 .say [.br false] (ok1 c0)<|
 .ret ⟨[.kill 0],[],[],1⟩ (.inr (.inr (())))
noncomputable def Na(R_:RB5)(p_l:List aF)(v0:Int)(m1836:List (ByteArray×Bool)):Option (Unit⊕Unit):=dF (fun v_=>(Ar R_ p_l v_).den) FU (v0,m1836)
noncomputable def Au(R_:RB5)(p_l:List aF):(Int×(List (ByteArray×Bool)))→St:=fun(v0,m1836)=>⟨[(3,.mp 0),(7,.lf (.rows 6 (p_l.map aF.lf))),(8,.i_ (p_l.length:Int)),(9,.i_ v0)],[.map Tryz.prog 9 4 (m1836.map mvB)]⟩
noncomputable def pY(r_:Unit⊕Unit):Exit:=match r_ with
 |.inl o_=>.ret
 |.inr (o_)=>.exit 0
noncomputable def qc  (r_:Unit⊕Unit):St:=match r_ with
 |.inl o_=>⟨[(2,.b_ false)],[.dead]⟩
 |.inr (o_)=>⟨[],[.dead]⟩
theorem OW{R_:RB5}{p_l:List aF}{v0:Int}{m1836:List (ByteArray×Bool)}{r_:Unit⊕Unit}(h:Na R_ p_l v0 m1836=some r_):bQ Tryz.f216 0 [1,1,0,1,0] (pY r_) (qc r_) (Au R_ p_l (v0,m1836)):=
 bU aG (body:=(Code.sub (bodyC Tryz.f216) [1,1,0,1,0,0])) (by kernel_rfl) (Ar R_ p_l) (Au R_ p_l) pY qc (fun r_=>by rcases r_ with _|_<;>rfl) (fun v_=>by kernel_rfl) h
noncomputable def Vq(R_:RB5)(p_l:List aF):Mo (Bool):=
 .say [.num p_l.length] (okc (ln_ p_l aF.lf) ok0)<|
 .ask2 (Na R_ p_l 0 ([]:List (ByteArray×Bool))) (fun _ _=>.stop) fun o0 h0=>
 .say [.pt_ 0 [3,7,8,9] 1 (pY (.inr (o0))) (qc (.inr (o0)))] (ok1 (OW h0))<|
 .ret (cZ 1) (true)
theorem Z5(R_:RB5)(p_l:List aF)(r:Bool)(h:Mo.den (Vq R_ p_l)=some r):Fn Tryz.prog GI 216 [.lf (.rows 6 (p_l.map aF.lf))] (.b_ r):=
 dK aG Tryz.func216 (by kernel_rfl) (by kernel_rfl) (by kernel_rfl) (Vq R_ p_l) (fun r=>[.b_ r]) (by kernel_rfl) h
noncomputable def Aw:Nat→RB5
 |0=>{ m1:=fun p_v=>none,ok1:=fun _ _ h=>(by cases h),m2:=fun p_l=>none,ok2:=fun _ _ h=>(by cases h) }
 |n_+1=>{ m1:=fun p_v=>Mo.den (adw (Aw n_) p_v),ok1:=fun p_v r h=>adx (Aw n_) p_v r h,m2:=fun p_l=>Mo.den (Vq (Aw n_) p_l),ok2:=fun p_l r h=>Z5 (Aw n_) p_l r h }
noncomputable def Q7(p_v:ah):Option (Bool):=(Aw FU).m1 p_v
theorem aeW(p_v:ah)(r:Bool)(h:Q7 p_v=some r):Fn Tryz.prog GI 160 [.dat (ah.lf1 p_v)] (.b_ r):=(Aw FU).ok1 p_v r h
noncomputable def aa7(p_v:ah):Mo (Bool):=
 .ask (Q87 p_v) fun r0 h0=>
 .say [.res (.i_ r0)] (ok1 (ads _ _ h0))<|
 .ite (decide ((r0:Int)≤1024)) (fun c0=>
 .say [.gd 4003 true] (ok1 c0)<|
 .ask (Q88 p_v) fun r1 h1=>
 .say [.res (.i_ r1)] (ok1 (adu _ _ h1))<|
 .ite (decide ((r1:Int)≤16)) (fun c1=>
 .say [.gd 4008 true] (ok1 c1)<|
 .ask (Q7 p_v) fun r2 h2=>
 .say [.res (.b_ r2)] (ok1 (aeW _ _ h2))<|
 .ret (cZ 1) (r2)) fun _=>.stop) fun _=>.stop
noncomputable def Q61(p_v:ah):Option (Bool):=Mo.den (aa7 p_v)
theorem Dj(p_v:ah)(r:Bool)(h:Q61 p_v=some r):Fn Tryz.prog GI 97 [.dat (ah.lf1 p_v)] (.b_ r):=
 dK aG Tryz.func97 (by kernel_rfl) (by kernel_rfl) (by kernel_rfl) (aa7 p_v) (fun r=>[.b_ r]) (by kernel_rfl) h
noncomputable def G8(p_v:ah):Mo (Bool):=
 .ite (p_v.aK != 6) (fun c0=>
 .say [.gd 4003 true] (ok1 c0)<|
 .ret ⟨[],[1,2,10],[],1⟩ (p_v.aK != 1)) fun _=>.stop
noncomputable def Vr(p_v:ah):Option (Bool):=Mo.den (G8 p_v)
noncomputable def wK(p_v:ah)(r_:Bool):St:=⟨[(1,.ptr 0 0),(2,.b_ false),(10,.b_ r_)],[.box 40 (.dat (ah.lf1 p_v))]⟩
theorem Vs{p_v:ah}{r_:Bool}(h:Vr p_v=some r_):aS Tryz.f170 0 [1,0] [0,1,2,3,4,5,6,7] (wK p_v r_) ⟨[(1,.ptr 0 0),(2,.b_ false)],[.box 40 (.dat (ah.lf1 p_v))]⟩:=
 aQ aG (G8 p_v) (wK p_v) (by kernel_rfl) h
noncomputable def G9(p_v:ah)(r0:Bool):Mo (Bool):=
 .ite (r0) (fun c0=>
 .say [.gd 4008 true] (ok1 c0)<|
 .ret ⟨[],[1,2,15],[],1⟩ (p_v.aK != 11)) fun _=>.stop
noncomputable def Vt(p_v:ah)(r0:Bool):Option (Bool):=Mo.den (G9 p_v r0)
noncomputable def wL(p_v:ah)(r_:Bool):St:=⟨[(1,.ptr 0 0),(2,.b_ false),(15,.b_ r_)],[.box 40 (.dat (ah.lf1 p_v))]⟩
theorem Vu{p_v:ah}{r0:Bool}{r_:Bool}(h:Vt p_v r0=some r_):aS Tryz.f170 0 [1,0] [8,9,10,11,12] (wL p_v r_) ⟨[(1,.ptr 0 0),(2,.b_ false),(10,.b_ r0)],[.box 40 (.dat (ah.lf1 p_v))]⟩:=
 aQ aG (G9 p_v r0) (wL p_v) (by kernel_rfl) h
noncomputable def Az(p_v:ah)(r0:Bool):Mo (Bool):=
 .ite (r0) (fun c0=>
 .say [.gd 4013 true] (ok1 c0)<|
 .ask (Q61 p_v) fun r1 h0=>
 .say [.res (.b_ r1)] (ok1 (Dj _ _ h0))<|
 .ret ⟨[.kill 0],[2,19],[],1⟩ (r1)) fun _=>.stop
noncomputable def Nb(p_v:ah)(r0:Bool):Option (Bool):=Mo.den (Az p_v r0)
noncomputable def qg  (r_:Bool):St:=⟨[(2,.b_ false),(19,.b_ r_)],[.dead]⟩
theorem OX{p_v:ah}{r0:Bool}{r_:Bool}(h:Nb p_v r0=some r_):aS Tryz.f170 0 [1,0] [13,14,15,16] (qg r_) ⟨[(1,.ptr 0 0),(2,.b_ false),(15,.b_ r0)],[.box 40 (.dat (ah.lf1 p_v))]⟩:=
 aQ aG (Az p_v r0) qg (by kernel_rfl) h
noncomputable def AA(r0:Bool):Mo (Unit):=
 .ret ⟨[],[2],[],1⟩ ()
noncomputable def Nc(r0:Bool):Option (Unit):=Mo.den (AA r0)
noncomputable def qh(r0:Bool)(r_:Unit):St:=⟨[(2,.b_ r0)],[.dead]⟩
theorem OY{r0:Bool}{r_:Unit}(h:Nc r0=some r_):aS Tryz.f170 0 [1,0] [17] (qh r0 r_) ⟨[(2,.b_ false),(19,.b_ r0)],[.dead]⟩:=
 aQ aG (AA r0) (qh r0) (by kernel_rfl) h
noncomputable def aa8(p_v:ah):Mo (Bool):=
 .ask (Vr p_v) fun r0 h0=>
 .say [.sg_ 1 8 [1,2] 1 (wK p_v r0)] (ok1 (Vs h0))<|
 .ask (Vt p_v r0) fun r1 h1=>
 .say [.sg_ 1 5 [1,2,10] 1 (wL p_v r1)] (ok1 (Vu h1))<|
 .ask (Nb p_v r1) fun r2 h2=>
 .say [.sg_ 1 4 [1,2,15] 1 (qg r2)] (ok1 (OX h2))<|
 .ask (Nc r2) fun r3 h3=>
 .say [.sg_ 1 1 [2,19] 1 (qh r2 r3)] (ok1 (OY h3))<|
 .ret (cZ 1) (r2)
noncomputable def Q16(p_v:ah):Option (Bool):=Mo.den (aa8 p_v)
theorem ady(p_v:ah)(r:Bool)(h:Q16 p_v=some r):Fn Tryz.prog GI 170 [.dat (ah.lf1 p_v)] (.b_ r):=
 dK aG Tryz.func170 (by kernel_rfl) (by kernel_rfl) (by kernel_rfl) (aa8 p_v) (fun r=>[.b_ r]) (by kernel_rfl) h
noncomputable def aa9(p_x:Int):Mo (Bool):=
 .ret (cZ 1) (p_x != p_x)
noncomputable def Q70(p_x:Int):Option (Bool):=Mo.den (aa9 p_x)
theorem Vw(p_x:Int)(r:Bool)(h:Q70 p_x=some r):Fn Tryz.prog GI 207 [.i_ p_x] (.b_ r):=
 dK aG Tryz.func207 (by kernel_rfl) (by kernel_rfl) (by kernel_rfl) (aa9 p_x) (fun r=>[.b_ r]) (by kernel_rfl) h
end
end Go.Proofs.YtpdlghcgekojlaaGreatDoor
set_option linter.unusedSimpArgs false
set_option linter.unusedVariables false
namespace Go.Proofs.YtpdlghcgekojlaaGreatDoor
open Go.RowKit
set_option maxRecDepth 20000
set_option maxHeartbeats 4000000
noncomputable section
noncomputable def abb(p_x:Int)(p_y:Int):Mo (Int):=
 .ask (Q70 p_x) fun r0 h0=>
 .say [.res (.b_ r0)] (ok1 (Vw _ _ h0))<|
 .ask (Q70 p_y) fun r1 h1=>
 .say [.res (.b_ r1)] (ok1 (Vw _ _ h1))<|
 .ite (r0) (fun _=>.stop) fun c0=>
 .say [.br false] (ok1 c0)<|
 .ite (r1) (fun _=>.stop) fun c1=>
 .say [.br false] (ok1 c1)<|
 .ite (decide ((p_x:Int)<p_y)) (fun _=>.stop) fun c2=>
 .say [.br false] (ok1 c2)<|
 .ite (decide ((p_y:Int)<p_x)) (fun _=>.stop) fun c3=>
 .say [.br false] (ok1 c3)<|
 .ret (cZ 1) (0)
noncomputable def Q79(p_x:Int)(p_y:Int):Option (Int):=Mo.den (abb p_x p_y)
theorem adz(p_x:Int)(p_y:Int)(r:Int)(h:Q79 p_x p_y=some r):Fn Tryz.prog GI 151 [.i_ p_x,.i_ p_y] (.i_ r):=
 dK aG Tryz.func151 (by kernel_rfl) (by kernel_rfl) (by kernel_rfl) (abb p_x p_y) (fun r=>[.i_ r]) (by kernel_rfl) h
structure RB6 where
 m1:(p_a:ah)→(p_b:ah)→Option (Int)
 ok1:∀(p_a:ah) (p_b:ah) (r:Int),m1 p_a p_b=some r→Fn Tryz.prog GI 93 [.dat (ah.lf1 p_a),.dat (ah.lf1 p_b)] (.i_ r)
noncomputable def He(R_:RB6)(p_a:ah)(p_b:ah):Mo (Bool):=
 .ite (p_a.aK==3) (fun c0=>
 .say [.br true] (ok1 c0)<|
 .ret ⟨[],[2,3,21,22],[],2⟩ (p_a.aK==3)) fun _=>.stop
noncomputable def Vx(R_:RB6)(p_a:ah)(p_b:ah):Option (Bool):=Mo.den (He R_ p_a p_b)
noncomputable def wM(p_a:ah)(p_b:ah)(r_:Bool):St:=⟨[(2,.ptr 0 0),(3,.ptr 1 0),(21,.i_ p_a.aK),(22,.b_ r_)],[.box 40 (.dat (ah.lf1 p_a)),.box 40 (.dat (ah.lf1 p_b))]⟩
theorem Vy{R_:RB6}{p_a:ah}{p_b:ah}{r_:Bool}(h:Vx R_ p_a p_b=some r_):bQ Tryz.f93 0 [1,1,0,1,0,0,1] (.normal) (wM p_a p_b r_) ⟨[(2,.ptr 0 0),(3,.ptr 1 0),(21,.i_ p_a.aK),(22,.lf (.bool (p_a.aK==3)))],[.box 40 (.dat (ah.lf1 p_a)),.box 40 (.dat (ah.lf1 p_b))]⟩:=
 bM aG (He R_ p_a p_b) (fun _=>.normal) (wM p_a p_b) (by kernel_rfl) h
noncomputable def Vz(R_:RB6)(p_a:ah)(p_b:ah):Mo (Int):=
 .ite (p_a.aK != p_b.aK) (fun _=>.stop) fun c0=>
 .say [.br false] (ok1 c0)<|
 .ask (Vx R_ p_a p_b) fun r0 h0=>
 .say [.pt_ 1 [2,3,21,22] 2 (.normal) (wM p_a p_b r0)] (ok1 (Vy h0))<|
 .ite (r0) (fun c1=>
 .say [.br true] (ok1 c1)<|
 .ask (Q79 p_a.fB p_b.fB) fun r1 h1=>
 .say [.res (.i_ r1)] (ok1 (adz _ _ _ h1))<|
 .ret (cZ 1) (r1)) fun _=>.stop
theorem Z7(R_:RB6)(p_a:ah)(p_b:ah)(r:Int)(h:Mo.den (Vz R_ p_a p_b)=some r):Fn Tryz.prog GI 93 [.dat (ah.lf1 p_a),.dat (ah.lf1 p_b)] (.i_ r):=
 dK aG Tryz.func93 (by kernel_rfl) (by kernel_rfl) (by kernel_rfl) (Vz R_ p_a p_b) (fun r=>[.i_ r]) (by kernel_rfl) h
noncomputable def Nh:Nat→RB6
 |0=>{ m1:=fun p_a p_b=>none,ok1:=fun _ _ _ h=>(by cases h) }
 |n_+1=>{ m1:=fun p_a p_b=>Mo.den (Vz (Nh n_) p_a p_b),ok1:=fun p_a p_b r h=>Z7 (Nh n_) p_a p_b r h }
noncomputable def Q49(p_a:ah)(p_b:ah):Option (Int):=(Nh FU).m1 p_a p_b
theorem adA(p_a:ah)(p_b:ah)(r:Int)(h:Q49 p_a p_b=some r):Fn Tryz.prog GI 93 [.dat (ah.lf1 p_a),.dat (ah.lf1 p_b)] (.i_ r):=(Nh FU).ok1 p_a p_b r h
noncomputable def abd(p_a:ah)(p_b:ah):Mo (Bool):=
 .ask (Q49 p_a p_b) fun r0 h0=>
 .say [.res (.i_ r0)] (ok1 (adA _ _ _ h0))<|
 .ret (cZ 1) (r0==0)
noncomputable def Q89(p_a:ah)(p_b:ah):Option (Bool):=Mo.den (abd p_a p_b)
theorem adB(p_a:ah)(p_b:ah)(r:Bool)(h:Q89 p_a p_b=some r):Fn Tryz.prog GI 57 [.dat (ah.lf1 p_a),.dat (ah.lf1 p_b)] (.b_ r):=
 dK aG Tryz.func57 (by kernel_rfl) (by kernel_rfl) (by kernel_rfl) (abd p_a p_b) (fun r=>[.b_ r]) (by kernel_rfl) h
noncomputable def abe(p_n:Int):Mo (Int):=
 .say [] (okc (by decide:(0:Int)≤1) (okc (by decide:(0:Int)≤63) ok0))<|
 .ret (cZ 1) (gW .xor .u64 (acn .u64 (IntKind.wrap .u64 p_n) 1) (IntKind.wrap .u64 (BJ .i64 p_n 63)))
noncomputable def Q84(p_n:Int):Option (Int):=Mo.den (abe p_n)
theorem adC(p_n:Int)(r:Int)(h:Q84 p_n=some r):Fn Tryz.prog GI 253 [.i_ p_n] (.lf (.int .u64 r)):=
 dK aG Tryz.func253 (by kernel_rfl) (by kernel_rfl) (by kernel_rfl) (abe p_n) (fun r=>[.lf (.int .u64 r)]) (by kernel_rfl) h
noncomputable def Hf :(Int×Int)→Mo ((Int×Int)⊕(Int)):=fun(v0,v1)=>
 .ite (decide ((128:Int)≤v1)) (fun _=>.stop) fun c0=>
 .say [.br false] (ok1 c0)<|
 .ret ⟨[],[3],[],0⟩ (.inr (v0))
noncomputable def VA(v0:Int)(v1:Int):Option (Int):=dF (fun v_=>(Hf  v_).den) FU (v0,v1)
noncomputable def Hg :(Int×Int)→St:=fun(v0,v1)=>⟨[(3,.i_ v0),(4,.lf (.int .u64 v1))],[]⟩
noncomputable def wO  (r_:Int):St:=⟨[(3,.i_ r_)],[]⟩
theorem VB{v0:Int}{v1:Int}{r_:Int}(h:VA v0 v1=some r_):bQ Tryz.f217 0 [1,1,0,1,0] (.exit 0) (wO r_) (Hg  (v0,v1)):=
 bU aG (body:=(Code.sub (bodyC Tryz.f217) [1,1,0,1,0,0])) (by kernel_rfl) (Hf ) (Hg ) (fun _=>.exit 0) wO (fun r_=>rfl) (fun v_=>by kernel_rfl) h
noncomputable def abf(p_n:Int):Mo (Int):=
 .ask (Q84 p_n) fun r0 h0=>
 .say [.res (.lf (.int .u64 r0))] (ok1 (adC _ _ h0))<|
 .ask (VA 1 r0) fun r1 h1=>
 .say [.pt_ 0 [3,4] 0 (.exit 0) (wO r1)] (ok1 (VB h1))<|
 .ret (cZ 1) (r1)
noncomputable def Q43(p_n:Int):Option (Int):=Mo.den (abf p_n)
theorem KH(p_n:Int)(r:Int)(h:Q43 p_n=some r):Fn Tryz.prog GI 217 [.i_ p_n] (.i_ r):=
 dK aG Tryz.func217 (by kernel_rfl) (by kernel_rfl) (by kernel_rfl) (abf p_n) (fun r=>[.i_ r]) (by kernel_rfl) h
structure RB7 where
 m1:(p_v:ah)→Option (Int)
 ok1:∀(p_v:ah) (r:Int),m1 p_v=some r→Fn Tryz.prog GI 161 [.dat (ah.lf1 p_v)] (.i_ r)
noncomputable def Ho(R_:RB7)(p_v:ah):Mo (Bool):=
 .ite (p_v.aK==3) (fun c0=>
 .say [.br true] (ok1 c0)<|
 .ret ⟨[],[1,3,9,10],[],1⟩ (p_v.aK==3)) fun c0=>
 .say [.br false] (ok1 c0)<|
 .ret ⟨[],[1,3,9,10],[],1⟩ (p_v.aK==10)
noncomputable def VD(R_:RB7)(p_v:ah):Option (Bool):=Mo.den (Ho R_ p_v)
noncomputable def wP(p_v:ah)(r_:Bool):St:=⟨[(1,.ptr 0 0),(3,.i_ 1),(9,.i_ p_v.aK),(10,.b_ r_)],[.box 40 (.dat (ah.lf1 p_v))]⟩
theorem VE{R_:RB7}{p_v:ah}{r_:Bool}(h:VD R_ p_v=some r_):bQ Tryz.f161 0 [1,1,0,1,0,0,1] (.normal) (wP p_v r_) ⟨[(1,.ptr 0 0),(3,.i_ 1),(9,.i_ p_v.aK),(10,.lf (.bool (p_v.aK==3)))],[.box 40 (.dat (ah.lf1 p_v))]⟩:=
 bM aG (Ho R_ p_v) (fun _=>.normal) (wP p_v) (by kernel_rfl) h
noncomputable def Hq(R_:RB7)(p_v:ah):Mo (Bool):=
 .ite (p_v.aK==4) (fun _=>.stop) fun c0=>
 .say [.br false] (ok1 c0)<|
 .ret ⟨[],[1,3,9,22],[],1⟩ (p_v.aK==7)
noncomputable def VF(R_:RB7)(p_v:ah):Option (Bool):=Mo.den (Hq R_ p_v)
noncomputable def wQ(p_v:ah)(r_:Bool):St:=⟨[(1,.ptr 0 0),(3,.i_ 1),(9,.i_ p_v.aK),(22,.b_ r_)],[.box 40 (.dat (ah.lf1 p_v))]⟩
theorem VG{R_:RB7}{p_v:ah}{r_:Bool}(h:VF R_ p_v=some r_):bQ Tryz.f161 0 [1,1,0,1,0,1,1,1,1,0,1] (.normal) (wQ p_v r_) ⟨[(1,.ptr 0 0),(3,.i_ 1),(9,.i_ p_v.aK),(22,.lf (.bool (p_v.aK==4)))],[.box 40 (.dat (ah.lf1 p_v))]⟩:=
 bM aG (Hq R_ p_v) (fun _=>.normal) (wQ p_v) (by kernel_rfl) h
noncomputable def AB(R_:RB7)(p_v:ah):(Int×Int)→Mo ((Int×Int)⊕(Int)):=fun(v0,v1)=>
 .ite (decide ((v1:Int)<(p_v.bI.length:Int))) (fun c0=>
 .say [.br true] (ok1 c0)<|
 .ask (iM p_v.bI v1) fun x0 h0=>
 .say [.row (aF.lf1 x0),.order [(true,0),(true,1),(true,2),(true,3),(true,5),(true,6),(true,7),(true,9),(true,10),(false,4),(true,8),(false,11),(true,12),(true,13),(true,14)] none []] (okc (bZ aF.aW h0) ok0)<|
 .ask (Q43 (x0.fName.size:Int)) fun r0 h1=>
 .say [.res (.i_ r0)] (ok1 (KH _ _ h1))<|
 .ask (R_.m1 x0.fValue) fun r1 h2=>
 .say [.res (.i_ r1)] (ok1 (R_.ok1 _ _ h2))<|
 .ret ⟨[],[3,71,72,73],[],1⟩ (.inl (IntKind.wrap .i64 (v0+(IntKind.wrap .i64 ((IntKind.wrap .i64 (r0+(x0.fName.size:Int)))+r1))),IntKind.wrap .i64 (v1+1)))) fun c0=>
 .say [.br false] (ok1 c0)<|
 .ret ⟨[],[3],[],1⟩ (.inr (v0))
noncomputable def Nj(R_:RB7)(p_v:ah)(v0:Int)(v1:Int):Option (Int):=dF (fun v_=>(AB R_ p_v v_).den) FU (v0,v1)
noncomputable def AO(R_:RB7)(p_v:ah):(Int×Int)→St:=fun(v0,v1)=>⟨[(3,.i_ v0),(71,.lf (.rows 6 (p_v.bI.map aF.lf))),(72,.i_ (p_v.bI.length:Int)),(73,.i_ v1)],[.dead]⟩
noncomputable def kX  (r_:Int):St:=⟨[(3,.i_ r_)],[.dead]⟩
theorem OZ{R_:RB7}{p_v:ah}{v0:Int}{v1:Int}{r_:Int}(h:Nj R_ p_v v0 v1=some r_):bQ Tryz.f161 0 [1,1,0,1,0,1,1,1,1,1,1,1,1,1,1,1,0,1,1,0] (.exit 3) (kX r_) (AO R_ p_v (v0,v1)):=
 bU aG (body:=(Code.sub (bodyC Tryz.f161) [1,1,0,1,0,1,1,1,1,1,1,1,1,1,1,1,0,1,1,0,0])) (by kernel_rfl) (AB R_ p_v) (AO R_ p_v) (fun _=>.exit 3) kX (fun r_=>rfl) (fun v_=>by kernel_rfl) h
noncomputable def AP(R_:RB7)(p_v:ah):Mo (Int):=
 .ask (VD R_ p_v) fun r0 h0=>
 .say [.pt_ 1 [1,3,9,10] 1 (.normal) (wP p_v r0)] (ok1 (VE h0))<|
 .ite (r0) (fun c0=>
 .say [.br true] (ok1 c0)<|
 .ask (Q43 p_v.fB) fun r1 h1=>
 .say [.res (.i_ r1)] (ok1 (KH _ _ h1))<|
 .ret ⟨[.kill 0],[3],[],1⟩ (IntKind.wrap .i64 (1+r1))) fun c0=>
 .say [.br false] (ok1 c0)<|
 .ite (p_v.aK==9) (fun _=>.stop) fun c1=>
 .say [.br false] (ok1 c1)<|
 .ask (VF R_ p_v) fun r2 h2=>
 .say [.pt_ 1 [1,3,9,22] 1 (.normal) (wQ p_v r2)] (ok1 (VG h2))<|
 .ite (r2) (fun _=>.stop) fun c2=>
 .say [.br false] (ok1 c2)<|
 .ite (p_v.aK==8) (fun _=>.stop) fun c3=>
 .say [.br false] (ok1 c3)<|
 .ite (p_v.aK==6) (fun _=>.stop) fun c4=>
 .say [.br false] (ok1 c4)<|
 .ite (p_v.aK==5) (fun c5=>
 .say [.br true,.num p_v.bI.length] (okc c5 (okc (ln_ p_v.bI aF.lf) ok0))<|
 .ask (Q43 (p_v.bI.length:Int)) fun r3 h3=>
 .say [.res (.i_ r3),.num p_v.bI.length] (okc (KH _ _ h3) (okc (ln_ p_v.bI aF.lf) ok0))<|
 .ask (Nj R_ p_v (IntKind.wrap .i64 (1+r3)) 0) fun r4 h4=>
 .say [.part [.kill 0] 0 [3,71,72,73] 1 (.exit 3) (kX r4).T (kX r4).H] (ok1 (OZ h4))<|
 .ret ⟨[],[3],[],1⟩ (r4)) fun _=>.stop
noncomputable def Nk(R_:RB7)(p_v:ah):Option (Int):=Mo.den (AP R_ p_v)
noncomputable def qj  (r_:Int):St:=⟨[(3,.i_ r_)],[.dead]⟩
theorem O1{R_:RB7}{p_v:ah}{r_:Int}(h:Nk R_ p_v=some r_):bQ Tryz.f161 0 [1,1,0,1] (.normal) (qj r_) ⟨[(1,.ptr 0 0),(3,.i_ 1),(9,.i_ p_v.aK)],[.box 40 (.dat (ah.lf1 p_v))]⟩:=
 bM aG (AP R_ p_v) (fun _=>.normal) qj (by kernel_rfl) h
noncomputable def VH(R_:RB7)(p_v:ah):Mo (Int):=
 .ask (Nk R_ p_v) fun r0 h0=>
 .say [.pt_ 6 [1,3,9] 1 (.normal) (qj r0)] (ok1 (O1 h0))<|
 .ret (cZ 1) (r0)
theorem Z8(R_:RB7)(p_v:ah)(r:Int)(h:Mo.den (VH R_ p_v)=some r):Fn Tryz.prog GI 161 [.dat (ah.lf1 p_v)] (.i_ r):=
 dK aG Tryz.func161 (by kernel_rfl) (by kernel_rfl) (by kernel_rfl) (VH R_ p_v) (fun r=>[.i_ r]) (by kernel_rfl) h
noncomputable def Nl:Nat→RB7
 |0=>{ m1:=fun p_v=>none,ok1:=fun _ _ h=>(by cases h) }
 |n_+1=>{ m1:=fun p_v=>Mo.den (VH (Nl n_) p_v),ok1:=fun p_v r h=>Z8 (Nl n_) p_v r h }
noncomputable def Q19(p_v:ah):Option (Int):=(Nl FU).m1 p_v
theorem adD(p_v:ah)(r:Int)(h:Q19 p_v=some r):Fn Tryz.prog GI 161 [.dat (ah.lf1 p_v)] (.i_ r):=(Nl FU).ok1 p_v r h
noncomputable def abg(p_v:ah):Mo (Int×Int):=
 .ask (Q61 p_v) fun r0 h0=>
 .say [.res (.b_ r0)] (ok1 (Dj _ _ h0))<|
 .ite (!r0) (fun _=>.stop) fun c0=>
 .say [.br false] (ok1 c0)<|
 .ask (Q19 p_v) fun r1 h1=>
 .say [.res (.i_ r1)] (ok1 (adD _ _ h1))<|
 .ret (cZ 2) (r1,0)
noncomputable def Q85(p_v:ah):Option (Int×Int):=Mo.den (abg p_v)
theorem adE(p_v:ah)(r:Int×Int)(h:Q85 p_v=some r):Fn Tryz.prog GI 98 [.dat (ah.lf1 p_v)] (.tup [.i_ r.1,.i_ r.2]):=
 dK aG Tryz.func98 (by kernel_rfl) (by kernel_rfl) (by kernel_rfl) (abg p_v) (fun r=>[.i_ r.1,.i_ r.2]) (by kernel_rfl) h
noncomputable def Hr(p_doc:ah)(p_key:ah):Mo (Bool):=
 .ite (p_doc.aK != 5) (fun _=>.stop) fun c0=>
 .say [.gd 4003 false] (ok1 c0)<|
 .ask (Q61 p_doc) fun r0 h0=>
 .say [.res (.b_ r0)] (ok1 (Dj _ _ h0))<|
 .ret ⟨[],[2,3,14],[],2⟩ (!r0)
noncomputable def VI(p_doc:ah)(p_key:ah):Option (Bool):=Mo.den (Hr p_doc p_key)
noncomputable def wR(p_doc:ah)(p_key:ah)(r_:Bool):St:=⟨[(2,.ptr 0 0),(3,.ptr 1 0),(14,.b_ r_)],[.box 40 (.dat (ah.lf1 p_doc)),.box 40 (.dat (ah.lf1 p_key))]⟩
theorem VJ{p_doc:ah}{p_key:ah}{r_:Bool}(h:VI p_doc p_key=some r_):aS Tryz.f171 0 [1,0,0] [0,1,2,3,4,5,6,7] (wR p_doc p_key r_) ⟨[(2,.ptr 0 0),(3,.ptr 1 0)],[.box 40 (.dat (ah.lf1 p_doc)),.box 40 (.dat (ah.lf1 p_key))]⟩:=
 aQ aG (Hr p_doc p_key) (wR p_doc p_key) (by kernel_rfl) h
noncomputable def Ht(p_doc:ah)(p_key:ah)(r0:Bool):Mo (Bool):=
 .ite (r0) (fun _=>.stop) fun c0=>
 .say [.gd 4008 false,.num p_doc.bI.length] (okc c0 (okc (ln_ p_doc.bI aF.lf) ok0))<|
 .ret ⟨[],[2,3,20],[],2⟩ ((p_doc.bI.length:Int)==0)
noncomputable def VK(p_doc:ah)(p_key:ah)(r0:Bool):Option (Bool):=Mo.den (Ht p_doc p_key r0)
noncomputable def wS(p_doc:ah)(p_key:ah)(r_:Bool):St:=⟨[(2,.ptr 0 0),(3,.ptr 1 0),(20,.b_ r_)],[.box 40 (.dat (ah.lf1 p_doc)),.box 40 (.dat (ah.lf1 p_key))]⟩
theorem VL{p_doc:ah}{p_key:ah}{r0:Bool}{r_:Bool}(h:VK p_doc p_key r0=some r_):aS Tryz.f171 0 [1,0,0] [8,9,10,11,12,13] (wS p_doc p_key r_) ⟨[(2,.ptr 0 0),(3,.ptr 1 0),(14,.b_ r0)],[.box 40 (.dat (ah.lf1 p_doc)),.box 40 (.dat (ah.lf1 p_key))]⟩:=
 aQ aG (Ht p_doc p_key r0) (wS p_doc p_key) (by kernel_rfl) h
noncomputable def AQ(p_doc:ah)(p_key:ah):Mo (Bool):=
 .ask (iM p_doc.bI 0) fun x0 h0=>
 .say [] (okc (bZ aF.aW h0) ok0)<|
 .ite (!decide ((x0.fName:ByteArray)=(⟨#[95,105,100]⟩:ByteArray))) (fun _=>.stop) fun c0=>
 .say [] (ok1 c0)<|
 .ask (iM p_doc.bI 0) fun x1 h1=>
 .say [] (okc (bZ aF.aW h1) ok0)<|
 .ask (Q89 x1.fValue p_key) fun r0 h2=>
 .say [.iY (.q 0 (.q 1 (.q 2 (.q 3 (.q 4 (.q 5 (.q 6 (.q 7 (.q 8 (.q 9 (.q 10 (.q 11 (.q 12 (.l 13 (.q 14 (.q 15 .fin)))))))))))))))) (some 13) [] [.row (aF.lf1 x0),.gd 8006 false,.row (aF.lf1 x1),.res (.b_ r0)] [2,36] 2 [(2,.ptr 0 0),(36,.lf (.bool (!r0)))] [.box 40 (.dat (ah.lf1 p_doc)),.box 40 (.dat (ah.lf1 p_key))]] (okc (adB _ _ _ h2) (okc (rf_ ⟨[(2,.ptr 0 0),(36,.lf (.bool (!r0)))],[.box 40 (.dat (ah.lf1 p_doc)),.box 40 (.dat (ah.lf1 p_key))]⟩) ok0))<|
 .ret ⟨[.kill 1],[2,36],[],2⟩ (!r0)
noncomputable def Np(p_doc:ah)(p_key:ah):Option (Bool):=Mo.den (AQ p_doc p_key)
noncomputable def ql(p_doc:ah)(r_:Bool):St:=⟨[(2,.ptr 0 0),(36,.b_ r_)],[.box 40 (.dat (ah.lf1 p_doc)),.dead]⟩
theorem O4{p_doc:ah}{p_key:ah}{r_:Bool}(h:Np p_doc p_key=some r_):bQ Tryz.f171 0 [1,1,0,0] (.normal) (ql p_doc r_) ⟨[(2,.ptr 0 0),(3,.ptr 1 0)],[.box 40 (.dat (ah.lf1 p_doc)),.box 40 (.dat (ah.lf1 p_key))]⟩:=
 bM aG (AQ p_doc p_key) (fun _=>.normal) (ql p_doc) (by kernel_rfl) h
noncomputable def abh(p_doc:ah)(p_key:ah):Mo (Int):=
 .ask (VI p_doc p_key) fun r0 h0=>
 .say [.sg_ 1 8 [2,3] 2 (wR p_doc p_key r0)] (ok1 (VJ h0))<|
 .ask (VK p_doc p_key r0) fun r1 h1=>
 .say [.sg_ 1 6 [2,3,14] 2 (wS p_doc p_key r1)] (ok1 (VL h1))<|
 .ite (r1) (fun _=>.stop) fun c0=>
 .say [.br false] (ok1 c0)<|
 .ask (Np p_doc p_key) fun r2 h2=>
 .say [.pt_ 13 [2,3] 2 (.normal) (ql p_doc r2)] (ok1 (O4 h2))<|
 .ite (r2) (fun _=>.stop) fun c1=>
 .say [.br false] (ok1 c1)<|
 .ask (Q85 p_doc) fun r3 h3=>
 .say [.res (.tup [.i_ r3.1,.i_ r3.2])] (ok1 (adE _ _ h3))<|
 .ite (r3.2 != 0) (fun _=>.stop) fun c2=>
 .say [.br false] (ok1 c2)<|
 .ite (decide ((16384:Int)<r3.1)) (fun _=>.stop) fun c3=>
 .say [.br false] (ok1 c3)<|
 .ret (cZ 1) (0)
noncomputable def Q28(p_doc:ah)(p_key:ah):Option (Int):=Mo.den (abh p_doc p_key)
theorem adF(p_doc:ah)(p_key:ah)(r:Int)(h:Q28 p_doc p_key=some r):Fn Tryz.prog GI 171 [.dat (ah.lf1 p_doc),.dat (ah.lf1 p_key)] (.i_ r):=
 dK aG Tryz.func171 (by kernel_rfl) (by kernel_rfl) (by kernel_rfl) (abh p_doc p_key) (fun r=>[.i_ r]) (by kernel_rfl) h
noncomputable def Hu(p_w:ay):Mo ((Int)⊕Unit):=
 .ite (p_w.aK==2) (fun c0=>
 .say [.br true] (ok1 c0)<|
 .ask (Q28 p_w.bI p_w.jh) fun r0 h0=>
 .say [.res (.i_ r0)] (ok1 (adF _ _ _ h0))<|
 .ite (r0 != 0) (fun _=>.stop) fun c1=>
 .say [.br false] (ok1 c1)<|
 .ret ⟨[],[1],[],1⟩ (.inr (()))) fun _=>.stop
noncomputable def VN(p_w:ay):Option ((Int)⊕Unit):=Mo.den (Hu p_w)
noncomputable def wU(r_:(Int)⊕Unit):Exit:=match r_ with
 |.inl o_=>.ret
 |.inr (o_)=>.normal
noncomputable def wV(p_w:ay)(r_:(Int)⊕Unit):St:=match r_ with
 |.inl o_=>⟨[(2,.i_ o_)],[.dead]⟩
 |.inr (o_)=>⟨[(1,.ptr 0 0)],[.box 64 (.dat (ay.lf1 p_w))]⟩
theorem VO{p_w:ay}{r_:(Int)⊕Unit}(h:VN p_w=some r_):bQ Tryz.f111 0 [1,1,0,1] (wU r_) (wV p_w r_) ⟨[(1,.ptr 0 0),(10,.lf (.bool (p_w.aK==2)))],[.box 64 (.dat (ay.lf1 p_w))]⟩:=
 bM aG (Hu p_w) wU (wV p_w) (by kernel_rfl) h
noncomputable def abj(p_w:ay):Mo (Int):=
 .ask (Q16 p_w.jh) fun r0 h0=>
 .say [.res (.b_ r0)] (ok1 (ady _ _ h0))<|
 .ite (!r0) (fun _=>.stop) fun c0=>
 .say [.br false] (ok1 c0)<|
 .ask2 (VN p_w) (fun _ _=>.stop) fun o0 h1=>
 .say [.pt_ 1 [1,10] 1 (wU (.inr (o0))) (wV p_w (.inr (o0)))] (ok1 (VO h1))<|
 .ask (Q11 p_w.gZ) fun r1 h2=>
 .say [.res (.b_ r1)] (ok1 (kK _ _ h2))<|
 .ite (r1) (fun c1=>
 .say [.br true] (ok1 c1)<|
 .ret (cZ 1) (0)) fun _=>.stop
noncomputable def Q45(p_w:ay):Option (Int):=Mo.den (abj p_w)
theorem adG(p_w:ay)(r:Int)(h:Q45 p_w=some r):Fn Tryz.prog GI 111 [.dat (ay.lf1 p_w)] (.i_ r):=
 dK aG Tryz.func111 (by kernel_rfl) (by kernel_rfl) (by kernel_rfl) (abj p_w) (fun r=>[.i_ r]) (by kernel_rfl) h
noncomputable def Hw(p_s:ByteArray):Mo (Bool):=
 .ite (decide ((p_s:ByteArray)=(⟨#[]⟩:ByteArray))) (fun _=>.stop) fun c0=>
 .say [.gd 4002 false] (ok1 c0)<|
 .ret ⟨[],[0,10],[],0⟩ (decide ((32:Int)<(p_s.size:Int)))
noncomputable def VP(p_s:ByteArray):Option (Bool):=Mo.den (Hw p_s)
noncomputable def wW(p_s:ByteArray)(r_:Bool):St:=⟨[(0,.lf (.str p_s)),(10,.b_ r_)],[]⟩
theorem VQ{p_s:ByteArray}{r_:Bool}(h:VP p_s=some r_):aS Tryz.f153 0 [1,0,0] [0,1,2,3,4,5,6] (wW p_s r_) ⟨[(0,.lf (.str p_s))],[]⟩:=
 aQ aG (Hw p_s) (wW p_s) (by kernel_rfl) h
noncomputable def Hy(p_s:ByteArray)(r0:Bool):Mo (Bool):=
 .ite (r0) (fun _=>.stop) fun c0=>
 .say [.gd 4007 false] (ok1 c0)<|
 .ask (mG p_s 0) fun b0 h0=>
 .say [.byt b0] (okc (gI h0) ok0)<|
 .ret ⟨[],[0,15],[],0⟩ ((b0.toNat:Int)==36)
noncomputable def VT(p_s:ByteArray)(r0:Bool):Option (Bool):=Mo.den (Hy p_s r0)
noncomputable def wX(p_s:ByteArray)(r_:Bool):St:=⟨[(0,.lf (.str p_s)),(15,.b_ r_)],[]⟩
theorem VU{p_s:ByteArray}{r0:Bool}{r_:Bool}(h:VT p_s r0=some r_):aS Tryz.f153 0 [1,0,0] [7,8,9,10,11] (wX p_s r_) ⟨[(0,.lf (.str p_s)),(10,.b_ r0)],[]⟩:=
 aQ aG (Hy p_s r0) (wX p_s) (by kernel_rfl) h
noncomputable def AU(p_s:ByteArray)(v0:Int):Mo (Bool):=
 .ask (mG p_s v0) fun b0 h0=>
 .say [.byt b0] (okc (gI h0) ok0)<|
 .ite (decide (((b0.toNat:Int):Int)<33)) (fun _=>.stop) fun c0=>
 .say [.gd 14004 false] (ok1 c0)<|
 .ask (mG p_s v0) fun b1 h1=>
 .say [.byt b1] (okc (gI h1) ok0)<|
 .ret ⟨[],[0,3,17,18,30],[],0⟩ (decide ((126:Int)<(b1.toNat:Int)))
noncomputable def Nq(p_s:ByteArray)(v0:Int):Option (Bool):=Mo.den (AU p_s v0)
noncomputable def qm(p_s:ByteArray)(v0:Int)(r_:Bool):St:=⟨[(0,.lf (.str p_s)),(3,.i_ v0),(17,.i_ (p_s.size:Int)),(18,.i_ v0),(30,.b_ r_)],[]⟩
theorem O5{p_s:ByteArray}{v0:Int}{r_:Bool}(h:Nq p_s v0=some r_):aS Tryz.f153 0 [1,1,0,1,0,0,1,1,0,0,1,0] [0,1,2,3,4,5,6,7,8,9] (qm p_s v0 r_) ⟨[(0,.lf (.str p_s)),(3,.i_ v0),(17,.i_ (p_s.size:Int)),(18,.i_ v0)],[]⟩:=
 aQ aG (AU p_s v0) (qm p_s v0) (by kernel_rfl) h
noncomputable def AX(p_s:ByteArray)(r0:Bool)(v0:Int):Mo (Bool):=
 .ite (r0) (fun _=>.stop) fun c0=>
 .say [.gd 14010 false] (ok1 c0)<|
 .ask (mG p_s v0) fun b0 h0=>
 .say [.byt b0] (okc (gI h0) ok0)<|
 .ret ⟨[],[0,17,18,36],[],0⟩ ((b0.toNat:Int)==46)
noncomputable def Nr(p_s:ByteArray)(r0:Bool)(v0:Int):Option (Bool):=Mo.den (AX p_s r0 v0)
noncomputable def qo(p_s:ByteArray)(v0:Int)(r_:Bool):St:=⟨[(0,.lf (.str p_s)),(17,.i_ (p_s.size:Int)),(18,.i_ v0),(36,.b_ r_)],[]⟩
theorem O6{p_s:ByteArray}{r0:Bool}{v0:Int}{r_:Bool}(h:Nr p_s r0 v0=some r_):aS Tryz.f153 0 [1,1,0,1,0,0,1,1,0,0,1,0] [10,11,12,13,14,15] (qo p_s v0 r_) ⟨[(0,.lf (.str p_s)),(3,.i_ v0),(17,.i_ (p_s.size:Int)),(18,.i_ v0),(30,.b_ r0)],[]⟩:=
 aQ aG (AX p_s r0 v0) (qo p_s v0) (by kernel_rfl) h
noncomputable def AY(p_s:ByteArray):(Int)→Mo ((Int)⊕(Unit⊕Unit)):=fun(v0)=>
 .ite (decide ((v0:Int)<(p_s.size:Int))) (fun c0=>
 .say [.br true] (ok1 c0)<|
 .ask (Nq p_s v0) fun r0 h0=>
 .say [.sg_ 6 10 [0,3,17,18] 0 (qm p_s v0 r0)] (ok1 (O5 h0))<|
 .ask (Nr p_s r0 v0) fun r1 h1=>
 .say [.sg_ 6 6 [0,3,17,18,30] 0 (qo p_s v0 r1)] (ok1 (O6 h1))<|
 .ite (r1) (fun _=>.stop) fun c1=>
 .say [.br false] (ok1 c1)<|
 .ret ⟨[],[0,17,18],[],0⟩ (.inl (IntKind.wrap .i64 (v0+1)))) fun c0=>
 .say [.br false] (ok1 c0)<|
 .ret ⟨[],[],[],0⟩ (.inr (.inr (())))
noncomputable def Ns(p_s:ByteArray)(v0:Int):Option (Unit⊕Unit):=dF (fun v_=>(AY p_s v_).den) FU (v0)
noncomputable def AZ(p_s:ByteArray):(Int)→St:=fun(v0)=>⟨[(0,.lf (.str p_s)),(17,.i_ (p_s.size:Int)),(18,.i_ v0)],[]⟩
noncomputable def qp(r_:Unit⊕Unit):Exit:=match r_ with
 |.inl o_=>.ret
 |.inr (o_)=>.exit 0
noncomputable def qw  (r_:Unit⊕Unit):St:=match r_ with
 |.inl o_=>⟨[(2,.b_ false)],[]⟩
 |.inr (o_)=>⟨[],[]⟩
theorem O7{p_s:ByteArray}{v0:Int}{r_:Unit⊕Unit}(h:Ns p_s v0=some r_):bQ Tryz.f153 0 [1,1,0,1,0] (qp r_) (qw r_) (AZ p_s (v0)):=
 bU aG (body:=(Code.sub (bodyC Tryz.f153) [1,1,0,1,0,0])) (by kernel_rfl) (AY p_s) (AZ p_s) qp qw (fun r_=>by rcases r_ with _|_<;>rfl) (fun v_=>by kernel_rfl) h
noncomputable def abk(p_s:ByteArray):Mo (Bool):=
 .ask (VP p_s) fun r0 h0=>
 .say [.sg_ 1 7 [0] 0 (wW p_s r0)] (ok1 (VQ h0))<|
 .ask (VT p_s r0) fun r1 h1=>
 .say [.sg_ 1 5 [0,10] 0 (wX p_s r1)] (ok1 (VU h1))<|
 .ite (r1) (fun _=>.stop) fun c0=>
 .say [.br false] (ok1 c0)<|
 .ask2 (Ns p_s 0) (fun _ _=>.stop) fun o0 h2=>
 .say [.pt_ 0 [0,17,18] 0 (qp (.inr (o0))) (qw (.inr (o0)))] (ok1 (O7 h2))<|
 .ret (cZ 1) (true)
noncomputable def Q12(p_s:ByteArray):Option (Bool):=Mo.den (abk p_s)
theorem adH(p_s:ByteArray)(r:Bool)(h:Q12 p_s=some r):Fn Tryz.prog GI 153 [.lf (.str p_s)] (.b_ r):=
 dK aG Tryz.func153 (by kernel_rfl) (by kernel_rfl) (by kernel_rfl) (abk p_s) (fun r=>[.b_ r]) (by kernel_rfl) h
structure RB8 where
 m1:(p_p:aJ)→(p_level:Int)→(p_b0:Int)→Option (Bool×Int)
 ok1:∀(p_p:aJ) (p_level:Int) (p_b0:Int) (r:Bool×Int),m1 p_p p_level p_b0=some r→FnH Tryz.prog GI 225 [.dat (aJ.lf1 p_p),.i_ p_level,.ptr 0 0] [.box 3 (.dat [(.int .i64 p_b0)])] (.b_ r.1) [.box 3 (.dat [(.int .i64 r.2)])]
structure afx where
 m1:(p_e:aO)→(p_level:Int)→(p_b0:Int)→Option (Int×Int)
 ok1:∀(p_e:aO) (p_level:Int) (p_b0:Int) (r:Int×Int),m1 p_e p_level p_b0=some r→FnH Tryz.prog GI 304 [.dat (aO.lf1 p_e),.i_ p_level,.ptr 0 0] [.box 3 (.dat [(.int .i64 p_b0)])] (.i_ r.1) [.box 3 (.dat [(.int .i64 r.2)])]
end
end Go.Proofs.YtpdlghcgekojlaaGreatDoor
set_option linter.unusedSimpArgs false
set_option linter.unusedVariables false
namespace Go.Proofs.YtpdlghcgekojlaaGreatDoor
open Go.RowKit
set_option maxRecDepth 20000
set_option maxHeartbeats 4000000
noncomputable section
structure RB9 where
 m1:(p_p:aJ)→(p_inside:Bool)→Option (Int)
 ok1:∀(p_p:aJ) (p_inside:Bool) (r:Int),m1 p_p p_inside=some r→Fn Tryz.prog GI 226 [.dat (aJ.lf1 p_p),.b_ p_inside] (.i_ r)
noncomputable def Hz(p_v:ah):Mo (Bool):=
 .ite (p_v.aK==0) (fun c0=>
 .say [.gd 8003 true] (ok1 c0)<|
 .ret ⟨[],[3,4,15],[],1⟩ (p_v.fB==0)) fun _=>.stop
noncomputable def VW(p_v:ah):Option (Bool):=Mo.den (Hz p_v)
noncomputable def wY(p_v:ah)(r_:Bool):St:=⟨[(3,.ptr 0 0),(4,.b_ false),(15,.b_ r_)],[.box 40 (.dat (ah.lf1 p_v))]⟩
theorem VX{p_v:ah}{r_:Bool}(h:VW p_v=some r_):aS Tryz.f277 0 [1,1,0] [0,1,2,3,4,5,6,7] (wY p_v r_) ⟨[(3,.ptr 0 0),(4,.b_ false)],[.box 40 (.dat (ah.lf1 p_v))]⟩:=
 aQ aG (Hz p_v) (wY p_v) (by kernel_rfl) h
noncomputable def HY(p_v:ah)(r0:Bool):Mo (Bool):=
 .ite (r0) (fun c0=>
 .say [.gd 8008 true] (ok1 c0)<|
 .ret ⟨[],[3,4,20],[],1⟩ (decide ((p_v.fText:ByteArray)=(⟨#[]⟩:ByteArray)))) fun _=>.stop
noncomputable def VY(p_v:ah)(r0:Bool):Option (Bool):=Mo.den (HY p_v r0)
noncomputable def wZ(p_v:ah)(r_:Bool):St:=⟨[(3,.ptr 0 0),(4,.b_ false),(20,.b_ r_)],[.box 40 (.dat (ah.lf1 p_v))]⟩
theorem VZ{p_v:ah}{r0:Bool}{r_:Bool}(h:VY p_v r0=some r_):aS Tryz.f277 0 [1,1,0] [8,9,10,11,12] (wZ p_v r_) ⟨[(3,.ptr 0 0),(4,.b_ false),(15,.b_ r0)],[.box 40 (.dat (ah.lf1 p_v))]⟩:=
 aQ aG (HY p_v r0) (wZ p_v) (by kernel_rfl) h
noncomputable def A8(p_v:ah)(r0:Bool):Mo (Bool):=
 .ite (r0) (fun c0=>
 .say [.gd 8013 true,.num p_v.dL.length] (okc c0 (okc (ln_ p_v.dL ah.lf) ok0))<|
 .ret ⟨[],[3,4,26],[],1⟩ ((p_v.dL.length:Int)==0)) fun _=>.stop
noncomputable def Nu(p_v:ah)(r0:Bool):Option (Bool):=Mo.den (A8 p_v r0)
noncomputable def qx(p_v:ah)(r_:Bool):St:=⟨[(3,.ptr 0 0),(4,.b_ false),(26,.b_ r_)],[.box 40 (.dat (ah.lf1 p_v))]⟩
theorem O8{p_v:ah}{r0:Bool}{r_:Bool}(h:Nu p_v r0=some r_):aS Tryz.f277 0 [1,1,0] [13,14,15,16,17,18] (qx p_v r_) ⟨[(3,.ptr 0 0),(4,.b_ false),(20,.b_ r0)],[.box 40 (.dat (ah.lf1 p_v))]⟩:=
 aQ aG (A8 p_v r0) (qx p_v) (by kernel_rfl) h
noncomputable def Ba(p_v:ah)(r0:Bool):Mo (Bool):=
 .ite (r0) (fun c0=>
 .say [.gd 8019 true,.num p_v.bI.length] (okc c0 (okc (ln_ p_v.bI aF.lf) ok0))<|
 .ret ⟨[.kill 0],[4,32],[],1⟩ ((p_v.bI.length:Int)==0)) fun _=>.stop
noncomputable def Nv(p_v:ah)(r0:Bool):Option (Bool):=Mo.den (Ba p_v r0)
noncomputable def qy  (r_:Bool):St:=⟨[(4,.b_ false),(32,.b_ r_)],[.dead]⟩
theorem O9{p_v:ah}{r0:Bool}{r_:Bool}(h:Nv p_v r0=some r_):aS Tryz.f277 0 [1,1,0] [19,20,21,22,23,24] (qy r_) ⟨[(3,.ptr 0 0),(4,.b_ false),(26,.b_ r0)],[.box 40 (.dat (ah.lf1 p_v))]⟩:=
 aQ aG (Ba p_v r0) qy (by kernel_rfl) h
noncomputable def Bc(r0:Bool):Mo (Unit):=
 .ret ⟨[],[4],[],1⟩ ()
noncomputable def Nw(r0:Bool):Option (Unit):=Mo.den (Bc r0)
noncomputable def qA(r0:Bool)(r_:Unit):St:=⟨[(4,.b_ r0)],[.dead]⟩
theorem Pe{r0:Bool}{r_:Unit}(h:Nw r0=some r_):aS Tryz.f277 0 [1,1,0] [25] (qA r0 r_) ⟨[(4,.b_ false),(32,.b_ r0)],[.dead]⟩:=
 aQ aG (Bc r0) (qA r0) (by kernel_rfl) h
noncomputable def abl(p_has:Bool)(p_v:ah):Mo (Bool):=
 .ite (p_has) (fun _=>.stop) fun c0=>
 .say [.br false] (ok1 c0)<|
 .ask (VW p_v) fun r0 h0=>
 .say [.sg_ 3 8 [3,4] 1 (wY p_v r0)] (ok1 (VX h0))<|
 .ask (VY p_v r0) fun r1 h1=>
 .say [.sg_ 3 5 [3,4,15] 1 (wZ p_v r1)] (ok1 (VZ h1))<|
 .ask (Nu p_v r1) fun r2 h2=>
 .say [.sg_ 3 6 [3,4,20] 1 (qx p_v r2)] (ok1 (O8 h2))<|
 .ask (Nv p_v r2) fun r3 h3=>
 .say [.sg_ 3 6 [3,4,26] 1 (qy r3)] (ok1 (O9 h3))<|
 .ask (Nw r3) fun r4 h4=>
 .say [.sg_ 3 1 [4,32] 1 (qA r3 r4)] (ok1 (Pe h4))<|
 .ret (cZ 1) (r3)
noncomputable def Q18(p_has:Bool)(p_v:ah):Option (Bool):=Mo.den (abl p_has p_v)
theorem V3(p_has:Bool)(p_v:ah)(r:Bool)(h:Q18 p_has p_v=some r):Fn Tryz.prog GI 277 [.b_ p_has,.dat (ah.lf1 p_v)] (.b_ r):=
 dK aG Tryz.func277 (by kernel_rfl) (by kernel_rfl) (by kernel_rfl) (abl p_has p_v) (fun r=>[.b_ r]) (by kernel_rfl) h
noncomputable def Ny(p_s:aj):(Int×(List (ByteArray×Bool)))→Mo ((Int×(List (ByteArray×Bool)))⊕(Unit⊕Unit)):=fun(v0,m5081)=>
 .ite (decide ((v0:Int)<(p_s.bT.length:Int))) (fun _=>.stop) fun c0=>
 .say [.br false] (ok1 c0)<|
 .ret ⟨[.kill 1],[1],[],2⟩ (.inr (.inr (())))
noncomputable def abm(p_s:aj)(v0:Int)(m5081:List (ByteArray×Bool)):Option (Unit⊕Unit):=dF (fun v_=>(Ny p_s v_).den) FU (v0,m5081)
noncomputable def Nz(p_s:aj):(Int×(List (ByteArray×Bool)))→St:=fun(v0,m5081)=>⟨[(1,.ptr 0 0),(3,.mp 1),(13,.lf (.rows 1 (p_s.bT.map lfS))),(14,.i_ (p_s.bT.length:Int)),(15,.i_ v0)],[.box 46 (.dat (aj.lf1 p_s)),.map Tryz.prog 9 4 (m5081.map mvB)]⟩
noncomputable def Dk(r_:Unit⊕Unit):Exit:=match r_ with
 |.inl o_=>.ret
 |.inr (o_)=>.exit 0
noncomputable def Dl(p_s:aj)(r_:Unit⊕Unit):St:=match r_ with
 |.inl o_=>⟨[(2,.i_ 9)],[.dead,.dead]⟩
 |.inr (o_)=>⟨[(1,.ptr 0 0)],[.box 46 (.dat (aj.lf1 p_s)),.dead]⟩
theorem Z9{p_s:aj}{v0:Int}{m5081:List (ByteArray×Bool)}{r_:Unit⊕Unit}(h:abm p_s v0 m5081=some r_):bQ Tryz.f246 0 [1,1,0,1,0] (Dk r_) (Dl p_s r_) (Nz p_s (v0,m5081)):=
 bU aG (body:=(Code.sub (bodyC Tryz.f246) [1,1,0,1,0,0])) (by kernel_rfl) (Ny p_s) (Nz p_s) Dk (Dl p_s) (fun r_=>by rcases r_ with _|_<;>rfl) (fun v_=>by kernel_rfl) h
noncomputable def H6(p_s:aj):(Int×(List (ByteArray×Bool)))→Mo ((Int×(List (ByteArray×Bool)))⊕(Unit⊕Unit)):=fun(v0,m5155)=>
 .ite (decide ((v0:Int)<(p_s.dD.length:Int))) (fun _=>.stop) fun c0=>
 .say [.br false] (ok1 c0)<|
 .ret ⟨[.kill 2],[1],[],3⟩ (.inr (.inr (())))
noncomputable def V4(p_s:aj)(v0:Int)(m5155:List (ByteArray×Bool)):Option (Unit⊕Unit):=dF (fun v_=>(H6 p_s v_).den) FU (v0,m5155)
noncomputable def H7(p_s:aj):(Int×(List (ByteArray×Bool)))→St:=fun(v0,m5155)=>⟨[(1,.ptr 0 0),(6,.mp 2),(32,.lf (.rows 22 (p_s.dD.map bC.lf))),(33,.i_ (p_s.dD.length:Int)),(34,.i_ v0)],[.box 46 (.dat (aj.lf1 p_s)),.dead,.map Tryz.prog 9 4 (m5155.map mvB)]⟩
noncomputable def xg(r_:Unit⊕Unit):Exit:=match r_ with
 |.inl o_=>.ret
 |.inr (o_)=>.exit 2
noncomputable def xk(p_s:aj)(r_:Unit⊕Unit):St:=match r_ with
 |.inl o_=>⟨[(2,.i_ 9)],[.dead,.dead,.dead]⟩
 |.inr (o_)=>⟨[(1,.ptr 0 0)],[.box 46 (.dat (aj.lf1 p_s)),.dead,.dead]⟩
theorem V5{p_s:aj}{v0:Int}{m5155:List (ByteArray×Bool)}{r_:Unit⊕Unit}(h:V4 p_s v0 m5155=some r_):bQ Tryz.f246 0 [1,1,1,1,0,1,0] (xg r_) (xk p_s r_) (H7 p_s (v0,m5155)):=
 bU aG (body:=(Code.sub (bodyC Tryz.f246) [1,1,1,1,0,1,0,0])) (by kernel_rfl) (H6 p_s) (H7 p_s) xg (xk p_s) (fun r_=>by rcases r_ with _|_<;>rfl) (fun v_=>by kernel_rfl) h
noncomputable def H8(p_s:aj):Mo (Bool):=
 .ite ((gW .andNot .i64 p_s.iy 4094) != 0) (fun _=>.stop) fun c0=>
 .say [.gd 36004 false] (ok1 c0)<|
 .ret ⟨[],[1,60],[],3⟩ (decide ((p_s.fU:Int)<0))
noncomputable def V6(p_s:aj):Option (Bool):=Mo.den (H8 p_s)
noncomputable def xq(p_s:aj)(r_:Bool):St:=⟨[(1,.ptr 0 0),(60,.b_ r_)],[.box 46 (.dat (aj.lf1 p_s)),.dead,.dead]⟩
theorem V7{p_s:aj}{r_:Bool}(h:V6 p_s=some r_):aS Tryz.f246 0 [1,1,1,1,1,0,0] [0,1,2,3,4,5,6,7,8] (xq p_s r_) ⟨[(1,.ptr 0 0)],[.box 46 (.dat (aj.lf1 p_s)),.dead,.dead]⟩:=
 aQ aG (H8 p_s) (xq p_s) (by kernel_rfl) h
noncomputable def H9(p_s:aj)(r0:Bool):Mo (Bool):=
 .ite (r0) (fun _=>.stop) fun c0=>
 .say [.gd 36009 false] (ok1 c0)<|
 .ret ⟨[],[1,65],[],3⟩ (decide ((p_s.gB:Int)<(-1)))
noncomputable def V8(p_s:aj)(r0:Bool):Option (Bool):=Mo.den (H9 p_s r0)
noncomputable def xu(p_s:aj)(r_:Bool):St:=⟨[(1,.ptr 0 0),(65,.b_ r_)],[.box 46 (.dat (aj.lf1 p_s)),.dead,.dead]⟩
theorem V9{p_s:aj}{r0:Bool}{r_:Bool}(h:V8 p_s r0=some r_):aS Tryz.f246 0 [1,1,1,1,1,0,0] [9,10,11,12,13] (xu p_s r_) ⟨[(1,.ptr 0 0),(60,.b_ r0)],[.box 46 (.dat (aj.lf1 p_s)),.dead,.dead]⟩:=
 aQ aG (H9 p_s r0) (xu p_s) (by kernel_rfl) h
noncomputable def Ia(p_s:aj)(r0:Bool):Mo (Bool):=
 .ite (r0) (fun _=>.stop) fun c0=>
 .say [.gd 36014 false,.num p_s.dI.length] (okc c0 (okc (ln_ p_s.dI aj.lf) ok0))<|
 .ret ⟨[],[1,71],[],3⟩ (decide ((1:Int)<(p_s.dI.length:Int)))
noncomputable def Wh(p_s:aj)(r0:Bool):Option (Bool):=Mo.den (Ia p_s r0)
noncomputable def xw(p_s:aj)(r_:Bool):St:=⟨[(1,.ptr 0 0),(71,.b_ r_)],[.box 46 (.dat (aj.lf1 p_s)),.dead,.dead]⟩
theorem Wi{p_s:aj}{r0:Bool}{r_:Bool}(h:Wh p_s r0=some r_):aS Tryz.f246 0 [1,1,1,1,1,0,0] [14,15,16,17,18,19] (xw p_s r_) ⟨[(1,.ptr 0 0),(65,.b_ r0)],[.box 46 (.dat (aj.lf1 p_s)),.dead,.dead]⟩:=
 aQ aG (Ia p_s r0) (xw p_s) (by kernel_rfl) h
noncomputable def Ib(p_s:aj):Mo (Bool):=
 .ask (Q18 p_s.fP p_s.iR) fun r0 h0=>
 .say [.res (.b_ r0)] (ok1 (V3 _ _ _ h0))<|
 .ite (!r0) (fun _=>.stop) fun c0=>
 .say [.gd 40006 false] (ok1 c0)<|
 .ask (Q18 p_s.fQ p_s.iT) fun r1 h1=>
 .say [.res (.b_ r1)] (ok1 (V3 _ _ _ h1))<|
 .ret ⟨[],[1,85],[],3⟩ (!r1)
noncomputable def Wj(p_s:aj):Option (Bool):=Mo.den (Ib p_s)
noncomputable def xA(p_s:aj)(r_:Bool):St:=⟨[(1,.ptr 0 0),(85,.b_ r_)],[.box 46 (.dat (aj.lf1 p_s)),.dead,.dead]⟩
theorem Wn{p_s:aj}{r_:Bool}(h:Wj p_s=some r_):bQ Tryz.f246 0 [1,1,1,1,1,1,0,0] (.normal) (xA p_s r_) ⟨[(1,.ptr 0 0)],[.box 46 (.dat (aj.lf1 p_s)),.dead,.dead]⟩:=
 bM aG (Ib p_s) (fun _=>.normal) (xA p_s) (by kernel_rfl) h
noncomputable def Ic(p_s:aj):(Int)→Mo ((Int)⊕(Unit⊕Unit)):=fun(v0)=>
 .ite (decide ((v0:Int)<(p_s.gY.length:Int))) (fun _=>.stop) fun c0=>
 .say [.br false] (ok1 c0)<|
 .ret ⟨[],[],[],3⟩ (.inr (.inr (())))
noncomputable def Wp(p_s:aj)(v0:Int):Option (Unit⊕Unit):=dF (fun v_=>(Ic p_s v_).den) FU (v0)
noncomputable def Ie(p_s:aj):(Int)→St:=fun(v0)=>⟨[(87,.lf (.rows 5 (p_s.gY.map ah.lf))),(88,.i_ (p_s.gY.length:Int)),(89,.i_ v0)],[.dead,.dead,.dead]⟩
noncomputable def xB(r_:Unit⊕Unit):Exit:=match r_ with
 |.inl o_=>.ret
 |.inr (o_)=>.exit 4
noncomputable def ny  (r_:Unit⊕Unit):St:=match r_ with
 |.inl o_=>⟨[(2,.i_ 8)],[.dead,.dead,.dead]⟩
 |.inr (o_)=>⟨[],[.dead,.dead,.dead]⟩
theorem Wq{p_s:aj}{v0:Int}{r_:Unit⊕Unit}(h:Wp p_s v0=some r_):bQ Tryz.f246 0 [1,1,1,1,1,1,1,0,1,0] (xB r_) (ny r_) (Ie p_s (v0)):=
 bU aG (body:=(Code.sub (bodyC Tryz.f246) [1,1,1,1,1,1,1,0,1,0,0])) (by kernel_rfl) (Ic p_s) (Ie p_s) xB ny (fun r_=>by rcases r_ with _|_<;>rfl) (fun v_=>by kernel_rfl) h
noncomputable def aeX(p_s:aj):Mo (Int):=
 .say [.num p_s.bT.length] (okc (ln_ p_s.bT lfS) ok0)<|
 .ask2 (abm p_s 0 ([]:List (ByteArray×Bool))) (fun _ _=>.stop) fun o0 h0=>
 .say [.pt_ 0 [1,3,13,14,15] 2 (Dk (.inr (o0))) (Dl p_s (.inr (o0))),.num p_s.dD.length] (okc (Z9 h0) (okc (ln_ p_s.dD bC.lf) ok0))<|
 .ask2 (V4 p_s 0 ([]:List (ByteArray×Bool))) (fun _ _=>.stop) fun o1 h1=>
 .say [.pt_ 0 [1,6,32,33,34] 3 (xg (.inr (o1))) (xk p_s (.inr (o1)))] (ok1 (V5 h1))<|
 .ask (V6 p_s) fun r0 h2=>
 .say [.sg_ 17 9 [1] 3 (xq p_s r0)] (ok1 (V7 h2))<|
 .ask (V8 p_s r0) fun r1 h3=>
 .say [.sg_ 17 5 [1,60] 3 (xu p_s r1)] (ok1 (V9 h3))<|
 .ask (Wh p_s r1) fun r2 h4=>
 .say [.sg_ 17 6 [1,65] 3 (xw p_s r2)] (ok1 (Wi h4))<|
 .ite (r2) (fun _=>.stop) fun c0=>
 .say [.br false] (ok1 c0)<|
 .ask (Wj p_s) fun r3 h5=>
 .say [.pt_ 45 [1] 3 (.normal) (xA p_s r3)] (ok1 (Wn h5))<|
 .ite (r3) (fun _=>.stop) fun c1=>
 .say [.br false,.num p_s.gY.length] (okc c1 (okc (ln_ p_s.gY ah.lf) ok0))<|
 .ask2 (Wp p_s 0) (fun _ _=>.stop) fun o2 h6=>
 .say [.part [.kill 0] 0 [87,88,89] 3 (xB (.inr (o2))) (ny (.inr (o2))).T (ny (.inr (o2))).H] (ok1 (Wq h6))<|
 .ret (cZ 1) (0)
noncomputable def Q8(p_s:aj):Option (Int):=Mo.den (aeX p_s)
theorem aeY(p_s:aj)(r:Int)(h:Q8 p_s=some r):Fn Tryz.prog GI 246 [.dat (aj.lf1 p_s)] (.i_ r):=
 dK aG Tryz.func246 (by kernel_rfl) (by kernel_rfl) (by kernel_rfl) (aeX p_s) (fun r=>[.i_ r]) (by kernel_rfl) h
structure nC where
 m1:(p_s:aj)→(p_level:Int)→(p_b0:Int)→Option (Int×Int)
 ok1:∀(p_s:aj) (p_level:Int) (p_b0:Int) (r:Int×Int),m1 p_s p_level p_b0=some r→FnH Tryz.prog GI 211 [.dat (aj.lf1 p_s),.i_ p_level,.ptr 0 0] [.box 3 (.dat [(.int .i64 p_b0)])] (.i_ r.1) [.box 3 (.dat [(.int .i64 r.2)])]
noncomputable def Ig(R_:nC)(p_b0:Int)(p_level:Int)(p_s:aj):Mo (Bool):=
 .ite (decide ((16:Int)<p_level)) (fun _=>.stop) fun c0=>
 .say [.gd 4002 false] (ok1 c0)<|
 .ret ⟨[],[1,2,3,21],[],2⟩ (p_b0==64)
noncomputable def Ws(R_:nC)(p_b0:Int)(p_level:Int)(p_s:aj):Option (Bool):=Mo.den (Ig R_ p_b0 p_level p_s)
noncomputable def xC(p_b0:Int)(p_level:Int)(p_s:aj)(r_:Bool):St:=⟨[(1,.i_ p_level),(2,.ptr 0 0),(3,.ptr 1 0),(21,.b_ r_)],[.box 3 (.dat [(.int .i64 p_b0)]),.box 46 (.dat (aj.lf1 p_s))]⟩
theorem Wu{R_:nC}{p_b0:Int}{p_level:Int}{p_s:aj}{r_:Bool}(h:Ws R_ p_b0 p_level p_s=some r_):bQ Tryz.f211 1 [1,0,0] (.normal) (xC p_b0 p_level p_s r_) ⟨[(1,.i_ p_level),(2,.ptr 0 0),(3,.ptr 1 0)],[.box 3 (.dat [(.int .i64 p_b0)]),.box 46 (.dat (aj.lf1 p_s))]⟩:=
 bM aG (Ig R_ p_b0 p_level p_s) (fun _=>.normal) (xC p_b0 p_level p_s) (by kernel_rfl) h
noncomputable def Ih(R_:nC)(p_level:Int)(p_s:aj):(Int×Int)→Mo ((Int×Int)⊕(Int×Int)⊕(Int)):=fun(v0,v1)=>
 .ite (decide ((v0:Int)<(p_s.dD.length:Int))) (fun _=>.stop) fun c0=>
 .say [.br false] (ok1 c0)<|
 .ret ⟨[],[1,2,3],[],2⟩ (.inr (.inr (v1)))
noncomputable def Wv(R_:nC)(p_level:Int)(p_s:aj)(v0:Int)(v1:Int):Option ((Int×Int)⊕(Int)):=dF (fun v_=>(Ih R_ p_level p_s v_).den) FU (v0,v1)
noncomputable def Ii(R_:nC)(p_level:Int)(p_s:aj):(Int×Int)→St:=fun(v0,v1)=>⟨[(1,.i_ p_level),(2,.ptr 0 0),(3,.ptr 1 0),(33,.lf (.rows 22 (p_s.dD.map bC.lf))),(34,.i_ (p_s.dD.length:Int)),(35,.i_ v0)],[.box 3 (.dat [(.int .i64 v1)]),.box 46 (.dat (aj.lf1 p_s))]⟩
noncomputable def xE(r_:(Int×Int)⊕(Int)):Exit:=match r_ with
 |.inl o_=>.ret
 |.inr (o_)=>.exit 0
noncomputable def xG(p_level:Int)(p_s:aj)(r_:(Int×Int)⊕(Int)):St:=match r_ with
 |.inl o_=>⟨[(6,.i_ o_.1)],[.box 3 (.dat [(.int .i64 o_.2)]),.dead]⟩
 |.inr (o_)=>⟨[(1,.i_ p_level),(2,.ptr 0 0),(3,.ptr 1 0)],[.box 3 (.dat [(.int .i64 o_)]),.box 46 (.dat (aj.lf1 p_s))]⟩
theorem Wx{R_:nC}{p_level:Int}{p_s:aj}{v0:Int}{v1:Int}{r_:(Int×Int)⊕(Int)}(h:Wv R_ p_level p_s v0 v1=some r_):bQ Tryz.f211 1 [1,1,1,1,0,1,0] (xE r_) (xG p_level p_s r_) (Ii R_ p_level p_s (v0,v1)):=
 bU aG (body:=(Code.sub (bodyC Tryz.f211) [1,1,1,1,0,1,0,0])) (by kernel_rfl) (Ih R_ p_level p_s) (Ii R_ p_level p_s) xE (xG p_level p_s) (fun r_=>by rcases r_ with _|_<;>rfl) (fun v_=>by kernel_rfl) h
noncomputable def Bd(R_:nC)(p_level:Int)(p_s:aj):(Int×Int)→Mo ((Int×Int)⊕(Int×Int)⊕(Int)):=fun(v0,v1)=>
 .ite (decide ((v0:Int)<(p_s.dI.length:Int))) (fun _=>.stop) fun c0=>
 .say [.br false] (ok1 c0)<|
 .ret ⟨[],[],[],2⟩ (.inr (.inr (v1)))
noncomputable def NC(R_:nC)(p_level:Int)(p_s:aj)(v0:Int)(v1:Int):Option ((Int×Int)⊕(Int)):=dF (fun v_=>(Bd R_ p_level p_s v_).den) FU (v0,v1)
noncomputable def Bf(R_:nC)(p_level:Int)(p_s:aj):(Int×Int)→St:=fun(v0,v1)=>⟨[(1,.i_ p_level),(2,.ptr 0 0),(50,.lf (.rows 21 (p_s.dI.map aj.lf))),(51,.i_ (p_s.dI.length:Int)),(52,.i_ v0)],[.box 3 (.dat [(.int .i64 v1)]),.dead]⟩
noncomputable def qB(r_:(Int×Int)⊕(Int)):Exit:=match r_ with
 |.inl o_=>.ret
 |.inr (o_)=>.exit 2
noncomputable def kY  (r_:(Int×Int)⊕(Int)):St:=match r_ with
 |.inl o_=>⟨[(6,.i_ o_.1)],[.box 3 (.dat [(.int .i64 o_.2)]),.dead]⟩
 |.inr (o_)=>⟨[],[.box 3 (.dat [(.int .i64 o_)]),.dead]⟩
theorem Pg{R_:nC}{p_level:Int}{p_s:aj}{v0:Int}{v1:Int}{r_:(Int×Int)⊕(Int)}(h:NC R_ p_level p_s v0 v1=some r_):bQ Tryz.f211 1 [1,1,1,1,1,0,1,0] (qB r_) (kY r_) (Bf R_ p_level p_s (v0,v1)):=
 bU aG (body:=(Code.sub (bodyC Tryz.f211) [1,1,1,1,1,0,1,0,0])) (by kernel_rfl) (Bd R_ p_level p_s) (Bf R_ p_level p_s) qB kY (fun r_=>by rcases r_ with _|_<;>rfl) (fun v_=>by kernel_rfl) h
noncomputable def Wy(R_:nC)(p_s:aj)(p_level:Int)(p_b0:Int):Mo (Int×Int):=
 .ask (Ws R_ p_b0 p_level p_s) fun r0 h0=>
 .say [.pt_ 9 [1,2,3] 2 (.normal) (xC p_b0 p_level p_s r0)] (ok1 (Wu h0))<|
 .ite (r0) (fun _=>.stop) fun c0=>
 .say [.br false] (ok1 c0)<|
 .ask (Q8 p_s) fun r1 h1=>
 .say [.res (.i_ r1)] (ok1 (aeY _ _ h1))<|
 .ite (r1 != 0) (fun _=>.stop) fun c1=>
 .say [.br false,.num p_s.dD.length] (okc c1 (okc (ln_ p_s.dD bC.lf) ok0))<|
 .ask2 (Wv R_ p_level p_s 0 (IntKind.wrap .i64 (p_b0+1))) (fun _ _=>.stop) fun o0 h2=>
 .say [.pt_ 0 [1,2,3,33,34,35] 2 (xE (.inr (o0))) (xG p_level p_s (.inr (o0))),.num p_s.dI.length] (okc (Wx h2) (okc (ln_ p_s.dI aj.lf) ok0))<|
 .ask2 (NC R_ p_level p_s 0 o0) (fun _ _=>.stop) fun o1 h3=>
 .say [.part [.kill 1] 0 [1,2,50,51,52] 2 (qB (.inr (o1))) (kY (.inr (o1))).T (kY (.inr (o1))).H] (ok1 (Pg h3))<|
 .ret ⟨[],[0],[],1⟩ (0,o1)
theorem aac(R_:nC)(p_s:aj)(p_level:Int)(p_b0:Int)(r:Int×Int)(h:Mo.den (Wy R_ p_s p_level p_b0)=some r):FnH Tryz.prog GI 211 [.dat (aj.lf1 p_s),.i_ p_level,.ptr 0 0] [.box 3 (.dat [(.int .i64 p_b0)])] (.i_ r.1) [.box 3 (.dat [(.int .i64 r.2)])]:=
 dh aG Tryz.func211 (by kernel_rfl) (by kernel_rfl) (by kernel_rfl) (Wy R_ p_s p_level p_b0) (fun r=>[.i_ r.1]) (fun r=>[.box 3 (.dat [(.int .i64 r.2)])]) (by kernel_rfl) h
noncomputable def Dn:Nat→nC
 |0=>{ m1:=fun p_s p_level p_b0=>none,ok1:=fun _ _ _ _ h=>(by cases h) }
 |n_+1=>{ m1:=fun p_s p_level p_b0=>Mo.den (Wy (Dn n_) p_s p_level p_b0),ok1:=fun p_s p_level p_b0 r h=>aac (Dn n_) p_s p_level p_b0 r h }
noncomputable def Q21(p_s:aj)(p_level:Int)(p_b0:Int):Option (Int×Int):=(Dn FU).m1 p_s p_level p_b0
theorem adI(p_s:aj)(p_level:Int)(p_b0:Int)(r:Int×Int)(h:Q21 p_s p_level p_b0=some r):FnH Tryz.prog GI 211 [.dat (aj.lf1 p_s),.i_ p_level,.ptr 0 0] [.box 3 (.dat [(.int .i64 p_b0)])] (.i_ r.1) [.box 3 (.dat [(.int .i64 r.2)])]:=(Dn FU).ok1 p_s p_level p_b0 r h
noncomputable def abn(p_s:aj):Mo (Int):=
 .ask (Q21 p_s 1 0) fun r0 h0=>
 .say [.dP [1] (.i_ r0.1) [.box 3 (.dat [(.int .i64 r0.2)])]] (ok1 (adI _ _ _ _ h0))<|
 .ret (cZ 1) (r0.1)
noncomputable def Q86(p_s:aj):Option (Int):=Mo.den (abn p_s)
theorem adJ(p_s:aj)(r:Int)(h:Q86 p_s=some r):Fn Tryz.prog GI 155 [.dat (aj.lf1 p_s)] (.i_ r):=
 dK aG Tryz.func155 (by kernel_rfl) (by kernel_rfl) (by kernel_rfl) (abn p_s) (fun r=>[.i_ r]) (by kernel_rfl) h
noncomputable def Ij(p_d:ak):(Int)→Mo ((Int)⊕(Int)⊕Unit):=fun(v0)=>
 .ite (decide ((v0:Int)<(p_d.dJ.length:Int))) (fun _=>.stop) fun c0=>
 .say [.br false] (ok1 c0)<|
 .ret ⟨[],[1],[],1⟩ (.inr (.inr (())))
noncomputable def WA(p_d:ak)(v0:Int):Option ((Int)⊕Unit):=dF (fun v_=>(Ij p_d v_).den) FU (v0)
noncomputable def Ik(p_d:ak):(Int)→St:=fun(v0)=>⟨[(1,.ptr 0 0),(15,.lf (.rows 31 (p_d.dJ.map aP.lf))),(16,.i_ (p_d.dJ.length:Int)),(17,.i_ v0)],[.box 48 (.dat (ak.lf1 p_d))]⟩
noncomputable def xH(r_:(Int)⊕Unit):Exit:=match r_ with
 |.inl o_=>.ret
 |.inr (o_)=>.exit 0
noncomputable def xI(p_d:ak)(r_:(Int)⊕Unit):St:=match r_ with
 |.inl o_=>⟨[(2,.i_ o_)],[.dead]⟩
 |.inr (o_)=>⟨[(1,.ptr 0 0)],[.box 48 (.dat (ak.lf1 p_d))]⟩
theorem WB{p_d:ak}{v0:Int}{r_:(Int)⊕Unit}(h:WA p_d v0=some r_):bQ Tryz.f94 0 [1,1,1,0,1,0] (xH r_) (xI p_d r_) (Ik p_d (v0)):=
 bU aG (body:=(Code.sub (bodyC Tryz.f94) [1,1,1,0,1,0,0])) (by kernel_rfl) (Ij p_d) (Ik p_d) xH (xI p_d) (fun r_=>by rcases r_ with _|_<;>rfl) (fun v_=>by kernel_rfl) h
noncomputable def Il(p_d:ak):Mo (Bool):=
 .ite (decide ((p_d.sS:Int)<0)) (fun _=>.stop) fun c0=>
 .say [.gd 30003 false] (ok1 c0)<|
 .ret ⟨[],[1,43],[],1⟩ (decide ((2:Int)<p_d.sS))
noncomputable def WC(p_d:ak):Option (Bool):=Mo.den (Il p_d)
noncomputable def xJ(p_d:ak)(r_:Bool):St:=⟨[(1,.ptr 0 0),(43,.b_ r_)],[.box 48 (.dat (ak.lf1 p_d))]⟩
theorem WE{p_d:ak}{r_:Bool}(h:WC p_d=some r_):bQ Tryz.f94 0 [1,1,1,1,0,0] (.normal) (xJ p_d r_) ⟨[(1,.ptr 0 0)],[.box 48 (.dat (ak.lf1 p_d))]⟩:=
 bM aG (Il p_d) (fun _=>.normal) (xJ p_d) (by kernel_rfl) h
noncomputable def Bg(p_d:ak):Mo (Bool):=
 .ite (p_d.rH != 0) (fun _=>.stop) fun c0=>
 .say [.gd 34003 false] (ok1 c0)<|
 .ret ⟨[],[1,51],[],1⟩ (false)
noncomputable def ND(p_d:ak):Option (Bool):=Mo.den (Bg p_d)
noncomputable def qC(p_d:ak)(r_:Bool):St:=⟨[(1,.ptr 0 0),(51,.b_ r_)],[.box 48 (.dat (ak.lf1 p_d))]⟩
theorem Ph{p_d:ak}{r_:Bool}(h:ND p_d=some r_):bQ Tryz.f94 0 [1,1,1,1,1,0,0] (.normal) (qC p_d r_) ⟨[(1,.ptr 0 0)],[.box 48 (.dat (ak.lf1 p_d))]⟩:=
 bM aG (Bg p_d) (fun _=>.normal) (qC p_d) (by kernel_rfl) h
noncomputable def abo(p_d:ak):Mo (Int):=
 .ask (Q12 p_d.fName) fun r0 h0=>
 .say [.res (.b_ r0)] (ok1 (adH _ _ h0))<|
 .ite (!r0) (fun _=>.stop) fun c0=>
 .say [.br false,.num p_d.dJ.length] (okc c0 (okc (ln_ p_d.dJ aP.lf) ok0))<|
 .ite (decide ((16:Int)<(p_d.dJ.length:Int))) (fun _=>.stop) fun c1=>
 .say [.br false,.num p_d.dJ.length] (okc c1 (okc (ln_ p_d.dJ aP.lf) ok0))<|
 .ask2 (WA p_d 0) (fun _ _=>.stop) fun o0 h1=>
 .say [.pt_ 0 [1,15,16,17] 1 (xH (.inr (o0))) (xI p_d (.inr (o0)))] (ok1 (WB h1))<|
 .ask (WC p_d) fun r1 h2=>
 .say [.pt_ 35 [1] 1 (.normal) (xJ p_d r1)] (ok1 (WE h2))<|
 .ite (r1) (fun _=>.stop) fun c2=>
 .say [.br false] (ok1 c2)<|
 .ask (ND p_d) fun r2 h3=>
 .say [.pt_ 39 [1] 1 (.normal) (qC p_d r2)] (ok1 (Ph h3))<|
 .ite (r2) (fun _=>.stop) fun c3=>
 .say [.br false] (ok1 c3)<|
 .ask (Q86 p_d.jm) fun r3 h4=>
 .say [.res (.i_ r3)] (ok1 (adJ _ _ h4))<|
 .ret (cZ 1) (r3)
noncomputable def Q25(p_d:ak):Option (Int):=Mo.den (abo p_d)
theorem WG(p_d:ak)(r:Int)(h:Q25 p_d=some r):Fn Tryz.prog GI 94 [.dat (ak.lf1 p_d)] (.i_ r):=
 dK aG Tryz.func94 (by kernel_rfl) (by kernel_rfl) (by kernel_rfl) (abo p_d) (fun r=>[.i_ r]) (by kernel_rfl) h
structure RB2 where
 m1:(p_w:ay)→(p_least:Int)→(p_greatest:Int)→Option (Int)
 ok1:∀(p_w:ay) (p_least:Int) (p_greatest:Int) (r:Int),m1 p_w p_least p_greatest=some r→Fn Tryz.prog GI 70 [.dat (ay.lf1 p_w),.i_ p_least,.i_ p_greatest] (.i_ r)
noncomputable def NG(R_:RB2)(p_greatest:Int)(p_least:Int)(p_w:ay)(r0:aB):Mo (Bool):=
 .ite (decide ((p_w.aK:Int)<p_least)) (fun _=>.stop) fun c0=>
 .say [.gd 6004 false] (ok1 c0)<|
 .ret ⟨[],[2,3,7,24],[],2⟩ (decide ((p_greatest:Int)<p_w.aK))
noncomputable def abp(R_:RB2)(p_greatest:Int)(p_least:Int)(p_w:ay)(r0:aB):Option (Bool):=Mo.den (NG R_ p_greatest p_least p_w r0)
noncomputable def Dp(p_greatest:Int)(p_w:ay)(r0:aB)(r_:Bool):St:=⟨[(2,.i_ p_greatest),(3,.ptr 0 0),(7,.ptr 1 0),(24,.b_ r_)],[.box 64 (.dat (ay.lf1 p_w)),.box 187 (.agg ((aB.lf1 r0).map AV.lf))]⟩
theorem aad{R_:RB2}{p_greatest:Int}{p_least:Int}{p_w:ay}{r0:aB}{r_:Bool}(h:abp R_ p_greatest p_least p_w r0=some r_):aS Tryz.f70 0 [1,1,0,0] [0,1,2,3,4,5,6,7,8,9] (Dp p_greatest p_w r0 r_) ⟨[(1,.i_ p_least),(2,.i_ p_greatest),(3,.ptr 0 0),(7,.ptr 1 0)],[.box 64 (.dat (ay.lf1 p_w)),.box 187 (.agg ((aB.lf1 r0).map AV.lf))]⟩:=
 aQ aG (NG R_ p_greatest p_least p_w r0) (Dp p_greatest p_w r0) (by kernel_rfl) h
noncomputable def NH(R_:RB2)(p_greatest:Int)(p_w:ay)(r0:aB)(r1:Bool):Mo (Bool):=
 .ite (r1) (fun _=>.stop) fun c0=>
 .say [.gd 6010 false] (ok1 c0)<|
 .ask (Q6 p_w) fun r2 h0=>
 .say [.res (.b_ r2)] (ok1 (aeV _ _ h0))<|
 .ret ⟨[],[2,3,7,29],[],2⟩ (!r2)
noncomputable def abq(R_:RB2)(p_greatest:Int)(p_w:ay)(r0:aB)(r1:Bool):Option (Bool):=Mo.den (NH R_ p_greatest p_w r0 r1)
noncomputable def Dq(p_greatest:Int)(p_w:ay)(r0:aB)(r_:Bool):St:=⟨[(2,.i_ p_greatest),(3,.ptr 0 0),(7,.ptr 1 0),(29,.b_ r_)],[.box 64 (.dat (ay.lf1 p_w)),.box 187 (.agg ((aB.lf1 r0).map AV.lf))]⟩
theorem aae{R_:RB2}{p_greatest:Int}{p_w:ay}{r0:aB}{r1:Bool}{r_:Bool}(h:abq R_ p_greatest p_w r0 r1=some r_):aS Tryz.f70 0 [1,1,0,0] [10,11,12,13,14] (Dq p_greatest p_w r0 r_) ⟨[(2,.i_ p_greatest),(3,.ptr 0 0),(7,.ptr 1 0),(24,.b_ r1)],[.box 64 (.dat (ay.lf1 p_w)),.box 187 (.agg ((aB.lf1 r0).map AV.lf))]⟩:=
 aQ aG (NH R_ p_greatest p_w r0 r1) (Dq p_greatest p_w r0) (by kernel_rfl) h
noncomputable def Io(R_:RB2)(p_greatest:Int)(p_w:ay)(r0:aB)(r1:Bool):Mo (Bool):=
 .ite (r1) (fun _=>.stop) fun c0=>
 .say [.gd 6015 false] (ok1 c0)<|
 .ite (r0.ig) (fun _=>.stop) fun c1=>
 .say [.gd 6018 false] (ok1 c1)<|
 .ret ⟨[],[2,3,7,39],[],2⟩ (false)
noncomputable def WH(R_:RB2)(p_greatest:Int)(p_w:ay)(r0:aB)(r1:Bool):Option (Bool):=Mo.den (Io R_ p_greatest p_w r0 r1)
noncomputable def xK(p_greatest:Int)(p_w:ay)(r0:aB)(r_:Bool):St:=⟨[(2,.i_ p_greatest),(3,.ptr 0 0),(7,.ptr 1 0),(39,.b_ r_)],[.box 64 (.dat (ay.lf1 p_w)),.box 187 (.agg ((aB.lf1 r0).map AV.lf))]⟩
theorem WI{R_:RB2}{p_greatest:Int}{p_w:ay}{r0:aB}{r1:Bool}{r_:Bool}(h:WH R_ p_greatest p_w r0 r1=some r_):aS Tryz.f70 0 [1,1,0,0] [15,16,17,18,19,20,21,22,23,24] (xK p_greatest p_w r0 r_) ⟨[(2,.i_ p_greatest),(3,.ptr 0 0),(7,.ptr 1 0),(29,.b_ r1)],[.box 64 (.dat (ay.lf1 p_w)),.box 187 (.agg ((aB.lf1 r0).map AV.lf))]⟩:=
 aQ aG (Io R_ p_greatest p_w r0 r1) (xK p_greatest p_w r0) (by kernel_rfl) h
noncomputable def Ip(R_:RB2)(p_greatest:Int)(p_w:ay)(r0:aB):Mo (Bool):=
 .ite (r0.kD) (fun c0=>
 .say [.gd 14002 true] (ok1 c0)<|
 .ask (Q14 p_w.aT) fun r1 h0=>
 .say [.res (.b_ r1)] (ok1 (Rq _ _ h0))<|
 .ret ⟨[],[2,3,7,51],[],2⟩ (!r1)) fun c0=>
 .say [.gd 14002 false] (ok1 c0)<|
 .ret ⟨[],[2,3,7,51],[],2⟩ (false)
noncomputable def WJ(R_:RB2)(p_greatest:Int)(p_w:ay)(r0:aB):Option (Bool):=Mo.den (Ip R_ p_greatest p_w r0)
noncomputable def xM(p_greatest:Int)(p_w:ay)(r0:aB)(r_:Bool):St:=⟨[(2,.i_ p_greatest),(3,.ptr 0 0),(7,.ptr 1 0),(51,.b_ r_)],[.box 64 (.dat (ay.lf1 p_w)),.box 187 (.agg ((aB.lf1 r0).map AV.lf))]⟩
theorem WL{R_:RB2}{p_greatest:Int}{p_w:ay}{r0:aB}{r_:Bool}(h:WJ R_ p_greatest p_w r0=some r_):aS Tryz.f70 0 [1,1,1,1,0,0] [0,1,2,3,4,5,6,7] (xM p_greatest p_w r0 r_) ⟨[(2,.i_ p_greatest),(3,.ptr 0 0),(7,.ptr 1 0)],[.box 64 (.dat (ay.lf1 p_w)),.box 187 (.agg ((aB.lf1 r0).map AV.lf))]⟩:=
 aQ aG (Ip R_ p_greatest p_w r0) (xM p_greatest p_w r0) (by kernel_rfl) h
noncomputable def Iq(R_:RB2)(p_greatest:Int)(p_w:ay)(r0:aB)(r1:Bool):Mo (Bool):=
 .ite (r1) (fun _=>.stop) fun c0=>
 .say [.gd 14008 false] (ok1 c0)<|
 .ite (r0.Cm) (fun _=>.stop) fun c1=>
 .say [.gd 14011 false] (ok1 c1)<|
 .ret ⟨[],[2,3,7,61],[],2⟩ (false)
noncomputable def WM(R_:RB2)(p_greatest:Int)(p_w:ay)(r0:aB)(r1:Bool):Option (Bool):=Mo.den (Iq R_ p_greatest p_w r0 r1)
noncomputable def xO(p_greatest:Int)(p_w:ay)(r0:aB)(r_:Bool):St:=⟨[(2,.i_ p_greatest),(3,.ptr 0 0),(7,.ptr 1 0),(61,.b_ r_)],[.box 64 (.dat (ay.lf1 p_w)),.box 187 (.agg ((aB.lf1 r0).map AV.lf))]⟩
theorem WO{R_:RB2}{p_greatest:Int}{p_w:ay}{r0:aB}{r1:Bool}{r_:Bool}(h:WM R_ p_greatest p_w r0 r1=some r_):aS Tryz.f70 0 [1,1,1,1,0,0] [8,9,10,11,12,13,14,15,16,17] (xO p_greatest p_w r0 r_) ⟨[(2,.i_ p_greatest),(3,.ptr 0 0),(7,.ptr 1 0),(51,.b_ r1)],[.box 64 (.dat (ay.lf1 p_w)),.box 187 (.agg ((aB.lf1 r0).map AV.lf))]⟩:=
 aQ aG (Iq R_ p_greatest p_w r0 r1) (xO p_greatest p_w r0) (by kernel_rfl) h
noncomputable def Ir(R_:RB2)(p_greatest:Int)(p_w:ay)(r0:aB)(r1:Bool):Mo (Bool):=
 .ite (r1) (fun _=>.stop) fun c0=>
 .say [.gd 14018 false] (ok1 c0)<|
 .ite (r0.fA) (fun _=>.stop) fun c1=>
 .say [.gd 14021 false] (ok1 c1)<|
 .ret ⟨[],[2,3,7,72],[],2⟩ (false)
noncomputable def WQ(R_:RB2)(p_greatest:Int)(p_w:ay)(r0:aB)(r1:Bool):Option (Bool):=Mo.den (Ir R_ p_greatest p_w r0 r1)
noncomputable def xP(p_greatest:Int)(p_w:ay)(r0:aB)(r_:Bool):St:=⟨[(2,.i_ p_greatest),(3,.ptr 0 0),(7,.ptr 1 0),(72,.b_ r_)],[.box 64 (.dat (ay.lf1 p_w)),.box 187 (.agg ((aB.lf1 r0).map AV.lf))]⟩
theorem WR{R_:RB2}{p_greatest:Int}{p_w:ay}{r0:aB}{r1:Bool}{r_:Bool}(h:WQ R_ p_greatest p_w r0 r1=some r_):aS Tryz.f70 0 [1,1,1,1,0,0] [18,19,20,21,22,23,24,25,26,27,28] (xP p_greatest p_w r0 r_) ⟨[(2,.i_ p_greatest),(3,.ptr 0 0),(7,.ptr 1 0),(61,.b_ r1)],[.box 64 (.dat (ay.lf1 p_w)),.box 187 (.agg ((aB.lf1 r0).map AV.lf))]⟩:=
 aQ aG (Ir R_ p_greatest p_w r0 r1) (xP p_greatest p_w r0) (by kernel_rfl) h
noncomputable def Iu(R_:RB2)(p_greatest:Int)(p_w:ay)(r0:aB):Mo (Bool):=
 .ite (r0.dS) (fun _=>.stop) fun c0=>
 .say [.gd 18002 false] (ok1 c0)<|
 .ret ⟨[],[2,3,7,79],[],2⟩ (false)
noncomputable def WS(R_:RB2)(p_greatest:Int)(p_w:ay)(r0:aB):Option (Bool):=Mo.den (Iu R_ p_greatest p_w r0)
noncomputable def xQ(p_greatest:Int)(p_w:ay)(r0:aB)(r_:Bool):St:=⟨[(2,.i_ p_greatest),(3,.ptr 0 0),(7,.ptr 1 0),(79,.b_ r_)],[.box 64 (.dat (ay.lf1 p_w)),.box 187 (.agg ((aB.lf1 r0).map AV.lf))]⟩
theorem WT{R_:RB2}{p_greatest:Int}{p_w:ay}{r0:aB}{r_:Bool}(h:WS R_ p_greatest p_w r0=some r_):aS Tryz.f70 0 [1,1,1,1,1,0,0] [0,1,2,3,4,5,6] (xQ p_greatest p_w r0 r_) ⟨[(2,.i_ p_greatest),(3,.ptr 0 0),(7,.ptr 1 0)],[.box 64 (.dat (ay.lf1 p_w)),.box 187 (.agg ((aB.lf1 r0).map AV.lf))]⟩:=
 aQ aG (Iu R_ p_greatest p_w r0) (xQ p_greatest p_w r0) (by kernel_rfl) h
noncomputable def Iw(R_:RB2)(p_greatest:Int)(p_w:ay)(r0:Bool)(r1:aB):Mo (Bool):=
 .ite (r0) (fun _=>.stop) fun c0=>
 .say [.gd 18007 false] (ok1 c0)<|
 .ite (r1.iU) (fun _=>.stop) fun c1=>
 .say [.gd 18010 false] (ok1 c1)<|
 .ret ⟨[],[2,3,7,89],[],2⟩ (false)
noncomputable def WU(R_:RB2)(p_greatest:Int)(p_w:ay)(r0:Bool)(r1:aB):Option (Bool):=Mo.den (Iw R_ p_greatest p_w r0 r1)
noncomputable def xR(p_greatest:Int)(p_w:ay)(r0:aB)(r_:Bool):St:=⟨[(2,.i_ p_greatest),(3,.ptr 0 0),(7,.ptr 1 0),(89,.b_ r_)],[.box 64 (.dat (ay.lf1 p_w)),.box 187 (.agg ((aB.lf1 r0).map AV.lf))]⟩
theorem WV{R_:RB2}{p_greatest:Int}{p_w:ay}{r0:Bool}{r1:aB}{r_:Bool}(h:WU R_ p_greatest p_w r0 r1=some r_):aS Tryz.f70 0 [1,1,1,1,1,0,0] [7,8,9,10,11,12,13,14,15,16] (xR p_greatest p_w r1 r_) ⟨[(2,.i_ p_greatest),(3,.ptr 0 0),(7,.ptr 1 0),(79,.b_ r0)],[.box 64 (.dat (ay.lf1 p_w)),.box 187 (.agg ((aB.lf1 r1).map AV.lf))]⟩:=
 aQ aG (Iw R_ p_greatest p_w r0 r1) (xR p_greatest p_w r1) (by kernel_rfl) h
noncomputable def Iy(R_:RB2)(p_greatest:Int)(p_w:ay)(r0:aB):Mo ((Int)⊕Unit):=
 .ite (r0.Cj) (fun c0=>
 .say [.br true] (ok1 c0)<|
 .ask (Q45 p_w) fun r1 h0=>
 .say [.res (.i_ r1)] (ok1 (adG _ _ h0))<|
 .ite (r1 != 0) (fun _=>.stop) fun c1=>
 .say [.br false] (ok1 c1)<|
 .ret ⟨[],[2,3],[],2⟩ (.inr (()))) fun c0=>
 .say [.br false] (ok1 c0)<|
 .ret ⟨[],[2,3],[],2⟩ (.inr (()))
noncomputable def WW(R_:RB2)(p_greatest:Int)(p_w:ay)(r0:aB):Option ((Int)⊕Unit):=Mo.den (Iy R_ p_greatest p_w r0)
noncomputable def xU(r_:(Int)⊕Unit):Exit:=match r_ with
 |.inl o_=>.ret
 |.inr (o_)=>.normal
noncomputable def nD(p_greatest:Int)(p_w:ay)(r_:(Int)⊕Unit):St:=match r_ with
 |.inl o_=>⟨[(6,.i_ o_)],[.dead,.dead]⟩
 |.inr (o_)=>⟨[(2,.i_ p_greatest),(3,.ptr 0 0)],[.box 64 (.dat (ay.lf1 p_w)),.dead]⟩
theorem WX{R_:RB2}{p_greatest:Int}{p_w:ay}{r0:aB}{r_:(Int)⊕Unit}(h:WW R_ p_greatest p_w r0=some r_):bQ Tryz.f70 0 [1,1,1,1,1,1,0,1] (xU r_) (nD p_greatest p_w r_) ⟨[(2,.i_ p_greatest),(3,.ptr 0 0),(91,.b_ r0.Cj)],[.box 64 (.dat (ay.lf1 p_w)),.dead]⟩:=
 bM aG (Iy R_ p_greatest p_w r0) xU (nD p_greatest p_w) (by kernel_rfl) h
noncomputable def Iz(R_:RB2)(p_greatest:Int)(p_w:ay):Mo ((Int)⊕(Int)):=
 .ite (p_w.aK==4) (fun c0=>
 .say [.br true] (ok1 c0)<|
 .ask (Q25 p_w.kC) fun r0 h0=>
 .say [.res (.i_ r0)] (ok1 (WG _ _ h0))<|
 .ret ⟨[.kill 0],[6],[],2⟩ (.inl (r0))) fun c0=>
 .say [.br false] (ok1 c0)<|
 .ite (p_w.aK==6) (fun _=>.stop) fun c1=>
 .say [.br false] (ok1 c1)<|
 .ite (p_w.aK==8) (fun _=>.stop) fun c2=>
 .say [.br false] (ok1 c2)<|
 .ite (p_w.aK==9) (fun _=>.stop) fun c3=>
 .say [.br false] (ok1 c3)<|
 .ret ⟨[],[2,3],[],2⟩ (.inr (p_greatest))
noncomputable def WY(R_:RB2)(p_greatest:Int)(p_w:ay):Option ((Int)⊕(Int)):=Mo.den (Iz R_ p_greatest p_w)
noncomputable def nG(r_:(Int)⊕(Int)):Exit:=match r_ with
 |.inl o_=>.ret
 |.inr (o_)=>.normal
noncomputable def nH(p_w:ay)(r_:(Int)⊕(Int)):St:=match r_ with
 |.inl o_=>⟨[(6,.i_ o_)],[.dead,.dead]⟩
 |.inr (o_)=>⟨[(2,.i_ o_),(3,.ptr 0 0)],[.box 64 (.dat (ay.lf1 p_w)),.dead]⟩
theorem IB{R_:RB2}{p_greatest:Int}{p_w:ay}{r_:(Int)⊕(Int)}(h:WY R_ p_greatest p_w=some r_):bQ Tryz.f70 0 [1,1,1,1,1,1,1,0,1] (nG r_) (nH p_w r_) ⟨[(2,.i_ p_greatest),(3,.ptr 0 0),(98,.i_ p_w.aK)],[.box 64 (.dat (ay.lf1 p_w)),.dead]⟩:=
 bM aG (Iz R_ p_greatest p_w) nG (nH p_w) (by kernel_rfl) h
noncomputable def IC(R_:RB2)(o0:Int)(p_w:ay):(Int)→Mo ((Int)⊕(Int)⊕Unit):=fun(v0)=>
 .ite (decide ((v0:Int)<(p_w.bY.length:Int))) (fun _=>.stop) fun c0=>
 .say [.br false] (ok1 c0)<|
 .ret ⟨[],[],[],2⟩ (.inr (.inr (())))
noncomputable def WZ(R_:RB2)(o0:Int)(p_w:ay)(v0:Int):Option ((Int)⊕Unit):=dF (fun v_=>(IC R_ o0 p_w v_).den) FU (v0)
noncomputable def IE(R_:RB2)(o0:Int)(p_w:ay):(Int)→St:=fun(v0)=>⟨[(2,.i_ o0),(114,.lf (.rows 78 (p_w.bY.map ay.lf))),(115,.i_ (p_w.bY.length:Int)),(116,.i_ v0)],[.dead,.dead]⟩
noncomputable def xW(r_:(Int)⊕Unit):Exit:=match r_ with
 |.inl o_=>.ret
 |.inr (o_)=>.exit 1
noncomputable def nI  (r_:(Int)⊕Unit):St:=match r_ with
 |.inl o_=>⟨[(6,.i_ o_)],[.dead,.dead]⟩
 |.inr (o_)=>⟨[],[.dead,.dead]⟩
theorem W9{R_:RB2}{o0:Int}{p_w:ay}{v0:Int}{r_:(Int)⊕Unit}(h:WZ R_ o0 p_w v0=some r_):bQ Tryz.f70 0 [1,1,1,1,1,1,1,1,0,1,0] (xW r_) (nI r_) (IE R_ o0 p_w (v0)):=
 bU aG (body:=(Code.sub (bodyC Tryz.f70) [1,1,1,1,1,1,1,1,0,1,0,0])) (by kernel_rfl) (IC R_ o0 p_w) (IE R_ o0 p_w) xW nI (fun r_=>by rcases r_ with _|_<;>rfl) (fun v_=>by kernel_rfl) h
noncomputable def adK(R_:RB2)(p_w:ay)(p_least:Int)(p_greatest:Int):Mo (Int):=
 .ask (Q77 p_w.aK) fun r0 h0=>
 .say [.res (.dat (aB.lf1 r0))] (ok1 (Rt _ _ h0))<|
 .ask (abp R_ p_greatest p_least p_w r0) fun r1 h1=>
 .say [.sg_ 2 10 [1,2,3,7] 2 (Dp p_greatest p_w r0 r1)] (ok1 (aad h1))<|
 .ask (abq R_ p_greatest p_w r0 r1) fun r2 h2=>
 .say [.sg_ 2 5 [2,3,7,24] 2 (Dq p_greatest p_w r0 r2)] (ok1 (aae h2))<|
 .ask (WH R_ p_greatest p_w r0 r2) fun r3 h3=>
 .say [.sg_ 2 10 [2,3,7,29] 2 (xK p_greatest p_w r0 r3)] (ok1 (WI h3))<|
 .ite (r3) (fun _=>.stop) fun c0=>
 .say [.br false,.num p_w.bY.length] (okc c0 (okc (ln_ p_w.bY ay.lf) ok0))<|
 .ite (decide ((256:Int)<(p_w.bY.length:Int))) (fun _=>.stop) fun c1=>
 .say [.br false] (ok1 c1)<|
 .ask (WJ R_ p_greatest p_w r0) fun r4 h4=>
 .say [.sg_ 6 8 [2,3,7] 2 (xM p_greatest p_w r0 r4)] (ok1 (WL h4))<|
 .ask (WM R_ p_greatest p_w r0 r4) fun r5 h5=>
 .say [.sg_ 6 10 [2,3,7,51] 2 (xO p_greatest p_w r0 r5)] (ok1 (WO h5))<|
 .ask (WQ R_ p_greatest p_w r0 r5) fun r6 h6=>
 .say [.sg_ 6 11 [2,3,7,61] 2 (xP p_greatest p_w r0 r6)] (ok1 (WR h6))<|
 .ite (r6) (fun _=>.stop) fun c2=>
 .say [.br false] (ok1 c2)<|
 .ask (WS R_ p_greatest p_w r0) fun r7 h7=>
 .say [.sg_ 8 7 [2,3,7] 2 (xQ p_greatest p_w r0 r7)] (ok1 (WT h7))<|
 .ask (WU R_ p_greatest p_w r7 r0) fun r8 h8=>
 .say [.sg_ 8 10 [2,3,7,79] 2 (xR p_greatest p_w r0 r8)] (ok1 (WV h8))<|
 .ite (r8) (fun _=>.stop) fun c3=>
 .say [.br false] (ok1 c3)<|
 .ask2 (WW R_ p_greatest p_w r0) (fun _ _=>.stop) fun o0 h9=>
 .say [.part [.kill 1] 1 [2,3,91] 2 (xU (.inr (o0))) (nD p_greatest p_w (.inr (o0))).T (nD p_greatest p_w (.inr (o0))).H] (ok1 (WX h9))<|
 .ask2 (WY R_ p_greatest p_w) (fun o1 h10=>
 .say [.pt_ 6 [2,3,98] 2 (nG (.inl o1)) (nH p_w (.inl o1))] (ok1 (IB h10))<|
 .ret (cZ 1) (o1)) fun o2 h10=>
 .say [.pt_ 6 [2,3,98] 2 (nG (.inr (o2))) (nH p_w (.inr (o2))),.num p_w.bY.length] (okc (IB h10) (okc (ln_ p_w.bY ay.lf) ok0))<|
 .ask2 (WZ R_ o2 p_w 0) (fun _ _=>.stop) fun o3 h11=>
 .say [.part [.kill 0] 0 [2,114,115,116] 2 (xW (.inr (o3))) (nI (.inr (o3))).T (nI (.inr (o3))).H] (ok1 (W9 h11))<|
 .ret (cZ 1) (0)
theorem adL(R_:RB2)(p_w:ay)(p_least:Int)(p_greatest:Int)(r:Int)(h:Mo.den (adK R_ p_w p_least p_greatest)=some r):Fn Tryz.prog GI 70 [.dat (ay.lf1 p_w),.i_ p_least,.i_ p_greatest] (.i_ r):=
 dK aG Tryz.func70 (by kernel_rfl) (by kernel_rfl) (by kernel_rfl) (adK R_ p_w p_least p_greatest) (fun r=>[.i_ r]) (by kernel_rfl) h
noncomputable def NI:Nat→RB2
 |0=>{ m1:=fun p_w p_least p_greatest=>none,ok1:=fun _ _ _ _ h=>(by cases h) }
 |n_+1=>{ m1:=fun p_w p_least p_greatest=>Mo.den (adK (NI n_) p_w p_least p_greatest),ok1:=fun p_w p_least p_greatest r h=>adL (NI n_) p_w p_least p_greatest r h }
noncomputable def Q2(p_w:ay)(p_least:Int)(p_greatest:Int):Option (Int):=(NI FU).m1 p_w p_least p_greatest
theorem aeZ(p_w:ay)(p_least:Int)(p_greatest:Int)(r:Int)(h:Q2 p_w p_least p_greatest=some r):Fn Tryz.prog GI 70 [.dat (ay.lf1 p_w),.i_ p_least,.i_ p_greatest] (.i_ r):=(NI FU).ok1 p_w p_least p_greatest r h
noncomputable def IG(p_e:aZ):Mo (Bool):=
 .ite (decide ((p_e.bP:Int)<1)) (fun _=>.stop) fun c0=>
 .say [.gd 8003 false] (ok1 c0)<|
 .ret ⟨[],[1,13],[],1⟩ (decide ((1099511627776:Int)<p_e.bP))
noncomputable def Xa(p_e:aZ):Option (Bool):=Mo.den (IG p_e)
noncomputable def xX(p_e:aZ)(r_:Bool):St:=⟨[(1,.ptr 0 0),(13,.b_ r_)],[.box 66 (.dat (aZ.lf1 p_e))]⟩
theorem Xb{p_e:aZ}{r_:Bool}(h:Xa p_e=some r_):aS Tryz.f39 0 [1,1,0,0] [0,1,2,3,4,5,6,7] (xX p_e r_) ⟨[(1,.ptr 0 0)],[.box 66 (.dat (aZ.lf1 p_e))]⟩:=
 aQ aG (IG p_e) (xX p_e) (by kernel_rfl) h
noncomputable def II(p_e:aZ)(r0:Bool):Mo (Bool):=
 .ite (r0) (fun _=>.stop) fun c0=>
 .say [.gd 8008 false] (ok1 c0)<|
 .ret ⟨[],[1,18],[],1⟩ (decide ((p_e.jJ:Int)<0))
noncomputable def Xc(p_e:aZ)(r0:Bool):Option (Bool):=Mo.den (II p_e r0)
noncomputable def xY(p_e:aZ)(r_:Bool):St:=⟨[(1,.ptr 0 0),(18,.b_ r_)],[.box 66 (.dat (aZ.lf1 p_e))]⟩
theorem Xd{p_e:aZ}{r0:Bool}{r_:Bool}(h:Xc p_e r0=some r_):aS Tryz.f39 0 [1,1,0,0] [8,9,10,11,12] (xY p_e r_) ⟨[(1,.ptr 0 0),(13,.b_ r0)],[.box 66 (.dat (aZ.lf1 p_e))]⟩:=
 aQ aG (II p_e r0) (xY p_e) (by kernel_rfl) h
noncomputable def Bh(p_e:aZ):Mo (Bool):=
 .ite (!decide ((p_e.eP:ByteArray)=(⟨#[]⟩:ByteArray))) (fun c0=>
 .say [.gd 12003 true] (ok1 c0)<|
 .ask (Q14 p_e.eP) fun r0 h0=>
 .say [.res (.b_ r0)] (ok1 (Rq _ _ h0))<|
 .ret ⟨[],[1,27],[],1⟩ (!r0)) fun c0=>
 .say [.gd 12003 false] (ok1 c0)<|
 .ret ⟨[],[1,27],[],1⟩ (false)
noncomputable def NJ(p_e:aZ):Option (Bool):=Mo.den (Bh p_e)
noncomputable def qE(p_e:aZ)(r_:Bool):St:=⟨[(1,.ptr 0 0),(27,.b_ r_)],[.box 66 (.dat (aZ.lf1 p_e))]⟩
theorem Pj{p_e:aZ}{r_:Bool}(h:NJ p_e=some r_):bQ Tryz.f39 0 [1,1,1,0,0] (.normal) (qE p_e r_) ⟨[(1,.ptr 0 0)],[.box 66 (.dat (aZ.lf1 p_e))]⟩:=
 bM aG (Bh p_e) (fun _=>.normal) (qE p_e) (by kernel_rfl) h
noncomputable def abr(p_e:aZ):Mo (Int):=
 .ite (decide ((p_e.aat:Int)<0)) (fun _=>.stop) fun c0=>
 .say [.br false] (ok1 c0)<|
 .ask (Xa p_e) fun r0 h0=>
 .say [.sg_ 3 8 [1] 1 (xX p_e r0)] (ok1 (Xb h0))<|
 .ask (Xc p_e r0) fun r1 h1=>
 .say [.sg_ 3 5 [1,13] 1 (xY p_e r1)] (ok1 (Xd h1))<|
 .ite (r1) (fun _=>.stop) fun c1=>
 .say [.br false] (ok1 c1)<|
 .ask (NJ p_e) fun r2 h2=>
 .say [.pt_ 17 [1] 1 (.normal) (qE p_e r2)] (ok1 (Pj h2))<|
 .ite (r2) (fun _=>.stop) fun c2=>
 .say [.br false] (ok1 c2)<|
 .ask (Q2 p_e.Kr 1 12) fun r3 h3=>
 .say [.res (.i_ r3)] (ok1 (aeZ _ _ _ _ h3))<|
 .ret (cZ 1) (r3)
noncomputable def Q32(p_e:aZ):Option (Int):=Mo.den (abr p_e)
theorem adM(p_e:aZ)(r:Int)(h:Q32 p_e=some r):Fn Tryz.prog GI 39 [.dat (aZ.lf1 p_e)] (.i_ r):=
 dK aG Tryz.func39 (by kernel_rfl) (by kernel_rfl) (by kernel_rfl) (abr p_e) (fun r=>[.i_ r]) (by kernel_rfl) h
noncomputable def Q93(p_s0:List (ByteArray×au))(r:Unit):List AV:=[.clo 86 [.ptr 1 0]]
noncomputable def abt(p_s0:List (ByteArray×au))(r:Unit):List Slot:=[.res (bD p_s0) none,.box 110 (.agg [.mp 0])]
noncomputable def abu(p_s0:List (ByteArray×au)):Mo (Unit):=
 .ret ⟨[],[0],[],2⟩ ()
noncomputable def Q50(p_s0:List (ByteArray×au)):Option (Unit):=Mo.den (abu p_s0)
theorem adN(p_s0:List (ByteArray×au))(r:Unit)(h:Q50 p_s0=some r):FnH Tryz.prog GI 47 [.mp 0] [.res (bD p_s0) none] (resV (Q93 p_s0 r)) (abt p_s0 r):=
 dh aG Tryz.func47 (by kernel_rfl) (by kernel_rfl) (by kernel_rfl) (abu p_s0) (Q93 p_s0) (abt p_s0) (by kernel_rfl) h
noncomputable def Q96(p_b0_0:Int)(p_b0_1:List ak)(p_s1:aU)(p_s2:List (ByteArray×au))(p_s3:List (ByteArray×aA))(r:List ByteArray):List AV:=[.lf (.rows 1 (r.map lfS))]
noncomputable def abv(p_b0_0:Int)(p_b0_1:List ak)(p_s1:aU)(p_s2:List (ByteArray×au))(p_s3:List (ByteArray×aA))(r:List ByteArray):List Slot:=[.box 113 (.agg [.i_ p_b0_0,.lf (.rows 25 (p_b0_1.map ak.lf)),.mp 1,.mp 2,.mp 3]),.res (aY p_s1 none) none,.res (bD p_s2) none,.res (bF p_s3) none]
noncomputable def abw(p_b0_0:Int)(p_b0_1:List ak)(p_s1:aU)(p_s2:List (ByteArray×au))(p_s3:List (ByteArray×aA)):Mo (List ByteArray):=
 .say [.br false,.dP [2] (.clo 86 [.ptr 1 0]) [.res (bD p_s2) none,.box 110 (.agg [.mp 0])]] (ok1 (rfl:false=false))<|
 .ask (Q50 p_s2) fun r0 h0=>
 .say [] (ok1 (adN _ _ h0))<|
 .ask (ac4 p_s2) fun r1 h1=>
 .say [.dP [4,2] (.own 2) [.box 110 (.agg [.mp 1]),.res (bD p_s2) none,.row 9 1 (r1.map lfS)]] (ok1 (ZB _ _ h1))<|
 .ret ⟨[.frz 5,.kill 4],[0],[],4⟩ (r1)
noncomputable def Q52(p_b0_0:Int)(p_b0_1:List ak)(p_s1:aU)(p_s2:List (ByteArray×au))(p_s3:List (ByteArray×aA)):Option (List ByteArray):=Mo.den (abw p_b0_0 p_b0_1 p_s1 p_s2 p_s3)
theorem adO(p_b0_0:Int)(p_b0_1:List ak)(p_s1:aU)(p_s2:List (ByteArray×au))(p_s3:List (ByteArray×aA))(r:List ByteArray)(h:Q52 p_b0_0 p_b0_1 p_s1 p_s2 p_s3=some r):FnH Tryz.prog GI 21 [.ptr 0 0] [.box 113 (.agg [.i_ p_b0_0,.lf (.rows 25 (p_b0_1.map ak.lf)),.mp 1,.mp 2,.mp 3]),.res (aY p_s1 none) none,.res (bD p_s2) none,.res (bF p_s3) none] (resV (Q96 p_b0_0 p_b0_1 p_s1 p_s2 p_s3 r)) (abv p_b0_0 p_b0_1 p_s1 p_s2 p_s3 r):=
 dh aG Tryz.func21 (by kernel_rfl) (by kernel_rfl) (by kernel_rfl) (abw p_b0_0 p_b0_1 p_s1 p_s2 p_s3) (Q96 p_b0_0 p_b0_1 p_s1 p_s2 p_s3) (abv p_b0_0 p_b0_1 p_s1 p_s2 p_s3) (by kernel_rfl) h
noncomputable def Bj(p_b0_0:Int)(p_b0_1:List ak)(p_key:ah)(p_s1:aU)(p_s2:List (ByteArray×au))(p_s3:List (ByteArray×aA))(p_space:ByteArray)(r0:List ByteArray):(Int)→Mo ((Int)⊕(ByteArray)⊕Unit):=fun(v0)=>
 .ite (decide ((v0:Int)<(r0.length:Int))) (fun _=>.stop) fun c0=>
 .say [.br false] (ok1 c0)<|
 .ret ⟨[.kill 4],[],[],5⟩ (.inr (.inr (())))
noncomputable def NK(p_b0_0:Int)(p_b0_1:List ak)(p_key:ah)(p_s1:aU)(p_s2:List (ByteArray×au))(p_s3:List (ByteArray×aA))(p_space:ByteArray)(r0:List ByteArray)(v0:Int):Option ((ByteArray)⊕Unit):=dF (fun v_=>(Bj p_b0_0 p_b0_1 p_key p_s1 p_s2 p_s3 p_space r0 v_).den) FU (v0)
noncomputable def Bl(p_b0_0:Int)(p_b0_1:List ak)(p_key:ah)(p_s1:aU)(p_s2:List (ByteArray×au))(p_s3:List (ByteArray×aA))(p_space:ByteArray)(r0:List ByteArray):(Int)→St:=fun(v0)=>⟨[(0,.ptr 0 0),(1,.lf (.str p_space)),(5,.ptr 4 0),(14,.lf (.rows 1 (r0.map lfS))),(15,.i_ (r0.length:Int)),(16,.i_ v0)],[.box 113 (.agg [.i_ p_b0_0,.lf (.rows 25 (p_b0_1.map ak.lf)),.mp 1,.mp 2,.mp 3]),.res (aY p_s1 none) none,.res (bD p_s2) none,.res (bF p_s3) none,.box 40 (.dat (ah.lf1 p_key))]⟩
noncomputable def qF(r_:(ByteArray)⊕Unit):Exit:=match r_ with
 |.inl o_=>.ret
 |.inr (o_)=>.exit 0
noncomputable def qG(p_b0_0:Int)(p_b0_1:List ak)(p_s1:aU)(p_s2:List (ByteArray×au))(p_s3:List (ByteArray×aA))(r_:(ByteArray)⊕Unit):St:=match r_ with
 |.inl o_=>⟨[(6,.lf (.str o_))],[.box 113 (.agg [.i_ p_b0_0,.lf (.rows 25 (p_b0_1.map ak.lf)),.mp 1,.mp 2,.mp 3]),.res (aY p_s1 none) none,.res (bD p_s2) none,.res (bF p_s3) none,.dead]⟩
 |.inr (o_)=>⟨[],[.box 113 (.agg [.i_ p_b0_0,.lf (.rows 25 (p_b0_1.map ak.lf)),.mp 1,.mp 2,.mp 3]),.res (aY p_s1 none) none,.res (bD p_s2) none,.res (bF p_s3) none,.dead]⟩
theorem Pm{p_b0_0:Int}{p_b0_1:List ak}{p_key:ah}{p_s1:aU}{p_s2:List (ByteArray×au)}{p_s3:List (ByteArray×aA)}{p_space:ByteArray}{r0:List ByteArray}{v0:Int}{r_:(ByteArray)⊕Unit}(h:NK p_b0_0 p_b0_1 p_key p_s1 p_s2 p_s3 p_space r0 v0=some r_):bQ Tryz.f30 4 [1,1,0,1,0] (qF r_) (qG p_b0_0 p_b0_1 p_s1 p_s2 p_s3 r_) (Bl p_b0_0 p_b0_1 p_key p_s1 p_s2 p_s3 p_space r0 (v0)):=
 bU aG (body:=(Code.sub (bodyC Tryz.f30) [1,1,0,1,0,0])) (by kernel_rfl) (Bj p_b0_0 p_b0_1 p_key p_s1 p_s2 p_s3 p_space r0) (Bl p_b0_0 p_b0_1 p_key p_s1 p_s2 p_s3 p_space r0) qF (qG p_b0_0 p_b0_1 p_s1 p_s2 p_s3) (fun r_=>by rcases r_ with _|_<;>rfl) (fun v_=>by kernel_rfl) h
noncomputable def Q97(p_space:ByteArray)(p_key:ah)(p_b0_0:Int)(p_b0_1:List ak)(p_s1:aU)(p_s2:List (ByteArray×au))(p_s3:List (ByteArray×aA))(r:ByteArray):List AV:=[.lf (.str r)]
noncomputable def abx(p_space:ByteArray)(p_key:ah)(p_b0_0:Int)(p_b0_1:List ak)(p_s1:aU)(p_s2:List (ByteArray×au))(p_s3:List (ByteArray×aA))(r:ByteArray):List Slot:=[.box 113 (.agg [.i_ p_b0_0,.lf (.rows 25 (p_b0_1.map ak.lf)),.mp 1,.mp 2,.mp 3]),.res (aY p_s1 none) none,.res (bD p_s2) none,.res (bF p_s3) none]
noncomputable def aby(p_space:ByteArray)(p_key:ah)(p_b0_0:Int)(p_b0_1:List ak)(p_s1:aU)(p_s2:List (ByteArray×au))(p_s3:List (ByteArray×aA)):Mo (ByteArray):=
 .say [.br false] (ok1 (rfl:false=false))<|
 .ask (Q52 p_b0_0 p_b0_1 p_s1 p_s2 p_s3) fun r0 h0=>
 .say [.dP [0,1,2,3] (.lf (.rows 1 (r0.map lfS))) [.box 113 (.agg [.i_ p_b0_0,.lf (.rows 25 (p_b0_1.map ak.lf)),.mp 1,.mp 2,.mp 3]),.res (aY p_s1 none) none,.res (bD p_s2) none,.res (bF p_s3) none],.num r0.length] (okc (adO _ _ _ _ _ _ h0) (okc (ln_ r0 lfS) ok0))<|
 .ask2 (NK p_b0_0 p_b0_1 p_key p_s1 p_s2 p_s3 p_space r0 0) (fun _ _=>.stop) fun o0 h1=>
 .say [.pt_ 0 [0,1,5,14,15,16] 5 (qF (.inr (o0))) (qG p_b0_0 p_b0_1 p_s1 p_s2 p_s3 (.inr (o0)))] (ok1 (Pm h1))<|
 .ret ⟨[],[0],[],4⟩ ((⟨#[]⟩:ByteArray))
noncomputable def Q29(p_space:ByteArray)(p_key:ah)(p_b0_0:Int)(p_b0_1:List ak)(p_s1:aU)(p_s2:List (ByteArray×au))(p_s3:List (ByteArray×aA)):Option (ByteArray):=Mo.den (aby p_space p_key p_b0_0 p_b0_1 p_s1 p_s2 p_s3)
theorem Xe(p_space:ByteArray)(p_key:ah)(p_b0_0:Int)(p_b0_1:List ak)(p_s1:aU)(p_s2:List (ByteArray×au))(p_s3:List (ByteArray×aA))(r:ByteArray)(h:Q29 p_space p_key p_b0_0 p_b0_1 p_s1 p_s2 p_s3=some r):FnH Tryz.prog GI 30 [.ptr 0 0,.lf (.str p_space),.dat (ah.lf1 p_key)] [.box 113 (.agg [.i_ p_b0_0,.lf (.rows 25 (p_b0_1.map ak.lf)),.mp 1,.mp 2,.mp 3]),.res (aY p_s1 none) none,.res (bD p_s2) none,.res (bF p_s3) none] (resV (Q97 p_space p_key p_b0_0 p_b0_1 p_s1 p_s2 p_s3 r)) (abx p_space p_key p_b0_0 p_b0_1 p_s1 p_s2 p_s3 r):=
 dh aG Tryz.func30 (by kernel_rfl) (by kernel_rfl) (by kernel_rfl) (aby p_space p_key p_b0_0 p_b0_1 p_s1 p_s2 p_s3) (Q97 p_space p_key p_b0_0 p_b0_1 p_s1 p_s2 p_s3) (abx p_space p_key p_b0_0 p_b0_1 p_s1 p_s2 p_s3) (by kernel_rfl) h
noncomputable def abz(p_v:ah):Mo (Bool):=
 .ite (p_v.aK==0) (fun _=>.stop) fun c0=>
 .say [.br false] (ok1 c0)<|
 .ask (Q61 p_v) fun r0 h0=>
 .say [.res (.b_ r0)] (ok1 (Dj _ _ h0))<|
 .ret (cZ 1) (r0)
noncomputable def Q81(p_v:ah):Option (Bool):=Mo.den (abz p_v)
theorem adP(p_v:ah)(r:Bool)(h:Q81 p_v=some r):Fn Tryz.prog GI 149 [.dat (ah.lf1 p_v)] (.b_ r):=
 dK aG Tryz.func149 (by kernel_rfl) (by kernel_rfl) (by kernel_rfl) (abz p_v) (fun r=>[.b_ r]) (by kernel_rfl) h
end
end Go.Proofs.YtpdlghcgekojlaaGreatDoor
