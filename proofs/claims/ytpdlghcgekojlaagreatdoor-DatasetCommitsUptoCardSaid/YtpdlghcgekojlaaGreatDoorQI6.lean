/- The maps of the data, at this program. -/
import Derived.Test.YtpdlghcgekojlaaGreatDoorQIManP
import Derived.Test.YtpdlghcgekojlaaGreatDoorQI3
import Derived.Lib.SliceRun
import Derived.Test.YtpdlghcgekojlaaGreatDoorQILayZ
import Derived.Maps.RangeWalk
import Derived.Shelf.Spec.SlicesInsertGrow
set_option linter.unusedSimpArgs false
set_option linter.unusedVariables false
namespace Go.Proofs.YtpdlghcgekojlaaGreatDoor
open Go.RowKit
abbrev Ver:=aP
abbrev aZ:=RM aP
def bH(d:aZ)(out:Option (Nat×ByteArray)):Rsc:=MM Tryz.prog 9 9 147 6 aP.lf d out
def aji:Rsc:=IM Tryz.prog 9
def bP(l:List (ByteArray×ah)):Rsc:=SM Tryz.prog 9 ah.lf1 l
def bT(l:List (ByteArray×au)):Rsc:=SM Tryz.prog 9 au.lf1 l
theorem O7:LW Tryz.prog 109 139 9 9:=⟨by kernel_rfl,by kernel_rfl,⟨139,by kernel_rfl,congrFun (by kernel_rfl:(zeroValue 139).run Tryz.prog=fun w=>.ok (.map none) w)⟩,⟨145,by kernel_rfl,congrFun (by kernel_rfl:(zeroValue 145).run Tryz.prog=fun w=>.ok (.slice none 0 0) w)⟩⟩
theorem afU:Yk Tryz.prog 110 9 ah.lf1 ah.z:=⟨by kernel_rfl,⟨128,by kernel_rfl,[.int .i64 0,.slice none 0 0],congrFun (by kernel_rfl:(zeroValue 128).run Tryz.prog=fun w=>.ok (.agg #[.int .i64 0,.slice none 0 0]) w),fun I=>⟨_,_,rfl,by unfold LRp;exact⟨rfl,rfl⟩,_,_,rfl,LRp.nil _ _,rfl⟩⟩⟩
theorem alu:Yk Tryz.prog 111 9 au.lf1 au.z:=⟨by kernel_rfl,⟨116,by kernel_rfl,[.int .i64 0,.int .i64 0],congrFun (by kernel_rfl:(zeroValue 116).run Tryz.prog=fun w=>.ok (.agg #[.int .i64 0,.int .i64 0]) w),fun I=>⟨_,_,rfl,by unfold LRp;exact⟨rfl,rfl⟩,_,_,rfl,by unfold LRp;exact⟨rfl,rfl⟩,rfl⟩⟩⟩
section
variable (d:aZ) (s:ByteArray)
theorem L6:OpH Tryz.prog GI (.lk 109 false) [.mp 0,.lf (.str s)] [.res (bH d none) none] (.hnd 0 (aI s d.dir)) [.res (bH d none) none]:=MM.look O7 none
theorem zC:OpH Tryz.prog GI (.lk 109 true) [.mp 0,.lf (.str s)] [.res (bH d none) none] (.tup [.hnd 0 (aI s d.dir),.lf (.bool (aI s d.dir).isSome)]) [.res (bH d none) none]:=MM.Uf O7 none
theorem wC(o:Option Nat):OpH Tryz.prog GI (.lk 139 false) [.hnd 0 o,.lf (.str s)] [.res (bH d none) none] (.own 1) [.res (bH d (outOf o s)) (some 1),.row 147 6 ((d.row o s).map aP.lf)]:=MM.take O7 o
theorem wE(o:Option Nat):GhH [.res (bH d (outOf o s)) (some 1),.row 147 6 ((d.row o s).map aP.lf)] [.res (bH d none) none,.dead]:=MM.back o
theorem L8(o:Option Nat)(j:Nat)(r:List Ver)(h:o=some j)(hl:(d.inner j).length<maxLen):OpH Tryz.prog GI (.up 139) [.hnd 0 o,.lf (.str s),.own 1] [.res (bH d (outOf o s)) none,.row 147 6 (r.map aP.lf)] (.raw undef) [.res (bH (d.put j s r) none) none,.dead]:=by
 subst h;exact MM.putRow O7 hl (.inr rfl)
theorem afV(o:Option Nat)(j:Nat)(h:o=some j):OpH Tryz.prog GI (.del 139 9) [.hnd 0 o,.lf (.str s)] [.res (bH d none) none] (.tup []) [.res (bH (d.del j s) none) none]:=by
 subst h;exact MM.delRow O7
theorem afW(hl:d.dir.length<maxLen):OpH Tryz.prog GI (.up 109) [.mp 0,.lf (.str s),.mp 1] [.res (bH d none) none,.res aji none] (.raw undef) [.res (bH (d.make s) none) none,.dead]:=MM.make O7 hl
theorem afX(o:Option Nat)(j:Nat)(h:o=some j)(hl:d.dir.length<maxLen):OpH Tryz.prog GI (.up 109) [.mp 0,.lf (.str s),.hnd 0 o] [.res (bH d none) none] (.raw undef) [.res (bH (d.link s j) none) none]:=by
 subst h;exact MM.link O7 hl
theorem Wy:OpH Tryz.prog GI (.del 109 9) [.mp 0,.lf (.str s)] [.res (bH d none) none] (.tup []) [.res (bH (d.unlink s) none) none]:=MM.unlink O7
theorem afY:OpH Tryz.prog GI (.mk 109) [] [] (.mp 0) [.res (bH ⟨[],[]⟩ none) none]:=MM.mkO
theorem afZ:OpH Tryz.prog GI (.mk 139) [] [] (.mp 0) [.res aji none]:=MM.mkI
end
section
variable (l:List (ByteArray×ah)) (s:ByteArray)
theorem WA:OpH Tryz.prog GI (.lk 110 false) [.mp 0,.lf (.str s)] [.res (bP l) none] (.dat (ah.lf1 ((aI s l).getD ah.z))) [.res (bP l) none]:=SM.look afU
theorem wF:OpH Tryz.prog GI (.lk 110 true) [.mp 0,.lf (.str s)] [.res (bP l) none] (.tup [.dat (ah.lf1 ((aI s l).getD ah.z)),.lf (.bool (aI s l).isSome)]) [.res (bP l) none]:=SM.Uf afU
theorem af0(x:ah)(hl:l.length<maxLen):OpH Tryz.prog GI (.up 110) [.mp 0,.lf (.str s),.dat (ah.lf1 x)] [.res (bP l) none] (.raw undef) [.res (bP (eF s x l)) none]:=SM.put afU hl
theorem WB:OpH Tryz.prog GI (.del 110 9) [.mp 0,.lf (.str s)] [.res (bP l) none] (.tup []) [.res (bP (dH s l)) none]:=SM.del afU
theorem af2:OpH Tryz.prog GI (.mk 110) [] [] (.mp 0) [.res (bP []) none]:=SM.mk
end
section
variable (l:List (ByteArray×au)) (s:ByteArray)
theorem af4:OpH Tryz.prog GI (.lk 111 false) [.mp 0,.lf (.str s)] [.res (bT l) none] (.dat (au.lf1 ((aI s l).getD au.z))) [.res (bT l) none]:=SM.look alu
theorem af5(x:au)(hl:l.length<maxLen):OpH Tryz.prog GI (.up 111) [.mp 0,.lf (.str s),.dat (au.lf1 x)] [.res (bT l) none] (.raw undef) [.res (bT (eF s x l)) none]:=SM.put alu hl
theorem af6:OpH Tryz.prog GI (.mk 111) [] [] (.mp 0) [.res (bT []) none]:=SM.mk
end
theorem zD{α β γ:Type}{m:Option (α⊕β⊕γ)}{b x:γ}(h:m=some (.inr (.inr b)))(k:some b=some x):m=some (.inr (.inr x)):=by grind
theorem L9(R:Rsc)(ty:TypeId)(n:Nat)(l:List (List Lf)):GhH [.res R (some 1),.row ty n l] [.res R none,.row ty n l]:=by
 intro e C w hM
 refine⟨e,C,⟨Env.le.refl e,Only.refl _ w,fun b o u m1 m2=>(by rw[m2] at m1;cases m1),fun x hx=>.inr ?_⟩,⟨fun b s hs=>?_,fun b s hs=>?_,fun b hb=>hM.bound b hb,fun b b' s s' g h1 h2 m1 m2=>?_,fun b s x hs hx=>?_,hM.inv⟩⟩
 ·obtain⟨b,s,hb,hx⟩:=hx
  rcases fJ hb with⟨rfl,rfl⟩|⟨rfl,rfl⟩
  ·exact⟨0,.res R (some 1),rfl,hx⟩
  exact⟨1,_,rfl,hx⟩
 ·rcases fJ hs with⟨rfl,rfl⟩|⟨rfl,rfl⟩
  ·exact hM.hv 0 (.res R (some 1)) rfl
  exact hM.hv 1 _ rfl
 ·rcases fJ hs with⟨rfl,rfl⟩|⟨rfl,rfl⟩
  ·obtain⟨v,h1,_⟩:=hM.hw 0 (.res R (some 1)) rfl
   exact⟨v,h1,fun _ h=>by cases h⟩
  exact hM.hw 1 _ rfl
 ·have cv:∀b s,([Slot.res R none,.row ty n l]:List Slot)[b]?=some s→∀x,dV e b s x→∃s',([Slot.res R (some 1),.row ty n l]:List Slot)[b]?=some s'∧dV e b s' x:=fun b s hs x hx=>by
   rcases fJ hs with⟨rfl,rfl⟩|⟨rfl,rfl⟩
   ·exact⟨.res R (some 1),rfl,hx⟩
   grind
  obtain⟨t,k1,k2⟩:=cv b s h1 g m1
  obtain⟨t',k3,k4⟩:=cv b' s' h2 g m2
  exact hM.inj b b' t t' g k1 k3 k2 k4
 rcases fJ hs with⟨rfl,rfl⟩|⟨rfl,rfl⟩
 ·exact hM.av 0 (.res R (some 1)) x rfl hx
 exact hM.av 1 _ x rfl hx
theorem af7(r:List Ver)(m:Int)(h0:0≤m)(h1:m≤r.length):OpH Tryz.prog GI (.cut 145) [.own 0,.lf (.int .i64 m)] [.row 147 6 (r.map aP.lf)] (.own 1) [.dead,.row 147 6 ((r.take m.toNat).map aP.lf)]:=by
 rw[List.map_take]
 exact alr (s0:=6) (by kernel_rfl) (by kernel_rfl) h0 (by rw[List.length_map];exact h1)
end Go.Proofs.YtpdlghcgekojlaaGreatDoor
namespace Go.Proofs.YtpdlghcgekojlaaGreatDoor
open Go.RowKit
set_option maxRecDepth 20000 in
set_option maxHeartbeats 4000000 in
theorem Ug(a:Option Addr)(c:Nat)(w:World):Calls Tryz.prog 192 #[.slice a 0 c] w fun e w'=>∃a' c',e=.returned (.slice a' 0 c')∧c'≤maxLen∧Ext w w':=by
 have hq:∀(w:World) (a:Option Addr) (n c n' c':Nat),(binOp .eql 42 (.slice a n c) (.slice none n' c')).run Tryz.prog w=.ok (.bool a.isNone) w:=fun w a n c n' c'=>Lib.run_eql_slice_nil w _ _ a n c n' c' Tryz.underlying42
 cases a with
 |none=>
  go_enter Tryz.func192,Tryz.ntmps192
  go_wp2_with fail
  go_ret
  exact⟨_,_,rfl,Nat.zero_le _,Ext.refl _⟩
 |some ad=>
  go_enter Tryz.func192,Tryz.ntmps192
  go_wp2_with fail
  go_ret
  exact⟨_,_,rfl,by first|exact Nat.zero_le _|omega,by first|exact(Ext.refl _).alloc _|exact Ext.refl _⟩
set_option maxRecDepth 20000 in
set_option maxHeartbeats 4000000 in
theorem Uh(a:Option Addr)(c:Nat)(w:World):Calls Tryz.prog 237 #[.slice a 0 c] w fun e w'=>∃a' c',e=.returned (.slice a' 0 c')∧c'≤maxLen∧Ext w w':=by
 have hq:∀(w:World) (a:Option Addr) (n c n' c':Nat),(binOp .eql 50 (.slice a n c) (.slice none n' c')).run Tryz.prog w=.ok (.bool a.isNone) w:=fun w a n c n' c'=>Lib.run_eql_slice_nil w _ _ a n c n' c' Tryz.underlying50
 cases a with
 |none=>
  go_enter Tryz.func237,Tryz.ntmps237
  go_wp2_with fail
  go_ret
  exact⟨_,_,rfl,Nat.zero_le _,Ext.refl _⟩
 |some ad=>
  go_enter Tryz.func237,Tryz.ntmps237
  go_wp2_with fail
  go_ret
  exact⟨_,_,rfl,by first|exact Nat.zero_le _|omega,by first|exact(Ext.refl _).alloc _|exact Ext.refl _⟩
set_option maxRecDepth 20000 in
set_option maxHeartbeats 4000000 in
noncomputable def Ui(p_x:ByteArray)(p_l:List ByteArray):Mo (List ByteArray):=
 .say [.br false,.rows ((p_x::p_l).map lfS),.at_ 0 0,.frz 1] (okc (rfl:false=false) (okc (by simp[lfS]:(p_x::p_l).map lfS=[]++((p_x::p_l).map lfS)) ok0))<|
 .grd ((([]:List ByteArray).length+(p_x::p_l).length)*16≤140737488355328) fun h1=>
 .say [] (okc (by simpa using h1:(([]:List (List Lf)).length+((p_x::p_l).map lfS).length)*16≤140737488355328) ok0)<|
 .ret (bF 1) ((p_x::p_l))
noncomputable def alv(p_x:ByteArray)(p_l:List ByteArray):Option (List ByteArray):=Mo.den (Ui p_x p_l)
set_option maxRecDepth 20000 in
set_option maxHeartbeats 4000000 in
theorem af8(p_x:ByteArray)(p_l:List ByteArray)(r:List ByteArray)(h:alv p_x p_l=some r):Fn Tryz.prog GI 192 [.lf (.rows 1 ((p_x::p_l).map lfS))] (.lf (.rows 1 (r.map lfS))):=
 ai7 jD Tryz.func192 (by kernel_rfl) (by kernel_rfl) (by kernel_rfl) (Ui p_x p_l) (fun r=>[.lf (.rows 1 (r.map lfS))]) (by kernel_rfl) h
noncomputable def Q78(l:List ByteArray):Option (List ByteArray):=if(0+l.length)*16≤140737488355328 then some l else none
theorem EI(l r:List ByteArray)(h:Q78 l=some r):Fn Tryz.prog GI 192 [.lf (.rows 1 (l.map lfS))] (.lf (.rows 1 (r.map lfS))):=by
 unfold Q78 at h
 split at h
 ·rename_i hb
  injection h with h;subst h
  cases l with
  |cons x l=>exact af8 x l (x::l) (by unfold alv Ui;simp only[Mo.den,aJ];rw[if_pos (by simpa using hb)])
  |nil=>
   refine Fn.of (by kernel_rfl) fun I w vs hG hi hvs=>?_
   obtain⟨v,q,rfl,h1,h2⟩:=VRs.mP hvs
   obtain rfl:=VRs.xk h2
   have h1:=VR.lf.1 h1
   unfold LRp at h1
   obtain⟨a,c,rfl,_,_,_⟩:=h1
   refine(Ug a c w).mono ?_
   rintro e w' ⟨a',c',rfl,hc,he⟩
   exact⟨I,_,rfl,Gr.uF hi he,VR.lf.2 (by unfold LRp;exact⟨a',c',rfl,Nat.zero_le _,hc,fun h=>absurd rfl h⟩)⟩
 cases h
set_option maxRecDepth 20000 in
set_option maxHeartbeats 4000000 in
noncomputable def Uj(p_x:dB)(p_l:List dB):Mo (List dB):=
 .say [.br false,.rows ((p_x::p_l).map dB.lf),.at_ 0 0,.frz 1] (okc (rfl:false=false) (okc (by simp[dB.aY]:(p_x::p_l).map dB.lf=[]++((p_x::p_l).map dB.lf)) ok0))<|
 .grd ((([]:List dB).length+(p_x::p_l).length)*16≤140737488355328) fun h2=>
 .say [] (okc (by simpa using h2:(([]:List (List Lf)).length+((p_x::p_l).map dB.lf).length)*16≤140737488355328) ok0)<|
 .ret (bF 1) ((p_x::p_l))
noncomputable def alx(p_x:dB)(p_l:List dB):Option (List dB):=Mo.den (Uj p_x p_l)
set_option maxRecDepth 20000 in
set_option maxHeartbeats 4000000 in
theorem af9(p_x:dB)(p_l:List dB)(r:List dB)(h:alx p_x p_l=some r):Fn Tryz.prog GI 237 [.lf (.rows 2 ((p_x::p_l).map dB.lf))] (.lf (.rows 2 (r.map dB.lf))):=
 ai7 jD Tryz.func237 (by kernel_rfl) (by kernel_rfl) (by kernel_rfl) (Uj p_x p_l) (fun r=>[.lf (.rows 2 (r.map dB.lf))]) (by kernel_rfl) h
noncomputable def aga(l:List dB):Option (List dB):=if(0+l.length)*16≤140737488355328 then some l else none
theorem agb(l r:List dB)(h:aga l=some r):Fn Tryz.prog GI 237 [.lf (.rows 2 (l.map dB.lf))] (.lf (.rows 2 (r.map dB.lf))):=by
 unfold aga at h
 split at h
 ·rename_i hb
  injection h with h;subst h
  cases l with
  |cons x l=>exact af9 x l (x::l) (by unfold alx Uj;simp only[Mo.den,aJ];rw[if_pos (by simpa using hb)])
  |nil=>
   refine Fn.of (by kernel_rfl) fun I w vs hG hi hvs=>?_
   obtain⟨v,q,rfl,h1,h2⟩:=VRs.mP hvs
   obtain rfl:=VRs.xk h2
   have h1:=VR.lf.1 h1
   unfold LRp at h1
   obtain⟨a,c,rfl,_,_,_⟩:=h1
   refine(Uh a c w).mono ?_
   rintro e w' ⟨a',c',rfl,hc,he⟩
   exact⟨I,_,rfl,Gr.uF hi he,VR.lf.2 (by unfold LRp;exact⟨a',c',rfl,Nat.zero_le _,hc,fun h=>absurd rfl h⟩)⟩
 cases h
end Go.Proofs.YtpdlghcgekojlaaGreatDoor
namespace Go.Proofs.YtpdlghcgekojlaaGreatDoor
open Go.RowKit Go.Maps Go.Sort Go.Shelf
def sV(x y:List UInt8):Bool:=decide (x≤y)
def Ym(x:List UInt8):List (List UInt8)→List (List UInt8)
 |[]=>[x]
 |y::r=>bif sV x y then x::y::r else y::Ym x r
def abq:List (List UInt8)→List (List UInt8)
 |[]=>[]
 |x::r=>Ym x (abq r)
theorem BH(x:List UInt8):∀l,(Ym x l).Perm (x::l)
 |[]=>List.Perm.refl _
 |y::r=>by
  unfold Ym
  cases sV x y
  ·exact((BH x r).cons y).trans (List.Perm.swap x y r)
  rfl
theorem oK:∀l,(abq l).Perm l
 |[]=>List.Perm.refl _
 |x::r=>(BH x _).trans ((oK r).cons x)
theorem EJ(x y:List UInt8):sV x y=true∨sV y x=true:=by
 unfold sV;rw[decide_eq_true_iff,decide_eq_true_iff];exact List.le_total x y
theorem EK{x y z:List UInt8}(h:sV x y=true)(k:sV y z=true):sV x z=true:=by
 unfold sV at *;rw[decide_eq_true_iff] at *;exact List.le_trans h k
theorem IJ{x y:List UInt8}(h:sV x y=true)(k:sV y x=true):x=y:=by
 unfold sV at *;rw[decide_eq_true_iff] at *;exact List.le_antisymm h k
theorem CW(x:List UInt8):∀l,l.Pairwise (fun a b=>sV a b=true)→(Ym x l).Pairwise (fun a b=>sV a b=true)
 |[],_=>List.pairwise_singleton ..
 |y::r,h=>by
  unfold Ym
  have h1:=List.pairwise_cons.1 h
  cases hb:sV x y
  ·refine List.pairwise_cons.2 ⟨fun z hz=>?_,CW x r h1.2⟩
   have hz:=(BH x r).mem_iff.1 hz
   rcases List.mem_cons.1 hz with rfl|hz
   ·exact(EJ y z).resolve_right (by rw[hb];decide)
   grind
  exact List.pairwise_cons.2 ⟨fun z hz=>by
   rcases List.mem_cons.1 hz with rfl|hz
   ·exact hb
   exact EK hb (h1.1 z hz),h⟩
theorem uU:∀l,(abq l).Pairwise (fun a b=>sV a b=true)
 |[]=>List.Pairwise.nil
 |x::r=>CW x _ (uU r)
theorem Uk{l ks:List (List UInt8)}(h:l.Perm ks):(l.mergeSort fun x y=>decide (x≤y))=abq ks:=by
 refine List.Perm.eq_of_pairwise (le:=fun a b=>sV a b=true) (fun a b _ _ h k=>IJ h k) ?_ (uU ks) ((List.mergeSort_perm l _).trans (h.trans (oK ks).symm))
 exact List.pairwise_mergeSort (le:=fun x y=>decide (x≤y)) (fun a b c h k=>EK h k) (fun a b=>by rw[Bool.or_eq_true];exact EJ a b) l
def Ul(l:List (List UInt8)):List ByteArray:=l.map fun x=>⟨x.toArray⟩
def EL(l:List ByteArray):List (List UInt8):=l.map fun b=>b.data.toList
theorem Pe(l:List ByteArray):(EL l).length=l.length:=List.length_map ..
theorem abr(l:List (List UInt8)):(Ul l).length=l.length:=List.length_map ..
theorem abt(l:List (List UInt8)):(Ul l).map Value.string=l.map encStr:=by unfold Ul;rw[List.map_map];rfl
def kR(l:List ByteArray):List ByteArray:=Ul (abq (EL l))
theorem zG(l:List ByteArray):(kR l).length=l.length:=by unfold kR;rw[abr,(oK _).length_eq,Pe]
theorem Pg{l:List ByteArray}{b:ByteArray}(hb:b∈kR l):b∈l:=by
 unfold kR Ul at hb
 obtain⟨x,hx,rfl⟩:=List.mem_map.1 hb
 have hx:=(oK _).mem_iff.1 hx
 obtain⟨y,hy,rfl⟩:=List.mem_map.1 hx
 omega
theorem WE{I:Gh}:∀{l:List ByteArray},(∀b∈l,b.size≤maxLen)→bV I (l.map lfS).flatten (l.map Value.string)
 |[],_=>rfl
 |x::r,h=>⟨_,_,rfl,by unfold LRp;exact⟨rfl,h x (List.mem_cons_self ..)⟩,WE fun b hb=>h b (List.mem_cons_of_mem _ hb)⟩
theorem addRow{e:Env}{C:Nat→List Value}{H:List Slot}{w w':World}(hM:mY e C H w)(hB:Ext w w'){ty:TypeId}{n:Nat}{v:Value}{l:List (List Lf)}{cs:List Value}(hr:w'.ownsRow w.heap.size ty n v l.length cs)(hv:bV e.I l.flatten cs)(hn:∀r∈l,r.length=n)(hl:l.length≤maxLen)
 (hs:(v=.slice none 0 0∧l=[])∨∃g c,v=.slice (some ⟨g,0,none⟩) l.length c):∃e' C',GrH e H e' (H++[.row ty n l]) w w'∧mY e' C' (H++[.row ty n l]) w'∧VR e' (.own H.length) v∧e'.I=e.I:=by
 have nk:∀b,e.ok b→b≠H.length:=fun b hb=>Nat.ne_of_lt (hM.bound b hb)
 have hle:e.le ⟨fun b=>b=H.length∨e.ok b,e.m,fun b=>if b=H.length then v else e.sv b,e.I,e.im,e.fp⟩:=
  ⟨fun _ h=>.inr h,fun _ _=>rfl,fun b hb=>if_neg (nk b hb),Le.refl _,fun _ _ _ _ h=>h⟩
 have hat:∀(b:Nat) (s:Slot),(H++[.row ty n l])[b]?=some s→H[b]?=some s∧b≠H.length∨b=H.length∧s=.row ty n l:=fun b s h=>by
  grind
 have hbk:∀b s g,b≠H.length→(dV (⟨fun b=>b=H.length∨e.ok b,e.m,fun b=>if b=H.length then v else e.sv b,e.I,e.im,e.fp⟩:Env) b s g↔dV e b s g):=fun b s g hb=>by
  cases s<;>simp only[dV,if_neg hb]
 have hnew:∀g,dV (⟨fun b=>b=H.length∨e.ok b,e.m,fun b=>if b=H.length then v else e.sv b,e.I,e.im,e.fp⟩:Env) H.length (.row ty n l) g→v.ownBlock=some g:=fun g h=>by
  simpa only[dV,if_true] using h
 have hlo:∀g,v.ownBlock=some g→w.heap.size≤g:=fun g hg=>(World.ownsRow.lt hr g hg).1
 refine⟨⟨fun b=>b=H.length∨e.ok b,e.m,fun b=>if b=H.length then v else e.sv b,e.I,e.im,e.fp⟩,fun b=>if b=H.length then cs else C b,⟨hle,Only.IE _ hB,fun b o u m1 m2=>(by rw[m2] at m1;cases m1),fun x hx=>?_⟩,⟨fun b s hs'=>?_,fun b s hs'=>?_,fun b hb=>?_,fun b b' s s' g h1 h2 m1 m2=>?_,fun b s x hs' hx=>?_,hM.inv.ext hB⟩,?_,rfl⟩
 ·obtain⟨b,s,hb,hx⟩:=hx
  rcases hat b s hb with⟨hb,hne⟩|⟨rfl,rfl⟩
  ·exact .inr ⟨b,s,hb,(hbk b s x hne).1 hx⟩
  grind
 ·rcases hat b s hs' with⟨hb,hne⟩|⟨rfl,rfl⟩
  ·have k:=hM.hv b s hb
   cases s with
   |free=>exact fun h=>h.elim hne k
   |_=>exact rW hle (C:=C) (if_neg hne) (by simp) k
  refine⟨.inl rfl,?_,hn,hl,?_⟩
  all_goals grind
 ·rcases hat b s hs' with⟨hb,hne⟩|⟨rfl,rfl⟩
  ·have k:=qM (hM.hw b s hb) (w':=w') fun g hg=>hB.block g (Il (hM.hw b s hb) hg)
   have hsv:∀b',e.ok b'→(if b'=H.length then v else e.sv b')=e.sv b':=fun b' hb'=>if_neg (nk b' hb')
   cases s with
   |res R lk=>obtain⟨u,h1,h2⟩:=k;exact⟨u,h1,fun b' hb'=>⟨.inr (h2 b' hb').1,(hsv b' (h2 b' hb').1).trans (h2 b' hb').2⟩⟩
   |box ty cs=>show w'.heap[e.m b]?=some (.cells (if b=H.length then _ else C b).toArray _ _);rw[if_neg hne];exact k
   |row ty n l=>show w'.ownsRow 0 _ _ (if b=H.length then _ else e.sv b) _ (if b=H.length then _ else C b);rw[if_neg hne,if_neg hne];exact k
   |map P k' et l=>exact k
   |dead=>trivial
   |free=>trivial
  show w'.ownsRow 0 ty n (if H.length=H.length then v else _) l.length (if H.length=H.length then cs else _)
  rw[if_pos rfl,if_pos rfl]
  exact ownsRow_base_a hr (Nat.zero_le _)
 ·show b<(H++[_]).length
  rw[List.length_append]
  rcases hb with rfl|hb
  ·simp
  have:=hM.bound b hb;simp;omega
 ·rcases hat b s h1 with⟨k1,hne⟩|⟨rfl,rfl⟩<;>rcases hat b' s' h2 with⟨k2,hne'⟩|⟨rfl,rfl⟩
  ·exact hM.inj b b' s s' g k1 k2 ((hbk b s g hne).1 m1) ((hbk b' s' g hne').1 m2)
  ·have q1:=Il (hM.hw b s k1) ((hbk b s g hne).1 m1)
   grind
  ·have q1:=Il (hM.hw b' s' k2) ((hbk b' s' g hne').1 m2)
   grind
  rfl
 ·rcases hat b s hs' with⟨hb,hne⟩|⟨rfl,rfl⟩
  ·exact hM.av b s x hb ((hbk b s x hne).1 hx)
  exact hM.inv.av (hlo x (hnew x hx))
 unfold VR
 grind
theorem ajj(m:Nat):AnyZ.SortsIn Tryz.prog Tryz.xY Fence.wide m:=
 ⟨fun blk off cap ss W hH hblk hsz=>callsIn_wide.2 (AnyM.slices_Sort_string Tryz.WC blk off cap ss W hH hblk hsz),
  fun p cap W=>callsIn_wide.2 (AnyM.slices_Sort_string_none Tryz.WC p cap W)⟩
theorem Um(g:Nat)(lb:Array Value)(eg:∀args w,(callFunc g args).run Tryz.prog w=.ok (.enter g args) w)(ks:List ByteArray)(hmax:ks.length≤maxLen)(hb:ks.length*16≤140737488355328)(w:World)
 (hseq:SeqGives Fence.wide 2 Tryz.prog g lb encStr (fun ss=>ss.Perm (EL ks)) ks.length w):
 Calls Tryz.prog 46 #[.func (.func g) #[] lb] w fun e w'=>∃v,e=.returned v∧w'.ownsRow w.heap.size 9 1 v ks.length ((kR ks).map Value.string)∧Ext w w':=by
 refine(callsIn_wide (n:=5)).1 ?_
 have cS:=AnyZ.sorted_in Tryz.Yl Fence.wide 5 trivial trivial trivial trivial rfl (by omega) (ajj _) (enters_of Tryz.func85 (by kernel_rfl) rfl) g lb trivial eg _ _ hmax hb w hseq
 refine CallsIn.mono cS ?_
 rintro e w' ⟨v,ss,rfl,hS,hrow,hnil,hbl⟩
 refine⟨v,rfl,?_,hbl⟩
 rw[Uk hS] at hrow
 rw[hS.length_eq,Pe] at hrow
 unfold kR
 rw[abt]
 exact hrow
theorem Un{base:Nat}{w:World}{ty:TypeId}{v:Value}{n:Nat}{xs:List Value}{l:List (List Lf)}(h:w.ownsRow base ty 1 v n xs)(hl:l.length=n):(v=.slice none 0 0∧l=[])∨∃g c,v=.slice (some ⟨g,0,none⟩) l.length c:=by
 subst hl
 rcases h.2 with⟨h1,h2⟩|⟨g,cap,cur,h1,_⟩
 all_goals grind
theorem Mc{KF bt:Nat}{mv:AV}{H:List Slot}(ks:List ByteArray)(eg:∀args w,(callFunc KF args).run Tryz.prog w=.ok (.enter KF args) w)(hb:ks.length*16≤140737488355328)
 (h:∀e C w x,mY e C (.box bt (.agg [mv])::H) w→VR e mv x→(∀b∈ks,b.size≤maxLen)∧ks.length≤maxLen∧(w.cell? ⟨e.m 0,0,none⟩=some x→e.m 0<w.heap.size→SeqGives Fence.wide 2 Tryz.prog KF #[.pointer (some ⟨e.m 0,0,none⟩)] encStr (fun ss=>ss.Perm (EL ks)) ks.length w)):
 FnH Tryz.prog GI 46 [.clo KF [.ptr 0 0]] (.box bt (.agg [mv])::H) (.own (H.length+1)) (.box bt (.agg [mv])::H++[.row 9 1 ((kR ks).map lfS)]):=by
 refine⟨by kernel_rfl,fun e C w vs hG hM hvs=>?_⟩
 obtain⟨v,q,rfl,hv,hq⟩:=VRs.mP hvs
 obtain rfl:=VRs.xk hq
 obtain⟨cs,rfl,hcs⟩:=VR.clo.1 hv
 obtain⟨p,q,rfl,hp,hq⟩:=VRs.mP hcs
 obtain rfl:=VRs.xk hq
 obtain⟨h0,rfl⟩:e.ok 0∧p=.pointer (some ⟨e.m 0,0 ,none⟩):=by unfold VR at hp;exact hp
 have hbx:w.heap[e.m 0]?=some (.cells (C 0).toArray bt (0,0)):=hM.hw 0 _ rfl
 obtain⟨_,hc⟩:=hM.hv 0 (.box bt (.agg [mv])) rfl
 obtain⟨ds,hds,hq⟩:=VR.agg.1 hc
 obtain⟨x,r,rfl,hx,hr⟩:=VRs.mP hq
 obtain rfl:=VRs.xk hr
 have hC:C 0=[x]:=by injection hds with hds;have:=congrArg Array.toList hds;simpa using this
 have hcell:w.cell? ⟨e.m 0,0,none⟩=some x:=by
  unfold World.cell?
  grind
 obtain⟨hk,hl,hs⟩:=h e C w x hM hx
 have hseq:=hs hcell (Array.getElem?_eq_some_iff.1 hbx).1
 refine(Um KF _ eg ks hl hb w hseq).mono ?_
 rintro en w' ⟨v,rfl,hrow,hE⟩
 have hlen:((kR ks).map lfS).length=ks.length:=by rw[List.length_map,zG]
 obtain⟨e',C',k1,k2,k3,_⟩:=addRow hM hE (ty:=9) (n:=1) (v:=v) (l:=(kR ks).map lfS) (cs:=(kR ks).map Value.string) (by rw[hlen];exact hrow) (WE fun b hb=>hk b (Pg hb)) (fun r hr=>by obtain⟨x,_,rfl⟩:=List.mem_map.1 hr;rfl) (by rw[hlen];exact hl) (Un hrow hlen)
 grind
theorem zH(l:List (ByteArray×Value)):strKeys (.map (mJ l))=EL (l.map fun p=>p.1):=by
 show(mJ l).map (fun p=>strOf p.1)=_
 unfold mJ EL
 rw[List.map_map,List.map_map]
 rfl
theorem IK(l:List (ByteArray×Value)):Maps.size (.map (mJ l))=(l.map fun p=>p.1).length:=by
 simp[Maps.size,mJ]
theorem Ph{α:Type}(l:List (ByteArray×α))(f:ByteArray×α→Value):(l.map fun p=>(p.1,f p)).map (fun p:ByteArray×Value=>p.1)=l.map fun p=>p.1:=by
 simp
noncomputable def agc(l:List (ByteArray×ah)):Option (List ByteArray):=if l.length≤maxLen∧l.length*16≤140737488355328 then some (kR (l.map fun p=>p.1)) else none
set_option maxRecDepth 20000 in
theorem agd(l:List (ByteArray×ah))(r:List ByteArray)(h:agc l=some r):FnH Tryz.prog GI 46 [.clo 86 [.ptr 0 0]] [.box 110 (.agg [.mp 1]),.res (bP l) none] (.own 2) [.box 110 (.agg [.mp 1]),.res (bP l) none,.row 9 1 (r.map lfS)]:=by
 unfold agc at h
 split at h
 ·rename_i hb
  injection h with h;subst h
  refine Mc (H:=[.res (bP l) none]) _ (enters_of Tryz.func86 (by kernel_rfl) rfl) (by rw[List.length_map];exact hb.2) fun e C w x hM hx=>?_
  obtain⟨v,⟨vs,hA,hB,hF⟩,_⟩:=hM.hw 1 (.res (bP l) none) rfl
  have hA:ji w Tryz.prog 9 (e.m 1) (l.map fun p=>(p.1,vs p.1)):=hA
  unfold VR at hx
  obtain⟨_,rfl⟩:=hx
  refine⟨fun b hb=>?_,by rw[List.length_map];exact hb.1,fun hc hlt=>?_⟩
  ·obtain⟨p,hp,rfl⟩:=List.mem_map.1 hb
   exact hA.abl (by kernel_rfl) (p.1,vs p.1) (List.mem_map.2 ⟨p,hp,rfl⟩)
  have:=AnyZ.keys_gives (ρ:=Tryz.zF) { Tryz.abp with } Fence.wide 2 trivial rfl (by omega) (e.m 0) (e.m 1) _ _ w hlt hc hA
  rw[zH,IK,Ph] at this
  exact this
 cases h
noncomputable def agf(o:Option Nat)(d:aZ):Option (List ByteArray):=match o with
 |none=>some (kR [])
 |some j=>if j<d.maps.length∧(d.inner j).length≤maxLen∧(d.inner j).length*16≤140737488355328 then some (kR ((d.inner j).map fun p=>p.1)) else none
set_option maxRecDepth 20000 in
theorem agh(o:Option Nat)(d:aZ)(r:List ByteArray)(h:agf o d=some r):FnH Tryz.prog GI 46 [.clo 106 [.ptr 0 0]] [.box 139 (.agg [.hnd 1 o]),.res (bH d none) none] (.own 2) [.box 139 (.agg [.hnd 1 o]),.res (bH d none) none,.row 9 1 (r.map lfS)]:=by
 unfold agf at h
 cases o with
 |none=>
  injection h with h;subst h
  refine Mc (H:=[.res (bH d none) none]) _ (enters_of Tryz.func106 (by kernel_rfl) rfl) (by decide) fun e C w x hM hx=>?_
  unfold VR at hx
  obtain⟨_,rfl⟩:=hx
  refine⟨fun b hb=>(by cases hb),Nat.zero_le _,fun hc hlt=>?_⟩
  have:=AnyZ.keys_gives_nil (ρ:=Tryz.sU) { Tryz.O8 with } Fence.wide 2 trivial rfl (e.m 0) w hlt hc
  have e1:(fun ss:List (List UInt8)=>ss=[])=fun ss=>ss.Perm (EL []):=by
   funext ss;exact propext ⟨fun h=>by rw[h];exact List.Perm.refl _,fun h=>h.eq_nil⟩
  rw[e1] at this
  exact this
 |some j=>
  dsimp only at h
  split at h
  ·rename_i hb
   injection h with h;subst h
   refine Mc (H:=[.res (bH d none) none]) _ (enters_of Tryz.func106 (by kernel_rfl) rfl) (by rw[List.length_map];exact hb.2.2) fun e C w x hM hx=>?_
   obtain⟨v,⟨bm,rv,hA⟩,_⟩:=hM.hw 1 (.res (bH d none) none) rfl
   have hA2:ji w Tryz.prog 9 (bm j) ((d.inner j).map fun p=>(p.1,rv j p.1)):=hA.inner j hb.1
   unfold VR at hx
   obtain⟨_,u,hu,rfl⟩:=hx
   rw[hA.im j,if_pos hb.1] at hu
   injection hu with hu;subst hu
   refine⟨fun b hb=>?_,by rw[List.length_map];exact hb.2.1,fun hc hlt=>?_⟩
   ·obtain⟨p,hp,rfl⟩:=List.mem_map.1 hb
    exact hA2.abl (by kernel_rfl) (p.1,rv j p.1) (List.mem_map.2 ⟨p,hp,rfl⟩)
   have:=AnyZ.keys_gives (ρ:=Tryz.sU) { Tryz.O8 with } Fence.wide 2 trivial rfl (by omega) (e.m 0) (bm j) _ _ w hlt hc hA2
   rw[zH,IK,Ph] at this
   exact this
  cases h
end Go.Proofs.YtpdlghcgekojlaaGreatDoor
namespace Go.Proofs.YtpdlghcgekojlaaGreatDoor
open Go.RowKit Go.Maps
theorem Hw{P:Program}{k:TypeId}(hk:P.underlying k=some .string)(key:Value)(kl:Lit)(h:keyOf P k key=some kl):∃x:ByteArray,key=.string x:=by
 cases key<;>simp[keyOf,hk,mapKey] at h
 simp
theorem mY.ext{e:Env}{C:Nat→List Value}{H:List Slot}{w w':World}(hM:mY e C H w)(hB:Ext w w'):GrH e H e H w w'∧mY e C H w':=
 ⟨⟨Env.le.refl e,Only.IE _ hB,fun b o u m1 m2=>(by rw[m2] at m1;cases m1),fun x hx=>.inr hx⟩,⟨hM.hv,fun b s hs=>qM (hM.hw b s hs) fun g hg=>hB.block g (Il (hM.hw b s hs) hg),hM.bound,hM.inj,hM.av,hM.inv.ext hB⟩⟩
theorem agi(l:List ak)(m:Int)(h0:0≤m)(h1:m≤l.length):OpH Tryz.prog GI (.aaT 28) [.own 0,.lf (.int .i64 m)] [.row 48 25 (l.map ak.lf)] .any [.row 48 25 (l.map ak.lf)]:=
 als (by kernel_rfl) (by kernel_rfl:(Tryz.prog.info? 48).map (·.size)=some 25) h0 h1
end Go.Proofs.YtpdlghcgekojlaaGreatDoor
namespace Go.Proofs.YtpdlghcgekojlaaGreatDoor
open Go.RowKit Go.Lib
theorem mg{P:Program}(w:World)(dT sT ty elem:TypeId)(g o dLen dCap:Nat)(a:Addr)(sLen sCap:Nat)(cur:Array Value)(t:TypeId)(cs:List Value)(sz m:Nat)
 (hu:P.underlying dT=some (.slice elem)) (hs:(P.info? elem).map (·.size)=some sz)
 (hg:w.heap[g]?=some (.cells cur t (0,0))) (hm:Nat.min sLen dLen=m) (hn:cs.length=m*sz)
 (hsrc:∀j v,cs[j]?=some v→w.cell? (a.add j)=some v) (hfit:o+cs.length≤cur.size) (h1:∀v∈cs,v.oneCell'=true):
 (Builtin.copy_ #[dT,sT] ty #[.slice (some ⟨g,o,none⟩) dLen dCap,.slice (some a) sLen sCap]).run P w=
  .ok (goInt m) (w.setRow g (cur.toList.take o++cs++cur.toList.drop (o+cs.length)).toArray):=by
 have hl:=run_loadCells_list (P:=P) w a cs hsrc
 rw[hn] at hl
 have hst:=run_storeCells_at P g o t cs 0 cur w hg (by simpa using hfit) h1
 cases hq:P.info? elem with
 |none=>grind
 |some i=>
  have hi:i.size=sz:=by simpa[hq] using hs
  simp[Builtin.copy_,run_underlying hu,Builtin.lenOf,Builtin.firstCells,sizeOf,typeInfo,hq,hi,hm,hl,hst]
theorem jg{w:World}{g:Nat}{cur:Array Value}{t:TypeId}(hg:w.heap[g]?=some (.cells cur t (0,0))){j:Nat}{v:Value}(h:cur.toList[j]?=some v):w.cell? ⟨g,j,none⟩=some v:=by
 unfold World.cell?
 grind
theorem Uo{α:Type}{l y:List α}{a s N:Nat}(ha:a≤N)(hN:N+s≤l.length)(hy:y.length=s):
 ((l.take (a+s)++(l.take N).drop a++l.drop (a+s+((l.take N).drop a).length)).take a++y++(l.take (a+s)++(l.take N).drop a++l.drop (a+s+((l.take N).drop a).length)).drop (a+y.length)).take (N+s)=l.take a++y++(l.take N).drop a:=by
 have hX:((l.take N).drop a).length=N-a:=by rw[List.length_drop,List.length_take];omega
 have hT:(l.take (a+s)).length=a+s:=by rw[List.length_take];omega
 have e1:(l.take (a+s)++(l.take N).drop a++l.drop (a+s+((l.take N).drop a).length)).take a=l.take a:=by
  grind
 have e2:(l.take (a+s)++(l.take N).drop a++l.drop (a+s+((l.take N).drop a).length)).drop (a+y.length)=(l.take N).drop a++l.drop (a+s+((l.take N).drop a).length):=by
  grind
 rw[e1,e2,←List.append_assoc]
 refine List.take_left' ?_
 grind
set_option maxRecDepth 100000 in
set_option maxHeartbeats 4000000 in
theorem Yn(w:World)(g n c i g1 c1:Nat)(cur cur1:Array Value)(hi:i<n)(hroom:n+1≤c)(hcm:c≤9223372036854775807)(hne:g1≠g)(hg:w.heap[g]?=some (.cells cur 48 (0,0)))(hcs:cur.size=c*25)(hg1:w.heap[g1]?=some (.cells cur1 48 (0,0)))(hc1:cur1.size=c1*25)(h1c:1≤c1)
 (ho:∀v∈cur.toList.take (n*25),v.oneCell'=true) (ho1:∀v∈cur1.toList.take 25,v.oneCell'=true):
 Calls Tryz.prog 95 #[.slice (some ⟨g,0,none⟩) n c,.int .i64 i,.slice (some ⟨g1,0,none⟩) 1 c1] w fun e w'=>e=.returned (.slice (some ⟨g,0,none⟩) (n+1) c)∧∃cur':Array Value,w'.heap[g]?=some (.cells cur' 48 (0,0))∧cur'.size=c*25∧
  cur'.toList.take ((n+1)*25)=cur.toList.take (i*25)++cur1.toList.take 25++(cur.toList.take (n*25)).drop (i*25)∧w.grownBy w' (some g)∧w'.heap.size=w.heap.size:=by
 have hts:Tryz.prog.underlying 28=some (.slice 48):=by kernel_rfl
 have hsz:(Tryz.prog.info? 48).map (·.size)=some 25:=by kernel_rfl
 have hz2:¬((i:Int)=(n:Int)):=by omega
 have hz3:¬((c:Int)<(n:Int)+1):=by omega
 have hw1:IntKind.i64.wrap ((i:Int)+1)=(i:Int)+1:=by rw[IntKind.wrap_i64];omega
 have hw2:IntKind.i64.wrap ((n:Int)+1)=(n:Int)+1:=by rw[IntKind.wrap_i64];omega
 have hov:∀o lb cb,(callFunc 156 #[.slice (some ⟨g1,0,none⟩) 1 c1,.slice (some ⟨g,o,none⟩) lb cb]).run Tryz.prog w=.ok (.value (.bool false)) w:=fun o lb cb=>by
  rw[run_callFunc_extern Tryz.func156 (by kernel_rfl) (by kernel_rfl) (by kernel_rfl) (e:=Extern.SlicesOverlaps.overlaps #[28, 28] #[4]) (by kernel_rfl),
   Lib.run_overlaps_apart w 28 4 48 hts 25 (run_sizeOf' hsz) ⟨g1,0,none⟩ ⟨g,o,none⟩ 1 c1 lb cb hne 48 48 (c1*25) (c*25) (by simp[World.shape?,hg1,hc1]) (by simp[World.shape?,hg,hcs]) (by omega) (by simp[World.frozen?,hg1]) (by simp[World.frozen?,hg1])]
  rfl
 have htk:(cur.toList.take (n*25)).length=n*25:=by rw[List.length_take,Array.length_toList,hcs];omega
 have hdl:((cur.toList.take (n*25)).drop (i*25)).length=(n-i)*25:=by rw[List.length_drop,htk];omega
 have hcp1:∀ty dc sc,(Builtin.copy_ #[28,28] ty #[.slice (some ⟨g,(i+1)*25,none⟩) (n-i) dc,.slice (some ⟨g,i*25,none⟩) (n+1-i) sc]).run Tryz.prog w.drew=.ok (goInt ((n-i:Nat):Int)) (w.drew.setRow g (cur.toList.take ((i+1)*25)++(cur.toList.take (n*25)).drop (i*25)++cur.toList.drop ((i+1)*25+((cur.toList.take (n*25)).drop (i*25)).length)).toArray):=fun ty dc sc=>
  mg w.drew _ _ ty 48 g ((i+1)*25) (n-i) dc ⟨g, i*25, none⟩ (n+1-i) sc cur 48 ((cur.toList.take (n*25)).drop (i*25)) 25 (n-i) hts hsz hg (by simp only[Nat.min_def];split<;>omega) hdl
   (fun j v hj=>by
    rw[Addr.add_lit]
    rw[List.getElem?_drop,List.getElem?_take] at hj
    split at hj
    ·exact jg hg hj
    cases hj) (by rw[hdl,hcs];omega) (fun v hv=>ho v (List.mem_of_mem_drop hv))
 obtain⟨A,hA⟩:∃A:Array Value,A=(cur.toList.take ((i+1)*25)++(cur.toList.take (n*25)).drop (i*25)++cur.toList.drop ((i+1)*25+((cur.toList.take (n*25)).drop (i*25)).length)).toArray:=⟨_,rfl⟩
 rw[←hA] at hcp1
 have hAs:A.size=c*25:=by
  rw[hA]
  simp only[List.size_toArray,List.length_append,List.length_take,List.length_drop,Array.length_toList,hcs]
  omega
 obtain⟨W1,hW1⟩:∃W1,W1=w.drew.setRow g A:=⟨_,rfl⟩
 rw[←hW1] at hcp1
 have hgA:W1.heap[g]?=some (.cells A 48 (0,0)):=by rw[hW1];exact setRow_heap w.drew g cur A 48 _ hg
 have hg1A:W1.heap[g1]?=some (.cells cur1 48 (0,0)):=by rw[hW1,setRow_other w.drew g g1 A hne];exact hg1
 have h1l:(cur1.toList.take 25).length=25:=by rw[List.length_take,Array.length_toList,hc1];omega
 have hcp2:∀(W:World),W.heap=W1.heap→∀ty dc,(Builtin.copy_ #[28,28] ty #[.slice (some ⟨g,i*25,none⟩) (n+1-i) dc,.slice (some ⟨g1,0,none⟩) 1 c1]).run Tryz.prog W=.ok (goInt 1) (W.setRow g (A.toList.take (i*25)++cur1.toList.take 25++A.toList.drop (i*25+(cur1.toList.take 25).length)).toArray):=fun W hW ty dc=>
  mg W _ _ ty 48 g (i*25) (n+1-i) dc ⟨g1, 0, none⟩ 1 c1 A 48 (cur1.toList.take 25) 25 1 hts hsz (by rw[hW];exact hgA) (by simp only[Nat.min_def];split<;>omega) h1l
   (fun j v hj=>by
    rw[Addr.add_lit,Nat.zero_add]
    rw[List.getElem?_take] at hj
    split at hj
    ·exact jg (by rw[hW];exact hg1A) hj
    cases hj) (by rw[h1l,hAs];omega) ho1
 have HA:=Go.Lib.hid hA
 have HW:=Go.Lib.hid hW1
 clear hA hW1
 have htn:((i:Int)+1).toNat=i+1:=by omega
 have hb1:(0:Int)≤(i:Int)+1:=by omega
 have hb2:¬(c=i+1):=by omega
 have hb3:(i:Int)≤(n:Int)+1:=by omega
 have hb4:¬(c=i):=by omega
 have hb5:i≤n:=by omega
 have mixed:Tryz.prog.follows Departure.mixedOrders=true:=by kernel_rfl
 go_enter Tryz.func95,Tryz.ntmps95
 go_wp2_with (simp only[hov])
 go_region_law_o (refine step_copy_runI rfl _ _ 28 28 rfl _ _ (by simp[Act.eval,Act.put]) (by simp[Act.eval,Act.put]) (hcp1 _ _ _) ?_)
 go_wp2_with (at_builtin;refine wpList_copy_runI _ rfl _ _ 28 28 rfl _ _ rfl rfl (hcp2 _ rfl _ _) ?_)
 go_ret
 have hA:=HA.out
 have hW1:=HW.out
 refine⟨rfl,(A.toList.take (i*25)++cur1.toList.take 25++A.toList.drop (i*25+(cur1.toList.take 25).length)).toArray,?_,?_,?_,?_,?_⟩
 ·rw[h1l,List.append_assoc]
  exact setRow_heap W1 g A _ 48 _ hgA
 ·simp only[List.size_toArray,List.length_append,List.length_take,List.length_drop,Array.length_toList,hc1,hAs]
  omega
 ·have hAl:A.toList=cur.toList.take (i*25+25)++(cur.toList.take (n*25)).drop (i*25)++cur.toList.drop (i*25+25+((cur.toList.take (n*25)).drop (i*25)).length):=by
   rw[hA,show(i+1)*25=i*25+25 by omega]
  rw[List.toList_toArray,show(n+1)*25=n*25+25 by omega,hAl]
  exact Uo (by omega) (by rw[Array.length_toList,hcs];omega) h1l
 ·subst hW1
  refine⟨rfl,rfl,rfl,by simp[World.setRow],fun k _ hk=>?_⟩
  rw[setRow_other _ g k _ (fun e=>hk (by rw[e])),setRow_other _ g k _ (fun e=>hk (by rw[e]))]
  rfl
 subst hW1
 simp[World.setRow]
end Go.Proofs.YtpdlghcgekojlaaGreatDoor
namespace Go.Proofs.YtpdlghcgekojlaaGreatDoor
open Go.RowKit Go.Lib
theorem EM(z:Array Value)(n:Nat):(Builtin.zeroCells z n).size=n*z.size:=by simp[Builtin.zeroCells]
theorem Yo{α:Type}{r y x:List α}{a s N:Nat}(ha:a≤r.length)(hy:y.length=s)(hN:a+s+x.length=N):
 (((r.take a++y++r.drop (a+y.length)).take (a+s))++x++(r.take a++y++r.drop (a+y.length)).drop (a+s+x.length)).take N=r.take a++y++x:=by
 grind
set_option maxRecDepth 100000 in
set_option maxHeartbeats 4000000 in
theorem abu(w:World)(g n c i g1 c1:Nat)(cur cur1:Array Value)(hi:i<n)(hnc:n≤c)(hroom:c<n+1)(hbig:(n+1)*368≤140737488355328)(hg:w.heap[g]?=some (.cells cur 48 (0,0)))(hcs:cur.size=c*25)(hg1:w.heap[g1]?=some (.cells cur1 48 (0,0)))(hc1:cur1.size=c1*25)(h1c:1≤c1)
 (ho:∀v∈cur.toList.take (n*25),v.oneCell'=true) (ho1:∀v∈cur1.toList.take 25,v.oneCell'=true):
 Calls Tryz.prog 95 #[.slice (some ⟨g,0,none⟩) n c,.int .i64 i,.slice (some ⟨g1,0,none⟩) 1 c1] w fun e w'=>∃G,e=.returned (.slice (some ⟨w.heap.size,0,none⟩) (n+1) G)∧n+1≤G∧G≤maxLen∧∃cur':Array Value,w'.heap[w.heap.size]?=some (.cells cur' 48 (0,0))∧cur'.size=G*25∧
  cur'.toList.take ((n+1)*25)=cur.toList.take (i*25)++cur1.toList.take 25++(cur.toList.take (n*25)).drop (i*25)∧Ext w w':=by
 have hts:Tryz.prog.underlying 28=some (.slice 48):=by kernel_rfl
 have hti:Tryz.prog.underlying 3=some (.int .i64):=by kernel_rfl
 have hsz:(Tryz.prog.info? 48).map (·.size)=some 25:=by kernel_rfl
 have hinf:(Tryz.prog.info? 48).map (fun i=>(i.zero.map (·.cells.size),i.size,i.bytes))=some (some 25,25,368):=by kernel_rfl
 obtain⟨i0,hi0,hi1⟩:=Option.map_eq_some_iff.1 hinf
 simp only[Prod.mk.injEq] at hi1
 obtain⟨hz0,hzs,hzb⟩:=hi1
 obtain⟨z,hz,hzc⟩:=Option.map_eq_some_iff.1 hz0
 have hz2:¬((i:Int)=(n:Int)):=by omega
 have hz3:(c:Int)<(n:Int)+1:=by omega
 have hbw:g<w.heap.size:=(Array.getElem?_eq_some_iff.1 hg).1
 have hvw:g1<w.heap.size:=(Array.getElem?_eq_some_iff.1 hg1).1
 have hkk:(n:Int)+1-(i:Int)=((n+1-i:Nat):Int):=by omega
 have hik:i+(n+1-i)=n+1:=by omega
 have htl:(cur.toList.take (i*25)).length=i*25:=by rw[List.length_take,Array.length_toList,hcs];omega
 have hold:(Builtin.firstCells i0.size i (.slice (some ⟨g,0,none⟩) i c)).run Tryz.prog w.drew=.ok (cur.toList.take (i*25)).toArray w.drew:=by
  rw[hzs]
  exact run_firstCells_some w.drew 25 i ⟨g,0,none⟩ i c (cur.toList.take (i*25)) htl (fun j v hj=>by
   rw[Addr.add_lit,Nat.zero_add]
   rw[List.getElem?_take] at hj
   split at hj
   ·exact jg hg hj
   cases hj)
 obtain⟨G,hG⟩:∃G,G=grownCap w (n+1) c 48:=⟨_,rfl⟩
 obtain⟨ROW,hROW⟩:∃ROW:Array Value,ROW=(cur.toList.take (i*25)).toArray++Builtin.zeroCells z.cells (n+1-i)++Builtin.zeroCells z.cells (G-(n+1)):=⟨_,rfl⟩
 have hGn:n+1≤G:=by rw[hG];exact grownCap_ge w _ _ _
 have hGm:G≤maxLen:=by rw[hG];exact grownCap_le_maxLen w (n+1) c 48 (by unfold maxLen;omega)
 have hrz:∀ty,(Builtin.append_ #[28,3] ty #[.slice (some ⟨g,0,none⟩) i c,.int .i64 ((n:Int)+1-(i:Int))]).run Tryz.prog w=
  .ok (.slice (some ⟨w.heap.size,0,none⟩) (n+1) G) (w.drew.alloc (.cells ROW 48)):=fun ty=>by
  have h:=Lib.run_append_grow_zeros w 28 3 ty 48 i0 z .i64 .i64 hts hti hi0 hz (some ⟨g,0,none⟩) i c (cur.toList.take (i*25)) hold (n+1-i) (by omega) (by omega) (by omega) (by omega) (by rw[hzb];omega) (by rw[hzb,hik];exact growslice_fits hroom hbig)
  rw[hik,←hG,←hROW] at h
  rw[hkk]
  exact h
 have hRs:ROW.size=G*25:=by
  rw[hROW]
  simp only[Array.size_append,List.size_toArray,htl,EM,hzc]
  omega
 have hRt:ROW.toList.take (i*25)=cur.toList.take (i*25):=by
  rw[hROW,Array.append_assoc,Array.toList_append]
  exact List.take_left' htl
 obtain⟨W1,hW1⟩:∃W1,W1=w.drew.alloc (.cells ROW 48):=⟨_,rfl⟩
 have hgR:W1.heap[w.heap.size]?=some (.cells ROW 48 (0,0)):=by
  rw[hW1]
  show(w.heap.push _)[w.heap.size]?=_
  simp
 have hgW:W1.heap[g]?=some (.cells cur 48 (0,0)):=by rw[hW1];exact(Below.heap_alloc w.drew _ g hbw).trans hg
 have hg1W:W1.heap[g1]?=some (.cells cur1 48 (0,0)):=by rw[hW1];exact(Below.heap_alloc w.drew _ g1 hvw).trans hg1
 have h1l:(cur1.toList.take 25).length=25:=by rw[List.length_take,Array.length_toList,hc1];omega
 have hdl:((cur.toList.take (n*25)).drop (i*25)).length=(n-i)*25:=by rw[List.length_drop,List.length_take,Array.length_toList,hcs];omega
 obtain⟨A,hA⟩:∃A:Array Value,A=(ROW.toList.take (i*25)++cur1.toList.take 25++ROW.toList.drop (i*25+(cur1.toList.take 25).length)).toArray:=⟨_,rfl⟩
 have hAs:A.size=G*25:=by
  rw[hA]
  simp only[List.size_toArray,List.length_append,List.length_take,List.length_drop,Array.length_toList,hRs,hc1]
  omega
 have hcpA:∀(W:World),W.heap=W1.heap→∀ty dc,(Builtin.copy_ #[28,28] ty #[.slice (some ⟨w.heap.size,i*25,none⟩) (n+1-i) dc,.slice (some ⟨g1,0,none⟩) 1 c1]).run Tryz.prog W=.ok (goInt 1) (W.setRow w.heap.size A):=fun W hW ty dc=>by
  rw[hA]
  exact mg W _ _ ty 48 w.heap.size (i*25) (n+1-i) dc ⟨g1, 0, none⟩ 1 c1 ROW 48 (cur1.toList.take 25) 25 1 hts hsz (by rw[hW];exact hgR) (by simp only[Nat.min_def];split<;>omega) h1l
   (fun j v hj=>by
    rw[Addr.add_lit,Nat.zero_add]
    rw[List.getElem?_take] at hj
    split at hj
    ·exact jg (by rw[hW];exact hg1W) hj
    cases hj) (by rw[h1l,hRs];omega) ho1
 obtain⟨W2,hW2⟩:∃W2,W2=W1.setRow w.heap.size A:=⟨_,rfl⟩
 have hgA:W2.heap[w.heap.size]?=some (.cells A 48 (0,0)):=by rw[hW2];exact setRow_heap W1 _ ROW A 48 _ hgR
 have hgW2:W2.heap[g]?=some (.cells cur 48 (0,0)):=by rw[hW2,setRow_other W1 _ g A (by omega)];exact hgW
 obtain⟨B,hB⟩:∃B:Array Value,B=(A.toList.take ((i+1)*25)++(cur.toList.take (n*25)).drop (i*25)++A.toList.drop ((i+1)*25+((cur.toList.take (n*25)).drop (i*25)).length)).toArray:=⟨_,rfl⟩
 have hcpB:∀(W:World),W.heap=W2.heap→∀ty dc sc,(Builtin.copy_ #[28,28] ty #[.slice (some ⟨w.heap.size,(i+1)*25,none⟩) (n-i) dc,.slice (some ⟨g,i*25,none⟩) (n-i) sc]).run Tryz.prog W=.ok (goInt ((n-i:Nat):Int)) (W.setRow w.heap.size B):=fun W hW ty dc sc=>by
  rw[hB]
  exact mg W _ _ ty 48 w.heap.size ((i+1)*25) (n-i) dc ⟨g, i*25, none⟩ (n-i) sc A 48 ((cur.toList.take (n*25)).drop (i*25)) 25 (n-i) hts hsz (by rw[hW];exact hgA) (by simp only[Nat.min_def];split<;>omega) hdl
   (fun j v hj=>by
    rw[Addr.add_lit]
    rw[List.getElem?_drop,List.getElem?_take] at hj
    split at hj
    ·exact jg (by rw[hW];exact hgW2) hj
    cases hj) (by rw[hdl,hAs];omega) (fun v hv=>ho v (List.mem_of_mem_drop hv))
 have hBs:B.size=G*25:=by
  rw[hB]
  simp only[List.size_toArray,List.length_append,List.length_take,List.length_drop,Array.length_toList,hcs,hAs]
  omega
 have hBt:B.toList.take ((n+1)*25)=cur.toList.take (i*25)++cur1.toList.take 25++(cur.toList.take (n*25)).drop (i*25):=by
  rw[hB,List.toList_toArray,hA,List.toList_toArray,←hRt,show(i+1)*25=i*25+25 by omega]
  exact Yo (by rw[Array.length_toList,hRs];omega) h1l (by rw[hdl];omega)
 have hG63:G≤9223372036854775807:=by unfold maxLen at hGm;omega
 have hw1:IntKind.i64.wrap ((i:Int)+1)=(i:Int)+1:=by unfold maxLen at hGm;rw[IntKind.wrap_i64];omega
 have hw2:IntKind.i64.wrap ((n:Int)+1)=(n:Int)+1:=by unfold maxLen at hGm;rw[IntKind.wrap_i64];omega
 have hw3:IntKind.i64.wrap ((n:Int)+1-(i:Int))=(n:Int)+1-(i:Int):=by unfold maxLen at hGm;rw[IntKind.wrap_i64];omega
 have hGi:¬(G=i):=by omega
 have hGim:¬(G=i+1):=by omega
 have hci:¬(c=i):=by omega
 have htn:((i:Int)+1).toNat=i+1:=by omega
 have hb1:(0:Int)≤(i:Int)+1:=by omega
 have hb3:(i:Int)≤(n:Int):=by omega
 have hb5:i≤n:=by omega
 have hb6:(i:Int)≤(n:Int)+1:=by omega
 have hb7:(i:Int)≤(c:Int):=by omega
 have mixed:Tryz.prog.follows Departure.mixedOrders=true:=by kernel_rfl
 have HW1:=Go.Lib.hid hW1
 have HW2:=Go.Lib.hid hW2
 have hE:∀W:World,W=(w.alloc (.cells ROW 48)).drew→W.heap=W1.heap:=fun W h=>by rw[h,HW1.out];rfl
 have hF:∀W:World,W=((w.alloc (.cells ROW 48)).drew.setRow w.heap.size A).drew→W.heap=W2.heap:=fun W h=>by rw[h,HW2.out,HW1.out];rfl
 have HgA:=Go.Lib.hid hgA
 clear hkk hik hold hROW hG hRs hRt hA hB hW1 hW2 hgR hgW hg1W hgA hgW2
 go_enter Tryz.func95,Tryz.ntmps95
 go_wp2_with (first
  |(at_builtin;refine Lib.wpList_append_run _ rfl _ _ _ _ rfl _ _ rfl rfl _ _ (hrz _) ?_)
  |(at_builtin;refine wpList_copy_runI _ rfl _ _ 28 28 rfl _ _ rfl rfl (hcpA _ (hE _ rfl) _ _) ?_))
 go_region_law_o (refine step_copy_runI rfl _ _ 28 28 rfl _ _ (by simp[Act.eval,Act.put]) (by simp[Act.eval,Act.put]) (hcpB _ (hF _ rfl) _ _ _) ?_)
 go_wp2
 go_ret
 refine⟨G,rfl,hGn,hGm,B,?_,hBs,hBt,?_⟩
 ·exact setRow_heap ((w.alloc (.cells ROW 48)).drew.setRow w.heap.size A).drew _ A B 48 _ (by rw[hF _ rfl];exact HgA.out)
 refine⟨rfl, rfl, rfl, by simp[World.setRow], fun k hk=>?_⟩
 rw[setRow_other _ w.heap.size k _ (by omega)]
 show((w.alloc (.cells ROW 48)).drew.setRow w.heap.size A).heap[k]?=_
 rw[setRow_other _ w.heap.size k _ (by omega)]
 exact Below.heap_alloc w _ k hk
end Go.Proofs.YtpdlghcgekojlaaGreatDoor
namespace Go.Proofs.YtpdlghcgekojlaaGreatDoor
open Go.RowKit
set_option maxRecDepth 20000 in
set_option maxHeartbeats 4000000 in
noncomputable def Ur(p_i:Int)(p_s0:List ak)(p_s1:List ak):Mo (List ak):=
 .say [.opH [0] (.any) [.row 48 25 (p_s0.map ak.lf)],.num p_s1.length] ok0<|
 .grd ((0:Int)≤p_i∧p_i≤(p_s0.length:Int)) fun h7784=>
 .say [] (okc (agi p_s0 p_i h7784.1 h7784.2) (okc (by simp:p_s1.length=(p_s1.map ak.lf).length) ok0))<|
 .ite ((p_s1.length:Int)==0) (fun c7786=>
  .say [.br true] (okc c7786 ok0)<|
  .ret ⟨[.mvn 0],[0],[],3⟩ (p_s0)) fun c7786=>
 .say [.br false,.num p_s0.length,.br true,.rows ((p_s0++p_s1).map ak.lf)] (okc c7786 (okc (by simp:p_s0.length=(p_s0.map ak.lf).length) ok0))<|
 .ite (p_i==(p_s0.length:Int)) (fun c7789=>
  .say [] (okc c7789 (okc (by simp[ak.aY]:(p_s0++p_s1).map ak.lf=(p_s0.map ak.lf)++(p_s1.map ak.lf)) ok0))<|
  .grd ((p_s0.length+p_s1.length)*368≤140737488355328) fun h7791=>
  .say [] (okc (by simpa using h7791:((p_s0.map ak.lf).length+(p_s1.map ak.lf).length)*368≤140737488355328) ok0)<|
  .ret ⟨[.mvn 2],[0],[(3,2)],3⟩ (p_s0++p_s1)) fun c7789=>
 .stop
noncomputable def agj(p_i:Int)(p_s0:List ak)(p_s1:List ak):Option (List ak):=Mo.den (Ur p_i p_s0 p_s1)
set_option maxRecDepth 20000 in
set_option maxHeartbeats 4000000 in
theorem agk(p_i:Int)(p_s0:List ak)(p_s1:List ak)(r:List ak)(h:agj p_i p_s0 p_s1=some r):FnH Tryz.prog GI 95 [.own 0,.lf (.int .i64 p_i),.own 1] [.row 48 25 (p_s0.map ak.lf),.row 48 25 (p_s1.map ak.lf)] (.own 2) [.dead,.row 48 25 (p_s1.map ak.lf),.row 48 25 (r.map ak.lf)]:=
 aa9 jD Tryz.func95 (by kernel_rfl) (by kernel_rfl) (by kernel_rfl) (Ur p_i p_s0 p_s1) (fun r=>[.own 2]) (fun r=>[.dead,.row 48 25 (p_s1.map ak.lf),.row 48 25 (r.map ak.lf)]) (by kernel_rfl) h
theorem Yp(n:Nat)(l:List (List Lf))(k:Nat)(h:∀r∈l,r.length=n)(hk:k≤l.length):(l.drop k).flatten=l.flatten.drop (k*n):=by
 have h1:l.flatten=(l.take k).flatten++(l.drop k).flatten:=by rw[←List.flatten_append,List.take_append_drop]
 have h2:(l.take k).flatten.length=k*n:=by
  rw[yY _ fun r hr=>h r (List.mem_of_mem_take hr),List.length_take,Nat.min_eq_left hk]
 grind
theorem EN{a b c:Slot}{x:Nat}{s:Slot}(h:([a,b,c]:List Slot)[x]?=some s):(x=0∧s=a)∨(x=1∧s=b)∨(x=2∧s=c):=by
 grind
theorem abv{e:Env}{C:Nat→List Value}{w w':World}{ty ty1:TypeId}{n n1:Nat}{l0 l1 l:List (List Lf)}(hM:mY e C [.row ty n l0,.row ty1 n1 l1] w)(hO:Only (fun g=>(e.sv 0).ownBlock=some g) w w'){v:Value}{cs:List Value}(hr:w'.ownsRow 0 ty n v l.length cs)
 (hb:∀g,v.ownBlock=some g→(e.sv 0).ownBlock=some g∨w.heap.size≤g) (hv:bV e.I l.flatten cs) (hn:∀r∈l,r.length=n) (hl:l.length≤maxLen) (hs:(v=.slice none 0 0∧l=[])∨∃g c,v=.slice (some ⟨g,0,none⟩) l.length c):
 ∃e' C',GrH e [.row ty n l0,.row ty1 n1 l1] e' [.dead,.row ty1 n1 l1,.row ty n l] w w'∧mY e' C' [.dead,.row ty1 n1 l1,.row ty n l] w'∧VR e' (.own 2) v:=by
 have n2:∀b,e.ok b→b≠2:=fun b hb=>by have:=hM.bound b hb;simp at this;omega
 have h0:=hM.hv 0 _ rfl
 have h1:=hM.hv 1 _ rfl
 have w1:w.ownsRow 0 ty1 n1 (e.sv 1) l1.length (C 1):=hM.hw 1 _ rfl
 have ap:∀g,(e.sv 0).ownBlock=some g→(e.sv 1).ownBlock=some g→False:=fun g a b=>by
  have:=hM.inj 0 1 _ _ g rfl rfl a b
  cases this
 have cl:∀b s g,([Slot.dead,.row ty1 n1 l1,.row ty n l]:List Slot)[b]?=some s→dV (⟨fun b=>b=2∨e.ok b,e.m,fun b=>if b=2 then v else e.sv b,e.I,e.im,e.fp⟩:Env) b s g→(b=1∧(e.sv 1).ownBlock=some g)∨(b=2∧v.ownBlock=some g):=fun b s g hs hg=>by
  rcases EN hs with⟨rfl,rfl⟩|⟨rfl,rfl⟩|⟨rfl,rfl⟩
  ·cases hg
  ·exact .inl ⟨rfl,hg⟩
  exact .inr ⟨rfl,hg⟩
 refine⟨⟨fun b=>b=2∨e.ok b,e.m,fun b=>if b=2 then v else e.sv b,e.I,e.im,e.fp⟩,fun b=>if b=2 then cs else C b,⟨⟨fun _ h=>.inr h,fun _ _=>rfl,fun b hb=>if_neg (n2 b hb),Le.refl _,fun _ _ _ _ h=>h⟩,⟨hO.os,hO.tape,hO.output,hO.size,fun i hi hn=>hO.block i hi fun hg=>hn ⟨0,_,rfl,hg⟩⟩,fun b o u m1 m2=>(by rw[m2] at m1;cases m1),fun x hx=>?_⟩,⟨fun b s hs'=>?_,fun b s hs'=>?_,fun b hb=>?_,fun b b' s s' g k1 k2 m1 m2=>?_,fun b s x hs' hx=>?_,hM.inv.O6 hO fun x hx=>hM.av 0 _ x rfl hx⟩,?_⟩
 ·obtain⟨b,s,hs',hx⟩:=hx
  rcases cl b s x hs' hx with⟨rfl,hg⟩|⟨rfl,hg⟩
  ·exact .inr ⟨1,_,rfl,hg⟩
  rcases hb x hg with h|h
  ·exact .inr ⟨0,_,rfl,h⟩
  omega
 ·rcases EN hs' with⟨rfl,rfl⟩|⟨rfl,rfl⟩|⟨rfl,rfl⟩
  ·trivial
  ·exact⟨.inr h1.1,h1.2⟩
  exact⟨.inl rfl,hv,hn,hl,hs⟩
 ·rcases EN hs' with⟨rfl,rfl⟩|⟨rfl,rfl⟩|⟨rfl,rfl⟩
  ·trivial
  ·exact lu w1 fun g hg=>hO.block g (World.ownsRow.lt w1 g hg).2 fun h=>ap g h hg
  exact hr
 ·show b<3
  rcases hb with rfl|hb
  ·decide
  have:=hM.bound b hb;simp at this;omega
 ·rcases cl b s g k1 m1 with⟨rfl,q1⟩|⟨rfl,q1⟩<;>rcases cl b' s' g k2 m2 with⟨rfl,q2⟩|⟨rfl,q2⟩
  ·rfl
  ·rcases hb g q2 with h|h
   ·grind
   have:=(World.ownsRow.lt w1 g q1).2;omega
  ·rcases hb g q1 with h|h
   ·grind
   have:=(World.ownsRow.lt w1 g q2).2;omega
  rfl
 ·rcases cl b s x hs' hx with⟨rfl,hg⟩|⟨rfl,hg⟩
  ·exact hM.av 1 _ x rfl hg
  rcases hb x hg with h|h
  ·exact hM.av 0 _ x rfl h
  exact hM.inv.av h
 unfold VR
 grind
noncomputable def abw(i:Int)(s0 s1:List ak):Option (List ak):=
 bif decide (0≤i∧i<s0.length)&&s1.length==1 then
  if(s0.length+1)*368≤140737488355328 then some (s0.take i.toNat++s1++s0.drop i.toNat) else none
 else agj i s0 s1
set_option maxRecDepth 20000 in
set_option maxHeartbeats 1000000 in
theorem agl(i:Int)(s0 s1 r:List ak)(h:abw i s0 s1=some r):FnH Tryz.prog GI 95 [.own 0,.lf (.int .i64 i),.own 1] [.row 48 25 (s0.map ak.lf),.row 48 25 (s1.map ak.lf)] (.own 2) [.dead,.row 48 25 (s1.map ak.lf),.row 48 25 (r.map ak.lf)]:=by
 unfold abw at h
 cases hd:decide (0≤i∧i<s0.length)&&s1.length==1 with
 |false=>rw[hd] at h;exact agk i s0 s1 r h
 |true=>
  rw[hd] at h
  simp only[cond_true] at h
  rw[Bool.and_eq_true,decide_eq_true_iff,beq_iff_eq] at hd
  obtain⟨⟨hi0,hi1⟩,hl1⟩:=hd
  split at h
  ·rename_i hbig
   injection h with h
   refine⟨by kernel_rfl,fun e C w vs hG hM hvs=>?_⟩
   obtain⟨u,v,y,rfl,hu,hv,hy⟩:=LY hvs
   obtain⟨rfl,_⟩:=hv.int
   unfold VR at hu hy
   obtain⟨_,rfl,_⟩:=hu
   obtain⟨_,rfl,_⟩:=hy
   obtain⟨k,rfl⟩:=Int.eq_ofNat_of_zero_le hi0
   have hk:k<s0.length:=by omega
   obtain⟨_,hv0,hn0,hm0,_⟩:=hM.hv 0 _ rfl
   obtain⟨_,hv1,hn1,hm1,_⟩:=hM.hv 1 _ rfl
   have hw0:w.ownsRow 0 48 25 (e.sv 0) (s0.map ak.lf).length (C 0):=hM.hw 0 _ rfl
   have hw1:w.ownsRow 0 48 25 (e.sv 1) (s1.map ak.lf).length (C 1):=hM.hw 1 _ rfl
   rw[List.length_map] at hw0 hw1
   rw[hl1] at hw1
   rcases hw0.2 with⟨_,q⟩|⟨g,cap,cur,e0,_,hg,hnc,hcm,hcs,hct⟩
   ·omega
   rcases hw1.2 with⟨_,q⟩|⟨g1,cap1,cur1,e1,_,hg1,hnc1,hcm1,hcs1,hct1⟩
   ·omega
   have hne:g1≠g:=fun he=>by
    have:=hM.inj 0 1 _ _ g rfl rfl (by show(e.sv 0).ownBlock=some g;rw[e0];rfl) (by show(e.sv 1).ownBlock=some g;rw[e1,he];rfl)
    omega
   rw[Nat.one_mul] at hct1
   have ho:∀v∈cur.toList.take (s0.length*25),v.oneCell'=true:=by rw[hct];exact bV.one _ _ hv0
   have ho1:∀v∈cur1.toList.take 25,v.oneCell'=true:=by rw[hct1];exact bV.one _ _ hv1
   have hrl:r.length=s0.length+1:=by rw[←h];simp[hl1];omega
   have hcs':cur.toList.take (k*25)++cur1.toList.take 25++(cur.toList.take (s0.length*25)).drop (k*25)=(C 0).take (k*25)++C 1++(C 0).drop (k*25):=by
    grind
   have hrv:bV e.I (r.map ak.lf).flatten ((C 0).take (k*25)++C 1++(C 0).drop (k*25)):=by
    rw[←h,List.map_append,List.map_append,List.flatten_append,List.flatten_append,List.map_take,List.map_drop]
    show bV e.I (((s0.map ak.lf).take k).flatten++_++((s0.map ak.lf).drop k).flatten) _
    rw[BF 25 _ _ hn0,Yp 25 _ _ hn0 (by rw[List.length_map];omega)]
    exact bV.app _ _ _ _ (bV.app _ _ _ _ (bV.takeN _ _ _ hv0) hv1) (bV.VJ _ _ _ hv0)
   have hrn:∀x∈r.map ak.lf,x.length=25:=fun x hx=>by
    grind
   have hlen:(C 0).length=s0.length*25:=hw0.1
   have hlen1:(C 1).length=25:=by rw[hw1.1]
   have hxl:((C 0).take (k*25)++C 1++(C 0).drop (k*25)).length=(s0.length+1)*25:=by
    grind
   rw[e0,e1]
   by_cases hroom:s0.length+1≤cap
   ·refine(Yn w g s0.length cap k g1 cap1 cur cur1 hk hroom (by unfold maxLen at hcm;omega) hne hg hcs hg1 hcs1 hnc1 ho ho1).mono ?_
    rintro en w' ⟨rfl,cur',p1,p2,p3,p4,p5⟩
    have hO:Only (fun x=>(e.sv 0).ownBlock=some x) w w':=⟨p4.os,p4.tape,p4.output,p4.size,fun j hj hn=>p4.block j hj fun he=>hn (by injection he with he;rw[e0,he];rfl)⟩
    rw[hcs'] at p3
    have hown:w'.ownsRow 0 48 25 (.slice (some ⟨g,0,none⟩) (s0.length+1) cap) (r.map ak.lf).length ((C 0).take (k*25)++C 1++(C 0).drop (k*25)):=by
     rw[List.length_map,hrl]
     exact⟨hxl,.inr ⟨g,cap,cur',rfl,Nat.zero_le _,p1,hroom,hcm,p2,p3⟩⟩
    obtain⟨e',C',r1,r2,r3⟩:=abv hM hO hown (fun x hx=>.inl (by rw[e0];exact hx)) hrv hrn (by rw[List.length_map,hrl];omega) (.inr ⟨g,cap,by rw[List.length_map,hrl]⟩)
    grind
   refine(abu w g s0.length cap k g1 cap1 cur cur1 hk hnc (by omega) hbig hg hcs hg1 hcs1 hnc1 ho ho1).mono ?_
   rintro en w' ⟨G,rfl,p0,pm,cur',p1,p2,p3,p4⟩
   rw[hcs'] at p3
   have hown:w'.ownsRow 0 48 25 (.slice (some ⟨w.heap.size,0,none⟩) (s0.length+1) G) (r.map ak.lf).length ((C 0).take (k*25)++C 1++(C 0).drop (k*25)):=by
    rw[List.length_map,hrl]
    exact⟨hxl,.inr ⟨w.heap.size,G,cur',rfl,Nat.zero_le _,p1,p0,pm,p2,p3⟩⟩
   obtain⟨e',C',r1,r2,r3⟩:=abv hM (Only.IE _ p4) hown (fun x hx=>.inr (by have hx:some w.heap.size=some x:=hx;injection hx with hx;exact Nat.le_of_eq hx)) hrv hrn (by rw[List.length_map,hrl];omega) (.inr ⟨w.heap.size,G,by rw[List.length_map,hrl]⟩)
   grind
  cases h
end Go.Proofs.YtpdlghcgekojlaaGreatDoor
namespace Go.Proofs.YtpdlghcgekojlaaGreatDoor
open Go.RowKit Go.Maps
theorem Md{H:Type}{P:Program}{k:TypeId}{R:Value→Option (DataW H×List MemPlace)}{b r n cnt:Nat}{D:DataW H}{left:Lit→Bool}{w w':World}(h:w.ranges P k R b r n D left cnt)(hb:w'.heap[b]?=w.heap[b]?)(hr:w'.heap[r]?=w.heap[r]?):w'.ranges P k R b r n D left cnt:=by
 obtain⟨es,clock,since,seen,c0,h1,h2,h3,h4,h5,h6⟩:=h
 exact⟨es,clock,since,seen,c0,hb.trans h1,h2,h3,h4,hr.trans h5,h6⟩
theorem IL{H:Type}{P:Program}{k:TypeId}{R:Value→Option (DataW H×List MemPlace)}{b r n cnt:Nat}{D:DataW H}{left:Lit→Bool}{w:World}(h:w.ranges P k R b r n D left cnt):b<w.heap.size∧r<w.heap.size:=by
 obtain⟨es,clock,since,seen,c0,h1,h2,h3,h4,h5,h6⟩:=h
 grind
theorem Pj{H:Type}{P:Program}{k:TypeId}{R:Value→Option (DataW H×List MemPlace)}{b r n cnt:Nat}{D:DataW H}{left:Lit→Bool}{w w':World}(h:w.ranges P k R b r n D left cnt)(hb:w'.heap[b]?=w.heap[b]?)(hr:w'.heap[r]?=w.heap[r]?){v:Value}
 (he:(Instr.entry (.pointer (some ⟨r,0,none⟩))).run P w=.ok v w):(Instr.entry (.pointer (some ⟨r,0,none⟩))).run P w'=.ok v w':=by
 obtain⟨es,clock,since,seen,c0,h1,h2,h3,h4,h5,h6⟩:=h
 have h1':=hb.trans h1
 have h5':=hr.trans h5
 cases hbk:seen.back? with
 |none=>simp[Instr.entry,getObj,Sem.run_bind,Sem.run,h1,h5,hbk,Result.andThen,stuck] at he
 |some st=>
  by_cases hc:clock=c0
  ·cases hf:es.find? (·.born==st) with
   |none=>simp[Instr.entry,getObj,Sem.run_bind,Sem.run,h1,h5,hbk,Result.andThen,hc,hf,unsupported] at he
   |some e=>
    simp[Instr.entry,getObj,Sem.run_bind,Sem.run,h1,h5,hbk,Result.andThen,hc,hf] at he
    simp[Instr.entry,getObj,Sem.run_bind,Sem.run,h1',h5',hbk,Result.andThen,hc,hf,he]
  simp[Instr.entry,getObj,Sem.run_bind,Sem.run,h1,h5,hbk,Result.andThen,hc,unsupported] at he
def Pm(vs:ByteArray→Value)(l:List (ByteArray×ah)):DataW Value:=.map (mJ (l.map fun p=>(p.1,vs p.1)))
structure abx (l:List (ByteArray×ah)) (vs:ByteArray→Value) (bm:Nat) (left:Lit→Bool) (cnt:Nat) (x:ah) (I:Gh) (w:World) (g:Nat) (F:Nat→Prop):Prop where
 rg:w.ranges Tryz.prog 9 xX bm g l.length (Pm vs l) left cnt
 en:∃k cs,(Instr.entry (.pointer (some ⟨g,0,none⟩))).run Tryz.prog w=.ok (.tuple #[k,.agg cs.toArray]) w∧bV I (ah.lf1 x) cs
 F:∀y,F y↔y=g∨y=bm
def qU(l:List (ByteArray×ah))(vs:ByteArray→Value)(bm:Nat)(left:Lit→Bool)(cnt:Nat)(x:ah):Rsc where
 At:=fun I w g _ F _=>abx l vs bm left cnt x I w g F
 mono:=fun⟨h1,⟨k,cs,h2,h3⟩,h4⟩ hI q=>⟨Md h1 (q _ ((h4 _).2 (.inr rfl))) (q _ ((h4 _).2 (.inl rfl))),⟨k,cs,Pj h1 (q _ ((h4 _).2 (.inr rfl))) (q _ ((h4 _).2 (.inl rfl))) h2,bV.mono hI _ _ h3⟩,h4⟩
 lt:=fun⟨h1,_,h4⟩ x hx=>by
  rcases(h4 x).1 hx with rfl|rfl
  ·exact(IL h1).2
  exact(IL h1).1
theorem agm(l:List (ByteArray×ah))(vs:ByteArray→Value)(bm:Nat)(left:Lit→Bool)(cnt:Nat)(x:ah):
 OpH Tryz.prog GI .ent [.ptr 0 0] [.res (qU l vs bm left cnt x) none] (.tup [.any,.dat (ah.lf1 x)]) [.res (qU l vs bm left cnt x) none]:=by
 refine Ht fun e w vz v0 h0 hA has=>?_
 obtain⟨u,q,rfl,hu,hq⟩:=VRs.mP has
 obtain rfl:=VRs.xk hq
 unfold VR at hu
 obtain⟨_,rfl⟩:=hu
 have hA:abx l vs bm left cnt x e.I w (e.m 0) (e.fp 0):=hA
 obtain⟨k,cs,h2,h3⟩:=hA.en
 exact⟨_,w,e.im 0,e.fp 0,v0,h2,hA,fun _ _ h=>h,Only.refl _ w,fun _ h=>.inr h,fun e' _ _ qI=>VR.tup.2 ⟨[_,_],rfl,VRs.cons (by unfold VR;trivial) (VRs.one (VR.dat.2 ⟨cs,rfl,by rw[qI];exact h3⟩))⟩⟩
end Go.Proofs.YtpdlghcgekojlaaGreatDoor
namespace Go.Proofs.YtpdlghcgekojlaaGreatDoor
open Go.RowKit
set_option maxRecDepth 20000 in
set_option maxHeartbeats 4000000 in
noncomputable def Me(p_bm:Nat)(p_cnt:Nat)(p_l:List (ByteArray×ah))(p_left:Lit→Bool)(p_s:ByteArray)(p_t:Int)(p_vs:ByteArray→Value)(p_x:ah)(v25:Int)(x27:ay):Mo ((Bool)):=
 .ite (decide ((p_x.dw:Int)≤p_t)) (fun c29=>
  .say [.gd 16004 true] (okc c29 ok0)<|
  .ret ⟨[.kill 2],[1,2,8,15,21,22,23,36],[],3⟩ (decide ((x27.aT:ByteArray)=(p_s:ByteArray)))) fun c29=>
 .say [.gd 16004 false] (okc c29 ok0)<|
 .ret ⟨[.kill 2],[1,2,8,15,21,22,23,36],[],3⟩ (false)
noncomputable def aby(p_bm:Nat)(p_cnt:Nat)(p_l:List (ByteArray×ah))(p_left:Lit→Bool)(p_s:ByteArray)(p_t:Int)(p_vs:ByteArray→Value)(p_x:ah)(v25:Int)(x27:ay):Option ((Bool)):=Mo.den (Me p_bm p_cnt p_l p_left p_s p_t p_vs p_x v25 x27)
noncomputable def MB(r_:(Bool)):Exit:=.normal
noncomputable def DW(p_bm:Nat)(p_cnt:Nat)(p_l:List (ByteArray×ah))(p_left:Lit→Bool)(p_s:ByteArray)(p_t:Int)(p_vs:ByteArray→Value)(p_x:ah)(v25:Int)(r_:(Bool)):St:=⟨[(1,.lf (.str p_s)),(2,.lf (.int .i64 p_t)),(8,.ptr 1 0),(15,.ptr 0 0),(21,.lf (.rows 78 (p_x.bJ.map ay.lf))),(22,.lf (.int .i64 (p_x.bJ.length:Int))),(23,.lf (.int .i64 v25)),(36,.lf (.bool r_))],[.res (qU p_l p_vs p_bm p_left p_cnt p_x) none,.box 128 (.agg [.lf (.int .i64 p_x.dw),.lf (.rows 78 (p_x.bJ.map ay.lf))]),.dead]⟩
set_option maxRecDepth 20000 in
set_option maxHeartbeats 4000000 in
theorem agn{p_bm:Nat}{p_cnt:Nat}{p_l:List (ByteArray×ah)}{p_left:Lit→Bool}{p_s:ByteArray}{p_t:Int}{p_vs:ByteArray→Value}{p_x:ah}{v25:Int}{x27:ay}{r_:(Bool)}(h:aby p_bm p_cnt p_l p_left p_s p_t p_vs p_x v25 x27=some r_):AWa Tryz.prog GI TTc Tryz.f67.ntmps 1 (Code.sub (bodyC Tryz.f67) [1,0,1,0,0,1,1,0,1,1,0,0,1,1,0,0,1,0]) (MB r_) (DW p_bm p_cnt p_l p_left p_s p_t p_vs p_x v25 r_) ⟨[(1,.lf (.str p_s)),(2,.lf (.int .i64 p_t)),(8,.ptr 1 0),(10,.ptr 2 0),(15,.ptr 0 0),(21,.lf (.rows 78 (p_x.bJ.map ay.lf))),(22,.lf (.int .i64 (p_x.bJ.length:Int))),(23,.lf (.int .i64 v25))],[.res (qU p_l p_vs p_bm p_left p_cnt p_x) none,.box 128 (.agg [.lf (.int .i64 p_x.dw),.lf (.rows 78 (p_x.bJ.map ay.lf))]),.box 64 (.agg ((ay.lf1 x27).map AV.lf))]⟩:=
 uP jD (Me p_bm p_cnt p_l p_left p_s p_t p_vs p_x v25 x27) MB (DW p_bm p_cnt p_l p_left p_s p_t p_vs p_x v25) (by kernel_rfl) h
set_option maxRecDepth 20000 in
set_option maxHeartbeats 4000000 in
noncomputable def DX(p_bm:Nat)(p_cnt:Nat)(p_l:List (ByteArray×ah))(p_left:Lit→Bool)(p_s:ByteArray)(p_t:Int)(p_vs:ByteArray→Value)(p_x:ah):(Int)→Mo ((Int)⊕(Unit⊕Unit)):=fun(v25)=>
 .ite (decide ((v25:Int)<(p_x.bJ.length:Int))) (fun c26=>
  .say [.br true] (okc c26 ok0)<|
  .ask (jf p_x.bJ v25) fun x27 h28=>
  .say [.row (ay.lf1 x27)] (okc (eu ay.aY h28:(0:Int)≤v25∧(p_x.bJ.map ay.lf)[v25.toNat]?=some (ay.lf1 x27)) ok0)<|
  .ask (aby p_bm p_cnt p_l p_left p_s p_t p_vs p_x v25 x27) fun r33 h34=>
  .say [.part [] 21 [1,2,8,10,15,21,22,23] 3 (MB r33) (DW p_bm p_cnt p_l p_left p_s p_t p_vs p_x v25 r33).T (DW p_bm p_cnt p_l p_left p_s p_t p_vs p_x v25 r33).H] (okc (agn h34) ok0)<|
  .ite (r33) (fun c35=>
   .say [.br true] (okc c35 ok0)<|
   .ret ⟨[.kill 1],[6],[],2⟩ (.inr (.inl ()))) fun c35=>
  .say [.br false] (okc c35 ok0)<|
  .ret ⟨[],[1,2,8,15,21,22,23],[],2⟩ (.inl (IntKind.wrap .i64 (v25+1)))) fun c26=>
 .say [.br false] (okc c26 ok0)<|
 .ret ⟨[.kill 1],[1,2,15],[],2⟩ (.inr (.inr (())))
noncomputable def abz(p_bm:Nat)(p_cnt:Nat)(p_l:List (ByteArray×ah))(p_left:Lit→Bool)(p_s:ByteArray)(p_t:Int)(p_vs:ByteArray→Value)(p_x:ah)(v25:Int):Option (Unit⊕Unit):=dA (fun v_=>(DX p_bm p_cnt p_l p_left p_s p_t p_vs p_x v_).den) FU (v25)
noncomputable def WG(p_bm:Nat)(p_cnt:Nat)(p_l:List (ByteArray×ah))(p_left:Lit→Bool)(p_s:ByteArray)(p_t:Int)(p_vs:ByteArray→Value)(p_x:ah):(Int)→St:=fun(v25)=>⟨[(1,.lf (.str p_s)),(2,.lf (.int .i64 p_t)),(8,.ptr 1 0),(15,.ptr 0 0),(21,.lf (.rows 78 (p_x.bJ.map ay.lf))),(22,.lf (.int .i64 (p_x.bJ.length:Int))),(23,.lf (.int .i64 v25))],[.res (qU p_l p_vs p_bm p_left p_cnt p_x) none,.box 128 (.agg [.lf (.int .i64 p_x.dw),.lf (.rows 78 (p_x.bJ.map ay.lf))])]⟩
noncomputable def DY(r_:Unit⊕Unit):Exit:=match r_ with
 |.inl o_=>.ret
 |.inr (o_)=>.exit 2
noncomputable def wG(p_bm:Nat)(p_cnt:Nat)(p_l:List (ByteArray×ah))(p_left:Lit→Bool)(p_s:ByteArray)(p_t:Int)(p_vs:ByteArray→Value)(p_x:ah)(r_:Unit⊕Unit):St:=match r_ with
 |.inl o_=>⟨[(6,.lf (.bool true))],[.res (qU p_l p_vs p_bm p_left p_cnt p_x) none,.dead]⟩
 |.inr (o_)=>⟨[(1,.lf (.str p_s)),(2,.lf (.int .i64 p_t)),(15,.ptr 0 0)],[.res (qU p_l p_vs p_bm p_left p_cnt p_x) none,.dead]⟩
set_option maxRecDepth 20000 in
set_option maxHeartbeats 4000000 in
theorem WH{p_bm:Nat}{p_cnt:Nat}{p_l:List (ByteArray×ah)}{p_left:Lit→Bool}{p_s:ByteArray}{p_t:Int}{p_vs:ByteArray→Value}{p_x:ah}{v25:Int}{r_:Unit⊕Unit}(h:abz p_bm p_cnt p_l p_left p_s p_t p_vs p_x v25=some r_):AWa Tryz.prog GI TTc Tryz.f67.ntmps 1 (Code.sub (bodyC Tryz.f67) [1,0,1,0,0,1,1,0,1,1,0]) (DY r_) (wG p_bm p_cnt p_l p_left p_s p_t p_vs p_x r_) (WG p_bm p_cnt p_l p_left p_s p_t p_vs p_x (v25)):=
 Uc jD (body:=(Code.sub (bodyC Tryz.f67) [1,0,1,0,0,1,1,0,1,1,0,0])) (by kernel_rfl) (DX p_bm p_cnt p_l p_left p_s p_t p_vs p_x) (WG p_bm p_cnt p_l p_left p_s p_t p_vs p_x) DY (wG p_bm p_cnt p_l p_left p_s p_t p_vs p_x) (fun r_=>by rcases r_ with _|_<;>rfl) (fun v_=>by kernel_rfl) h
set_option maxRecDepth 20000 in
set_option maxHeartbeats 4000000 in
noncomputable def EO(p_bm:Nat)(p_cnt:Nat)(p_l:List (ByteArray×ah))(p_left:Lit→Bool)(p_s:ByteArray)(p_t:Int)(p_vs:ByteArray→Value)(p_x:ah):Mo (Unit⊕Unit):=
 .say [.opH [0] (.tup [.any,.dat (ah.lf1 p_x)]) [.res (qU p_l p_vs p_bm p_left p_cnt p_x) none],.num p_x.bJ.length] (okc (agm p_l p_vs p_bm p_left p_cnt p_x) (okc (by simp:p_x.bJ.length=(p_x.bJ.map ay.lf).length) ok0))<|
 .jh (abz p_bm p_cnt p_l p_left p_s p_t p_vs p_x 0) (fun o38 h37=>
  .say [.part [] 0 [1,2,8,15,21,22,23] 2 (DY (.inl o38)) (wG p_bm p_cnt p_l p_left p_s p_t p_vs p_x (.inl o38)).T (wG p_bm p_cnt p_l p_left p_s p_t p_vs p_x (.inl o38)).H] (okc (WH h37) ok0)<|
  .ret ⟨[],[6],[],1⟩ (.inl ())) fun o39 h37=>
 .say [.part [] 0 [1,2,8,15,21,22,23] 2 (DY (.inr (o39))) (wG p_bm p_cnt p_l p_left p_s p_t p_vs p_x (.inr (o39))).T (wG p_bm p_cnt p_l p_left p_s p_t p_vs p_x (.inr (o39))).H] (okc (WH h37) ok0)<|
 .ret ⟨[],[1,2,15],[],1⟩ (.inr (()))
noncomputable def MC(p_bm:Nat)(p_cnt:Nat)(p_l:List (ByteArray×ah))(p_left:Lit→Bool)(p_s:ByteArray)(p_t:Int)(p_vs:ByteArray→Value)(p_x:ah):Option (Unit⊕Unit):=Mo.den (EO p_bm p_cnt p_l p_left p_s p_t p_vs p_x)
noncomputable def Pn(r_:Unit⊕Unit):Exit:=match r_ with
 |.inl o_=>.ret
 |.inr (o_)=>.normal
noncomputable def Po(p_bm:Nat)(p_cnt:Nat)(p_l:List (ByteArray×ah))(p_left:Lit→Bool)(p_s:ByteArray)(p_t:Int)(p_vs:ByteArray→Value)(p_x:ah)(r_:Unit⊕Unit):St:=match r_ with
 |.inl o_=>⟨[(6,.lf (.bool true))],[.res (qU p_l p_vs p_bm p_left p_cnt p_x) none]⟩
 |.inr (o_)=>⟨[(1,.lf (.str p_s)),(2,.lf (.int .i64 p_t)),(15,.ptr 0 0)],[.res (qU p_l p_vs p_bm p_left p_cnt p_x) none]⟩
set_option maxRecDepth 20000 in
set_option maxHeartbeats 4000000 in
theorem abA{p_bm:Nat}{p_cnt:Nat}{p_l:List (ByteArray×ah)}{p_left:Lit→Bool}{p_s:ByteArray}{p_t:Int}{p_vs:ByteArray→Value}{p_x:ah}{r_:Unit⊕Unit}(h:MC p_bm p_cnt p_l p_left p_s p_t p_vs p_x=some r_):AWa Tryz.prog GI TTc Tryz.f67.ntmps 1 (Code.sub (bodyC Tryz.f67) [1,0,1,0,0,1,1,0]) (Pn r_) (Po p_bm p_cnt p_l p_left p_s p_t p_vs p_x r_) ⟨[(1,.lf (.str p_s)),(2,.lf (.int .i64 p_t)),(15,.ptr 0 0)],[.res (qU p_l p_vs p_bm p_left p_cnt p_x) none]⟩:=
 uP jD (EO p_bm p_cnt p_l p_left p_s p_t p_vs p_x) Pn (Po p_bm p_cnt p_l p_left p_s p_t p_vs p_x) (by kernel_rfl) h
end Go.Proofs.YtpdlghcgekojlaaGreatDoor
namespace Go.Proofs.YtpdlghcgekojlaaGreatDoor
open Go.RowKit Go.Maps
theorem abB(l:List Value)(h:l.length=38):∃x0 x1 x2 x3 x4 x5 x6 x7 x8 x9 x10 x11 x12 x13 x14 x15 x16 x17 x18 x19 x20 x21 x22 x23 x24 x25 x26 x27 x28 x29 x30 x31 x32 x33 x34 x35 x36 x37:Value,l=[x0,x1,x2,x3,x4,x5,x6,x7,x8,x9,x10,x11,x12,x13,x14,x15,x16,x17,x18,x19,x20,x21,x22,x23,x24,x25,x26,x27,x28,x29,x30,x31,x32,x33,x34,x35,x36,x37]:=by
 rcases l with _|⟨x0,l⟩
 ·simp at h
 rcases l with _|⟨x1,l⟩
 ·simp at h
 rcases l with _|⟨x2,l⟩
 ·simp at h
 rcases l with _|⟨x3,l⟩
 ·simp at h
 rcases l with _|⟨x4,l⟩
 ·simp at h
 rcases l with _|⟨x5,l⟩
 ·simp at h
 rcases l with _|⟨x6,l⟩
 ·simp at h
 rcases l with _|⟨x7,l⟩
 ·simp at h
 rcases l with _|⟨x8,l⟩
 ·simp at h
 rcases l with _|⟨x9,l⟩
 ·simp at h
 rcases l with _|⟨x10,l⟩
 ·simp at h
 rcases l with _|⟨x11,l⟩
 ·simp at h
 rcases l with _|⟨x12,l⟩
 ·simp at h
 rcases l with _|⟨x13,l⟩
 ·simp at h
 rcases l with _|⟨x14,l⟩
 ·simp at h
 rcases l with _|⟨x15,l⟩
 ·simp at h
 rcases l with _|⟨x16,l⟩
 ·simp at h
 rcases l with _|⟨x17,l⟩
 ·simp at h
 rcases l with _|⟨x18,l⟩
 ·simp at h
 rcases l with _|⟨x19,l⟩
 ·simp at h
 rcases l with _|⟨x20,l⟩
 ·simp at h
 rcases l with _|⟨x21,l⟩
 ·simp at h
 rcases l with _|⟨x22,l⟩
 ·simp at h
 rcases l with _|⟨x23,l⟩
 ·simp at h
 rcases l with _|⟨x24,l⟩
 ·simp at h
 rcases l with _|⟨x25,l⟩
 ·simp at h
 rcases l with _|⟨x26,l⟩
 ·simp at h
 rcases l with _|⟨x27,l⟩
 ·simp at h
 rcases l with _|⟨x28,l⟩
 ·simp at h
 rcases l with _|⟨x29,l⟩
 ·simp at h
 rcases l with _|⟨x30,l⟩
 ·simp at h
 rcases l with _|⟨x31,l⟩
 ·simp at h
 rcases l with _|⟨x32,l⟩
 ·simp at h
 rcases l with _|⟨x33,l⟩
 ·simp at h
 rcases l with _|⟨x34,l⟩
 ·simp at h
 rcases l with _|⟨x35,l⟩
 ·simp at h
 rcases l with _|⟨x36,l⟩
 ·simp at h
 rcases l with _|⟨x37,l⟩
 ·simp at h
 obtain rfl:l=[]:=List.eq_nil_of_length_eq_zero (by simpa using h)
 grind
noncomputable def EP(s:ByteArray)(t:Int)(x:ah):Option (Unit⊕Unit):=MC 0 0 [] (fun _=>false) s t (fun _=>undef) x
set_option maxRecDepth 20000 in
theorem agp(s:ByteArray)(t:Int)(x:ah)(bm cnt:Nat)(l:List (ByteArray×ah))(left:Lit→Bool)(vs:ByteArray→Value):MC bm cnt l left s t vs x=EP s t x:=by kernel_rfl
theorem agq{vs:ByteArray→Value}{l:List (ByteArray×ah)}{s:ByteArray}{c:Value}(h:∀zd,(Pm vs l).atKey (.string s.data.toList) zd=.held c):∃p,aI s l=some p∧vs s=c:=by
 have h1:=fun z=>(LV s (l.map fun p:ByteArray×ah=>(p.1,vs p.1)) z).symm.trans (h (.held z))
 simp only[qR] at h1
 cases hg:aI s l with
 |some p=>
  simp_all
 |none=>
  have a:=h1 (.bool true)
  have b:=h1 (.bool false)
  grind
theorem Hy{P:Program}{k:TypeId}(hk:P.underlying k=some .string){x:ByteArray}{kl:Lit}(h:keyOf P k (.string x)=some kl):kl=.string x.data.toList:=by
 simp[keyOf,hk,mapKey] at h
 grind
theorem abC{I:Gh}{s:ByteArray}{t:Int}{r bm cnt:Nat}{l:List (ByteArray×ah)}{vs:ByteArray→Value}{left:Lit→Bool}{p:ah}{a:Act}{w:World}(hG:GI I)(hI:Inv I w)(hr:Av I r)(hbm:Av I bm)(hs:s.size≤maxLen)(ht:(Lit.int .i64 t).wf=true)
 (hsz:a.tmps.size=38) (hdf:a.defers=[]) (h1:a.tmps[1]?=some (.string s)) (h2:a.tmps[2]?=some (.int .i64 t)) (h15:a.tmps[15]?=some (.pointer (some ⟨r,0,none⟩))) (hit:abx l vs bm left cnt p I w r (fun y=>y=r∨y=bm)) {hk:∀b:Nat,b=0→b<1}:
 Rep (mkC Tryz.prog GI TTc Tryz.f67.ntmps (k0:=1) ⟨w,I,fun y=>y=r∨y=bm,⟨fun b=>b=0,fun _=>r,fun _=>undef,I,fun _ _=>none,fun _ y=>y=r∨y=bm⟩,hk,[]⟩) ⟨fun b=>b=0,fun _=>r,fun _=>undef,I,fun _ _=>none,fun _ y=>y=r∨y=bm⟩ (fun _=>[])
  ⟨[(1,.lf (.str s)),(2,.lf (.int .i64 t)),(15,.ptr 0 0)],[.res (qU l vs bm left cnt p) none]⟩ a w where
 tmp:=fun j v h=>by
  simp only[lk] at h
  split at h
  ·rename_i hj
   obtain rfl:=Nat.eq_of_beq_eq_true hj
   injection h with h;subst h
   exact⟨_,h1,VR.lf.2 (by unfold LRp;exact⟨rfl,hs⟩)⟩
  split at h
  ·rename_i hj
   obtain rfl:=Nat.eq_of_beq_eq_true hj
   injection h with h;subst h
   exact⟨_,h2,VR.lf.2 (by unfold LRp;exact⟨rfl,ht⟩)⟩
  split at h
  ·rename_i hj
   obtain rfl:=Nat.eq_of_beq_eq_true hj
   injection h with h;subst h
   exact⟨_,h15,by unfold VR;exact⟨rfl,rfl⟩⟩
  cases h
 size:=hsz
 defers:=hdf
 mem:={
  hv:=fun b q hq=>by obtain⟨rfl,rfl⟩:=jH hq;exact rfl
  hw:=fun b q hq=>by obtain⟨rfl,rfl⟩:=jH hq;exact⟨undef,hit,fun _ h=>by cases h⟩
  bound:=fun b hb=>by have hb:b=0:=hb;subst hb;simp
  inj:=fun b b' q q' g h1 h2 _ _=>by rw[(jH h1).1,(jH h2).1]
  av:=fun b q g hq hg=>by
   obtain⟨rfl,rfl⟩:=jH hq
   rcases hg with rfl|rfl
   all_goals omega
  mine:=fun b q g hq hg=>by obtain⟨rfl,rfl⟩:=jH hq;exact .inr hg
  inv:=hI
  le:=Le.refl _
  fresh:=fun b o v m1 m2=>by
   have m1:I b o=some v:=m1
   have m2:I b o=none:=m2
   grind
  ch:=Only.refl _ w
  g:=hG
  bse:=fun b hb=>⟨hb,rfl,rfl,fun _ _ h=>h⟩ }
set_option maxRecDepth 100000 in
set_option maxHeartbeats 4000000 in
theorem Yq(I:Gh)(hG:GI I)(s:ByteArray)(t:Int)(r bm:Nat)(l:List (ByteArray×ah))(vs:ByteArray→Value)(hB:∀k x,aI k l=some x→∃cs:List Value,vs k=.agg cs.toArray∧bV I (ah.lf1 x) cs)(hM:∀k x,aI k l=some x→∃y,EP s t x=some y)
 (hs:s.size≤maxLen) (ht:(Lit.int .i64 t).wf=true) (hr:Av I r) (hbm:Av I bm) (Q:Exit→Act→World→Prop):∀(cnt:Nat) (left:Lit→Bool) (a:Act) (w:World),a.tmps.size=38→a.defers=[]→a.tmps[1]?=some (.string s)→a.tmps[2]?=some (.int .i64 t)→a.tmps[15]?=some (.pointer (some ⟨r,0,none⟩))→
  Inv I w→w.ranges Tryz.prog 9 xX bm r l.length (Pm vs l) left cnt→(∀k x,aI k l=some x→left (.string k.data.toList)=false→EP s t x=some (.inr ()))→
  (∀a' w',Only (fun y=>y=r∨y=bm) w w'→a'.defers=[]→a'.tmps.size=38→Inv I w'→(∃left cnt,w'.ranges Tryz.prog 9 xX bm r l.length (Pm vs l) left cnt)→(∀k x,aI k l=some x→EP s t x=some (.inr ()))→Q (.exit 0) a' w')→
  (∀a' w',Only (fun y=>y=r∨y=bm) w w'→a'.defers=[]→a'.tmps[6]?=some (.bool true)→Inv I w'→(∃left cnt,w'.ranges Tryz.prog 9 xX bm r l.length (Pm vs l) left cnt)→(∃k x,aI k l=some x∧EP s t x=some (.inl ()))→Q .ret a' w')→
  LoopIn Tryz.prog (Code.sub (bodyC Tryz.f67) [1,0,1,0,0]) Q a w:=by
 intro cnt
 induction cnt using Nat.strongRecOn with
 |ind cnt ih=>
  intro left a w hsz hdf h1 h2 h15 hI hrg hno hE hR
  obtain⟨⟨tm⟩,df⟩:=a
  obtain⟨x0,x1,x2,x3,x4,x5,x6,x7,x8,x9,x10,x11,x12,x13,x14,x15,x16,x17,x18,x19,x20,x21,x22,x23,x24,x25,x26,x27,x28,x29,x30,x31,x32,x33,x34,x35,x36,x37,rfl⟩:=abB tm (by simpa using hsz)
  obtain rfl:df=[]:=hdf
  obtain rfl:x1=.string s:=by simpa using h1
  obtain rfl:x2=.int .i64 t:=by simpa using h2
  obtain rfl:x15=.pointer (some ⟨r,0,none⟩):=by simpa using h15
  clear hsz h1 h2 h15
  refine LoopIn.step ?_
  obtain⟨cb,hcb⟩:∃cb,cb=Code.sub (bodyC Tryz.f67) [1,0,1,0,0,1,1,0]:=⟨_,rfl⟩
  have hbody : Code.sub (bodyC Tryz.f67) [1, 0, 1, 0, 0] = .seq (Code.region 2 #[{ dst := some 16, op := Op.next (Operand.tmp 15) false, type := 0, pos := "dataset.go:137", after := #[], guard := none }, { dst := some 17, op := Op.extract (Operand.tmp 16) 0, type := 4, pos := "dataset.go:137", after := #[{ on := 0, ground := Ground.data }], guard := none }] false) (.seq (Code.cond (Operand.tmp 17) Code.skip (Code.exit 0)) (Code.block 1 cb)) := by subst hcb; kernel_rfl
  rw[hbody]
  have HC:=Go.Lib.hid hcb
  have HBD:=Go.Lib.hid hbody
  clear hbody hcb
  have ih:=Go.Lib.hid ih
  go_wp2_with (first
   |(at_next;refine wpList_next_ranges _ rfl _ rfl 9 (string_keyed (by kernel_rfl)) xX (fun x:ByteArray=>.string x) (fun v:Value=>v) (Hw (by kernel_rfl)) (fun v y _=>⟨v,rfl⟩) bm r l.length _ _ _ rfl hrg ?_ ?_)
   |go_in)
  ·intro hc0 hl0
   go_wp2
   exact hE _ _ (Only.refl _ w) rfl rfl hI ⟨_,_,hrg⟩ fun k x hk=>hno k x hk (hl0 _)
  intro x c kl y1 y2 w1 cnt1 hk hlk hR1 hat hrg1 hlt hg1 hs1 hen
  have HEN:=Go.Lib.hid hen
  clear hen
  go_wp2
  have hI1:Inv I w1:=hI.only hg1 hr
  injection hR1 with hR1
  injection hR1 with hy1 _
  subst hy1
  obtain rfl:=Hy (by kernel_rfl) hk
  obtain⟨p,hp,hc⟩:=agq hat
  obtain⟨cs,hv,hcs⟩:=hB x p hp
  obtain⟨y,hy⟩:=hM x p hp
  have hen:(Instr.entry (.pointer (some ⟨r,0,none⟩))).run Tryz.prog w1=.ok (.tuple #[.string x,.agg cs.toArray]) w1:=by rw[←hv,hc];exact HEN.out
  have hO1:Only (fun y=>y=r∨y=bm) w w1:=Only.grown (Only.refl _ w) hg1 fun g e=>by injection e with e;exact .inr (.inl e.symm)
  have hit:abx l vs bm (fun z=>left z&&!z.sameKey (.string x.data.toList)) cnt1 p I w1 r (fun y=>y=r∨y=bm):=⟨hrg1,⟨_,cs,hen,hcs⟩,fun _=>Iff.rfl⟩
  rw[HC.out]
  refine Code.wp_mono ?_ (abA (p_bm:=bm) (p_cnt:=cnt1) (p_l:=l) (p_left:=fun z=>left z&&!z.sameKey (.string x.data.toList)) (p_s:=s) (p_t:=t) (p_vs:=vs) (p_x:=p) (r_:=y) (by rw[agp];exact hy)
   ⟨w1,I,fun y=>y=r∨y=bm,⟨fun b=>b=0,fun _=>r,fun _=>undef,I,fun _ _=>none,fun _ y=>y=r∨y=bm⟩,fun b hb=>by have hb:b=0:=hb;omega,[]⟩
   ⟨fun b=>b=0,fun _=>r,fun _=>undef,I,fun _ _=>none,fun _ y=>y=r∨y=bm⟩ (fun _=>[]) _ w1
   (abC hG hI1 hr hbm hs ht rfl rfl rfl rfl rfl hit))
  rintro x' a' w' ⟨rfl,e',C',hR'⟩
  have hm:=hR'.mem
  obtain⟨_,hit',_⟩:=hm.hw 0 (.res (qU l vs bm (fun z=>left z&&!z.sameKey (.string x.data.toList)) cnt1 p) none) (by cases y<;>rfl)
  have hb:=hm.bse 0 rfl
  have hm0:e'.m 0=r:=hb.2.1
  have hit':abx l vs bm (fun z=>left z&&!z.sameKey (.string x.data.toList)) cnt1 p e'.I w' (e'.m 0) (e'.fp 0):=hit'
  rw[hm0] at hit'
  have hO2:Only (fun y=>y=r∨y=bm) w w':=Only.Ef hO1 hm.ch fun g hg=>.inr hg
  have hI2:Inv I w':=Inv.le2 hm.inv hm.le
  cases y with
  |inl o=>
   obtain⟨u,hu,hv6⟩:=hR'.tmp 6 _ rfl
   obtain rfl:=hv6.bool
   exact hR a' w' hO2 hR'.defers hu hI2 ⟨_,_,hit'.rg⟩ ⟨x,p,hp,hy⟩
  |inr o=>
   obtain⟨u1,hu1,hv1⟩:=hR'.tmp 1 _ rfl
   obtain⟨u2,hu2,hv2⟩:=hR'.tmp 2 _ rfl
   obtain⟨u15,hu15,hv15⟩:=hR'.tmp 15 _ rfl
   obtain⟨rfl,_⟩:=hv1.str
   obtain⟨rfl,_⟩:=hv2.int
   unfold VR at hv15
   obtain⟨_,rfl⟩:=hv15
   rw[hm0] at hu15
   show LoopIn _ _ Q a' w'
   rw[←HBD.out]
   refine ih.out cnt1 hlt _ a' w' hR'.size hR'.defers hu1 hu2 hu15 hI2 hit'.rg (fun k q hq hl=>?_) (fun a2 w2 q1 q2 q3 q4 q5 q6=>hE a2 w2 (Only.Ef hO2 q1 fun g hg=>.inr hg) q2 q3 q4 q5 q6) (fun a2 w2 q1 q2 q3 q4 q5 q6=>hR a2 w2 (Only.Ef hO2 q1 fun g hg=>.inr hg) q2 q3 q4 q5 q6)
   rw[Bool.and_eq_false_iff] at hl
   rcases hl with hl|hl
   ·exact hno k q hq hl
   rw[key_eq,Bool.not_eq_false',decide_eq_true_iff] at hl
   subst hl
   rw[hp] at hq
   injection hq with hq
   subst hq
   exact hy
end Go.Proofs.YtpdlghcgekojlaaGreatDoor
namespace Go.Proofs.YtpdlghcgekojlaaGreatDoor
open Go.RowKit Go.Maps
noncomputable def yE(s:ByteArray)(t:Int):List (ByteArray×ah)→Option Bool
 |[]=>some false
 |p::r=>match EP s t p.2 with
  |none=>none
  |some y=>match yE s t r with
   |none=>none
   |some b=>match y with
    |.inl _=>some true
    |.inr _=>some b
theorem CX{s:ByteArray}{t:Int}:∀{l:List (ByteArray×ah)} {b:Bool},yE s t l=some b→(∀p∈l,∃y,EP s t p.2=some y)∧(b=true↔∃p∈l,EP s t p.2=some (.inl ()))
 |[],b,h=>by
  injection h with h;subst h
  simp
 |p::r,b,h=>by
  unfold yE at h
  split at h
  ·cases h
  rename_i y hy
  split at h
  ·cases h
  rename_i c hc
  obtain⟨h1,h2⟩:=CX hc
  grind
theorem CY{l:List (ByteArray×ah)}{vs:ByteArray→Value}{bm r cnt:Nat}{left:Lit→Bool}{w:World}(h:w.ranges Tryz.prog 9 xX bm r l.length (Pm vs l) left cnt):ji w Tryz.prog 9 bm (l.map fun p=>(p.1,vs p.1)):=by
 have:=h.owns
 unfold ji
 rw[List.length_map]
 exact this
set_option maxRecDepth 100000 in
set_option maxHeartbeats 4000000 in
theorem Yr(I:Gh)(hG:GI I)(w:World)(p bm:Nat)(s:ByteArray)(t:Int)(l:List (ByteArray×ah))(vs:ByteArray→Value)(b:Bool)(hb:yE s t l=some b)(hc:w.cell? ⟨p,3,none⟩=some (.map (some bm)))(hm:ji w Tryz.prog 9 bm (l.map fun p=>(p.1,vs p.1)))
 (hB:∀k x,aI k l=some x→∃cs:List Value,vs k=.agg cs.toArray∧bV I (ah.lf1 x) cs) (hs:s.size≤maxLen) (ht:(Lit.int .i64 t).wf=true) (hbm:Av I bm) (hI:Inv I w):
 Calls Tryz.prog 67 #[.pointer (some ⟨p,0,none⟩),.string s,.int .i64 t] w fun e w'=>e=.returned (.bool b)∧Only (fun y=>y=bm) w w'∧ji w' Tryz.prog 9 bm (l.map fun p=>(p.1,vs p.1))∧Inv I w':=by
 obtain⟨q1,q2⟩:=CX hb
 have htd:LU l:=by
  have:=hm.tidy (by kernel_rfl)
  unfold LU at this ⊢
  grind
 have hM:∀k x,aI k l=some x→∃y,EP s t x=some y:=fun k x h=>q1 _ (kQ h)
 have hm':w.ownsMap Tryz.prog 9 xX bm l.length (Pm vs l):=by
  have h:=hm
  unfold ji at h
  rw[List.length_map] at h
  exact h
 have hblt:bm<w.heap.size:=hm.lt
 go_enter Tryz.func67,Tryz.ntmps67
 go_wp2_with (first
  |(at_range;refine wpList_range_own _ rfl _ 110 rfl 9 128 (string_keyed (by kernel_rfl)) Tryz.underlying110 _ bm l.length _ rfl hm' ?_;intro w0 hrg0 hg0 hs0)
  |go_in)
 go_frame
 refine LoopIn.loop ?_
 have hI0:Inv I w0:=hI.ext ⟨hg0.os,hg0.tape,hg0.output,hg0.size,fun i hi=>hg0.block i hi (by simp)⟩
 have hOr:∀w',Only (fun y=>y=w.heap.size∨y=bm) w0 w'→Only (fun y=>y=bm) w w':=fun w' h=>by
  refine Only.Ef (Only.IE _ ⟨hg0.os,hg0.tape,hg0.output,hg0.size,fun i hi=>hg0.block i hi (by simp)⟩) h fun g hg=>?_
  omega
 refine Yq I hG s t w.heap.size bm l vs hB hM hs ht (hI.av (Nat.le_refl _)) hbm _ _ _ _ w0 rfl rfl rfl rfl rfl hI0 hrg0 ?_ ?_ ?_
 ·intro k x hk hh
  have h1:=O5 k (l.map fun p:ByteArray×ah=>(p.1,vs p.1))
  rw[qR,hk] at h1
  have h2:has (Pm vs l) (.string k.data.toList)=true:=h1
  grind
 ·intro a' w' hO hdf hsz hI' hrg hno
  have hf:b=false:=by
   cases b with
   |false=>rfl
   |true=>
    obtain⟨q,hq,hh⟩:=q2.1 rfl
    have:=hno q.1 q.2 (EH htd hq)
    grind
  obtain⟨lf,ct,hrg⟩:=hrg
  have hV:=CY hrg
  have hOO:=hOr w' hO
  subst hf
  obtain⟨⟨tm⟩,df⟩:=a'
  obtain⟨x0,x1,x2,x3,x4,x5,x6,x7,x8,x9,x10,x11,x12,x13,x14,x15,x16,x17,x18,x19,x20,x21,x22,x23,x24,x25,x26,x27,x28,x29,x30,x31,x32,x33,x34,x35,x36,x37,rfl⟩:=abB tm (by simpa using hsz)
  obtain rfl:df=[]:=hdf
  simp only[Exit.inBlock,Exit.then]
  go_wp2
  go_ret
  simp_all
 intro a' w' hO hdf h6 hI' hrg hy
 have hf:b=true:=by
  obtain⟨k,x,hk,hx⟩:=hy
  exact q2.2 ⟨(k,x),kQ hk,hx⟩
 obtain⟨lf,ct,hrg⟩:=hrg
 have hV:=CY hrg
 have hOO:=hOr w' hO
 subst hf
 simp only[Exit.inBlock,Exit.then]
 refine bodyPost_ret (results_tmp rfl _ _ _) hdf ?_
 simp_all
noncomputable def Q1(s:ByteArray)(t:Int)(a:Int)(q:List ak)(d:aZ)(l:List (ByteArray×ah))(z:List (ByteArray×au)):Option Bool:=yE s t l
set_option maxRecDepth 20000 in
theorem ahP(s:ByteArray)(t:Int)(a:Int)(q:List ak)(d:aZ)(l:List (ByteArray×ah))(z:List (ByteArray×au))(r:Bool)(h:Q1 s t a q d l z=some r):
 FnH Tryz.prog GI 67 [.ptr 0 0,.lf (.str s),.lf (.int .i64 t)] [.box 113 (.agg [.lf (.int .i64 a),.lf (.rows 25 (q.map ak.lf)),.mp 1,.mp 2,.mp 3]),.res (bH d none) none,.res (bP l) none,.res (bT z) none] (.lf (.bool r)) [.box 113 (.agg [.lf (.int .i64 a),.lf (.rows 25 (q.map ak.lf)),.mp 1,.mp 2,.mp 3]),.res (bH d none) none,.res (bP l) none,.res (bT z) none]:=by
 refine⟨by kernel_rfl,fun e C w ws hG hM hvs=>?_⟩
 obtain⟨u,v,x,rfl,hu,hv,hx⟩:=LY hvs
 obtain⟨rfl,hs⟩:=hv.str
 obtain⟨rfl,ht⟩:=hx.int
 unfold VR at hu
 obtain⟨_,rfl⟩:=hu
 have hbx:w.heap[e.m 0]?=some (.cells (C 0).toArray 113 (0,0)):=hM.hw 0 _ rfl
 obtain⟨_,hc⟩:=hM.hv 0 (.box 113 (.agg [.lf (.int .i64 a),.lf (.rows 25 (q.map ak.lf)),.mp 1,.mp 2,.mp 3])) rfl
 obtain⟨ds,hds,hq⟩:=VR.agg.1 hc
 obtain⟨c0,r0,rfl,_,hq⟩:=VRs.mP hq
 obtain⟨c1,r1,rfl,_,hq⟩:=VRs.mP hq
 obtain⟨c2,r2,rfl,_,hq⟩:=VRs.mP hq
 obtain⟨c3,r3,rfl,h3,hq⟩:=VRs.mP hq
 unfold VR at h3
 obtain⟨_,rfl⟩:=h3
 have hC:C 0=c0::c1::c2::.map (some (e.m 2))::r3:=by injection hds with hds;have:=congrArg Array.toList hds;simpa using this
 have hcell:w.cell? ⟨e.m 0,3,none⟩=some (.map (some (e.m 2))):=by
  unfold World.cell?
  grind
 obtain⟨v,⟨vs,hA,hB,hF⟩,hlk⟩:=hM.hw 2 (.res (bP l) none) rfl
 have hav:Av e.I (e.m 2):=hM.av 2 _ _ rfl ((hF _).2 rfl)
 refine(Yr e.I hG w (e.m 0) (e.m 2) s t l vs r h hcell hA hB hs ht hav hM.inv).mono ?_
 rintro en w' ⟨rfl,hO,hV,hI⟩
 have hne:∀b sl g,b≠2→[Slot.box 113 (.agg [.lf (.int .i64 a),.lf (.rows 25 (q.map ak.lf)),.mp 1,.mp 2,.mp 3]),.res (bH d none) none,.res (bP l) none,.res (bT z) none][b]?=some sl→dV e b sl g→g≠e.m 2:=fun b sl g hb hsl hg he=>by
  subst he
  exact hb (hM.inj b 2 sl _ _ hsl rfl hg ((hF _).2 rfl))
 refine⟨e,C,_,rfl,⟨Env.le.refl e,⟨hO.os,hO.tape,hO.output,hO.size,fun i hi hn=>hO.block i hi fun he=>hn ⟨2,_,rfl,(hF _).2 he⟩⟩,fun b o v m1 m2=>(by rw[m2] at m1;cases m1),fun x hx=>.inr hx⟩,⟨hM.hv,fun b sl hsl=>?_,hM.bound,hM.inj,hM.av,hI⟩,VR.jd⟩
 by_cases hb:b=2
 ·subst hb
  obtain rfl:sl=.res (bP l) none:=by simpa using hsl.symm
  exact⟨v,⟨vs,hV,hB,hF⟩,hlk⟩
 exact qM (hM.hw b sl hsl) fun g hg=>hO.block g (Il (hM.hw b sl hsl) hg) (hne b sl g hb hsl hg)
end Go.Proofs.YtpdlghcgekojlaaGreatDoor
namespace Go.Proofs.YtpdlghcgekojlaaGreatDoor
open Go.RowKit
set_option maxRecDepth 20000
set_option maxHeartbeats 4000000
noncomputable section
abbrev MF(p:aP):Slot:=.box 147 (.dat (aP.lf1 p))
abbrev bI(p:aj):Slot:=.box 40 (.dat (aj.lf1 p))
abbrev iY(p:aA):Slot:=.box 46 (.dat (aA.lf1 p))
abbrev lV(p:ak):Slot:=.box 48 (.dat (ak.lf1 p))
abbrev ahQ(p:dS):Slot:=.box 52 (.dat (dS.lf1 p))
abbrev eX(p:bf):Slot:=.box 55 (.dat (bf.lf1 p))
abbrev dY(p:aS):Slot:=.box 58 (.dat (aS.lf1 p))
abbrev anK(p:aW):Slot:=.box 60 (.dat (aW.lf1 p))
abbrev cO(p:ay):Slot:=.box 64 (.dat (ay.lf1 p))
abbrev Pq(p:bD):Slot:=.box 66 (.dat (bD.lf1 p))
abbrev bg(p:lS):Slot:=.box 89 (.dat (lS.lf1 p))
noncomputable def ajk(p_d:ak)(p_b0:ByteArray):Mo (Bool):=
 .ret ⟨[.kill 1],[0],[],1⟩ (decide ((p_d.fName:ByteArray)=(p_b0:ByteArray)))
noncomputable def aly(p_d:ak)(p_b0:ByteArray):Option (Bool):=Mo.den (ajk p_d p_b0)
theorem agr(p_d:ak)(p_b0:ByteArray):FH (aly p_d p_b0) 141 [.dat (ak.lf1 p_d),.ptr 0 0] [.box 9 (.dat [(.str p_b0)])] .b_ (fun _=>[.box 9 (.dat [(.str p_b0)])]):=jA Tryz.func141
noncomputable def uV(p_b0:ByteArray)(p_s:List ak):(Int)→Mo ((Int)⊕(Int)⊕Unit):=fun(v0)=>
 .iB (decide ((v0:Int)<(p_s.length:Int))) (.gx ak.aY p_s v0 fun x0 _=>
 .cH [0] (agr x0 p_b0) fun r0 _=>
 .iB (r0) (.rt [4] 1 (.inr (.inl (v0))))<|
 .rt [0,1,7,8] 1 (.inl (IntKind.wrap .i64 (v0+1))))<|
 .rt [] 1 (.inr (.inr (())))
noncomputable def abD(p_b0:ByteArray)(p_s:List ak)(v0:Int):Option ((Int)⊕Unit):=dA (fun v_=>(uV p_b0 p_s v_).den) FU (v0)
noncomputable def abE(p_s:List ak)(p_b0:ByteArray):Mo (Int):=
 .nu p_s ak.lf<|
 .l2m [] Tryz.f140 1 [1,0,1,0] 0 (fun(v0)=>⟨[(0,.lf (.rows 25 (p_s.map ak.lf))),(1,.clo 141 [.ptr 0 0]),(7,.i_ (p_s.length:Int)),(8,.i_ v0)],[.box 9 (.dat [(.str p_b0)])]⟩) .ret (fun o_=>⟨[(4,.i_ o_)],[.box 9 (.dat [(.str p_b0)])]⟩) (.exit 0) (fun _=>⟨[],[.box 9 (.dat [(.str p_b0)])]⟩) (abD p_b0 p_s 0) (uV p_b0 p_s) (0) (fun o0=>
 .rt [0] 1 (o0)) fun o1=>
 .rt [0] 1 ((-1))
noncomputable def Q33(p_s:List ak)(p_b0:ByteArray):Option (Int):=Mo.den (abE p_s p_b0)
theorem ajl(p_s:List ak)(p_b0:ByteArray):FH (Q33 p_s p_b0) 140 [.lf (.rows 25 (p_s.map ak.lf)),.clo 141 [.ptr 0 0]] [.box 9 (.dat [(.str p_b0)])] .i_ (fun _=>[.box 9 (.dat [(.str p_b0)])]):=jA Tryz.func140
noncomputable def abG(p_l:List ak)(p_name:ByteArray):Mo (Int):=
 .cH [0] (ajl p_l p_name) fun r0 _=>
 .ret (bF 1) (r0)
noncomputable def Q93(p_l:List ak)(p_name:ByteArray):Option (Int):=Mo.den (abG p_l p_name)
theorem ER(p_l:List ak)(p_name:ByteArray):FV (Q93 p_l p_name) 82 [.lf (.rows 25 (p_l.map ak.lf)),.lf (.str p_name)] .i_:=dI Tryz.func82
noncomputable def kS(p_s:ByteArray):Mo (Bool):=
 .oV 4003 (decide (((p_s.size:Int):Int)<1)) [0,11] 0 (decide ((32:Int)<(p_s.size:Int)))
noncomputable def kT(p_s:ByteArray)(r0:Bool):Mo (Bool):=
 .iG 4008 (r0) (.rt [0,16] 0 (true))<|
 .ask (kG p_s 0) fun b0 h0=>
 .say [.byt b0] (ok1 (fK h0))<|
 .rt [0,16] 0 ((b0.toNat:Int)==36)
noncomputable def kH(p_s:ByteArray)(v0:Int):Mo (Bool):=
 .ask (kG p_s v0) fun b0 h0=>
 .say [.byt b0] (ok1 (fK h0))<|
 .iG 14004 (decide (((b0.toNat:Int):Int)<33)) (.rt [0,3,18,19,31] 0 (true))<|
 .ask (kG p_s v0) fun b1 h1=>
 .say [.byt b1] (ok1 (fK h1))<|
 .rt [0,3,18,19,31] 0 (decide ((126:Int)<(b1.toNat:Int)))
noncomputable def kJ(p_s:ByteArray)(r0:Bool)(v0:Int):Mo (Bool):=
 .iG 14010 (r0) (.rt [0,18,19,37] 0 (true))<|
 .ask (kG p_s v0) fun b0 h0=>
 .say [.byt b0] (ok1 (fK h0))<|
 .rt [0,18,19,37] 0 ((b0.toNat:Int)==46)
noncomputable def zJ(p_s:ByteArray):(Int)→Mo ((Int)⊕(Unit⊕Unit)):=fun(v0)=>
 .iB (decide ((v0:Int)<(p_s.size:Int))) (.sf Tryz.f223 0 [1,1,0,1,0,0,1,1,0,0,1,0] 0 10 6 [(0,.lf (.str p_s)),(3,.i_ v0),(18,.i_ (p_s.size:Int)),(19,.i_ v0)] [] 31 (kH p_s v0) fun r0=>
 .sk Tryz.f223 0 [1,1,0,1,0,0,1,1,0,0,1,0] 10 6 6 (fun r_=>⟨[(0,.lf (.str p_s)),(18,.i_ (p_s.size:Int)),(19,.i_ v0),(37,.b_ r_)],[]⟩) ⟨[(0,.lf (.str p_s)),(3,.i_ v0),(18,.i_ (p_s.size:Int)),(19,.i_ v0),(31,.b_ r0)],[]⟩ (kJ p_s r0 v0) fun r1=>
 .iB (r1) (.rt [2] 0 (.inr (.inl ())))<|
 .rt [0,18,19] 0 (.inl (IntKind.wrap .i64 (v0+1))))<|
 .rt [] 0 (.inr (.inr (())))
noncomputable def abH(p_s:ByteArray)(v0:Int):Option (Unit⊕Unit):=dA (fun v_=>(zJ p_s v_).den) FU (v0)
noncomputable def alz(p_s:ByteArray):Mo (Bool):=
 .sf Tryz.f223 0 [1,0,0] 0 8 1 [(0,.lf (.str p_s))] [] 11 (kS p_s) fun r0=>
 .sb Tryz.f223 0 [1,0,0] 8 5 1 [(0,.lf (.str p_s))] [] 11 16 r0 (kT p_s r0) fun r1=>
 .iB (r1) (.ret (bF 1) (true))<|
 .l2m [] Tryz.f223 0 [1,1,0,1,0] 0 (fun(v0)=>⟨[(0,.lf (.str p_s)),(18,.i_ (p_s.size:Int)),(19,.i_ v0)],[]⟩) .ret (fun _=>⟨[(2,.b_ true)],[]⟩) (.exit 0) (fun _=>⟨[],[]⟩) (abH p_s 0) (zJ p_s) (0) (fun o0=>
 .ret (bF 1) (true)) fun o1=>
 .ret (bF 1) (false)
noncomputable def Q6(p_s:ByteArray):Option (Bool):=Mo.den (alz p_s)
theorem alA(p_s:ByteArray):FV (Q6 p_s) 223 [.lf (.str p_s)] .b_:=dI Tryz.func223
noncomputable def zK(p_s:List ByteArray):(Int)→Mo ((Int)⊕(Int)⊕Unit):=fun(v0)=>
 .iB (decide ((v0:Int)<(p_s.length:Int))) (.gx lS_ p_s v0 fun x0 _=>
 .cl (alA x0) fun r0 _=>
 .iB (r0) (.rt [4] 0 (.inr (.inl (v0))))<|
 .rt [0,1,7,8] 0 (.inl (IntKind.wrap .i64 (v0+1))))<|
 .rt [] 0 (.inr (.inr (())))
noncomputable def abI(p_s:List ByteArray)(v0:Int):Option ((Int)⊕Unit):=dA (fun v_=>(zK p_s v_).den) FU (v0)
noncomputable def ahR(p_s:List ByteArray):Mo (Int):=
 .nu p_s lfS<|
 .l2m [] Tryz.f258 0 [1,0,1,0] 0 (fun(v0)=>⟨[(0,.lf (.rows 1 (p_s.map lfS))),(1,.raw (.func (.func 223) #[] #[])),(7,.i_ (p_s.length:Int)),(8,.i_ v0)],[]⟩) .ret (fun o_=>⟨[(4,.i_ o_)],[]⟩) (.exit 0) (fun _=>⟨[],[]⟩) (abI p_s 0) (zK p_s) (0) (fun o0=>
 .rt [0] 0 (o0)) fun o1=>
 .rt [0] 0 ((-1))
noncomputable def Q48(p_s:List ByteArray):Option (Int):=Mo.den (ahR p_s)
theorem ajm(p_s:List ByteArray):FH (Q48 p_s) 258 [.lf (.rows 1 (p_s.map lfS)),.raw (.func (.func 223) #[] #[])] [] .i_ (fun _=>[]):=jA Tryz.func258
noncomputable def ahS(p_s:List ByteArray):Mo (Bool):=
 .cH [] (ajm p_s) fun r0 _=>
 .rt [0] 0 (decide ((0:Int)≤r0))
noncomputable def Q94(p_s:List ByteArray):Option (Bool):=Mo.den (ahS p_s)
theorem ajn(p_s:List ByteArray):FH (Q94 p_s) 222 [.lf (.rows 1 (p_s.map lfS)),.raw (.func (.func 223) #[] #[])] [] .b_ (fun _=>[]):=jA Tryz.func222
noncomputable def Pv(p_p:List ByteArray):Mo (Bool):=
 .nu p_p lfS<|
 .iG 4003 (decide ((1:Int)≤(p_p.length:Int))) (.nu p_p lfS<|
 .rt [0,2,10] 0 (decide (((p_p.length:Int):Int)≤16)))<|
 .rt [0,2,10] 0 (false)
noncomputable def Px(p_p:List ByteArray)(r0:Bool):Mo (Bool):=
 .iG 4008 (r0) (.cH [] (ajn p_p) fun r1 _=>
 .rt [2,15] 0 (!r1))<|
 .rt [2,15] 0 (false)
noncomputable def BI(r0:Bool):Mo (Unit):=
 .rt [2] 0 ()
noncomputable def ahT(p_p:List ByteArray):Mo (Bool):=
 .sf Tryz.f173 0 [1,0] 0 8 1 [(0,.lf (.rows 1 (p_p.map lfS))),(2,.b_ false)] [] 10 (Pv p_p) fun r0=>
 .sk Tryz.f173 0 [1,0] 8 5 1 (fun r_=>⟨[(2,.b_ false),(15,.b_ r_)],[]⟩) ⟨[(0,.lf (.rows 1 (p_p.map lfS))),(2,.b_ false),(10,.b_ r0)],[]⟩ (Px p_p r0) fun r1=>
 .sk Tryz.f173 0 [1,0] 13 1 1 (fun r_=>⟨[(2,.b_ r1)],[]⟩) ⟨[(2,.b_ false),(15,.b_ r1)],[]⟩ (BI r1) fun r2=>
 .ret (bF 1) (r1)
noncomputable def Q63(p_p:List ByteArray):Option (Bool):=Mo.den (ahT p_p)
theorem ES(p_p:List ByteArray):FV (Q63 p_p) 173 [.lf (.rows 1 (p_p.map lfS))] .b_:=dI Tryz.func173
noncomputable def Py(p_s1:List ByteArray)(p_s2:List ByteArray):(Int)→Mo ((Int)⊕(Unit⊕Unit)):=fun(v0)=>
 .iB (decide ((v0:Int)<(p_s1.length:Int))) (.say [.order [(true,0),(true,1),(true,2),(true,3),(true,4),(true,5),(true,6),(true,7),(true,8)] none []] ok0<|
 .gx lS_ p_s1 v0 fun x0 _=>
 .gx lS_ p_s2 v0 fun x1 _=>
 .iB (!decide ((x0:ByteArray)=(x1:ByteArray))) (.rt [4] 0 (.inr (.inl ())))<|
 .rt [0,1,12,13] 0 (.inl (IntKind.wrap .i64 (v0+1))))<|
 .rt [] 0 (.inr (.inr (())))
noncomputable def ahU(p_s1:List ByteArray)(p_s2:List ByteArray):Mo (Bool):=
 .nu p_s1 lfS<|
 .nu p_s2 lfS<|
 .iB ((p_s1.length:Int) != (p_s2.length:Int)) (.ret (bF 1) (false))<|
 .nu p_s1 lfS<|
 .l2 Tryz.f224 0 [1,1,0,1,0] 0 (fun(v0)=>⟨[(0,.lf (.rows 1 (p_s1.map lfS))),(1,.lf (.rows 1 (p_s2.map lfS))),(12,.i_ (p_s1.length:Int)),(13,.i_ v0)],[]⟩) .ret (fun _=>⟨[(4,.b_ false)],[]⟩) (.exit 0) (fun _=>⟨[],[]⟩) (Py p_s1 p_s2) (0) (fun o0=>
 .ret (bF 1) (false)) fun o1=>
 .ret (bF 1) (true)
noncomputable def Q98(p_s1:List ByteArray)(p_s2:List ByteArray):Option (Bool):=Mo.den (ahU p_s1 p_s2)
theorem ajo(p_s1:List ByteArray)(p_s2:List ByteArray):FV (Q98 p_s1 p_s2) 224 [.lf (.rows 1 (p_s1.map lfS)),.lf (.rows 1 (p_s2.map lfS))] .b_:=dI Tryz.func224
noncomputable def IQ(p_l:List bU)(v0:Int)(x0:bU):(Int)→Mo ((Int)⊕(Unit⊕Unit)):=fun(v1)=>
 .iB (decide ((v1:Int)<((p_l.take v0.toNat).length:Int))) (.gx bU.aY (p_l.take v0.toNat) v1 fun x1 _=>
 .cl (ajo x1.dQ x0.dQ) fun r0 _=>
 .iB (r0) (.ret ⟨[.kill 0],[2],[],1⟩ (.inr (.inl ())))<|
 .rt [0,4,10,11,12,23,24,25] 1 (.inl (IntKind.wrap .i64 (v1+1))))<|
 .ret ⟨[.kill 0],[0,10,11,12],[],1⟩ (.inr (.inr (())))
noncomputable def IU(p_l:List bU):(Int)→Mo ((Int)⊕(Int)⊕Unit):=fun(v0)=>
 .iB (decide ((v0:Int)<(p_l.length:Int))) (.gx bU.aY p_l v0 fun x0 _=>
 .cl (ES x0.dQ) fun r0 _=>
 .iB (!r0) (.rt [2] 0 (.inr (.inl (10))))<|
 .say [.rows ((p_l.take v0.toNat).map bU.lf),.num (p_l.take v0.toNat).length] (ok1 (by first|(simp[bU.aY];done)|exact sQ _ _ _:(p_l.take v0.toNat).map bU.lf=((p_l.map bU.lf).take v0.toNat).drop (0:Int).toNat))<|
 .grd ((0:Int)≤0∧0≤v0∧v0≤(p_l.length:Int)) fun h0=>
 .say [] (okc (by simpa using h0:(0:Int)≤0∧0≤v0∧v0≤((p_l.map bU.lf).length:Int)) (ok1 (ln_ (p_l.take v0.toNat) bU.lf)))<|
 .l2 Tryz.f174 0 [1,1,0,1,0,0,1,1,0,0,1,1,1,0] 0 (fun(v1)=>⟨[(0,.lf (.rows 2 (p_l.map bU.lf))),(4,.ptr 0 0),(10,.lf (.rows 2 (p_l.map bU.lf))),(11,.i_ (p_l.length:Int)),(12,.i_ v0),(23,.lf (.rows 2 ((p_l.take v0.toNat).map bU.lf))),(24,.i_ ((p_l.take v0.toNat).length:Int)),(25,.i_ v1)],[.box 227 (.agg [.lf (.rows 1 (x0.dQ.map lfS)),.b_ x0.oP])]⟩) .ret (fun _=>⟨[(2,.i_ 12)],[.dead]⟩) (.exit 2) (fun _=>⟨[(0,.lf (.rows 2 (p_l.map bU.lf))),(10,.lf (.rows 2 (p_l.map bU.lf))),(11,.i_ (p_l.length:Int)),(12,.i_ v0)],[.dead]⟩) (IQ p_l v0 x0) (0) (fun o0=>
 .rt [2] 0 (.inr (.inl (12)))) fun o1=>
 .rt [0,10,11,12] 0 (.inl (IntKind.wrap .i64 (v0+1))))<|
 .rt [] 0 (.inr (.inr (())))
noncomputable def abJ(p_l:List bU):Mo (Int):=
 .nu p_l bU.lf<|
 .iB (decide ((8:Int)<(p_l.length:Int))) (.ret (bF 1) (2))<|
 .nu p_l bU.lf<|
 .l2 Tryz.f174 0 [1,1,0,1,0] 0 (fun(v0)=>⟨[(0,.lf (.rows 2 (p_l.map bU.lf))),(10,.lf (.rows 2 (p_l.map bU.lf))),(11,.i_ (p_l.length:Int)),(12,.i_ v0)],[]⟩) .ret (fun o_=>⟨[(2,.i_ o_)],[]⟩) (.exit 0) (fun _=>⟨[],[]⟩) (IU p_l) (0) (fun o0=>
 .ret (bF 1) (o0)) fun o1=>
 .ret (bF 1) (0)
noncomputable def alB(p_l:List bU):Option (Int):=Mo.den (abJ p_l)
theorem ags(p_l:List bU):FV (alB p_l) 174 [.lf (.rows 2 (p_l.map bU.lf))] .i_:=dI Tryz.func174
abbrev Us(m:aS→Int→Int→Option (Bool×Int)):Prop:=∀p_p p_level p_b0,FH (m p_p p_level p_b0) 225 [.dat (aS.lf1 p_p),.i_ p_level,.ptr 0 0] [.box 3 (.dat [(.int .i64 p_b0)])] (fun r=>.b_ r.1) (fun r=>[.box 3 (.dat [(.int .i64 r.2)])])
structure RB1 where
 m1:(p_p:aS)→(p_level:Int)→(p_b0:Int)→Option (Bool×Int)
 ok1:Us m1
noncomputable def Pz(R_:RB1)(p_b0:Int)(p_level:Int)(p_p:aS):Mo (Bool):=
 .oV 4002 (decide ((16:Int)<p_level)) [1,2,3,16] 2 (p_b0==256)
noncomputable def PD(R_:RB1)(p_level:Int)(p_p:aS):(Int×Int)→Mo ((Int×Int)⊕(Int)⊕(Int)):=fun(v0,v1)=>
 .iB (decide ((v0:Int)<(p_p.dF.length:Int))) (.gx aS.aY p_p.dF v0 fun x0 _=>
 .say [.at_ 16 4,.tod 29] ok0<|
 .cH [0] (R_.ok1 x0 (IntKind.wrap .i64 (p_level+1)) v1) fun r0 _=>
 .iB (!r0.1) (.rt [6] 2 (.inr (.inl (r0.2))))<|
 .rt [1,2,23,24,25] 2 (.inl (IntKind.wrap .i64 (v0+1),r0.2)))<|
 .rt [] 2 (.inr (.inr (v1)))
noncomputable def abK(R_:RB1)(p_p:aS)(p_level:Int)(p_b0:Int):Mo (Bool×Int):=
 .jk Tryz.f225 1 [1,0,0] 9 (fun r_=>⟨[(1,.i_ p_level),(2,.ptr 0 0),(3,.ptr 1 0),(16,.b_ r_)],[.box 3 (.dat [(.int .i64 p_b0)]),dY p_p]⟩) ⟨[(1,.i_ p_level),(2,.ptr 0 0),(3,.ptr 1 0)],[.box 3 (.dat [(.int .i64 p_b0)]),dY p_p]⟩ (Pz R_ p_b0 p_level p_p) fun r0=>
 .iB (r0) (.ret ⟨[.kill 1],[0],[],1⟩ (false,p_b0))<|
 .nu p_p.dF aS.lf<|
 .l2y [.kill 1] Tryz.f225 1 [1,1,1,0,1,0] 0 (fun(v0,v1)=>⟨[(1,.i_ p_level),(2,.ptr 0 0),(23,.lf (.rows 25 (p_p.dF.map aS.lf))),(24,.i_ (p_p.dF.length:Int)),(25,.i_ v0)],[.box 3 (.dat [(.int .i64 v1)]),.dead]⟩) .ret (fun o_=>⟨[(6,.b_ false)],[.box 3 (.dat [(.int .i64 o_)]),.dead]⟩) (.exit 0) (fun o_=>⟨[],[.box 3 (.dat [(.int .i64 o_)]),.dead]⟩) (PD R_ p_level p_p) (0,(IntKind.wrap .i64 (p_b0+1))) (fun o0=>
 .rt [0] 1 (false,o0)) fun o1=>
 .rt [0] 1 (true,o1)
theorem agt(R_:RB1):Us fun p_p p_level p_b0=>Mo.den (abK R_ p_p p_level p_b0):=fun _ _ _=>jA Tryz.func225
noncomputable def CZ:Nat→RB1
 |0=>{ m1:=fun p_p p_level p_b0=>none,ok1:=fun _ _ _ _ h=>(by cases h) }
 |n_+1=>{ m1:=fun p_p p_level p_b0=>Mo.den (abK (CZ n_) p_p p_level p_b0),ok1:=agt (CZ n_) }
noncomputable def Q74(p_p:aS)(p_level:Int)(p_b0:Int):Option (Bool×Int):=(CZ FU).m1 p_p p_level p_b0
theorem ajp:Us Q74:=(CZ FU).ok1
noncomputable def abL(p_n:Int)(p_op:Int):Mo (Bool):=
 .iB (p_op==15) (.rt [1,5,6] 0 (p_op==15))<|
 .rt [1,5,6] 0 (p_op==23)
noncomputable def abM(p_n:Int)(p_op:Int):Mo (Bool):=
 .iB (p_op==20) (.rt [1,11] 0 (p_op==20))<|
 .iB (p_op==21) (.rt [1,11] 0 (p_op==21))<|
 .rt [1,11] 0 (p_op==22)
noncomputable def ahV(p_op:Int)(p_n:Int):Mo (Bool):=
 .jk Tryz.f281 0 [1,0,1,0,0,1] 1 (fun r_=>⟨[(1,.i_ p_n),(5,.i_ p_op),(6,.b_ r_)],[]⟩) ⟨[(1,.i_ p_n),(5,.i_ p_op),(6,.lf (.bool (p_op==15)))],[]⟩ (abL p_n p_op) fun r0=>
 .iB (r0) (.ret (bF 1) (p_n==1))<|
 .jk Tryz.f281 0 [1,0,1,0,1,1,0,1] 1 (fun r_=>⟨[(1,.i_ p_n),(11,.b_ r_)],[]⟩) ⟨[(1,.i_ p_n),(5,.i_ p_op),(11,.lf (.bool (p_op==20)))],[]⟩ (abM p_n p_op) fun r1=>
 .iB (r1) (.ret (bF 1) (decide ((1:Int)≤p_n)))<|
 .ret (bF 1) (p_n==0)
noncomputable def Q97(p_op:Int)(p_n:Int):Option (Bool):=Mo.den (ahV p_op p_n)
theorem ajq(p_op:Int)(p_n:Int):FV (Q97 p_op p_n) 281 [.i_ p_op,.i_ p_n] .b_:=dI Tryz.func281
noncomputable def abN(p_op:Int):Mo (Bool):=
 .iG 4002 (p_op==8) (.ret (bF 1) (true))<|
 .iG 4006 (p_op==9) (.ret (bF 1) (true))<|
 .ret (bF 1) (p_op==14)
noncomputable def alC(p_op:Int):Option (Bool):=Mo.den (abN p_op)
theorem MG(p_op:Int):FV (alC p_op) 282 [.i_ p_op] .b_:=dI Tryz.func282
noncomputable def abO(p_p:aS):Mo (Bool):=
 .iG 8003 (p_p.fN==0) (.ret ⟨[.kill 0],[2],[],1⟩ (true))<|
 .ret ⟨[.kill 0],[2],[],1⟩ (p_p.fN==1)
noncomputable def abP(p_p:aS):Mo (Bool):=
 .iG 12003 (decide ((1:Int)≤p_p.fN)) (.ret ⟨[.kill 0],[2],[],1⟩ (decide ((p_p.fN:Int)≤11)))<|
 .ret ⟨[.kill 0],[2],[],1⟩ (false)
noncomputable def Yt(p_p:aS):Mo (Bool):=
 .aV 16003 (decide ((1:Int)≤p_p.fN)) [1,2,34] 1 (decide ((0:Int)≤p_p.fM))
noncomputable def Yu(p_p:aS)(r0:Bool):Mo (Bool):=
 .iG 16008 (r0) (.ret ⟨[.kill 0],[2,41],[],1⟩ (decide ((p_p.fM:Int)<p_p.fN)))<|
 .ret ⟨[.kill 0],[2,41],[],1⟩ (false)
noncomputable def gu(r0:Bool):Mo (Unit):=
 .rt [2] 1 ()
noncomputable def ahW(p_p:aS):Mo (Bool):=
 .iB (p_p.fOp==10) (.jk Tryz.f283 0 [1,0,1,0,1,0,0] 13 (fun r_=>⟨[(2,.b_ r_)],[.dead]⟩) ⟨[(1,.ptr 0 0)],[dY p_p]⟩ (abO p_p) fun r0=>
 .ret (bF 1) (r0))<|
 .iB (p_p.fOp==11) (.jk Tryz.f283 0 [1,0,1,0,1,1,1,0,0] 17 (fun r_=>⟨[(2,.b_ r_)],[.dead]⟩) ⟨[(1,.ptr 0 0)],[dY p_p]⟩ (abP p_p) fun r1=>
 .ret (bF 1) (r1))<|
 .iB (p_p.fOp==12) (.sf Tryz.f283 0 [1,0,1,0,1,1,1,1,1,0,0] 0 8 7 [(1,.ptr 0 0),(2,.b_ false)] [dY p_p] 34 (Yt p_p) fun r2=>
 .sk Tryz.f283 0 [1,0,1,0,1,1,1,1,1,0,0] 8 7 7 (fun r_=>⟨[(2,.b_ false),(41,.b_ r_)],[.dead]⟩) ⟨[(1,.ptr 0 0),(2,.b_ false),(34,.b_ r2)],[dY p_p]⟩ (Yu p_p r2) fun r3=>
 .sk Tryz.f283 0 [1,0,1,0,1,1,1,1,1,0,0] 15 1 7 (fun r_=>⟨[(2,.b_ r3)],[.dead]⟩) ⟨[(2,.b_ false),(41,.b_ r3)],[.dead]⟩ (gu r3) fun r4=>
 .ret (bF 1) (r3))<|
 .iB (p_p.fOp==13) (.ret (bF 1) (decide ((0:Int)≤p_p.fN)))<|
 .ret (bF 1) (true)
noncomputable def Q19(p_p:aS):Option (Bool):=Mo.den (ahW p_p)
theorem ajr(p_p:aS):FV (Q19 p_p) 283 [.dat (aS.lf1 p_p)] .b_:=dI Tryz.func283
noncomputable def abQ(p_op:Int):Mo (Bool):=
 .iG 4002 (decide ((2:Int)≤p_op)) (.ret (bF 1) (decide ((p_op:Int)≤19)))<|
 .ret (bF 1) (false)
noncomputable def alD(p_op:Int):Option (Bool):=Mo.den (abQ p_op)
theorem WI(p_op:Int):FV (alD p_op) 284 [.i_ p_op] .b_:=dI Tryz.func284
noncomputable def abR(p_op:Int):Mo (Bool):=
 .iG 4002 (p_op==16) (.ret (bF 1) (true))<|
 .iG 4006 (p_op==17) (.ret (bF 1) (true))<|
 .ret (bF 1) (p_op==19)
noncomputable def alE(p_op:Int):Option (Bool):=Mo.den (abR p_op)
theorem MH(p_op:Int):FV (alE p_op) 286 [.i_ p_op] .b_:=dI Tryz.func286
noncomputable def abS(p_op:Int):Mo (Bool):=
 .iG 4002 (decide ((2:Int)≤p_op)) (.iG 4006 (decide ((p_op:Int)≤7)) (.ret (bF 1) (true))<|
 .cl (MH p_op) fun r0 _=>
 .ret (bF 1) (r0))<|
 .cl (MH p_op) fun r1 _=>
 .ret (bF 1) (r1)
noncomputable def alF(p_op:Int):Option (Bool):=Mo.den (abS p_op)
theorem WJ(p_op:Int):FV (alF p_op) 285 [.i_ p_op] .b_:=dI Tryz.func285
abbrev Ut(m:aj→Int→Option (Int)):Prop:=∀p_v p_most,FV (m p_v p_most) 213 [.dat (aj.lf1 p_v),.i_ p_most] .i_
abbrev abT(m:aj→Int→Int→Option (Int×Int)):Prop:=∀p_v p_b0 p_b1,FH (m p_v p_b0 p_b1) 248 [.dat (aj.lf1 p_v),.clo 249 [.ptr 0 0,.ptr 1 0]] [.box 3 (.dat [(.int .i64 p_b0)]),.box 3 (.dat [(.int .i64 p_b1)])] (fun _=>.tup []) (fun r=>[.box 3 (.dat [(.int .i64 r.1)]),.box 3 (.dat [(.int .i64 r.2)])])
abbrev abU(m:aj→Int→Int→Option (Bool×Int×Int)):Prop:=∀p_p p_b0 p_b1,FH (m p_p p_b0 p_b1) 249 [.dat (aj.lf1 p_p),.ptr 0 0,.ptr 1 0] [.box 3 (.dat [(.int .i64 p_b0)]),.box 3 (.dat [(.int .i64 p_b1)])] (fun r=>.b_ r.1) (fun r=>[.box 3 (.dat [(.int .i64 r.2.1)]),.box 3 (.dat [(.int .i64 r.2.2)])])
structure RB3 where
 m1:(p_v:aj)→(p_most:Int)→Option (Int)
 ok1:Ut m1
 m2:(p_v:aj)→(p_b0:Int)→(p_b1:Int)→Option (Int×Int)
 ok2:abT m2
 m3:(p_p:aj)→(p_b0:Int)→(p_b1:Int)→Option (Bool×Int×Int)
 ok3:abU m3
noncomputable def MI(R_:RB3)(p_v:aj)(p_most:Int):Mo (Int):=
 .iB (1==p_most) (.ret (bF 1) (1))<|
 .cH [2,1] (R_.ok2 p_v 1 p_most) fun r0 _=>
 .ret (bF 1) (r0.1)
theorem abV(R_:RB3):Ut fun p_v p_most=>Mo.den (MI R_ p_v p_most):=fun _ _=>dI Tryz.func213
noncomputable def zL(R_:RB3)(p_v:aj):(Int×Int×Int)→Mo ((Int×Int×Int)⊕(Int×Int)⊕(Int×Int)):=fun(v0,v1,v2)=>
 .iB (decide ((v0:Int)<(p_v.aX.length:Int))) (.gx aj.aY p_v.aX v0 fun x0 _=>
 .say [.at_ 14 2,.tod 20] ok0<|
 .cH [0,1] (R_.ok3 x0 v1 v2) fun r0 _=>
 .iB (!r0.1) (.rt [] 3 (.inr (.inl (r0.2.1,r0.2.2))))<|
 .rt [1,13,14,15] 3 (.inl (IntKind.wrap .i64 (v0+1),r0.2.1,r0.2.2)))<|
 .rt [] 3 (.inr (.inr ((v1,v2))))
noncomputable def abW(R_:RB3)(p_v:aj)(v0:Int)(v1:Int)(v2:Int):Option ((Int×Int)⊕(Int×Int)):=dA (fun v_=>(zL R_ p_v v_).den) FU (v0,v1,v2)
noncomputable def zM(R_:RB3)(p_v:aj):(Int×Int×Int)→Mo ((Int×Int×Int)⊕(Int×Int)⊕(Int×Int)):=fun(v0,v1,v2)=>
 .iB (decide ((v0:Int)<(p_v.bC.length:Int))) (.gx aF.aY p_v.bC v0 fun x0 _=>
 .say [.at_ 26 3,.tod 35] ok0<|
 .cH [0,1] (R_.ok3 x0.fValue v1 v2) fun r0 _=>
 .iB (!r0.1) (.rt [] 3 (.inr (.inl (r0.2.1,r0.2.2))))<|
 .rt [1,27,28,29] 3 (.inl (IntKind.wrap .i64 (v0+1),r0.2.1,r0.2.2)))<|
 .rt [] 3 (.inr (.inr ((v1,v2))))
noncomputable def abX(R_:RB3)(p_v:aj)(v0:Int)(v1:Int)(v2:Int):Option ((Int×Int)⊕(Int×Int)):=dA (fun v_=>(zM R_ p_v v_).den) FU (v0,v1,v2)
noncomputable def PE(R_:RB3)(p_v:aj)(p_b0:Int)(p_b1:Int):Mo (Int×Int):=
 .iB (p_v.aB==6) (.nu p_v.aX aj.lf<|
 .l2m [.kill 2] Tryz.f248 2 [1,1,0,1,0,1,0] 0 (fun(v0,v1,v2)=>⟨[(1,.clo 249 [.ptr 0 0,.ptr 1 0]),(13,.lf (.rows 5 (p_v.aX.map aj.lf))),(14,.i_ (p_v.aX.length:Int)),(15,.i_ v0)],[.box 3 (.dat [(.int .i64 v1)]),.box 3 (.dat [(.int .i64 v2)]),.dead]⟩) .ret (fun o_=>⟨[],[.box 3 (.dat [(.int .i64 o_.1)]),.box 3 (.dat [(.int .i64 o_.2)]),.dead]⟩) (.exit 1) (fun o_=>⟨[],[.box 3 (.dat [(.int .i64 o_.1)]),.box 3 (.dat [(.int .i64 o_.2)]),.dead]⟩) (abW R_ p_v 0 p_b0 p_b1) (zL R_ p_v) (0,p_b0,p_b1) (fun o0=>
 .rt [] 2 (o0.1,o0.2)) fun o1=>
 .rt [] 2 (o1.1,o1.2))<|
 .iB (p_v.aB==5) (.nu p_v.bC aF.lf<|
 .l2m [.kill 2] Tryz.f248 2 [1,1,0,1,1,1,0,1,0] 0 (fun(v3,v4,v5)=>⟨[(1,.clo 249 [.ptr 0 0,.ptr 1 0]),(27,.lf (.rows 6 (p_v.bC.map aF.lf))),(28,.i_ (p_v.bC.length:Int)),(29,.i_ v3)],[.box 3 (.dat [(.int .i64 v4)]),.box 3 (.dat [(.int .i64 v5)]),.dead]⟩) .ret (fun o_=>⟨[],[.box 3 (.dat [(.int .i64 o_.1)]),.box 3 (.dat [(.int .i64 o_.2)]),.dead]⟩) (.exit 3) (fun o_=>⟨[],[.box 3 (.dat [(.int .i64 o_.1)]),.box 3 (.dat [(.int .i64 o_.2)]),.dead]⟩) (abX R_ p_v 0 p_b0 p_b1) (zM R_ p_v) (0,p_b0,p_b1) (fun o2=>
 .rt [] 2 (o2.1,o2.2)) fun o3=>
 .rt [] 2 (o3.1,o3.2))<|
 .ret ⟨[.kill 2],[],[],2⟩ (p_b0,p_b1)
theorem agu(R_:RB3):abT fun p_v p_b0 p_b1=>Mo.den (PE R_ p_v p_b0 p_b1):=fun _ _ _=>jA Tryz.func248
noncomputable def MJ(R_:RB3)(p_p:aj)(p_b0:Int)(p_b1:Int):Mo (Bool×Int×Int):=
 .say [.order [(true,0),(true,1),(true,2),(true,3),(true,4),(false,5),(true,6),(false,7)] (some 7) []] ok0<|
 .cl (R_.ok1 p_p (IntKind.wrap .i64 (p_b1-p_b0))) fun r0 _=>
 .ret ⟨[.kill 2],[0],[],2⟩ (decide ((IntKind.wrap .i64 (p_b0+r0):Int)<p_b1),IntKind.wrap .i64 (p_b0+r0),p_b1)
theorem abY(R_:RB3):abU fun p_p p_b0 p_b1=>Mo.den (MJ R_ p_p p_b0 p_b1):=fun _ _ _=>jA Tryz.func249
noncomputable def qo:Nat→RB3
 |0=>{ m1:=fun p_v p_most=>none,ok1:=fun _ _ _ h=>(by cases h),m2:=fun p_v p_b0 p_b1=>none,ok2:=fun _ _ _ _ h=>(by cases h),m3:=fun p_p p_b0 p_b1=>none,ok3:=fun _ _ _ _ h=>(by cases h) }
 |n_+1=>{ m1:=fun p_v p_most=>Mo.den (MI (qo n_) p_v p_most),ok1:=abV (qo n_),m2:=fun p_v p_b0 p_b1=>Mo.den (PE (qo n_) p_v p_b0 p_b1),ok2:=agu (qo n_),m3:=fun p_p p_b0 p_b1=>Mo.den (MJ (qo n_) p_p p_b0 p_b1),ok3:=abY (qo n_) }
noncomputable def alG(p_v:aj)(p_most:Int):Option (Int):=(qo FU).m1 p_v p_most
theorem agv:Ut alG:=(qo FU).ok1
noncomputable def abZ(p_v:aj):Mo (Int):=
 .cl (agv p_v 1025) fun r0 _=>
 .ret (bF 1) (r0)
noncomputable def ajs(p_v:aj):Option (Int):=Mo.den (abZ p_v)
theorem agw(p_v:aj):FV (ajs p_v) 158 [.dat (aj.lf1 p_v)] .i_:=dI Tryz.func158
abbrev Uu(m:aj→Int→Option (Int)):Prop:=∀p_v p_most,FV (m p_v p_most) 214 [.dat (aj.lf1 p_v),.i_ p_most] .i_
abbrev ab1(m:aj→Int→Int→Option (Int×Int)):Prop:=∀p_v p_b0 p_b1,FH (m p_v p_b0 p_b1) 248 [.dat (aj.lf1 p_v),.clo 250 [.ptr 0 0,.ptr 1 0]] [.box 3 (.dat [(.int .i64 p_b0)]),.box 3 (.dat [(.int .i64 p_b1)])] (fun _=>.tup []) (fun r=>[.box 3 (.dat [(.int .i64 r.1)]),.box 3 (.dat [(.int .i64 r.2)])])
abbrev ab2(m:aj→Int→Int→Option (Bool×Int×Int)):Prop:=∀p_p p_b0 p_b1,FH (m p_p p_b0 p_b1) 250 [.dat (aj.lf1 p_p),.ptr 0 0,.ptr 1 0] [.box 3 (.dat [(.int .i64 p_b0)]),.box 3 (.dat [(.int .i64 p_b1)])] (fun r=>.b_ r.1) (fun r=>[.box 3 (.dat [(.int .i64 r.2.1)]),.box 3 (.dat [(.int .i64 r.2.2)])])
structure RB4 where
 m1:(p_v:aj)→(p_most:Int)→Option (Int)
 ok1:Uu m1
 m2:(p_v:aj)→(p_b0:Int)→(p_b1:Int)→Option (Int×Int)
 ok2:ab1 m2
 m3:(p_p:aj)→(p_b0:Int)→(p_b1:Int)→Option (Bool×Int×Int)
 ok3:ab2 m3
noncomputable def MK(R_:RB4)(p_v:aj)(p_most:Int):Mo (Int):=
 .iB (p_most==1) (.ret (bF 1) (1))<|
 .cH [2,1] (R_.ok2 p_v 0 p_most) fun r0 _=>
 .ret (bF 1) (IntKind.wrap .i64 (1+r0.1))
theorem ab3(R_:RB4):Uu fun p_v p_most=>Mo.den (MK R_ p_v p_most):=fun _ _=>dI Tryz.func214
noncomputable def zN(R_:RB4)(p_v:aj):(Int×Int×Int)→Mo ((Int×Int×Int)⊕(Int×Int)⊕(Int×Int)):=fun(v0,v1,v2)=>
 .iB (decide ((v0:Int)<(p_v.aX.length:Int))) (.gx aj.aY p_v.aX v0 fun x0 _=>
 .say [.at_ 14 2,.tod 20] ok0<|
 .cH [0,1] (R_.ok3 x0 v1 v2) fun r0 _=>
 .iB (!r0.1) (.rt [] 3 (.inr (.inl (r0.2.1,r0.2.2))))<|
 .rt [1,13,14,15] 3 (.inl (IntKind.wrap .i64 (v0+1),r0.2.1,r0.2.2)))<|
 .rt [] 3 (.inr (.inr ((v1,v2))))
noncomputable def ab4(R_:RB4)(p_v:aj)(v0:Int)(v1:Int)(v2:Int):Option ((Int×Int)⊕(Int×Int)):=dA (fun v_=>(zN R_ p_v v_).den) FU (v0,v1,v2)
noncomputable def zQ(R_:RB4)(p_v:aj):(Int×Int×Int)→Mo ((Int×Int×Int)⊕(Int×Int)⊕(Int×Int)):=fun(v0,v1,v2)=>
 .iB (decide ((v0:Int)<(p_v.bC.length:Int))) (.gx aF.aY p_v.bC v0 fun x0 _=>
 .say [.at_ 26 3,.tod 35] ok0<|
 .cH [0,1] (R_.ok3 x0.fValue v1 v2) fun r0 _=>
 .iB (!r0.1) (.rt [] 3 (.inr (.inl (r0.2.1,r0.2.2))))<|
 .rt [1,27,28,29] 3 (.inl (IntKind.wrap .i64 (v0+1),r0.2.1,r0.2.2)))<|
 .rt [] 3 (.inr (.inr ((v1,v2))))
noncomputable def ab5(R_:RB4)(p_v:aj)(v0:Int)(v1:Int)(v2:Int):Option ((Int×Int)⊕(Int×Int)):=dA (fun v_=>(zQ R_ p_v v_).den) FU (v0,v1,v2)
noncomputable def PG(R_:RB4)(p_v:aj)(p_b0:Int)(p_b1:Int):Mo (Int×Int):=
 .iB (p_v.aB==6) (.nu p_v.aX aj.lf<|
 .l2m [.kill 2] Tryz.f248 2 [1,1,0,1,0,1,0] 0 (fun(v0,v1,v2)=>⟨[(1,.clo 250 [.ptr 0 0,.ptr 1 0]),(13,.lf (.rows 5 (p_v.aX.map aj.lf))),(14,.i_ (p_v.aX.length:Int)),(15,.i_ v0)],[.box 3 (.dat [(.int .i64 v1)]),.box 3 (.dat [(.int .i64 v2)]),.dead]⟩) .ret (fun o_=>⟨[],[.box 3 (.dat [(.int .i64 o_.1)]),.box 3 (.dat [(.int .i64 o_.2)]),.dead]⟩) (.exit 1) (fun o_=>⟨[],[.box 3 (.dat [(.int .i64 o_.1)]),.box 3 (.dat [(.int .i64 o_.2)]),.dead]⟩) (ab4 R_ p_v 0 p_b0 p_b1) (zN R_ p_v) (0,p_b0,p_b1) (fun o0=>
 .rt [] 2 (o0.1,o0.2)) fun o1=>
 .rt [] 2 (o1.1,o1.2))<|
 .iB (p_v.aB==5) (.nu p_v.bC aF.lf<|
 .l2m [.kill 2] Tryz.f248 2 [1,1,0,1,1,1,0,1,0] 0 (fun(v3,v4,v5)=>⟨[(1,.clo 250 [.ptr 0 0,.ptr 1 0]),(27,.lf (.rows 6 (p_v.bC.map aF.lf))),(28,.i_ (p_v.bC.length:Int)),(29,.i_ v3)],[.box 3 (.dat [(.int .i64 v4)]),.box 3 (.dat [(.int .i64 v5)]),.dead]⟩) .ret (fun o_=>⟨[],[.box 3 (.dat [(.int .i64 o_.1)]),.box 3 (.dat [(.int .i64 o_.2)]),.dead]⟩) (.exit 3) (fun o_=>⟨[],[.box 3 (.dat [(.int .i64 o_.1)]),.box 3 (.dat [(.int .i64 o_.2)]),.dead]⟩) (ab5 R_ p_v 0 p_b0 p_b1) (zQ R_ p_v) (0,p_b0,p_b1) (fun o2=>
 .rt [] 2 (o2.1,o2.2)) fun o3=>
 .rt [] 2 (o3.1,o3.2))<|
 .ret ⟨[.kill 2],[],[],2⟩ (p_b0,p_b1)
theorem agx(R_:RB4):ab1 fun p_v p_b0 p_b1=>Mo.den (PG R_ p_v p_b0 p_b1):=fun _ _ _=>jA Tryz.func248
noncomputable def ML(R_:RB4)(p_p:aj)(p_b0:Int)(p_b1:Int):Mo (Bool×Int×Int):=
 .say [.order [(true,0),(true,1),(true,2),(true,3),(false,4),(true,5),(false,6)] (some 6) []] ok0<|
 .cl (R_.ok1 p_p (IntKind.wrap .i64 (p_b1-1))) fun r0 _=>
 .ret ⟨[.kill 2],[0],[],2⟩ (decide (((if r0 > p_b0 then r0 else p_b0):Int)<(IntKind.wrap .i64 (p_b1-1))),(if r0 > p_b0 then r0 else p_b0),p_b1)
theorem ab6(R_:RB4):ab2 fun p_p p_b0 p_b1=>Mo.den (ML R_ p_p p_b0 p_b1):=fun _ _ _=>jA Tryz.func250
noncomputable def qp:Nat→RB4
 |0=>{ m1:=fun p_v p_most=>none,ok1:=fun _ _ _ h=>(by cases h),m2:=fun p_v p_b0 p_b1=>none,ok2:=fun _ _ _ _ h=>(by cases h),m3:=fun p_p p_b0 p_b1=>none,ok3:=fun _ _ _ _ h=>(by cases h) }
 |n_+1=>{ m1:=fun p_v p_most=>Mo.den (MK (qp n_) p_v p_most),ok1:=ab3 (qp n_),m2:=fun p_v p_b0 p_b1=>Mo.den (PG (qp n_) p_v p_b0 p_b1),ok2:=agx (qp n_),m3:=fun p_p p_b0 p_b1=>Mo.den (ML (qp n_) p_p p_b0 p_b1),ok3:=ab6 (qp n_) }
noncomputable def alH(p_v:aj)(p_most:Int):Option (Int):=(qp FU).m1 p_v p_most
theorem agy:Uu alH:=(qp FU).ok1
noncomputable def ab7(p_v:aj):Mo (Int):=
 .cl (agy p_v 17) fun r0 _=>
 .ret (bF 1) (r0)
noncomputable def ajt(p_v:aj):Option (Int):=Mo.den (ab7 p_v)
theorem agz(p_v:aj):FV (ajt p_v) 159 [.dat (aj.lf1 p_v)] .i_:=dI Tryz.func159
noncomputable def ng(p_s:ByteArray):(Int)→Mo ((Int)⊕(Unit⊕Unit)):=fun(v0)=>
 .iB (decide ((v0:Int)<(p_s.size:Int))) (.sf Tryz.f252 0 [1,1,0,1,0,0,1,1,0,0,1,0] 0 10 6 [(0,.lf (.str p_s)),(3,.i_ v0),(18,.i_ (p_s.size:Int)),(19,.i_ v0)] [] 31 (kH p_s v0) fun r0=>
 .sk Tryz.f252 0 [1,1,0,1,0,0,1,1,0,0,1,0] 10 6 6 (fun r_=>⟨[(0,.lf (.str p_s)),(18,.i_ (p_s.size:Int)),(19,.i_ v0),(37,.b_ r_)],[]⟩) ⟨[(0,.lf (.str p_s)),(3,.i_ v0),(18,.i_ (p_s.size:Int)),(19,.i_ v0),(31,.b_ r0)],[]⟩ (kJ p_s r0 v0) fun r1=>
 .iB (r1) (.rt [2] 0 (.inr (.inl ())))<|
 .rt [0,18,19] 0 (.inl (IntKind.wrap .i64 (v0+1))))<|
 .rt [] 0 (.inr (.inr (())))
noncomputable def zS(p_s:ByteArray)(v0:Int):Option (Unit⊕Unit):=dA (fun v_=>(ng p_s v_).den) FU (v0)
noncomputable def PI(p_s:ByteArray):Mo (Bool):=
 .sf Tryz.f252 0 [1,0,0] 0 8 1 [(0,.lf (.str p_s))] [] 11 (kS p_s) fun r0=>
 .sb Tryz.f252 0 [1,0,0] 8 5 1 [(0,.lf (.str p_s))] [] 11 16 r0 (kT p_s r0) fun r1=>
 .iB (r1) (.ret (bF 1) (false))<|
 .l2m [] Tryz.f252 0 [1,1,0,1,0] 0 (fun(v0)=>⟨[(0,.lf (.str p_s)),(18,.i_ (p_s.size:Int)),(19,.i_ v0)],[]⟩) .ret (fun _=>⟨[(2,.b_ false)],[]⟩) (.exit 0) (fun _=>⟨[],[]⟩) (zS p_s 0) (ng p_s) (0) (fun o0=>
 .ret (bF 1) (false)) fun o1=>
 .ret (bF 1) (true)
noncomputable def Q37(p_s:ByteArray):Option (Bool):=Mo.den (PI p_s)
theorem aju(p_s:ByteArray):FV (Q37 p_s) 252 [.lf (.str p_s)] .b_:=dI Tryz.func252
abbrev Uw(m:aj→Option (Bool)):Prop:=∀p_v,FV (m p_v) 160 [.dat (aj.lf1 p_v)] .b_
abbrev ab8(m:(List aF)→Option (Bool)):Prop:=∀p_l,FV (m p_l) 216 [.lf (.rows 6 (p_l.map aF.lf))] .b_
structure RB5 where
 m1:(p_v:aj)→Option (Bool)
 ok1:Uw m1
 m2:(p_l:List aF)→Option (Bool)
 ok2:ab8 m2
noncomputable def PK(R_:RB5)(p_v:aj):Mo (Bool):=
 .oV 4003 (p_v.aB==3) [1,14] 1 (p_v.aB==9)
noncomputable def PL(R_:RB5)(p_v:aj)(r0:Bool):Mo (Bool):=
 .oV 4008 (r0) [1,19] 1 (p_v.aB==10)
noncomputable def IV(R_:RB5)(p_v:aj)(r0:Bool):Mo (Unit):=
 .rt [1,3] 1 ()
noncomputable def IW(R_:RB5)(p_v:aj)(r0:Bool):Mo (Bool):=
 .oV 6003 (p_v.aB==4) [1,3,27] 1 (p_v.aB==7)
noncomputable def IX(R_:RB5)(p_v:aj)(r0:Bool)(r1:Bool):Mo (Bool):=
 .oV 6008 (r1) [1,3,32] 1 (p_v.aB==8)
noncomputable def IY(R_:RB5)(p_v:aj)(r0:Bool)(r1:Bool):Mo (Unit):=
 .rt [1,3,4] 1 ()
noncomputable def IZ(R_:RB5)(p_v:aj)(r0:Bool)(r1:Bool):Mo (Bool):=
 .aV 8002 (!r0) [1,4,39] 1 (p_v.dG != 0)
noncomputable def I7(R_:RB5)(p_v:aj)(r0:Bool)(r1:Bool):Mo (Bool):=
 .iG 8007 (r0) (.rt [1,48] 1 (true))<|
 .aV 8010 (!r1) [1,48] 1 (!decide ((p_v.fText:ByteArray)=(⟨#[]⟩:ByteArray)))
noncomputable def I8(R_:RB5)(p_v:aj):Mo (Bool):=
 .iG 12003 (p_v.aB != 6) (.nu p_v.aX aj.lf<|
 .rt [1,57] 1 (decide ((0:Int)<(p_v.aX.length:Int))))<|
 .rt [1,57] 1 (false)
noncomputable def I9(R_:RB5)(p_v:aj)(r0:Bool):Mo (Bool):=
 .iG 12009 (r0) (.rt [1,68] 1 (true))<|
 .iG 12013 (p_v.aB != 5) (.nu p_v.bC aF.lf<|
 .rt [1,68] 1 (decide ((0:Int)<(p_v.bC.length:Int))))<|
 .rt [1,68] 1 (false)
noncomputable def Ja(R_:RB5)(p_v:aj):Mo (Bool):=
 .iB (p_v.aB==1) (.rt [1,70,71] 1 (p_v.aB==1))<|
 .iB (p_v.aB==2) (.rt [1,70,71] 1 (p_v.aB==2))<|
 .iB (p_v.aB==11) (.rt [1,70,71] 1 (p_v.aB==11))<|
 .rt [1,70,71] 1 (p_v.aB==3)
noncomputable def Jb(R_:RB5)(p_v:aj):Mo (Bool):=
 .iG 30003 (p_v.dG==0) (.ret ⟨[.kill 0],[2],[],1⟩ (true))<|
 .ret ⟨[.kill 0],[2],[],1⟩ (p_v.dG==1)
noncomputable def Jc(R_:RB5)(p_v:aj):Mo (Bool):=
 .iG 38004 (decide (((p_v.fText.size:Int):Int)≤4096)) (.cl (afQ p_v.fText) fun r0 _=>
 .ret ⟨[.kill 0],[2],[],1⟩ (r0))<|
 .ret ⟨[.kill 0],[2],[],1⟩ (false)
noncomputable def wH(R_:RB5)(p_v:aj):(Int)→Mo ((Int)⊕(Unit⊕Unit)):=fun(v0)=>
 .iB (decide ((v0:Int)<(p_v.aX.length:Int))) (.gx aj.aY p_v.aX v0 fun x0 _=>
 .cl (R_.ok1 x0) fun r0 _=>
 .iB (!r0) (.rt [2] 1 (.inr (.inl ())))<|
 .rt [117,118,119] 1 (.inl (IntKind.wrap .i64 (v0+1))))<|
 .rt [] 1 (.inr (.inr (())))
noncomputable def WL(R_:RB5)(p_v:aj)(v0:Int):Option (Unit⊕Unit):=dA (fun v_=>(wH R_ p_v v_).den) FU (v0)
noncomputable def WM(R_:RB5)(p_v:aj):Mo (Bool):=
 .sf Tryz.f160 0 [1,0] 0 8 1 [(1,.ptr 0 0)] [bI p_v] 14 (PK R_ p_v) fun r0=>
 .sb Tryz.f160 0 [1,0] 8 5 1 [(1,.ptr 0 0)] [bI p_v] 14 19 r0 (PL R_ p_v r0) fun r1=>
 .sk Tryz.f160 0 [1,0] 13 1 1 (fun r_=>⟨[(1,.ptr 0 0),(3,.b_ r1)],[bI p_v]⟩) ⟨[(1,.ptr 0 0),(19,.b_ r1)],[bI p_v]⟩ (IV R_ p_v r1) fun r2=>
 .sf Tryz.f160 0 [1,1,0] 0 8 2 [(1,.ptr 0 0),(3,.b_ r1)] [bI p_v] 27 (IW R_ p_v r1) fun r3=>
 .sb Tryz.f160 0 [1,1,0] 8 5 2 [(1,.ptr 0 0),(3,.b_ r1)] [bI p_v] 27 32 r3 (IX R_ p_v r1 r3) fun r4=>
 .sk Tryz.f160 0 [1,1,0] 13 1 2 (fun r_=>⟨[(1,.ptr 0 0),(3,.b_ r1),(4,.b_ r4)],[bI p_v]⟩) ⟨[(1,.ptr 0 0),(3,.b_ r1),(32,.b_ r4)],[bI p_v]⟩ (IY R_ p_v r1 r4) fun r5=>
 .sk Tryz.f160 0 [1,1,1,0,0] 0 7 3 (fun r_=>⟨[(1,.ptr 0 0),(4,.b_ r4),(39,.b_ r_)],[bI p_v]⟩) ⟨[(1,.ptr 0 0),(3,.b_ r1),(4,.b_ r4)],[bI p_v]⟩ (IZ R_ p_v r1 r4) fun r6=>
 .sk Tryz.f160 0 [1,1,1,0,0] 7 9 3 (fun r_=>⟨[(1,.ptr 0 0),(48,.b_ r_)],[bI p_v]⟩) ⟨[(1,.ptr 0 0),(4,.b_ r4),(39,.b_ r6)],[bI p_v]⟩ (I7 R_ p_v r6 r4) fun r7=>
 .iB (r7) (.ret (bF 1) (false))<|
 .sf Tryz.f160 0 [1,1,1,1,0,0] 0 9 5 [(1,.ptr 0 0)] [bI p_v] 57 (I8 R_ p_v) fun r8=>
 .sb Tryz.f160 0 [1,1,1,1,0,0] 9 11 5 [(1,.ptr 0 0)] [bI p_v] 57 68 r8 (I9 R_ p_v r8) fun r9=>
 .iB (r9) (.ret (bF 1) (false))<|
 .jk Tryz.f160 0 [1,1,1,1,1,0,1,0,0,1] 1 (fun r_=>⟨[(1,.ptr 0 0),(70,.i_ p_v.aB),(71,.b_ r_)],[bI p_v]⟩) ⟨[(1,.ptr 0 0),(70,.i_ p_v.aB),(71,.lf (.bool (p_v.aB==1)))],[bI p_v]⟩ (Ja R_ p_v) fun r10=>
 .iB (r10) (.ret (bF 1) (true))<|
 .iB (p_v.aB==9) (.jk Tryz.f160 0 [1,1,1,1,1,0,1,0,1,1,1,0,0] 35 (fun r_=>⟨[(2,.b_ r_)],[.dead]⟩) ⟨[(1,.ptr 0 0)],[bI p_v]⟩ (Jb R_ p_v) fun r11=>
 .ret (bF 1) (r11))<|
 .iB (p_v.aB==10) (.ret (bF 1) (decide ((0:Int)≤p_v.dG)))<|
 .iB (p_v.aB==4) (.jk Tryz.f160 0 [1,1,1,1,1,0,1,0,1,1,1,1,1,1,1,0,0] 43 (fun r_=>⟨[(2,.b_ r_)],[.dead]⟩) ⟨[(1,.ptr 0 0)],[bI p_v]⟩ (Jc R_ p_v) fun r12=>
 .ret (bF 1) (r12))<|
 .iB (p_v.aB==7) (.ret (bF 1) (decide (((p_v.fText.size:Int):Int)≤4096)))<|
 .iB (p_v.aB==8) (.ret (bF 1) ((p_v.fText.size:Int)==12))<|
 .iB (p_v.aB==6) (.nu p_v.aX aj.lf<|
 .l2m [.kill 0] Tryz.f160 0 [1,1,1,1,1,0,1,0,1,1,1,1,1,1,1,1,1,1,1,1,1,0,0,1,0] 0 (fun(v0)=>⟨[(117,.lf (.rows 5 (p_v.aX.map aj.lf))),(118,.i_ (p_v.aX.length:Int)),(119,.i_ v0)],[.dead]⟩) .ret (fun _=>⟨[(2,.b_ false)],[.dead]⟩) (.exit 1) (fun _=>⟨[],[.dead]⟩) (WL R_ p_v 0) (wH R_ p_v) (0) (fun o0=>
 .ret (bF 1) (false)) fun o1=>
 .ret (bF 1) (true))<|
 .iB (p_v.aB==5) (.cl (R_.ok2 p_v.bC) fun r13 _=>
 .ret (bF 1) (r13))<|
 .ret (bF 1) (false)
theorem agA(R_:RB5):Uw fun p_v=>Mo.den (WM R_ p_v):=fun _=>dI Tryz.func160
noncomputable def PN(R_:RB5)(m1560:List (ByteArray×Bool))(p_l:List aF)(v0:Int)(x0:aF):Mo (Bool):=
 .cl (aju x0.fName) fun r0 _=>
 .iG 12004 (!r0) (.rt [3,5,7,8,9,22] 2 (true))<|
 .say [.row [.bool (uQ m1560 x0.fName false)]] (okc (rfl:Tryz.prog=Tryz.prog) (ok1 (EC _ _ _:l7 (m1560.map mvB) x0.fName (.bool false)=(.bool (uQ m1560 x0.fName false)))))<|
 .rt [3,5,7,8,9,22] 2 (uQ m1560 x0.fName false)
noncomputable def PO(R_:RB5)(m1560:List (ByteArray×Bool))(p_l:List aF)(r0:Bool)(v0:Int)(x0:aF):Mo (Bool):=
 .iG 12010 (r0) (.rt [3,5,7,8,9,28] 2 (true))<|
 .cl (R_.ok1 x0.fValue) fun r1 _=>
 .rt [3,5,7,8,9,28] 2 (!r1)
noncomputable def wI(R_:RB5)(p_l:List aF):(Int×(List (ByteArray×Bool)))→Mo ((Int×(List (ByteArray×Bool)))⊕(Unit⊕Unit)):=fun(v0,m1560)=>
 .iB (decide ((v0:Int)<(p_l.length:Int))) (.gx aF.aY p_l v0 fun x0 _=>
 .sf Tryz.f216 0 [1,1,0,1,0,0,1,1,0,0,1,0,0] 0 10 5 [(3,.mp 0),(5,.ptr 1 0),(7,.lf (.rows 6 (p_l.map aF.lf))),(8,.i_ (p_l.length:Int)),(9,.i_ v0)] [.map Tryz.prog 9 4 (m1560.map mvB),.box 138 (.agg ((aF.lf1 x0).map AV.lf))] 22 (PN R_ m1560 p_l v0 x0) fun r0=>
 .sb Tryz.f216 0 [1,1,0,1,0,0,1,1,0,0,1,0,0] 10 6 5 [(3,.mp 0),(5,.ptr 1 0),(7,.lf (.rows 6 (p_l.map aF.lf))),(8,.i_ (p_l.length:Int)),(9,.i_ v0)] [.map Tryz.prog 9 4 (m1560.map mvB),.box 138 (.agg ((aF.lf1 x0).map AV.lf))] 22 28 r0 (PO R_ m1560 p_l r0 v0 x0) fun r1=>
 .iB (r1) (.ret ⟨[.kill 0],[2],[],1⟩ (.inr (.inl ())))<|
 .say [] (ok1 (rfl:Tryz.prog=Tryz.prog))<|
 .grd (m1560.length<maxLen) fun h0=>
 .say [] (ok1 (by simpa using h0:(m1560.map mvB).length<maxLen))<|
 .rt [3,7,8,9] 1 (.inl (IntKind.wrap .i64 (v0+1),(x0.fName,true)::m1560)))<|
 .ret ⟨[.kill 0],[],[],1⟩ (.inr (.inr (())))
noncomputable def WO(R_:RB5)(p_l:List aF)(v0:Int)(m1560:List (ByteArray×Bool)):Option (Unit⊕Unit):=dA (fun v_=>(wI R_ p_l v_).den) FU (v0,m1560)
noncomputable def WQ(R_:RB5)(p_l:List aF):Mo (Bool):=
 .nu p_l aF.lf<|
 .l2m [] Tryz.f216 0 [1,1,0,1,0] 0 (fun(v0,m1560)=>⟨[(3,.mp 0),(7,.lf (.rows 6 (p_l.map aF.lf))),(8,.i_ (p_l.length:Int)),(9,.i_ v0)],[.map Tryz.prog 9 4 (m1560.map mvB)]⟩) .ret (fun _=>⟨[(2,.b_ false)],[.dead]⟩) (.exit 0) (fun _=>⟨[],[.dead]⟩) (WO R_ p_l 0 ([]:List (ByteArray×Bool))) (wI R_ p_l) (0,([]:List (ByteArray×Bool))) (fun o0=>
 .ret (bF 1) (false)) fun o1=>
 .ret (bF 1) (true)
theorem agB(R_:RB5):ab8 fun p_l=>Mo.den (WQ R_ p_l):=fun _=>dI Tryz.func216
noncomputable def uX:Nat→RB5
 |0=>{ m1:=fun p_v=>none,ok1:=fun _ _ h=>(by cases h),m2:=fun p_l=>none,ok2:=fun _ _ h=>(by cases h) }
 |n_+1=>{ m1:=fun p_v=>Mo.den (WM (uX n_) p_v),ok1:=agA (uX n_),m2:=fun p_l=>Mo.den (WQ (uX n_) p_l),ok2:=agB (uX n_) }
noncomputable def Q10(p_v:aj):Option (Bool):=(uX FU).m1 p_v
theorem ajv:Uw Q10:=(uX FU).ok1
noncomputable def ahX(p_v:aj):Mo (Bool):=
 .cl (agw p_v) fun r0 _=>
 .iG 4003 (decide ((r0:Int)≤1024)) (.cl (agz p_v) fun r1 _=>
 .iG 4008 (decide ((r1:Int)≤16)) (.cl (ajv p_v) fun r2 _=>
 .ret (bF 1) (r2))<|
 .ret (bF 1) (false))<|
 .ret (bF 1) (false)
noncomputable def Q90(p_v:aj):Option (Bool):=Mo.den (ahX p_v)
theorem sZ(p_v:aj):FV (Q90 p_v) 97 [.dat (aj.lf1 p_v)] .b_:=dI Tryz.func97
noncomputable def ab9(p_n:Int):Mo (Bool):=
 .iG 4002 (decide ((0:Int)≤p_n)) (.ret (bF 1) (decide ((p_n:Int)<65536)))<|
 .ret (bF 1) (false)
noncomputable def alI(p_n:Int):Option (Bool):=Mo.den (ab9 p_n)
theorem MN(p_n:Int):FV (alI p_n) 299 [.i_ p_n] .b_:=dI Tryz.func299
noncomputable def acd(p_p:dB):Mo (Bool):=
 .cl (MN p_p.fX) fun r0 _=>
 .iG 4003 (r0) (.cl (MN p_p.fY) fun r1 _=>
 .ret (bF 1) (r1))<|
 .ret (bF 1) (false)
noncomputable def alJ(p_p:dB):Option (Bool):=Mo.den (acd p_p)
theorem agC(p_p:dB):FV (alJ p_p) 300 [.dat (dB.lf1 p_p)] .b_:=dI Tryz.func300
noncomputable def Jd(p_s:dS):Mo (Bool):=
 .iB (p_s.aB==1) (.aV 12002 ((p_s.fA.length:Int)==2) [1,4] 1 (p_s.fR==0))<|
 .iB (p_s.aB==2) (.aC 16002 ((p_s.fA.length:Int)==1) [1,4] 1 (MN p_s.fR))<|
 .iB (p_s.aB==3) (.iG 20002 (decide ((3:Int)≤(p_s.fA.length:Int))) (.aV 20006 (decide (((p_s.fA.length:Int):Int)≤64)) [1,4] 1 (p_s.fR==0))<|
 .rt [1,4] 1 (false))<|
 .rt [1,4] 1 (false)
noncomputable def Je(p_s:dS):(Int)→Mo ((Int)⊕(Unit⊕Unit)):=fun(v0)=>
 .iB (decide ((v0:Int)<(p_s.fA.length:Int))) (.gx dB.aY p_s.fA v0 fun x0 _=>
 .cl (agC x0) fun r0 _=>
 .iB (!r0) (.rt [2] 1 (.inr (.inl ())))<|
 .rt [46,47,48] 1 (.inl (IntKind.wrap .i64 (v0+1))))<|
 .rt [] 1 (.inr (.inr (())))
noncomputable def ace(p_s:dS):Mo (Int):=
 .nu p_s.fA dB.lf<|
 .jk Tryz.f287 0 [1,1,1,0,1] 6 (fun r_=>⟨[(1,.ptr 0 0),(4,.b_ r_)],[ahQ p_s]⟩) ⟨[(1,.ptr 0 0),(3,.i_ (p_s.fA.length:Int)),(4,.b_ false),(11,.i_ p_s.aB)],[ahQ p_s]⟩ (Jd p_s) fun r0=>
 .iB (!r0) (.ret (bF 1) (18))<|
 .nu p_s.fA dB.lf<|
 .l2y [.kill 0] Tryz.f287 0 [1,1,1,1,1,0,1,0] 0 (fun(v0)=>⟨[(46,.lf (.rows 2 (p_s.fA.map dB.lf))),(47,.i_ (p_s.fA.length:Int)),(48,.i_ v0)],[.dead]⟩) .ret (fun _=>⟨[(2,.i_ 18)],[.dead]⟩) (.exit 1) (fun _=>⟨[],[.dead]⟩) (Je p_s) (0) (fun o0=>
 .ret (bF 1) (18)) fun o1=>
 .ret (bF 1) (0)
noncomputable def alK(p_s:dS):Option (Int):=Mo.den (ace p_s)
theorem agD(p_s:dS):FV (alK p_s) 287 [.dat (dS.lf1 p_s)] .i_:=dI Tryz.func287
noncomputable def zT(p_v:aj):Mo (Bool):=
 .aV 4003 (p_v.aB==0) [1,2,10] 1 (p_v.dG==0)
noncomputable def zU(p_v:aj)(r0:Bool):Mo (Bool):=
 .aV 4008 (r0) [1,2,15] 1 (decide ((p_v.fText:ByteArray)=(⟨#[]⟩:ByteArray)))
noncomputable def wJ(p_v:aj)(r0:Bool):Mo (Bool):=
 .iG 4013 (r0) (.nu p_v.aX aj.lf<|
 .rt [1,2,21] 1 ((p_v.aX.length:Int)==0))<|
 .rt [1,2,21] 1 (false)
noncomputable def wK(p_v:aj)(r0:Bool):Mo (Bool):=
 .iG 4019 (r0) (.nu p_v.bC aF.lf<|
 .ret ⟨[.kill 0],[2,27],[],1⟩ ((p_v.bC.length:Int)==0))<|
 .ret ⟨[.kill 0],[2,27],[],1⟩ (false)
noncomputable def ahY(p_v:aj):Mo (Bool):=
 .sf Tryz.f301 0 [1,0] 0 8 1 [(1,.ptr 0 0),(2,.b_ false)] [bI p_v] 10 (zT p_v) fun r0=>
 .sb Tryz.f301 0 [1,0] 8 5 1 [(1,.ptr 0 0),(2,.b_ false)] [bI p_v] 10 15 r0 (zU p_v r0) fun r1=>
 .sb Tryz.f301 0 [1,0] 13 6 1 [(1,.ptr 0 0),(2,.b_ false)] [bI p_v] 15 21 r1 (wJ p_v r1) fun r2=>
 .sk Tryz.f301 0 [1,0] 19 6 1 (fun r_=>⟨[(2,.b_ false),(27,.b_ r_)],[.dead]⟩) ⟨[(1,.ptr 0 0),(2,.b_ false),(21,.b_ r2)],[bI p_v]⟩ (wK p_v r2) fun r3=>
 .sk Tryz.f301 0 [1,0] 25 1 1 (fun r_=>⟨[(2,.b_ r3)],[.dead]⟩) ⟨[(2,.b_ false),(27,.b_ r3)],[.dead]⟩ (gu r3) fun r4=>
 .ret (bF 1) (r3)
noncomputable def Q26(p_v:aj):Option (Bool):=Mo.den (ahY p_v)
theorem acf(p_v:aj):FV (Q26 p_v) 301 [.dat (aj.lf1 p_v)] .b_:=dI Tryz.func301
noncomputable def acg(p_op:Int):Mo (Bool):=
 .oV 4002 (p_op==10) [0,2,8] 0 (p_op==11)
noncomputable def ach(p_op:Int)(r0:Bool):Mo (Bool):=
 .oV 4006 (r0) [0,2,12] 0 (p_op==12)
noncomputable def Yv(p_op:Int)(r0:Bool):Mo (Bool):=
 .oV 4010 (r0) [2,16] 0 (p_op==13)
noncomputable def ahZ(p_op:Int):Mo (Bool):=
 .sf Tryz.f302 0 [1,0] 0 6 1 [(0,.i_ p_op),(2,.b_ false)] [] 8 (acg p_op) fun r0=>
 .sb Tryz.f302 0 [1,0] 6 4 1 [(0,.i_ p_op),(2,.b_ false)] [] 8 12 r0 (ach p_op r0) fun r1=>
 .sk Tryz.f302 0 [1,0] 10 4 1 (fun r_=>⟨[(2,.b_ false),(16,.b_ r_)],[]⟩) ⟨[(0,.i_ p_op),(2,.b_ false),(12,.b_ r1)],[]⟩ (Yv p_op r1) fun r2=>
 .sk Tryz.f302 0 [1,0] 14 1 1 (fun r_=>⟨[(2,.b_ r2)],[]⟩) ⟨[(2,.b_ false),(16,.b_ r2)],[]⟩ (BI r2) fun r3=>
 .ret (bF 1) (r2)
noncomputable def Q87(p_op:Int):Option (Bool):=Mo.den (ahZ p_op)
theorem ajw(p_op:Int):FV (Q87 p_op) 302 [.i_ p_op] .b_:=dI Tryz.func302
noncomputable def ET(p_e:bf):Mo (Bool):=
 .iG 4003 (p_e.fOp==0) (.nu p_e.dQ lfS<|
 .rt [1,2,11] 1 ((p_e.dQ.length:Int)==0))<|
 .rt [1,2,11] 1 (false)
noncomputable def EU(p_e:bf)(r0:Bool):Mo (Bool):=
 .aV 4009 (r0) [1,2,16] 1 (decide ((p_e.fName:ByteArray)=(⟨#[]⟩:ByteArray)))
noncomputable def BJ(p_e:bf)(r0:Bool):Mo (Bool):=
 .iG 4014 (r0) (.nu p_e.iV lfS<|
 .rt [1,2,22] 1 ((p_e.iV.length:Int)==0))<|
 .rt [1,2,22] 1 (false)
noncomputable def Yw(p_e:bf)(r0:Bool):Mo (Bool):=
 .aC 4020 (r0) [1,2,27] 1 (acf p_e.fArg)
noncomputable def BK(p_e:bf)(r0:Bool):Mo (Bool):=
 .aV 4025 (r0) [1,2,32] 1 (p_e.fN==0)
noncomputable def BL(p_e:bf)(r0:Bool):Mo (Bool):=
 .iG 4030 (r0) (.nu p_e.dF bf.lf<|
 .ret ⟨[.kill 0],[2,38],[],1⟩ ((p_e.dF.length:Int)==0))<|
 .ret ⟨[.kill 0],[2,38],[],1⟩ (false)
noncomputable def ah0(p_e:bf):Mo (Bool):=
 .sf Tryz.f303 0 [1,0] 0 9 1 [(1,.ptr 0 0),(2,.b_ false)] [eX p_e] 11 (ET p_e) fun r0=>
 .sb Tryz.f303 0 [1,0] 9 5 1 [(1,.ptr 0 0),(2,.b_ false)] [eX p_e] 11 16 r0 (EU p_e r0) fun r1=>
 .sb Tryz.f303 0 [1,0] 14 6 1 [(1,.ptr 0 0),(2,.b_ false)] [eX p_e] 16 22 r1 (BJ p_e r1) fun r2=>
 .sb Tryz.f303 0 [1,0] 20 5 1 [(1,.ptr 0 0),(2,.b_ false)] [eX p_e] 22 27 r2 (Yw p_e r2) fun r3=>
 .sb Tryz.f303 0 [1,0] 25 5 1 [(1,.ptr 0 0),(2,.b_ false)] [eX p_e] 27 32 r3 (BK p_e r3) fun r4=>
 .sk Tryz.f303 0 [1,0] 30 6 1 (fun r_=>⟨[(2,.b_ false),(38,.b_ r_)],[.dead]⟩) ⟨[(1,.ptr 0 0),(2,.b_ false),(32,.b_ r4)],[eX p_e]⟩ (BL p_e r4) fun r5=>
 .sk Tryz.f303 0 [1,0] 36 1 1 (fun r_=>⟨[(2,.b_ r5)],[.dead]⟩) ⟨[(2,.b_ false),(38,.b_ r5)],[.dead]⟩ (gu r5) fun r6=>
 .ret (bF 1) (r5)
noncomputable def Q16(p_e:bf):Option (Bool):=Mo.den (ah0 p_e)
theorem ajx(p_e:bf):FV (Q16 p_e) 303 [.dat (bf.lf1 p_e)] .b_:=dI Tryz.func303
noncomputable def aci(p_p:aS):Mo (Bool):=
 .cl (WI p_p.fOp) fun r0 _=>
 .iG 6004 (!r0) (.nu p_p.dQ lfS<|
 .rt [1,3] 1 (decide ((0:Int)<(p_p.dQ.length:Int))))<|
 .rt [1,3] 1 (false)
noncomputable def acj(p_p:aS):Mo (Bool):=
 .cl (WJ p_p.fOp) fun r0 _=>
 .iG 8004 (!r0) (.cl (acf p_p.fArg) fun r1 _=>
 .rt [1,14] 1 (!r1))<|
 .rt [1,14] 1 (false)
noncomputable def Yx(p_p:aS):Mo (Bool):=
 .cl (MG p_p.fOp) fun r0 _=>
 .iG 10004 (!r0) (.nu p_p.fArgs aj.lf<|
 .rt [1,25] 1 (decide ((0:Int)<(p_p.fArgs.length:Int))))<|
 .rt [1,25] 1 (false)
noncomputable def Yy(p_p:aS):Mo (Bool):=
 .cl (ajw p_p.fOp) fun r0 _=>
 .aV 12004 (!r0) [1,36] 1 (p_p.fN != 0)
noncomputable def Yz(p_p:aS):Mo (Bool):=
 .aV 14003 (p_p.fOp != 12) [1,46] 1 (p_p.fM != 0)
noncomputable def YA(p_p:aS):Mo (Bool):=
 .iG 16003 (p_p.fOp != 18) (.iG 16008 (p_p.dK.aB != 0) (.rt [1,77] 1 (true))<|
 .nu p_p.dK.fA dB.lf<|
 .oV 16015 (decide ((0:Int)<(p_p.dK.fA.length:Int))) [1,77] 1 (p_p.dK.fR != 0))<|
 .rt [1,77] 1 (false)
noncomputable def YB(p_p:aS)(r0:Bool):Mo (Unit):=
 .rt [1,55] 1 ()
noncomputable def YC(p_p:aS):Mo (Bool):=
 .iG 18003 (p_p.fOp != 24) (.cl (ajx p_p.fExpr) fun r0 _=>
 .ret ⟨[.kill 0],[78],[],1⟩ (!r0))<|
 .ret ⟨[.kill 0],[78],[],1⟩ (false)
noncomputable def YD(p_p:aS):Mo (Unit⊕Unit):=
 .jk Tryz.f288 0 [1,0,0,0] 11 (fun r_=>⟨[(1,.ptr 0 0),(3,.b_ r_)],[dY p_p]⟩) ⟨[(1,.ptr 0 0)],[dY p_p]⟩ (aci p_p) fun r0=>
 .iB (r0) (.ret ⟨[.kill 0],[],[],1⟩ (.inl ()))<|
 .jk Tryz.f288 0 [1,0,0,1,1,0] 13 (fun r_=>⟨[(1,.ptr 0 0),(14,.b_ r_)],[dY p_p]⟩) ⟨[(1,.ptr 0 0)],[dY p_p]⟩ (acj p_p) fun r1=>
 .iB (r1) (.ret ⟨[.kill 0],[],[],1⟩ (.inl ()))<|
 .jk Tryz.f288 0 [1,0,0,1,1,1,1,0] 15 (fun r_=>⟨[(1,.ptr 0 0),(25,.b_ r_)],[dY p_p]⟩) ⟨[(1,.ptr 0 0)],[dY p_p]⟩ (Yx p_p) fun r2=>
 .iB (r2) (.ret ⟨[.kill 0],[],[],1⟩ (.inl ()))<|
 .jk Tryz.f288 0 [1,0,0,1,1,1,1,1,1,0] 17 (fun r_=>⟨[(1,.ptr 0 0),(36,.b_ r_)],[dY p_p]⟩) ⟨[(1,.ptr 0 0)],[dY p_p]⟩ (Yy p_p) fun r3=>
 .iB (r3) (.ret ⟨[.kill 0],[],[],1⟩ (.inl ()))<|
 .jk Tryz.f288 0 [1,0,0,1,1,1,1,1,1,1,1,0] 19 (fun r_=>⟨[(1,.ptr 0 0),(46,.b_ r_)],[dY p_p]⟩) ⟨[(1,.ptr 0 0)],[dY p_p]⟩ (Yz p_p) fun r4=>
 .iB (r4) (.ret ⟨[.kill 0],[],[],1⟩ (.inl ()))<|
 .sf Tryz.f288 0 [1,0,0,1,1,1,1,1,1,1,1,1,1,0] 0 22 7 [(1,.ptr 0 0)] [dY p_p] 77 (YA p_p) fun r5=>
 .sk Tryz.f288 0 [1,0,0,1,1,1,1,1,1,1,1,1,1,0] 22 1 7 (fun r_=>⟨[(1,.ptr 0 0),(55,.b_ r5)],[dY p_p]⟩) ⟨[(1,.ptr 0 0),(77,.b_ r5)],[dY p_p]⟩ (YB p_p r5) fun r6=>
 .iB (r5) (.ret ⟨[.kill 0],[],[],1⟩ (.inl ()))<|
 .jk Tryz.f288 0 [1,0,0,1,1,1,1,1,1,1,1,1,1,1,1,0] 23 (fun r_=>⟨[(78,.b_ r_)],[.dead]⟩) ⟨[(1,.ptr 0 0)],[dY p_p]⟩ (YC p_p) fun r7=>
 .iB (r7) (.rt [] 1 (.inl ()))<|
 .rt [2] 1 (.inr (()))
noncomputable def ah1(p_p:aS):Mo (Bool):=
 .j2 [] Tryz.f288 0 [1,0] 6 .normal (fun _=>⟨[],[.dead]⟩) .ret (fun _=>⟨[(2,.b_ true)],[.dead]⟩) ⟨[(1,.ptr 0 0)],[dY p_p]⟩ (YD p_p) (fun o0=>
 .ret (bF 1) (false)) fun o1=>
 .ret (bF 1) (true)
noncomputable def Q32(p_p:aS):Option (Bool):=Mo.den (ah1 p_p)
theorem ajy(p_p:aS):FV (Q32 p_p) 288 [.dat (aS.lf1 p_p)] .b_:=dI Tryz.func288
noncomputable def acn(p_op:Int):Mo (Bool):=
 .iB (p_op==1) (.rt [3,4] 0 (p_op==1))<|
 .iB (p_op==2) (.rt [3,4] 0 (p_op==2))<|
 .rt [3,4] 0 (p_op==3)
noncomputable def aco(p_op:Int):Mo (Bool):=
 .iB (p_op==18) (.rt [3,8] 0 (p_op==18))<|
 .iB (p_op==22) (.rt [3,8] 0 (p_op==22))<|
 .iB (p_op==23) (.rt [3,8] 0 (p_op==23))<|
 .iB (p_op==24) (.rt [3,8] 0 (p_op==24))<|
 .iB (p_op==26) (.rt [3,8] 0 (p_op==26))<|
 .iB (p_op==30) (.rt [3,8] 0 (p_op==30))<|
 .iB (p_op==31) (.rt [3,8] 0 (p_op==31))<|
 .rt [3,8] 0 (p_op==36)
noncomputable def YE(p_op:Int):Mo (Bool):=
 .iB (p_op==32) (.rt [3,17] 0 (p_op==32))<|
 .rt [3,17] 0 (p_op==33)
noncomputable def YF(p_op:Int):Mo (Bool):=
 .iB (p_op==19) (.rt [3,20] 0 (p_op==19))<|
 .rt [3,20] 0 (p_op==25)
noncomputable def YG(p_op:Int):Mo (Bool):=
 .iB (p_op==4) (.rt [3,23] 0 (p_op==4))<|
 .iB (p_op==6) (.rt [3,23] 0 (p_op==6))<|
 .iB (p_op==16) (.rt [3,23] 0 (p_op==16))<|
 .iB (p_op==17) (.rt [3,23] 0 (p_op==17))<|
 .iB (p_op==21) (.rt [3,23] 0 (p_op==21))<|
 .iB (p_op==29) (.rt [3,23] 0 (p_op==29))<|
 .rt [3,23] 0 (p_op==37)
noncomputable def ah2(p_op:Int):Mo (Int):=
 .jk Tryz.f310 0 [1,0,1,0,0,1] 1 (fun r_=>⟨[(3,.i_ p_op),(4,.b_ r_)],[]⟩) ⟨[(3,.i_ p_op),(4,.lf (.bool (p_op==1)))],[]⟩ (acn p_op) fun r0=>
 .iB (r0) (.ret (bF 1) (0))<|
 .jk Tryz.f310 0 [1,0,1,0,1,1,0,1] 1 (fun r_=>⟨[(3,.i_ p_op),(8,.b_ r_)],[]⟩) ⟨[(3,.i_ p_op),(8,.lf (.bool (p_op==18)))],[]⟩ (aco p_op) fun r1=>
 .iB (r1) (.ret (bF 1) (1))<|
 .jk Tryz.f310 0 [1,0,1,0,1,1,1,1,0,1] 1 (fun r_=>⟨[(3,.i_ p_op),(17,.b_ r_)],[]⟩) ⟨[(3,.i_ p_op),(17,.lf (.bool (p_op==32)))],[]⟩ (YE p_op) fun r2=>
 .iB (r2) (.ret (bF 1) (3))<|
 .jk Tryz.f310 0 [1,0,1,0,1,1,1,1,1,1,0,1] 1 (fun r_=>⟨[(3,.i_ p_op),(20,.b_ r_)],[]⟩) ⟨[(3,.i_ p_op),(20,.lf (.bool (p_op==19)))],[]⟩ (YF p_op) fun r3=>
 .iB (r3) (.ret (bF 1) (4))<|
 .jk Tryz.f310 0 [1,0,1,0,1,1,1,1,1,1,1,1,0,1] 1 (fun r_=>⟨[(3,.i_ p_op),(23,.b_ r_)],[]⟩) ⟨[(3,.i_ p_op),(23,.lf (.bool (p_op==4)))],[]⟩ (YG p_op) fun r4=>
 .iB (r4) (.ret (bF 1) (5))<|
 .iB (p_op==35) (.ret (bF 1) (6))<|
 .iB (p_op==34) (.ret (bF 1) (7))<|
 .ret (bF 1) (2)
noncomputable def Q79(p_op:Int):Option (Int):=Mo.den (ah2 p_op)
theorem acp(p_op:Int):FV (Q79 p_op) 310 [.i_ p_op] .i_:=dI Tryz.func310
noncomputable def YH(p_n:Int)(p_shape:Int):Mo (Bool):=
 .iB (p_shape==2) (.rt [1,5,14] 0 (p_shape==2))<|
 .rt [1,5,14] 0 (p_shape==3)
noncomputable def acr(p_shape:Int)(p_n:Int):Mo (Bool):=
 .iB (p_shape==0) (.ret (bF 1) (p_n==0))<|
 .iB (p_shape==1) (.ret (bF 1) (p_n==1))<|
 .jk Tryz.f309 0 [1,0,1,0,1,1,1,1,0,1] 1 (fun r_=>⟨[(1,.i_ p_n),(5,.i_ p_shape),(14,.b_ r_)],[]⟩) ⟨[(1,.i_ p_n),(5,.i_ p_shape),(14,.lf (.bool (p_shape==2)))],[]⟩ (YH p_n p_shape) fun r0=>
 .iB (r0) (.ret (bF 1) (p_n==2))<|
 .iB (p_shape==4) (.ret (bF 1) (p_n==3))<|
 .iB (p_shape==7) (.ret (bF 1) (decide ((1:Int)≤p_n)))<|
 .ret (bF 1) (true)
noncomputable def ajz(p_shape:Int)(p_n:Int):Option (Bool):=Mo.den (acr p_shape p_n)
theorem agE(p_shape:Int)(p_n:Int):FV (ajz p_shape p_n) 309 [.i_ p_shape,.i_ p_n] .b_:=dI Tryz.func309
noncomputable def acs(p_s:ByteArray):Mo (Bool):=
 .say [.at_ 4 2,.Tj 0 ([p_s].map lfS)] (ok1 (by simp[lfS]:[p_s].map lfS=[(lfS p_s)]))<|
 .cl (ES [p_s]) fun r0 _=>
 .ret (bF 1) (r0)
noncomputable def alL(p_s:ByteArray):Option (Bool):=Mo.den (acs p_s)
theorem WR(p_s:ByteArray):FV (alL p_s) 311 [.lf (.str p_s)] .b_:=dI Tryz.func311
noncomputable def PS(m2333:List (ByteArray×Bool))(p_l:List ByteArray)(v0:Int)(x0:ByteArray):Mo (Bool):=
 .cl (WR x0) fun r0 _=>
 .iG 12003 (!r0) (.rt [3,5,7,8,9,20] 1 (true))<|
 .say [.row [.bool (uQ m2333 x0 false)]] (okc (rfl:Tryz.prog=Tryz.prog) (ok1 (EC _ _ _:l7 (m2333.map mvB) x0 (.bool false)=(.bool (uQ m2333 x0 false)))))<|
 .rt [3,5,7,8,9,20] 1 (uQ m2333 x0 false)
noncomputable def PU(p_l:List ByteArray):(Int×(List (ByteArray×Bool)))→Mo ((Int×(List (ByteArray×Bool)))⊕(Unit⊕Unit)):=fun(v0,m2333)=>
 .iB (decide ((v0:Int)<(p_l.length:Int))) (.gx lS_ p_l v0 fun x0 _=>
 .jk Tryz.f312 0 [1,1,0,1,0,0,1,1,0,0,1,0,0] 17 (fun r_=>⟨[(3,.mp 0),(5,.lf (.str x0)),(7,.lf (.rows 1 (p_l.map lfS))),(8,.i_ (p_l.length:Int)),(9,.i_ v0),(20,.b_ r_)],[.map Tryz.prog 9 4 (m2333.map mvB)]⟩) ⟨[(3,.mp 0),(5,.lf (.str x0)),(7,.lf (.rows 1 (p_l.map lfS))),(8,.i_ (p_l.length:Int)),(9,.i_ v0)],[.map Tryz.prog 9 4 (m2333.map mvB)]⟩ (PS m2333 p_l v0 x0) fun r0=>
 .iB (r0) (.ret ⟨[.kill 0],[2],[],1⟩ (.inr (.inl ())))<|
 .say [] (ok1 (rfl:Tryz.prog=Tryz.prog))<|
 .grd (m2333.length<maxLen) fun h0=>
 .say [] (ok1 (by simpa using h0:(m2333.map mvB).length<maxLen))<|
 .rt [3,7,8,9] 1 (.inl (IntKind.wrap .i64 (v0+1),(x0,true)::m2333)))<|
 .ret ⟨[.kill 0],[],[],1⟩ (.inr (.inr (())))
noncomputable def ah3(p_l:List ByteArray):Mo (Bool):=
 .nu p_l lfS<|
 .l2 Tryz.f312 0 [1,1,0,1,0] 0 (fun(v0,m2333)=>⟨[(3,.mp 0),(7,.lf (.rows 1 (p_l.map lfS))),(8,.i_ (p_l.length:Int)),(9,.i_ v0)],[.map Tryz.prog 9 4 (m2333.map mvB)]⟩) .ret (fun _=>⟨[(2,.b_ false)],[.dead]⟩) (.exit 0) (fun _=>⟨[],[.dead]⟩) (PU p_l) (0,([]:List (ByteArray×Bool))) (fun o0=>
 .ret (bF 1) (false)) fun o1=>
 .ret (bF 1) (true)
noncomputable def Q76(p_l:List ByteArray):Option (Bool):=Mo.den (ah3 p_l)
theorem ajA(p_l:List ByteArray):FV (Q76 p_l) 312 [.lf (.rows 1 (p_l.map lfS))] .b_:=dI Tryz.func312
noncomputable def acu(p_v:aj):Mo (Bool):=
 .sf Tryz.f313 0 [1,0] 0 8 1 [(1,.ptr 0 0),(2,.b_ false)] [bI p_v] 10 (zT p_v) fun r0=>
 .sb Tryz.f313 0 [1,0] 8 5 1 [(1,.ptr 0 0),(2,.b_ false)] [bI p_v] 10 15 r0 (zU p_v r0) fun r1=>
 .sb Tryz.f313 0 [1,0] 13 6 1 [(1,.ptr 0 0),(2,.b_ false)] [bI p_v] 15 21 r1 (wJ p_v r1) fun r2=>
 .sk Tryz.f313 0 [1,0] 19 6 1 (fun r_=>⟨[(2,.b_ false),(27,.b_ r_)],[.dead]⟩) ⟨[(1,.ptr 0 0),(2,.b_ false),(21,.b_ r2)],[bI p_v]⟩ (wK p_v r2) fun r3=>
 .sk Tryz.f313 0 [1,0] 25 1 1 (fun r_=>⟨[(2,.b_ r3)],[.dead]⟩) ⟨[(2,.b_ false),(27,.b_ r3)],[.dead]⟩ (gu r3) fun r4=>
 .ret (bF 1) (r3)
noncomputable def alM(p_v:aj):Option (Bool):=Mo.den (acu p_v)
theorem agF(p_v:aj):FV (alM p_v) 313 [.dat (aj.lf1 p_v)] .b_:=dI Tryz.func313
noncomputable def acv(p_e:bf):Mo (Bool):=
 .ite (decide ((p_e.fOp:Int)<1)) (fun c0=>
 .say [.eG (.q 0 (.q 1 (.q 2 (.q 3 (.q 4 (.q 5 (.q 6 (.q 7 (.q 8 (.q 9 (.q 10 (.q 12 (.q 13 (.q 14 (.l 11 (.l 15 (.q 16 (.q 17 .fin)))))))))))))))))) (some 15) [] [.gd 4003 true] [1,22] 1 [(1,.ptr 0 0),(22,.b_ true)] [eX p_e]] (okc c0 (ok1 (rf_ ⟨[(1,.ptr 0 0),(22,.b_ true)],[eX p_e]⟩)))<|
 .rt [1,22] 1 (true)) fun c0=>
 .say [] (ok1 c0)<|
 .ite (decide ((37:Int)<p_e.fOp)) (fun c1=>
 .say [.eG (.q 0 (.q 1 (.q 2 (.q 3 (.q 4 (.q 5 (.q 6 (.q 7 (.q 8 (.q 9 (.q 10 (.q 12 (.q 13 (.q 14 (.l 11 (.l 15 (.q 16 (.q 17 .fin)))))))))))))))))) (some 15) [] [.gd 4003 false,.gd 4008 true] [1,22] 1 [(1,.ptr 0 0),(22,.b_ true)] [eX p_e]] (okc c1 (ok1 (rf_ ⟨[(1,.ptr 0 0),(22,.b_ true)],[eX p_e]⟩)))<|
 .rt [1,22] 1 (true)) fun c1=>
 .say [] (okc c1 (ok1 (ln_ p_e.dF bf.lf)))<|
 .ask (Q79 p_e.fOp) fun r0 h0=>
 .say [] (ok1 (acp _ _ h0))<|
 .ask (ajz r0 (p_e.dF.length:Int)) fun r1 h1=>
 .say [.eG (.q 0 (.q 1 (.q 2 (.q 3 (.q 4 (.q 5 (.q 6 (.q 7 (.q 8 (.q 9 (.q 10 (.q 12 (.q 13 (.q 14 (.l 11 (.l 15 (.q 16 (.q 17 .fin)))))))))))))))))) (some 15) [] [.gd 4003 false,.gd 4008 false,.num p_e.dF.length,.res (.i_ r0),.res (.b_ r1)] [1,22] 1 [(1,.ptr 0 0),(22,.lf (.bool (!r1)))] [eX p_e]] (okc (agE _ _ _ h1) (ok1 (rf_ ⟨[(1,.ptr 0 0),(22,.lf (.bool (!r1)))],[eX p_e]⟩)))<|
 .rt [1,22] 1 (!r1)
noncomputable def acw(p_e:bf):Mo (Bool):=
 .iG 8003 (p_e.fOp==34) (.nu p_e.dF bf.lf<|
 .nu p_e.iV lfS<|
 .rt [1,34] 1 ((p_e.dF.length:Int) != (p_e.iV.length:Int)))<|
 .rt [1,34] 1 (false)
noncomputable def YI(p_e:bf):Mo (Bool):=
 .oV 12003 (p_e.fOp==2) [1,3] 1 (p_e.fOp==3)
noncomputable def YJ(p_e:bf)(r0:Bool):Mo (Bool):=
 .iG 14003 (p_e.fOp==3) (.rt [1,3,4] 1 (true))<|
 .cl (acp p_e.fOp) fun r1 _=>
 .rt [1,3,4] 1 (r1==3)
noncomputable def YK(p_e:bf)(r0:Bool)(r1:Bool):Mo (Bool):=
 .iG 16001 (r0) (.cl (ES p_e.dQ) fun r2 _=>
 .rt [1,3,4,58] 1 (!r2))<|
 .rt [1,3,4,58] 1 (false)
noncomputable def YL(p_e:bf)(r0:Bool)(r1:Bool)(r2:Bool):Mo (Bool):=
 .iG 16007 (r2) (.iG 16011 (p_e.fOp==2) (.rt [1,3,4,69] 1 (true))<|
 .nu p_e.dQ lfS<|
 .rt [1,3,4,69] 1 (decide ((0:Int)<(p_e.dQ.length:Int))))<|
 .rt [1,3,4,69] 1 (false)
noncomputable def YM(p_e:bf)(r0:Bool)(r1:Bool):Mo (Bool):=
 .iG 20001 (r1) (.cl (WR p_e.fName) fun r2 _=>
 .rt [1,3,4,76] 1 (!r2))<|
 .rt [1,3,4,76] 1 (false)
noncomputable def YN(p_e:bf)(r0:Bool)(r1:Bool)(r2:Bool):Mo (Bool):=
 .iG 20007 (r2) (.rt [1,3,4,87] 1 (true))<|
 .iG 20011 (p_e.fOp==34) (.cl (ajA p_e.iV) fun r3 _=>
 .rt [1,3,4,87] 1 (!r3))<|
 .rt [1,3,4,87] 1 (false)
noncomputable def YO(p_e:bf)(r0:Bool)(r1:Bool):Mo (Bool):=
 .iG 24003 (p_e.fOp==1) (.cl (sZ p_e.fArg) fun r2 _=>
 .rt [1,3,4,96] 1 (!r2))<|
 .rt [1,3,4,96] 1 (false)
noncomputable def YP(p_e:bf)(r0:Bool)(r1:Bool):Mo (Bool):=
 .iG 28002 (!r0) (.nu p_e.dQ lfS<|
 .rt [1,4,104] 1 (decide ((0:Int)<(p_e.dQ.length:Int))))<|
 .rt [1,4,104] 1 (false)
noncomputable def YQ(p_e:bf)(r0:Bool)(r1:Bool):Mo (Bool):=
 .iG 28008 (r1) (.rt [1,113] 1 (true))<|
 .aV 28011 (!r0) [1,113] 1 (!decide ((p_e.fName:ByteArray)=(⟨#[]⟩:ByteArray)))
noncomputable def YR(p_e:bf)(r0:Bool):Mo (Bool):=
 .iG 28017 (r0) (.rt [1,124] 1 (true))<|
 .iG 28021 (p_e.fOp != 34) (.nu p_e.iV lfS<|
 .rt [1,124] 1 (decide ((0:Int)<(p_e.iV.length:Int))))<|
 .rt [1,124] 1 (false)
noncomputable def YS(p_e:bf):Mo (Bool):=
 .iG 32003 (p_e.fOp != 1) (.cl (agF p_e.fArg) fun r0 _=>
 .rt [1,133] 1 (!r0))<|
 .rt [1,133] 1 (false)
noncomputable def YT(p_e:bf)(r0:Bool):Mo (Bool):=
 .iG 32009 (r0) (.ret ⟨[.kill 0],[138],[],1⟩ (true))<|
 .ret ⟨[.kill 0],[138],[],1⟩ (p_e.fN != 0)
noncomputable def ah4(p_e:bf):Mo (Int):=
 .jk Tryz.f306 0 [1,0,0] 9 (fun r_=>⟨[(1,.ptr 0 0),(22,.b_ r_)],[eX p_e]⟩) ⟨[(1,.ptr 0 0)],[eX p_e]⟩ (acv p_e) fun r0=>
 .iB (r0) (.ret (bF 1) (11))<|
 .jk Tryz.f306 0 [1,1,0,0] 13 (fun r_=>⟨[(1,.ptr 0 0),(34,.b_ r_)],[eX p_e]⟩) ⟨[(1,.ptr 0 0)],[eX p_e]⟩ (acw p_e) fun r1=>
 .iB (r1) (.ret (bF 1) (11))<|
 .jk Tryz.f306 0 [1,1,1,0] 17 (fun r_=>⟨[(1,.ptr 0 0),(3,.b_ r_)],[eX p_e]⟩) ⟨[(1,.ptr 0 0)],[eX p_e]⟩ (YI p_e) fun r2=>
 .jk Tryz.f306 0 [1,1,1,1,0] 19 (fun r_=>⟨[(1,.ptr 0 0),(3,.b_ r2),(4,.b_ r_)],[eX p_e]⟩) ⟨[(1,.ptr 0 0),(3,.b_ r2)],[eX p_e]⟩ (YJ p_e r2) fun r3=>
 .sf Tryz.f306 0 [1,1,1,1,1,0,0] 0 7 7 [(1,.ptr 0 0),(3,.b_ r2),(4,.b_ r3)] [eX p_e] 58 (YK p_e r2 r3) fun r4=>
 .sb Tryz.f306 0 [1,1,1,1,1,0,0] 7 11 7 [(1,.ptr 0 0),(3,.b_ r2),(4,.b_ r3)] [eX p_e] 58 69 r4 (YL p_e r2 r3 r4) fun r5=>
 .iB (r5) (.ret (bF 1) (10))<|
 .sf Tryz.f306 0 [1,1,1,1,1,1,0,0] 0 7 9 [(1,.ptr 0 0),(3,.b_ r2),(4,.b_ r3)] [eX p_e] 76 (YM p_e r2 r3) fun r6=>
 .sb Tryz.f306 0 [1,1,1,1,1,1,0,0] 7 11 9 [(1,.ptr 0 0),(3,.b_ r2),(4,.b_ r3)] [eX p_e] 76 87 r6 (YN p_e r2 r3 r6) fun r7=>
 .iB (r7) (.ret (bF 1) (9))<|
 .jk Tryz.f306 0 [1,1,1,1,1,1,1,0,0] 29 (fun r_=>⟨[(1,.ptr 0 0),(3,.b_ r2),(4,.b_ r3),(96,.b_ r_)],[eX p_e]⟩) ⟨[(1,.ptr 0 0),(3,.b_ r2),(4,.b_ r3)],[eX p_e]⟩ (YO p_e r2 r3) fun r8=>
 .iB (r8) (.ret (bF 1) (8))<|
 .sk Tryz.f306 0 [1,1,1,1,1,1,1,1,0,0] 0 8 13 (fun r_=>⟨[(1,.ptr 0 0),(4,.b_ r3),(104,.b_ r_)],[eX p_e]⟩) ⟨[(1,.ptr 0 0),(3,.b_ r2),(4,.b_ r3)],[eX p_e]⟩ (YP p_e r2 r3) fun r9=>
 .sk Tryz.f306 0 [1,1,1,1,1,1,1,1,0,0] 8 9 13 (fun r_=>⟨[(1,.ptr 0 0),(113,.b_ r_)],[eX p_e]⟩) ⟨[(1,.ptr 0 0),(4,.b_ r3),(104,.b_ r9)],[eX p_e]⟩ (YQ p_e r3 r9) fun r10=>
 .sb Tryz.f306 0 [1,1,1,1,1,1,1,1,0,0] 17 11 13 [(1,.ptr 0 0)] [eX p_e] 113 124 r10 (YR p_e r10) fun r11=>
 .iB (r11) (.ret (bF 1) (4))<|
 .sf Tryz.f306 0 [1,1,1,1,1,1,1,1,1,0,0] 0 9 15 [(1,.ptr 0 0)] [eX p_e] 133 (YS p_e) fun r12=>
 .sk Tryz.f306 0 [1,1,1,1,1,1,1,1,1,0,0] 9 5 15 (fun r_=>⟨[(138,.b_ r_)],[.dead]⟩) ⟨[(1,.ptr 0 0),(133,.b_ r12)],[eX p_e]⟩ (YT p_e r12) fun r13=>
 .iB (r13) (.ret (bF 1) (4))<|
 .ret (bF 1) (0)
noncomputable def Q22(p_e:bf):Option (Int):=Mo.den (ah4 p_e)
theorem ajB(p_e:bf):FV (Q22 p_e) 306 [.dat (bf.lf1 p_e)] .i_:=dI Tryz.func306
abbrev Ux(m:bf→Int→Int→Option (Int×Int)):Prop:=∀p_e p_level p_b0,FH (m p_e p_level p_b0) 304 [.dat (bf.lf1 p_e),.i_ p_level,.ptr 0 0] [.box 3 (.dat [(.int .i64 p_b0)])] (fun r=>.i_ r.1) (fun r=>[.box 3 (.dat [(.int .i64 r.2)])])
structure RB6 where
 m1:(p_e:bf)→(p_level:Int)→(p_b0:Int)→Option (Int×Int)
 ok1:Ux m1
noncomputable def Jf(R_:RB6)(p_b0:Int)(p_e:bf)(p_level:Int):Mo (Bool):=
 .oV 4002 (decide ((16:Int)<p_level)) [1,2,3,18] 2 (p_b0==256)
noncomputable def Jg(R_:RB6)(p_e:bf)(p_level:Int):(Int×Int)→Mo ((Int×Int)⊕(Int×Int)⊕(Int)):=fun(v0,v1)=>
 .iB (decide ((v0:Int)<(p_e.dF.length:Int))) (.gx bf.aY p_e.dF v0 fun x0 _=>
 .say [.at_ 22 4,.tod 36] ok0<|
 .cH [0] (R_.ok1 x0 (IntKind.wrap .i64 (p_level+1)) v1) fun r0 _=>
 .iB (r0.1 != 0) (.rt [6] 2 (.inr (.inl (r0.1,r0.2))))<|
 .rt [1,2,30,31,32] 2 (.inl (IntKind.wrap .i64 (v0+1),r0.2)))<|
 .rt [] 2 (.inr (.inr (v1)))
noncomputable def Uy(R_:RB6)(p_e:bf)(p_level:Int)(p_b0:Int):Mo (Int×Int):=
 .jk Tryz.f304 1 [1,0,0] 9 (fun r_=>⟨[(1,.i_ p_level),(2,.ptr 0 0),(3,.ptr 1 0),(18,.b_ r_)],[.box 3 (.dat [(.int .i64 p_b0)]),eX p_e]⟩) ⟨[(1,.i_ p_level),(2,.ptr 0 0),(3,.ptr 1 0)],[.box 3 (.dat [(.int .i64 p_b0)]),eX p_e]⟩ (Jf R_ p_b0 p_e p_level) fun r0=>
 .iB (r0) (.ret ⟨[.kill 1],[0],[],1⟩ (2,p_b0))<|
 .cl (ajB p_e) fun r1 _=>
 .iB (r1 != 0) (.ret ⟨[.kill 1],[0],[],1⟩ (r1,IntKind.wrap .i64 (p_b0+1)))<|
 .nu p_e.dF bf.lf<|
 .l2y [.kill 1] Tryz.f304 1 [1,1,1,1,0,1,0] 0 (fun(v0,v1)=>⟨[(1,.i_ p_level),(2,.ptr 0 0),(30,.lf (.rows 11 (p_e.dF.map bf.lf))),(31,.i_ (p_e.dF.length:Int)),(32,.i_ v0)],[.box 3 (.dat [(.int .i64 v1)]),.dead]⟩) .ret (fun o_=>⟨[(6,.i_ o_.1)],[.box 3 (.dat [(.int .i64 o_.2)]),.dead]⟩) (.exit 0) (fun o_=>⟨[],[.box 3 (.dat [(.int .i64 o_)]),.dead]⟩) (Jg R_ p_e p_level) (0,(IntKind.wrap .i64 (p_b0+1))) (fun o0=>
 .rt [0] 1 (o0.1,o0.2)) fun o1=>
 .rt [0] 1 (0,o1)
theorem acy(R_:RB6):Ux fun p_e p_level p_b0=>Mo.den (Uy R_ p_e p_level p_b0):=fun _ _ _=>jA Tryz.func304
noncomputable def C9:Nat→RB6
 |0=>{ m1:=fun p_e p_level p_b0=>none,ok1:=fun _ _ _ _ h=>(by cases h) }
 |n_+1=>{ m1:=fun p_e p_level p_b0=>Mo.den (Uy (C9 n_) p_e p_level p_b0),ok1:=acy (C9 n_) }
noncomputable def alN(p_e:bf)(p_level:Int)(p_b0:Int):Option (Int×Int):=(C9 FU).m1 p_e p_level p_b0
theorem agG:Ux alN:=(C9 FU).ok1
end
end Go.Proofs.YtpdlghcgekojlaaGreatDoor
namespace Go.Proofs.YtpdlghcgekojlaaGreatDoor
open Go.RowKit
set_option maxRecDepth 20000
set_option maxHeartbeats 4000000
noncomputable section
noncomputable def acz(p_e:bf):Mo (Int):=
 .cH [1] (agG p_e 1 0) fun r0 _=>
 .ret (bF 1) (r0.1)
noncomputable def alO(p_e:bf):Option (Int):=Mo.den (acz p_e)
theorem agH(p_e:bf):FV (alO p_e) 289 [.dat (bf.lf1 p_e)] .i_:=dI Tryz.func289
noncomputable def WS(p_inside:Bool)(p_p:aS):Mo (Bool):=
 .oV 4003 (decide ((p_p.fOp:Int)<1)) [1,2,15] 1 (decide ((24:Int)<p_p.fOp))
noncomputable def WT(p_inside:Bool)(p_p:aS)(r0:Bool):Mo (Bool):=
 .iG 4008 (r0) (.rt [1,2,24] 1 (true))<|
 .nu p_p.dF aS.lf<|
 .cl (ajq p_p.fOp (p_p.dF.length:Int)) fun r1 _=>
 .rt [1,2,24] 1 (!r1)
noncomputable def PV(p_inside:Bool)(p_p:aS):Mo (Bool):=
 .cl (MG p_p.fOp) fun r0 _=>
 .iG 8003 (r0) (.nu p_p.fArgs aj.lf<|
 .rt [1,2,33] 1 ((p_p.fArgs.length:Int)==0))<|
 .rt [1,2,33] 1 (false)
noncomputable def PW(p_inside:Bool)(p_p:aS)(r0:Bool):Mo (Bool):=
 .iG 8009 (r0) (.rt [1,2,38] 1 (true))<|
 .cl (ajr p_p) fun r1 _=>
 .rt [1,2,38] 1 (!r1)
noncomputable def PX(p_inside:Bool)(p_p:aS):Mo (Bool):=
 .cl (WI p_p.fOp) fun r0 _=>
 .iG 12003 (r0) (.cl (ES p_p.dQ) fun r1 _=>
 .rt [1,2,47] 1 (!r1))<|
 .rt [1,2,47] 1 (false)
noncomputable def PY(p_inside:Bool)(p_p:aS)(r0:Bool):Mo (Bool):=
 .iG 12009 (r0) (.iG 12012 (!p_inside) (.rt [2,57] 1 (true))<|
 .nu p_p.dQ lfS<|
 .rt [2,57] 1 (decide ((0:Int)<(p_p.dQ.length:Int))))<|
 .rt [2,57] 1 (false)
noncomputable def PZ(p_p:aS):Mo (Bool):=
 .cl (WJ p_p.fOp) fun r0 _=>
 .iG 16003 (r0) (.cl (sZ p_p.fArg) fun r1 _=>
 .rt [2,66] 1 (!r1))<|
 .rt [2,66] 1 (false)
noncomputable def P5(p_p:aS)(r0:Bool):Mo (Bool):=
 .iG 16009 (r0) (.rt [2,77] 1 (true))<|
 .cl (MH p_p.fOp) fun r1 _=>
 .aV 16013 (r1) [2,77] 1 (p_p.fArg.aB != 4)
noncomputable def P6(p_p:aS):(Int)→Mo ((Int)⊕(Unit⊕Unit)):=fun(v0)=>
 .iB (decide ((v0:Int)<(p_p.fArgs.length:Int))) (.gx aj.aY p_p.fArgs v0 fun x0 _=>
 .cl (sZ x0) fun r0 _=>
 .iB (!r0) (.ret ⟨[.kill 0],[4],[],1⟩ (.inr (.inl ())))<|
 .rt [2,82,83,84] 1 (.inl (IntKind.wrap .i64 (v0+1))))<|
 .rt [2] 1 (.inr (.inr (())))
noncomputable def P7(p_p:aS)(r0:Bool):Mo (Unit⊕Unit):=
 .iB (r0) (.nu p_p.fArgs aj.lf<|
 .l2 Tryz.f259 0 [1,1,1,1,1,0,1,0,1,0] 0 (fun(v0)=>⟨[(2,.ptr 0 0),(82,.lf (.rows 5 (p_p.fArgs.map aj.lf))),(83,.i_ (p_p.fArgs.length:Int)),(84,.i_ v0)],[dY p_p]⟩) .ret (fun _=>⟨[(4,.i_ 8)],[.dead]⟩) (.exit 0) (fun _=>⟨[(2,.ptr 0 0)],[dY p_p]⟩) (P6 p_p) (0) (fun o0=>
 .rt [4] 1 (.inl ())) fun o1=>
 .rt [2] 1 (.inr (())))<|
 .rt [2] 1 (.inr (()))
noncomputable def P8(p_p:aS):Mo ((Int)⊕Unit):=
 .iB (p_p.fOp==18) (.cl (agD p_p.dK) fun r0 _=>
 .iB (r0 != 0) (.ret ⟨[.kill 0],[4],[],1⟩ (.inl (r0)))<|
 .rt [2] 1 (.inr (())))<|
 .rt [2] 1 (.inr (()))
noncomputable def alP(p_p:aS)(p_inside:Bool):Mo (Int):=
 .sf Tryz.f259 0 [1,0,0] 0 8 1 [(1,.b_ p_inside),(2,.ptr 0 0)] [dY p_p] 15 (WS p_inside p_p) fun r0=>
 .sb Tryz.f259 0 [1,0,0] 8 9 1 [(1,.b_ p_inside),(2,.ptr 0 0)] [dY p_p] 15 24 r0 (WT p_inside p_p r0) fun r1=>
 .iB (r1) (.ret (bF 1) (11))<|
 .sf Tryz.f259 0 [1,1,0,0] 0 9 3 [(1,.b_ p_inside),(2,.ptr 0 0)] [dY p_p] 33 (PV p_inside p_p) fun r2=>
 .sb Tryz.f259 0 [1,1,0,0] 9 5 3 [(1,.b_ p_inside),(2,.ptr 0 0)] [dY p_p] 33 38 r2 (PW p_inside p_p r2) fun r3=>
 .iB (r3) (.ret (bF 1) (11))<|
 .sf Tryz.f259 0 [1,1,1,0,0] 0 9 5 [(1,.b_ p_inside),(2,.ptr 0 0)] [dY p_p] 47 (PX p_inside p_p) fun r4=>
 .sk Tryz.f259 0 [1,1,1,0,0] 9 10 5 (fun r_=>⟨[(2,.ptr 0 0),(57,.b_ r_)],[dY p_p]⟩) ⟨[(1,.b_ p_inside),(2,.ptr 0 0),(47,.b_ r4)],[dY p_p]⟩ (PY p_inside p_p r4) fun r5=>
 .iB (r5) (.ret (bF 1) (10))<|
 .sf Tryz.f259 0 [1,1,1,1,0,0] 0 9 7 [(2,.ptr 0 0)] [dY p_p] 66 (PZ p_p) fun r6=>
 .sb Tryz.f259 0 [1,1,1,1,0,0] 9 11 7 [(2,.ptr 0 0)] [dY p_p] 66 77 r6 (P5 p_p r6) fun r7=>
 .iB (r7) (.ret (bF 1) (8))<|
 .cl (MG p_p.fOp) fun r8 _=>
 .j2 [] Tryz.f259 0 [1,1,1,1,1,0,1] 1 .ret (fun _=>⟨[(4,.i_ 8)],[.dead]⟩) .normal (fun _=>⟨[(2,.ptr 0 0)],[dY p_p]⟩) ⟨[(2,.ptr 0 0),(80,.b_ r8)],[dY p_p]⟩ (P7 p_p r8) (fun o0=>
 .ret (bF 1) (8)) fun o1=>
 .j2 [] Tryz.f259 0 [1,1,1,1,1,1,0,1] 1 .ret (fun o_=>⟨[(4,.i_ o_)],[.dead]⟩) .normal (fun _=>⟨[(2,.ptr 0 0)],[dY p_p]⟩) ⟨[(2,.ptr 0 0),(94,.lf (.bool (p_p.fOp==18)))],[dY p_p]⟩ (P8 p_p) (fun o2=>
 .ret (bF 1) (o2)) fun o3=>
 .cl (ajy p_p) fun r9 _=>
 .iB (!r9) (.ret (bF 1) (4))<|
 .iB (p_p.fOp==24) (.cl (agH p_p.fExpr) fun r10 _=>
 .ret (bF 1) (r10))<|
 .ret (bF 1) (0)
noncomputable def Q9(p_p:aS)(p_inside:Bool):Option (Int):=Mo.den (alP p_p p_inside)
theorem alQ(p_p:aS)(p_inside:Bool):FV (Q9 p_p p_inside) 259 [.dat (aS.lf1 p_p),.b_ p_inside] .i_:=dI Tryz.func259
abbrev Uz(m:aS→Bool→Option (Int)):Prop:=∀p_p p_inside,FV (m p_p p_inside) 226 [.dat (aS.lf1 p_p),.b_ p_inside] .i_
structure RB2 where
 m1:(p_p:aS)→(p_inside:Bool)→Option (Int)
 ok1:Uz m1
noncomputable def P9(R_:RB2)(p_inside:Bool)(p_p:aS)(v0:Int)(x0:aS):Mo (Int):=
 .iG 16002 (p_inside) (.cl (R_.ok1 x0 true) fun r0 _=>
 .ret ⟨[.kill 1],[1,2,8,16,17,18],[],2⟩ (r0))<|
 .cl (R_.ok1 x0 (p_p.fOp==15)) fun r1 _=>
 .ret ⟨[.kill 1],[1,2,8,16,17,18],[],2⟩ (r1)
noncomputable def Qa(R_:RB2)(p_inside:Bool)(p_p:aS):(Int)→Mo ((Int)⊕(Int)⊕Unit):=fun(v0)=>
 .iB (decide ((v0:Int)<(p_p.dF.length:Int))) (.gx aS.aY p_p.dF v0 fun x0 _=>
 .jk Tryz.f226 0 [1,1,0,1,0,0,1,1,0,0,1,0] 21 (fun r_=>⟨[(1,.b_ p_inside),(2,.ptr 0 0),(8,.i_ r_),(16,.lf (.rows 25 (p_p.dF.map aS.lf))),(17,.i_ (p_p.dF.length:Int)),(18,.i_ v0)],[dY p_p,.dead]⟩) ⟨[(1,.b_ p_inside),(2,.ptr 0 0),(7,.ptr 1 0),(16,.lf (.rows 25 (p_p.dF.map aS.lf))),(17,.i_ (p_p.dF.length:Int)),(18,.i_ v0)],[dY p_p,.box 58 (.agg ((aS.lf1 x0).map AV.lf))]⟩ (P9 R_ p_inside p_p v0 x0) fun r0=>
 .iB (r0 != 0) (.ret ⟨[.kill 0],[4],[],1⟩ (.inr (.inl (r0))))<|
 .rt [1,2,16,17,18] 1 (.inl (IntKind.wrap .i64 (v0+1))))<|
 .ret ⟨[.kill 0],[],[],1⟩ (.inr (.inr (())))
noncomputable def acA(R_:RB2)(p_p:aS)(p_inside:Bool):Mo (Int):=
 .cl (alQ p_p p_inside) fun r0 _=>
 .iB (r0 != 0) (.ret (bF 1) (r0))<|
 .nu p_p.dF aS.lf<|
 .l2 Tryz.f226 0 [1,1,0,1,0] 0 (fun(v0)=>⟨[(1,.b_ p_inside),(2,.ptr 0 0),(16,.lf (.rows 25 (p_p.dF.map aS.lf))),(17,.i_ (p_p.dF.length:Int)),(18,.i_ v0)],[dY p_p]⟩) .ret (fun o_=>⟨[(4,.i_ o_)],[.dead]⟩) (.exit 0) (fun _=>⟨[],[.dead]⟩) (Qa R_ p_inside p_p) (0) (fun o0=>
 .ret (bF 1) (o0)) fun o1=>
 .ret (bF 1) (0)
theorem agI(R_:RB2):Uz fun p_p p_inside=>Mo.den (acA R_ p_p p_inside):=fun _ _=>dI Tryz.func226
noncomputable def Dc:Nat→RB2
 |0=>{ m1:=fun p_p p_inside=>none,ok1:=fun _ _ _ h=>(by cases h) }
 |n_+1=>{ m1:=fun p_p p_inside=>Mo.den (acA (Dc n_) p_p p_inside),ok1:=agI (Dc n_) }
noncomputable def Q69(p_p:aS)(p_inside:Bool):Option (Int):=(Dc FU).m1 p_p p_inside
theorem ajC:Uz Q69:=(Dc FU).ok1
noncomputable def acB(p_p:aS):Mo (Int):=
 .cH [1] (ajp p_p 1 0) fun r0 _=>
 .iB (!r0.1) (.ret (bF 1) (2))<|
 .cl (ajC p_p false) fun r1 _=>
 .ret (bF 1) (r1)
noncomputable def alR(p_p:aS):Option (Int):=Mo.den (acB p_p)
theorem agJ(p_p:aS):FV (alR p_p) 175 [.dat (aS.lf1 p_p)] .i_:=dI Tryz.func175
noncomputable def acC(p_v:aj):Mo (Bool):=
 .sf Tryz.f227 0 [1,0] 0 8 1 [(1,.ptr 0 0),(2,.b_ false)] [bI p_v] 10 (zT p_v) fun r0=>
 .sb Tryz.f227 0 [1,0] 8 5 1 [(1,.ptr 0 0),(2,.b_ false)] [bI p_v] 10 15 r0 (zU p_v r0) fun r1=>
 .sb Tryz.f227 0 [1,0] 13 6 1 [(1,.ptr 0 0),(2,.b_ false)] [bI p_v] 15 21 r1 (wJ p_v r1) fun r2=>
 .sk Tryz.f227 0 [1,0] 19 6 1 (fun r_=>⟨[(2,.b_ false),(27,.b_ r_)],[.dead]⟩) ⟨[(1,.ptr 0 0),(2,.b_ false),(21,.b_ r2)],[bI p_v]⟩ (wK p_v r2) fun r3=>
 .sk Tryz.f227 0 [1,0] 25 1 1 (fun r_=>⟨[(2,.b_ r3)],[.dead]⟩) ⟨[(2,.b_ false),(27,.b_ r3)],[.dead]⟩ (gu r3) fun r4=>
 .ret (bF 1) (r3)
noncomputable def alS(p_v:aj):Option (Bool):=Mo.den (acC p_v)
theorem WU(p_v:aj):FV (alS p_v) 227 [.dat (aj.lf1 p_v)] .b_:=dI Tryz.func227
noncomputable def UA(p_x:bf)(r0:Bool):Mo (Bool):=
 .aC 4020 (r0) [1,2,27] 1 (WU p_x.fArg)
noncomputable def acD(p_x:bf):Mo (Bool):=
 .sf Tryz.f228 0 [1,0] 0 9 1 [(1,.ptr 0 0),(2,.b_ false)] [eX p_x] 11 (ET p_x) fun r0=>
 .sb Tryz.f228 0 [1,0] 9 5 1 [(1,.ptr 0 0),(2,.b_ false)] [eX p_x] 11 16 r0 (EU p_x r0) fun r1=>
 .sb Tryz.f228 0 [1,0] 14 6 1 [(1,.ptr 0 0),(2,.b_ false)] [eX p_x] 16 22 r1 (BJ p_x r1) fun r2=>
 .sb Tryz.f228 0 [1,0] 20 5 1 [(1,.ptr 0 0),(2,.b_ false)] [eX p_x] 22 27 r2 (UA p_x r2) fun r3=>
 .sb Tryz.f228 0 [1,0] 25 5 1 [(1,.ptr 0 0),(2,.b_ false)] [eX p_x] 27 32 r3 (BK p_x r3) fun r4=>
 .sk Tryz.f228 0 [1,0] 30 6 1 (fun r_=>⟨[(2,.b_ false),(38,.b_ r_)],[.dead]⟩) ⟨[(1,.ptr 0 0),(2,.b_ false),(32,.b_ r4)],[eX p_x]⟩ (BL p_x r4) fun r5=>
 .sk Tryz.f228 0 [1,0] 36 1 1 (fun r_=>⟨[(2,.b_ r5)],[.dead]⟩) ⟨[(2,.b_ false),(38,.b_ r5)],[.dead]⟩ (gu r5) fun r6=>
 .ret (bF 1) (r5)
noncomputable def alT(p_x:bf):Option (Bool):=Mo.den (acD p_x)
theorem agK(p_x:bf):FV (alT p_x) 228 [.dat (bf.lf1 p_x)] .b_:=dI Tryz.func228
noncomputable def Qb(p_p:aS):Mo (Bool):=
 .iG 4003 (p_p.fOp==0) (.nu p_p.dQ lfS<|
 .rt [1,2,11] 1 ((p_p.dQ.length:Int)==0))<|
 .rt [1,2,11] 1 (false)
noncomputable def acE(p_p:aS)(r0:Bool):Mo (Bool):=
 .aC 4009 (r0) [1,2,16] 1 (WU p_p.fArg)
noncomputable def Jh(p_p:aS)(r0:Bool):Mo (Bool):=
 .iG 4014 (r0) (.nu p_p.fArgs aj.lf<|
 .rt [1,2,22] 1 ((p_p.fArgs.length:Int)==0))<|
 .rt [1,2,22] 1 (false)
noncomputable def Ji(p_p:aS)(r0:Bool):Mo (Bool):=
 .aV 4020 (r0) [1,2,27] 1 (p_p.fN==0)
noncomputable def Jj(p_p:aS)(r0:Bool):Mo (Bool):=
 .aV 4025 (r0) [1,2,32] 1 (p_p.fM==0)
noncomputable def Jk(p_p:aS)(r0:Bool):Mo (Bool):=
 .aV 4030 (r0) [1,2,38] 1 (p_p.dK.aB==0)
noncomputable def Jl(p_p:aS)(r0:Bool):Mo (Bool):=
 .iG 4036 (r0) (.nu p_p.dK.fA dB.lf<|
 .rt [1,2,45] 1 ((p_p.dK.fA.length:Int)==0))<|
 .rt [1,2,45] 1 (false)
noncomputable def Jm(p_p:aS)(r0:Bool):Mo (Bool):=
 .aV 4043 (r0) [1,2,51] 1 (p_p.dK.fR==0)
noncomputable def YU(p_p:aS)(r0:Bool):Mo (Bool):=
 .aC 4049 (r0) [1,2,56] 1 (agK p_p.fExpr)
noncomputable def Jo(p_p:aS)(r0:Bool):Mo (Bool):=
 .iG 4054 (r0) (.nu p_p.dF aS.lf<|
 .ret ⟨[.kill 0],[2,62],[],1⟩ ((p_p.dF.length:Int)==0))<|
 .ret ⟨[.kill 0],[2,62],[],1⟩ (false)
noncomputable def ah5(p_p:aS):Mo (Bool):=
 .sf Tryz.f176 0 [1,0] 0 9 1 [(1,.ptr 0 0),(2,.b_ false)] [dY p_p] 11 (Qb p_p) fun r0=>
 .sb Tryz.f176 0 [1,0] 9 5 1 [(1,.ptr 0 0),(2,.b_ false)] [dY p_p] 11 16 r0 (acE p_p r0) fun r1=>
 .sb Tryz.f176 0 [1,0] 14 6 1 [(1,.ptr 0 0),(2,.b_ false)] [dY p_p] 16 22 r1 (Jh p_p r1) fun r2=>
 .sb Tryz.f176 0 [1,0] 20 5 1 [(1,.ptr 0 0),(2,.b_ false)] [dY p_p] 22 27 r2 (Ji p_p r2) fun r3=>
 .sb Tryz.f176 0 [1,0] 25 5 1 [(1,.ptr 0 0),(2,.b_ false)] [dY p_p] 27 32 r3 (Jj p_p r3) fun r4=>
 .sb Tryz.f176 0 [1,0] 30 6 1 [(1,.ptr 0 0),(2,.b_ false)] [dY p_p] 32 38 r4 (Jk p_p r4) fun r5=>
 .sb Tryz.f176 0 [1,0] 36 7 1 [(1,.ptr 0 0),(2,.b_ false)] [dY p_p] 38 45 r5 (Jl p_p r5) fun r6=>
 .sb Tryz.f176 0 [1,0] 43 6 1 [(1,.ptr 0 0),(2,.b_ false)] [dY p_p] 45 51 r6 (Jm p_p r6) fun r7=>
 .sb Tryz.f176 0 [1,0] 49 5 1 [(1,.ptr 0 0),(2,.b_ false)] [dY p_p] 51 56 r7 (YU p_p r7) fun r8=>
 .sk Tryz.f176 0 [1,0] 54 6 1 (fun r_=>⟨[(2,.b_ false),(62,.b_ r_)],[.dead]⟩) ⟨[(1,.ptr 0 0),(2,.b_ false),(56,.b_ r8)],[dY p_p]⟩ (Jo p_p r8) fun r9=>
 .sk Tryz.f176 0 [1,0] 60 1 1 (fun r_=>⟨[(2,.b_ r9)],[.dead]⟩) ⟨[(2,.b_ false),(62,.b_ r9)],[.dead]⟩ (gu r9) fun r10=>
 .ret (bF 1) (r9)
noncomputable def Q18(p_p:aS):Option (Bool):=Mo.den (ah5 p_p)
theorem ajD(p_p:aS):FV (Q18 p_p) 176 [.dat (aS.lf1 p_p)] .b_:=dI Tryz.func176
noncomputable def Qc(p_x:aW):Mo (Bool):=
 .oV 8003 (decide ((p_x.aB:Int)<1)) [1,16] 2 (decide ((3:Int)<p_x.aB))
noncomputable def Qd(p_x:aW):Mo (Bool):=
 .nu p_x.iD bU.lf<|
 .iG 18004 ((p_x.iD.length:Int)==0) (.rt [1,48] 2 (true))<|
 .iG 18008 (p_x.aB != 1) (.nu p_x.iD bU.lf<|
 .iG 18013 (decide ((1:Int)<(p_x.iD.length:Int))) (.rt [1,48] 2 (true))<|
 .gx bU.aY p_x.iD 0 fun x0 _=>
 .oV 18020 (x0.oP) [1,48] 2 (p_x.iJ))<|
 .rt [1,48] 2 (false)
noncomputable def ah6(p_x:aW):Mo (Int):=
 .say [.at_ 4 3,.Tj 1 ([p_x.fName].map lfS)] (ok1 (by simp[lfS]:[p_x.fName].map lfS=[(lfS p_x.fName)]))<|
 .cl (ES [p_x.fName]) fun r0 _=>
 .iB (!r0) (.ret (bF 1) (9))<|
 .jk Tryz.f112 0 [1,1,0,0] 13 (fun r_=>⟨[(1,.ptr 0 0),(16,.b_ r_)],[anK p_x,.dead]⟩) ⟨[(1,.ptr 0 0)],[anK p_x,.dead]⟩ (Qc p_x) fun r1=>
 .iB (r1) (.ret (bF 1) (8))<|
 .cl (ags p_x.iD) fun r2 _=>
 .iB (r2 != 0) (.ret (bF 1) (r2))<|
 .jk Tryz.f112 0 [1,1,1,1,0,0] 23 (fun r_=>⟨[(1,.ptr 0 0),(48,.b_ r_)],[anK p_x,.dead]⟩) ⟨[(1,.ptr 0 0)],[anK p_x,.dead]⟩ (Qd p_x) fun r3=>
 .iB (r3) (.ret (bF 1) (11))<|
 .iB (p_x.nP) (.cl (agJ p_x.jE) fun r4 _=>
 .ret (bF 1) (r4))<|
 .cl (ajD p_x.jE) fun r5 _=>
 .iB (!r5) (.ret (bF 1) (4))<|
 .ret (bF 1) (0)
noncomputable def Q81(p_x:aW):Option (Int):=Mo.den (ah6 p_x)
theorem UC(p_x:aW):FV (Q81 p_x) 112 [.dat (aW.lf1 p_x)] .i_:=dI Tryz.func112
noncomputable def acF(p_x:aW)(p_b0:ByteArray):Mo (Bool):=
 .ret ⟨[.kill 1],[0],[],1⟩ (decide ((p_x.fName:ByteArray)=(p_b0:ByteArray)))
noncomputable def ajE(p_x:aW)(p_b0:ByteArray):Option (Bool):=Mo.den (acF p_x p_b0)
theorem agL(p_x:aW)(p_b0:ByteArray):FH (ajE p_x p_b0) 210 [.dat (aW.lf1 p_x),.ptr 0 0] [.box 9 (.dat [(.str p_b0)])] .b_ (fun _=>[.box 9 (.dat [(.str p_b0)])]):=jA Tryz.func210
noncomputable def qV(p_b0:ByteArray)(p_s:List aW):(Int)→Mo ((Int)⊕(Int)⊕Unit):=fun(v0)=>
 .iB (decide ((v0:Int)<(p_s.length:Int))) (.gx aW.aY p_s v0 fun x0 _=>
 .cH [0] (agL x0 p_b0) fun r0 _=>
 .iB (r0) (.rt [4] 1 (.inr (.inl (v0))))<|
 .rt [0,1,7,8] 1 (.inl (IntKind.wrap .i64 (v0+1))))<|
 .rt [] 1 (.inr (.inr (())))
noncomputable def acG(p_b0:ByteArray)(p_s:List aW)(v0:Int):Option ((Int)⊕Unit):=dA (fun v_=>(qV p_b0 p_s v_).den) FU (v0)
noncomputable def WV(p_s:List aW)(p_b0:ByteArray):Mo (Int):=
 .nu p_s aW.lf<|
 .l2m [] Tryz.f209 1 [1,0,1,0] 0 (fun(v0)=>⟨[(0,.lf (.rows 31 (p_s.map aW.lf))),(1,.clo 210 [.ptr 0 0]),(7,.i_ (p_s.length:Int)),(8,.i_ v0)],[.box 9 (.dat [(.str p_b0)])]⟩) .ret (fun o_=>⟨[(4,.i_ o_)],[.box 9 (.dat [(.str p_b0)])]⟩) (.exit 0) (fun _=>⟨[],[.box 9 (.dat [(.str p_b0)])]⟩) (acG p_b0 p_s 0) (qV p_b0 p_s) (0) (fun o0=>
 .rt [0] 1 (o0)) fun o1=>
 .rt [0] 1 ((-1))
noncomputable def Q25(p_s:List aW)(p_b0:ByteArray):Option (Int):=Mo.den (WV p_s p_b0)
theorem ajF(p_s:List aW)(p_b0:ByteArray):FH (Q25 p_s p_b0) 209 [.lf (.rows 31 (p_s.map aW.lf)),.clo 210 [.ptr 0 0]] [.box 9 (.dat [(.str p_b0)])] .i_ (fun _=>[.box 9 (.dat [(.str p_b0)])]):=jA Tryz.func209
noncomputable def WW(p_l:List aW)(p_name:ByteArray):Mo (Int):=
 .cH [0] (ajF p_l p_name) fun r0 _=>
 .ret (bF 1) (r0)
noncomputable def Q84(p_l:List aW)(p_name:ByteArray):Option (Int):=Mo.den (WW p_l p_name)
theorem UD(p_l:List aW)(p_name:ByteArray):FV (Q84 p_l p_name) 154 [.lf (.rows 31 (p_l.map aW.lf)),.lf (.str p_name)] .i_:=dI Tryz.func154
abbrev UE(m:aj→Option (aj)):Prop:=∀p_v,FV (m p_v) 194 [.dat (aj.lf1 p_v)] (fun r=>.dat (aj.lf1 r))
abbrev UF(m:(List aj)→Option (List aj)):Prop:=∀p_l,FV (m p_l) 195 [.lf (.rows 5 (p_l.map aj.lf))] (fun r=>.lf (.rows 5 (r.map aj.lf)))
structure RB8 where
 m1:(p_v:aj)→Option (aj)
 ok1:UE m1
 m2:(p_l:List aj)→Option (List aj)
 ok2:UF m2
noncomputable def EW(R_:RB8)(p_v:aj)(r0:List aj):(Int×(List aF))→Mo ((Int×(List aF))⊕((List aF))):=fun(v0,l0)=>
 .iB (decide ((v0:Int)<(p_v.bC.length:Int))) (.gx aF.aY p_v.bC v0 fun x0 _=>
 .ask (R_.m1 x0.fValue) fun r1 h0=>
 .say [.eG (.q 0 (.q 2 (.q 3 (.q 4 (.q 5 (.alt 1 (.l 6 (.q 7 (.l 8 (.l 9 (.q 10 (.l 11 .fin)))))) (.l 6 (.q 7 (.alt 1 (.l 8 (.l 9 (.q 10 (.l 11 .fin)))) (.l 8 (.l 1 (.l 9 (.q 10 (.l 11 .fin)))))))))))))) (some 11) [3,5,6] [.both [.at_ 12 1,.resv 2,.res (.dat (aj.lf1 r1)),.slot 5,.rows ((l0++[aF.mk x0.fName r1]).map aF.lf),.slot 6] [.at_ 12 6,.resv 2,.res (.dat (aj.lf1 r1)),.both [.slot 5,.rows ((l0++[aF.mk x0.fName r1]).map aF.lf),.slot 6] [.slot 5,.rows ((l0++[aF.mk x0.fName r1]).map aF.lf),.slot 6]]] [2,3,17,18,19] 7 [(2,.ptr 1 0),(3,.ptr 2 0),(17,.lf (.rows 6 (p_v.bC.map aF.lf))),(18,.i_ (p_v.bC.length:Int)),(19,.i_ v0)] [.dead,.box 40 (.agg [.i_ 0,.i_ 0,.lf (.str ⟨#[]⟩),.bK 5,.bK 6]),.box 40 (.agg [.i_ p_v.aB,.i_ p_v.dG,.lf (.str p_v.fText),.lf (.rows 5 (r0.map aj.lf)),.own 6]),.dead,.box 138 (.agg ((aF.lf1 x0).map AV.lf)),.row 138 6 [(aF.lf1 (aF.mk x0.fName r1))],.row 138 6 ((l0++[aF.mk x0.fName r1]).map aF.lf)]] (okc (R_.ok1 _ _ h0) (ok1 (by simp[aF.aY]:(l0++[aF.mk x0.fName r1]).map aF.lf=(l0.map aF.lf)++[(aF.lf1 (aF.mk x0.fName r1))])))<|
 .grd ((l0.length+[aF.mk x0.fName r1].length)*96≤140737488355328) fun h1=>
 .say [] (okc (cp_ aF.lf h1) (okc (rf_ ⟨[(2,.ptr 1 0),(3,.ptr 2 0),(17,.lf (.rows 6 (p_v.bC.map aF.lf))),(18,.i_ (p_v.bC.length:Int)),(19,.i_ v0)],[.dead,.box 40 (.agg [.i_ 0,.i_ 0,.lf (.str ⟨#[]⟩),.bK 5,.bK 6]),.box 40 (.agg [.i_ p_v.aB,.i_ p_v.dG,.lf (.str p_v.fText),.lf (.rows 5 (r0.map aj.lf)),.own 6]),.dead,.box 138 (.agg ((aF.lf1 x0).map AV.lf)),.row 138 6 [(aF.lf1 (aF.mk x0.fName r1))],.row 138 6 ((l0++[aF.mk x0.fName r1]).map aF.lf)]⟩) (okc (R_.ok1 _ _ h0) (okc (by simp[aF.aY]:(l0++[aF.mk x0.fName r1]).map aF.lf=(l0.map aF.lf)++[(aF.lf1 (aF.mk x0.fName r1))]) (okc (cp_ aF.lf h1) (okc (rf_ ⟨[(2,.ptr 1 0),(3,.ptr 2 0),(17,.lf (.rows 6 (p_v.bC.map aF.lf))),(18,.i_ (p_v.bC.length:Int)),(19,.i_ v0)],[.dead,.box 40 (.agg [.i_ 0,.i_ 0,.lf (.str ⟨#[]⟩),.bK 5,.bK 6]),.box 40 (.agg [.i_ p_v.aB,.i_ p_v.dG,.lf (.str p_v.fText),.lf (.rows 5 (r0.map aj.lf)),.own 6]),.dead,.box 138 (.agg ((aF.lf1 x0).map AV.lf)),.row 138 6 [(aF.lf1 (aF.mk x0.fName r1))],.row 138 6 ((l0++[aF.mk x0.fName r1]).map aF.lf)]⟩) (okc (by simp[aF.aY]:(l0++[aF.mk x0.fName r1]).map aF.lf=(l0.map aF.lf)++[(aF.lf1 (aF.mk x0.fName r1))]) (okc (cp_ aF.lf h1) (ok1 (rf_ ⟨[(2,.ptr 1 0),(3,.ptr 2 0),(17,.lf (.rows 6 (p_v.bC.map aF.lf))),(18,.i_ (p_v.bC.length:Int)),(19,.i_ v0)],[.dead,.box 40 (.agg [.i_ 0,.i_ 0,.lf (.str ⟨#[]⟩),.bK 5,.bK 6]),.box 40 (.agg [.i_ p_v.aB,.i_ p_v.dG,.lf (.str p_v.fText),.lf (.rows 5 (r0.map aj.lf)),.own 6]),.dead,.box 138 (.agg ((aF.lf1 x0).map AV.lf)),.row 138 6 [(aF.lf1 (aF.mk x0.fName r1))],.row 138 6 ((l0++[aF.mk x0.fName r1]).map aF.lf)]⟩))))))))))<|
 .ret ⟨[],[2,3,17,18,19],[(6,3)],4⟩ (.inl (IntKind.wrap .i64 (v0+1),l0++[aF.mk x0.fName r1])))<|
 .rt [2,3] 4 (.inr (l0))
noncomputable def acH(R_:RB8)(p_v:aj)(r0:List aj)(v0:Int)(l0:List aF):Option (((List aF))):=dA (fun v_=>(EW R_ p_v r0 v_).den) FU (v0,l0)
noncomputable def WX(R_:RB8)(p_v:aj):Mo (aj):=
 .ask (R_.m2 p_v.aX) fun r0 h0=>
 .say [.eG (.q 0 (.q 1 (.q 2 (.q 3 (.q 4 (.q 5 (.q 6 (.q 7 (.alt 8 (.q 9 (.l 10 (.l 11 .fin))) (.l 10 (.l 8 (.q 9 (.l 11 .fin))))))))))))) (some 11) [2] [.both [.at_ 4 8,.resv 1,.res (.lf (.rows 5 (r0.map aj.lf))),.slot 2] [.at_ 4 10,.resv 1,.slot 2,.res (.lf (.rows 5 (r0.map aj.lf)))]] [1,2,3] 3 [(1,.ptr 0 0),(2,.ptr 1 0),(3,.ptr 2 0)] [bI p_v,.box 40 (.agg [.i_ 0,.i_ 0,.lf (.str ⟨#[]⟩),.bK 5,.bK 6]),.box 40 (.agg [.i_ p_v.aB,.i_ p_v.dG,.lf (.str p_v.fText),.lf (.rows 5 (r0.map aj.lf)),.bK 6])],.num p_v.bC.length] (okc (R_.ok2 _ _ h0) (okc (rf_ ⟨[(1,.ptr 0 0),(2,.ptr 1 0),(3,.ptr 2 0)],[bI p_v,.box 40 (.agg [.i_ 0,.i_ 0,.lf (.str ⟨#[]⟩),.bK 5,.bK 6]),.box 40 (.agg [.i_ p_v.aB,.i_ p_v.dG,.lf (.str p_v.fText),.lf (.rows 5 (r0.map aj.lf)),.bK 6])]⟩) (okc (R_.ok2 _ _ h0) (okc (rf_ ⟨[(1,.ptr 0 0),(2,.ptr 1 0),(3,.ptr 2 0)],[bI p_v,.box 40 (.agg [.i_ 0,.i_ 0,.lf (.str ⟨#[]⟩),.bK 5,.bK 6]),.box 40 (.agg [.i_ p_v.aB,.i_ p_v.dG,.lf (.str p_v.fText),.lf (.rows 5 (r0.map aj.lf)),.bK 6])]⟩) (okc (ln_ p_v.bC aF.lf) (ok1 (by simp[aF.aY]:(([]:List aF).map aF.lf)=[])))))))<|
 .l1m [.kill 0,.XW 2 4 138,.lQ 3 (([]:List aF).map aF.lf)] Tryz.f194 0 [1,1,0,1,0] 0 (.exit 0) (fun(v0,l0)=>⟨[(2,.ptr 1 0),(3,.ptr 2 0),(17,.lf (.rows 6 (p_v.bC.map aF.lf))),(18,.i_ (p_v.bC.length:Int)),(19,.i_ v0)],[.dead,.box 40 (.agg [.i_ 0,.i_ 0,.lf (.str ⟨#[]⟩),.bK 5,.bK 6]),.box 40 (.agg [.i_ p_v.aB,.i_ p_v.dG,.lf (.str p_v.fText),.lf (.rows 5 (r0.map aj.lf)),.own 3]),.row 138 6 (l0.map aF.lf)]⟩) (fun r_=>⟨[(2,.ptr 1 0),(3,.ptr 2 0)],[.dead,.box 40 (.agg [.i_ 0,.i_ 0,.lf (.str ⟨#[]⟩),.bK 5,.bK 6]),.box 40 (.agg [.i_ p_v.aB,.i_ p_v.dG,.lf (.str p_v.fText),.lf (.rows 5 (r0.map aj.lf)),.own 3]),.row 138 6 (r_.map aF.lf)]⟩) (acH R_ p_v r0 0 ([]:List aF)) (EW R_ p_v r0) (0,([]:List aF)) fun r1=>
 .say [.at_ 0 0,.frz 3] ok0<|
 .ret (bF 1) (aj.mk p_v.aB p_v.dG p_v.fText r0 r1)
theorem agM(R_:RB8):UE fun p_v=>Mo.den (WX R_ p_v):=fun _=>dI Tryz.func194
noncomputable def EX(R_:RB8)(p_l:List aj):(Int×(List aj))→Mo ((Int×(List aj))⊕((List aj))):=fun(v0,l0)=>
 .iB (decide ((v0:Int)<(p_l.length:Int))) (.gx aj.aY p_l v0 fun x0 _=>
 .ask (R_.m1 x0) fun r0 h0=>
 .say [.res (.dat (aj.lf1 r0)),.rows ((l0++[r0]).map aj.lf)] (okc (R_.ok1 _ _ h0) (ok1 (ap_ aj.aY l0 r0)))<|
 .grd ((l0.length+[r0].length)*80≤140737488355328) fun h1=>
 .say [] (ok1 (cp_ aj.lf h1))<|
 .ret ⟨[],[3,6,7,8],[(3,0)],1⟩ (.inl (IntKind.wrap .i64 (v0+1),l0++[r0])))<|
 .rt [3] 1 (.inr (l0))
noncomputable def acI(R_:RB8)(p_l:List aj)(v0:Int)(l0:List aj):Option (((List aj))):=dA (fun v_=>(EX R_ p_l v_).den) FU (v0,l0)
noncomputable def WY(R_:RB8)(p_l:List aj):Mo (List aj):=
 .say [.num p_l.length] (okc (ln_ p_l aj.lf) (ok1 (by simp[aj.aY]:(([]:List aj).map aj.lf)=[])))<|
 .l1m [.yU 3 40 5,.lQ 0 (([]:List aj).map aj.lf)] Tryz.f195 0 [1,1,0,1,0] 0 (.exit 0) (fun(v0,l0)=>⟨[(3,.own 0),(6,.lf (.rows 5 (p_l.map aj.lf))),(7,.i_ (p_l.length:Int)),(8,.i_ v0)],[.row 40 5 (l0.map aj.lf)]⟩) (fun r_=>⟨[(3,.own 0)],[.row 40 5 (r_.map aj.lf)]⟩) (acI R_ p_l 0 ([]:List aj)) (EX R_ p_l) (0,([]:List aj)) fun r0=>
 .say [.at_ 0 0,.frz 0] ok0<|
 .ret (bF 1) (r0)
theorem agN(R_:RB8):UF fun p_l=>Mo.den (WY R_ p_l):=fun _=>dI Tryz.func195
noncomputable def oz:Nat→RB8
 |0=>{ m1:=fun p_v=>none,ok1:=fun _ _ h=>(by cases h),m2:=fun p_l=>none,ok2:=fun _ _ h=>(by cases h) }
 |n_+1=>{ m1:=fun p_v=>Mo.den (WX (oz n_) p_v),ok1:=agM (oz n_),m2:=fun p_l=>Mo.den (WY (oz n_) p_l),ok2:=agN (oz n_) }
noncomputable def Q38(p_v:aj):Option (aj):=(oz FU).m1 p_v
theorem MO:UE Q38:=(oz FU).ok1
noncomputable def Q46(p_l:List aj):Option (List aj):=(oz FU).m2 p_l
theorem acJ:UF Q46:=(oz FU).ok2
abbrev UG(m:bf→Option (bf)):Prop:=∀p_x,FV (m p_x) 238 [.dat (bf.lf1 p_x)] (fun r=>.dat (bf.lf1 r))
structure RB9 where
 m1:(p_x:bf)→Option (bf)
 ok1:UG m1
noncomputable def EY(R_:RB9)(p_x:bf)(r0:List ByteArray)(r1:List ByteArray)(r2:aj):(Int×(List bf))→Mo ((Int×(List bf))⊕((List bf))):=fun(v0,l0)=>
 .iB (decide ((v0:Int)<(p_x.dF.length:Int))) (.gx bf.aY p_x.dF v0 fun x0 _=>
 .ask (R_.m1 x0) fun r3 h0=>
 .say [.res (.dat (bf.lf1 r3)),.rows ((l0++[r3]).map bf.lf)] (okc (R_.ok1 _ _ h0) (ok1 (ap_ bf.aY l0 r3)))<|
 .grd ((l0.length+[r3].length)*184≤140737488355328) fun h1=>
 .say [] (ok1 (cp_ bf.lf h1))<|
 .ret ⟨[],[1,2,3,19,20,21],[(5,2)],3⟩ (.inl (IntKind.wrap .i64 (v0+1),l0++[r3])))<|
 .rt [1,2,3] 3 (.inr (l0))
noncomputable def acK(R_:RB9)(p_x:bf)(r0:List ByteArray)(r1:List ByteArray)(r2:aj)(v0:Int)(l0:List bf):Option (((List bf))):=dA (fun v_=>(EY R_ p_x r0 r1 r2 v_).den) FU (v0,l0)
noncomputable def WZ(R_:RB9)(p_x:bf):Mo (bf):=
 .cl (EI p_x.dQ) fun r0 _=>
 .cl (EI p_x.iV) fun r1 _=>
 .ask (Q38 p_x.fArg) fun r2 h0=>
 .say [.res (.dat (aj.lf1 r2)),.num p_x.dF.length] (okc (MO _ _ h0) (okc (ln_ p_x.dF bf.lf) (ok1 (by simp[bf.aY]:(([]:List bf).map bf.lf)=[]))))<|
 .l1m [.yU 3 55 11,.lQ 2 (([]:List bf).map bf.lf)] Tryz.f238 0 [1,1,1,1,1,0,1,0] 0 (.exit 0) (fun(v0,l0)=>⟨[(1,.ptr 0 0),(2,.ptr 1 0),(3,.own 2),(19,.lf (.rows 11 (p_x.dF.map bf.lf))),(20,.i_ (p_x.dF.length:Int)),(21,.i_ v0)],[.box 55 (.dat (bf.lf1 (bf.sArg (bf.LH (bf.ou p_x r0) r1) r2))),.box 55 (Z55),.row 55 11 (l0.map bf.lf)]⟩) (fun r_=>⟨[(1,.ptr 0 0),(2,.ptr 1 0),(3,.own 2)],[.box 55 (.dat (bf.lf1 (bf.sArg (bf.LH (bf.ou p_x r0) r1) r2))),.box 55 (Z55),.row 55 11 (r_.map bf.lf)]⟩) (acK R_ p_x r0 r1 r2 0 ([]:List bf)) (EY R_ p_x r0 r1 r2) (0,([]:List bf)) fun r3=>
 .say [.at_ 0 0,.frz 2] ok0<|
 .ret (bF 1) (bf.ahN (bf.sArg (bf.sArg (bf.LH (bf.ou p_x r0) r1) r2) ((bf.sArg (bf.LH (bf.ou p_x r0) r1) r2).fArg)) r3)
theorem agO(R_:RB9):UG fun p_x=>Mo.den (WZ R_ p_x):=fun _=>dI Tryz.func238
noncomputable def Df:Nat→RB9
 |0=>{ m1:=fun p_x=>none,ok1:=fun _ _ h=>(by cases h) }
 |n_+1=>{ m1:=fun p_x=>Mo.den (WZ (Df n_) p_x),ok1:=agO (Df n_) }
noncomputable def Q56(p_x:bf):Option (bf):=(Df FU).m1 p_x
theorem ajG:UG Q56:=(Df FU).ok1
abbrev UH(m:aS→Option (aS)):Prop:=∀p_p,FV (m p_p) 193 [.dat (aS.lf1 p_p)] (fun r=>.dat (aS.lf1 r))
structure RB7 where
 m1:(p_p:aS)→Option (aS)
 ok1:UH m1
noncomputable def EZ(R_:RB7)(p_p:aS)(r0:List ByteArray)(r1:aj)(r2:List aj)(r3:List dB)(r4:bf):(Int×(List aS))→Mo ((Int×(List aS))⊕((List aS))):=fun(v0,l0)=>
 .iB (decide ((v0:Int)<(p_p.dF.length:Int))) (.gx aS.aY p_p.dF v0 fun x0 _=>
 .ask (R_.m1 x0) fun r5 h0=>
 .say [.res (.dat (aS.lf1 r5)),.rows ((l0++[r5]).map aS.lf)] (okc (R_.ok1 _ _ h0) (ok1 (ap_ aS.aY l0 r5)))<|
 .grd ((l0.length+[r5].length)*400≤140737488355328) fun h1=>
 .say [] (ok1 (cp_ aS.lf h1))<|
 .ret ⟨[],[1,2,3,29,30,31],[(5,2)],3⟩ (.inl (IntKind.wrap .i64 (v0+1),l0++[r5])))<|
 .rt [1,2,3] 3 (.inr (l0))
noncomputable def acL(R_:RB7)(p_p:aS)(r0:List ByteArray)(r1:aj)(r2:List aj)(r3:List dB)(r4:bf)(v0:Int)(l0:List aS):Option (((List aS))):=dA (fun v_=>(EZ R_ p_p r0 r1 r2 r3 r4 v_).den) FU (v0,l0)
noncomputable def W9(R_:RB7)(p_p:aS):Mo (aS):=
 .cl (EI p_p.dQ) fun r0 _=>
 .cl (MO p_p.fArg) fun r1 _=>
 .cl (acJ p_p.fArgs) fun r2 _=>
 .cl (agb p_p.dK.fA) fun r3 _=>
 .ask (Q56 p_p.fExpr) fun r4 h0=>
 .say [.res (.dat (bf.lf1 r4)),.num p_p.dF.length] (okc (ajG _ _ h0) (okc (ln_ p_p.dF aS.lf) (ok1 (by simp[aS.aY]:(([]:List aS).map aS.lf)=[]))))<|
 .l1m [.yU 3 58 25,.lQ 2 (([]:List aS).map aS.lf)] Tryz.f193 0 [1,1,1,1,1,1,1,0,1,0] 0 (.exit 0) (fun(v0,l0)=>⟨[(1,.ptr 0 0),(2,.ptr 1 0),(3,.own 2),(29,.lf (.rows 25 (p_p.dF.map aS.lf))),(30,.i_ (p_p.dF.length:Int)),(31,.i_ v0)],[.box 58 (.dat (aS.lf1 (aS.uN (aS.oU (aS.uM (aS.sArg (aS.ou p_p r0) r1) r2) (dS.mk p_p.dK.aB r3 p_p.dK.fR)) r4))),.box 58 (Z58),.row 58 25 (l0.map aS.lf)]⟩) (fun r_=>⟨[(1,.ptr 0 0),(2,.ptr 1 0),(3,.own 2)],[.box 58 (.dat (aS.lf1 (aS.uN (aS.oU (aS.uM (aS.sArg (aS.ou p_p r0) r1) r2) (dS.mk p_p.dK.aB r3 p_p.dK.fR)) r4))),.box 58 (Z58),.row 58 25 (r_.map aS.lf)]⟩) (acL R_ p_p r0 r1 r2 r3 r4 0 ([]:List aS)) (EZ R_ p_p r0 r1 r2 r3 r4) (0,([]:List aS)) fun r5=>
 .say [.at_ 0 0,.frz 2] ok0<|
 .ret (bF 1) (aS.mk ((aS.uN (aS.oU (aS.uM (aS.sArg (aS.ou p_p r0) r1) r2) (dS.mk p_p.dK.aB r3 p_p.dK.fR)) r4).fOp) ((aS.uN (aS.oU (aS.uM (aS.sArg (aS.ou p_p r0) r1) r2) (dS.mk p_p.dK.aB r3 p_p.dK.fR)) r4).dQ) ((aS.uN (aS.oU (aS.uM (aS.sArg (aS.ou p_p r0) r1) r2) (dS.mk p_p.dK.aB r3 p_p.dK.fR)) r4).fArg) ((aS.uN (aS.oU (aS.uM (aS.sArg (aS.ou p_p r0) r1) r2) (dS.mk p_p.dK.aB r3 p_p.dK.fR)) r4).fArgs) ((aS.uN (aS.oU (aS.uM (aS.sArg (aS.ou p_p r0) r1) r2) (dS.mk p_p.dK.aB r3 p_p.dK.fR)) r4).fN) ((aS.uN (aS.oU (aS.uM (aS.sArg (aS.ou p_p r0) r1) r2) (dS.mk p_p.dK.aB r3 p_p.dK.fR)) r4).fM) ((aS.uN (aS.oU (aS.uM (aS.sArg (aS.ou p_p r0) r1) r2) (dS.mk p_p.dK.aB r3 p_p.dK.fR)) r4).dK) (bf.sArg ((aS.uN (aS.oU (aS.uM (aS.sArg (aS.ou p_p r0) r1) r2) (dS.mk p_p.dK.aB r3 p_p.dK.fR)) r4).fExpr) (((aS.uN (aS.oU (aS.uM (aS.sArg (aS.ou p_p r0) r1) r2) (dS.mk p_p.dK.aB r3 p_p.dK.fR)) r4).fExpr).fArg)) r5)
theorem agP(R_:RB7):UH fun p_p=>Mo.den (W9 R_ p_p):=fun _=>dI Tryz.func193
noncomputable def Dh:Nat→RB7
 |0=>{ m1:=fun p_p=>none,ok1:=fun _ _ h=>(by cases h) }
 |n_+1=>{ m1:=fun p_p=>Mo.den (W9 (Dh n_) p_p),ok1:=agP (Dh n_) }
noncomputable def Q57(p_p:aS):Option (aS):=(Dh FU).m1 p_p
theorem ajH:UH Q57:=(Dh FU).ok1
noncomputable def E5(p_x:aW):(Int×(List bU))→Mo ((Int×(List bU))⊕((List bU))):=fun(v0,l0)=>
 .iB (decide ((v0:Int)<(p_x.iD.length:Int))) (.gx bU.aY p_x.iD v0 fun x0 _=>
 .ask (Q78 x0.dQ) fun r0 h0=>
 .say [.eG (.q 0 (.q 1 (.q 2 (.q 4 (.q 5 (.l 3 (.q 6 (.l 7 (.l 8 (.q 9 .fin)))))))))) (some 8) [4] [.at_ 12 3,.resv 2,.res (.lf (.rows 1 (r0.map lfS))),.slot 4,.rows ((l0++[bU.mk r0 x0.oP]).map bU.lf),.slot 5] [1,2,3,7,8,9] 6 [(1,.ptr 0 0),(2,.ptr 1 0),(3,.own 5),(7,.lf (.rows 2 (p_x.iD.map bU.lf))),(8,.i_ (p_x.iD.length:Int)),(9,.i_ v0)] [anK p_x,.box 60 (Z60),.dead,.box 227 (.agg [.lf (.rows 1 (x0.dQ.map lfS)),.b_ x0.oP]),.row 227 2 [(bU.lf1 (bU.mk r0 x0.oP))],.row 227 2 ((l0++[bU.mk r0 x0.oP]).map bU.lf)]] (okc (EI _ _ h0) (ok1 (by simp[bU.aY]:(l0++[bU.mk r0 x0.oP]).map bU.lf=(l0.map bU.lf)++[(bU.lf1 (bU.mk r0 x0.oP))])))<|
 .grd ((l0.length+[bU.mk r0 x0.oP].length)*32≤140737488355328) fun h1=>
 .say [] (okc (cp_ bU.lf h1) (ok1 (rf_ ⟨[(1,.ptr 0 0),(2,.ptr 1 0),(3,.own 5),(7,.lf (.rows 2 (p_x.iD.map bU.lf))),(8,.i_ (p_x.iD.length:Int)),(9,.i_ v0)],[anK p_x,.box 60 (Z60),.dead,.box 227 (.agg [.lf (.rows 1 (x0.dQ.map lfS)),.b_ x0.oP]),.row 227 2 [(bU.lf1 (bU.mk r0 x0.oP))],.row 227 2 ((l0++[bU.mk r0 x0.oP]).map bU.lf)]⟩)))<|
 .ret ⟨[],[1,2,3,7,8,9],[(5,2)],3⟩ (.inl (IntKind.wrap .i64 (v0+1),l0++[bU.mk r0 x0.oP])))<|
 .rt [1,2,3] 3 (.inr (l0))
noncomputable def acM(p_x:aW)(v0:Int)(l0:List bU):Option (((List bU))):=dA (fun v_=>(E5 p_x v_).den) FU (v0,l0)
noncomputable def acN(p_x:aW):Mo (aW):=
 .say [.num p_x.iD.length] (okc (ln_ p_x.iD bU.lf) (ok1 (by simp[bU.aY]:(([]:List bU).map bU.lf)=[])))<|
 .l1m [.yU 3 227 2,.lQ 2 (([]:List bU).map bU.lf)] Tryz.f142 0 [1,1,0,1,0] 0 (.exit 0) (fun(v0,l0)=>⟨[(1,.ptr 0 0),(2,.ptr 1 0),(3,.own 2),(7,.lf (.rows 2 (p_x.iD.map bU.lf))),(8,.i_ (p_x.iD.length:Int)),(9,.i_ v0)],[anK p_x,.box 60 (Z60),.row 227 2 (l0.map bU.lf)]⟩) (fun r_=>⟨[(1,.ptr 0 0),(2,.ptr 1 0),(3,.own 2)],[anK p_x,.box 60 (Z60),.row 227 2 (r_.map bU.lf)]⟩) (acM p_x 0 ([]:List bU)) (E5 p_x) (0,([]:List bU)) fun r0=>
 .ask (Q57 p_x.jE) fun r1 h0=>
 .say [.res (.dat (aS.lf1 r1)),.at_ 0 0,.frz 2] (ok1 (ajH _ _ h0))<|
 .ret (bF 1) (aW.ai1 (aW.ald p_x r0) r1)
noncomputable def Q49(p_x:aW):Option (aW):=Mo.den (acN p_x)
theorem acO(p_x:aW):FV (Q49 p_x) 142 [.dat (aW.lf1 p_x)] (fun r=>.dat (aW.lf1 r)):=dI Tryz.func142
abbrev MP(m:aA→Option (aA)):Prop:=∀p_s,FV (m p_s) 143 [.dat (aA.lf1 p_s)] (fun r=>.dat (aA.lf1 r))
structure UJ where
 m1:(p_s:aA)→Option (aA)
 ok1:MP m1
noncomputable def E8(R_:UJ)(p_s:aA)(r0:aj)(r1:aj)(r2:List aj)(r3:List ByteArray):(Int×(List cu))→Mo ((Int×(List cu))⊕((List cu))):=fun(v0,l0)=>
 .iB (decide ((v0:Int)<(p_s.dW.length:Int))) (.gx cu.aY p_s.dW v0 fun x0 _=>
 .ask (R_.m1 x0.fV) fun r4 h0=>
 .say [.eG (.q 0 (.q 1 (.q 2 (.q 3 (.q 4 (.l 5 (.q 6 (.l 7 (.l 8 (.q 9 .fin)))))))))) (some 8) [4] [.at_ 20 5,.resv 2,.res (.dat (aA.lf1 r4)),.slot 4,.rows ((l0++[cu.mk x0.fName r4]).map cu.lf),.slot 5] [1,2,3,26,27,28] 6 [(1,.ptr 0 0),(2,.ptr 1 0),(3,.own 5),(26,.lf (.rows 22 (p_s.dW.map cu.lf))),(27,.i_ (p_s.dW.length:Int)),(28,.i_ v0)] [.box 46 (.dat (aA.lf1 (aA.dD (aA.gX (aA.kC (aA.jZ p_s r0) r1) r2) r3))),.box 46 (Z46),.dead,.box 206 (.agg ((cu.lf1 x0).map AV.lf)),.row 206 22 [(cu.lf1 (cu.mk x0.fName r4))],.row 206 22 ((l0++[cu.mk x0.fName r4]).map cu.lf)]] (okc (R_.ok1 _ _ h0) (ok1 (by simp[cu.aY]:(l0++[cu.mk x0.fName r4]).map cu.lf=(l0.map cu.lf)++[(cu.lf1 (cu.mk x0.fName r4))])))<|
 .grd ((l0.length+[cu.mk x0.fName r4].length)*328≤140737488355328) fun h1=>
 .say [] (okc (cp_ cu.lf h1) (ok1 (rf_ ⟨[(1,.ptr 0 0),(2,.ptr 1 0),(3,.own 5),(26,.lf (.rows 22 (p_s.dW.map cu.lf))),(27,.i_ (p_s.dW.length:Int)),(28,.i_ v0)],[.box 46 (.dat (aA.lf1 (aA.dD (aA.gX (aA.kC (aA.jZ p_s r0) r1) r2) r3))),.box 46 (Z46),.dead,.box 206 (.agg ((cu.lf1 x0).map AV.lf)),.row 206 22 [(cu.lf1 (cu.mk x0.fName r4))],.row 206 22 ((l0++[cu.mk x0.fName r4]).map cu.lf)]⟩)))<|
 .ret ⟨[],[1,2,3,26,27,28],[(5,2)],3⟩ (.inl (IntKind.wrap .i64 (v0+1),l0++[cu.mk x0.fName r4])))<|
 .rt [1,2,3] 3 (.inr (l0))
noncomputable def acP(R_:UJ)(p_s:aA)(r0:aj)(r1:aj)(r2:List aj)(r3:List ByteArray)(v0:Int)(l0:List cu):Option (((List cu))):=dA (fun v_=>(E8 R_ p_s r0 r1 r2 r3 v_).den) FU (v0,l0)
noncomputable def Fa(R_:UJ)(p_s:aA)(r0:aj)(r1:aj)(r2:List aj)(r3:List ByteArray)(r4:((List cu))):(Int×(List aA))→Mo ((Int×(List aA))⊕((List aA))):=fun(v0,l0)=>
 .iB (decide ((v0:Int)<(((aA.dD (aA.gX (aA.kC (aA.jZ p_s r0) r1) r2) r3).fB).length:Int))) (.gx aA.aY ((aA.dD (aA.gX (aA.kC (aA.jZ p_s r0) r1) r2) r3).fB) v0 fun x0 _=>
 .ask (R_.m1 x0) fun r5 h0=>
 .say [.res (.dat (aA.lf1 r5)),.rows ((l0++[r5]).map aA.lf)] (okc (R_.ok1 _ _ h0) (ok1 (ap_ aA.aY l0 r5)))<|
 .grd ((l0.length+[r5].length)*312≤140737488355328) fun h1=>
 .say [] (ok1 (cp_ aA.lf h1))<|
 .ret ⟨[],[1,2,6,45,46,47],[(6,3)],4⟩ (.inl (IntKind.wrap .i64 (v0+1),l0++[r5])))<|
 .rt [1,2,6] 4 (.inr (l0))
noncomputable def acQ(R_:UJ)(p_s:aA)(r0:aj)(r1:aj)(r2:List aj)(r3:List ByteArray)(r4:((List cu)))(v0:Int)(l0:List aA):Option (((List aA))):=dA (fun v_=>(Fa R_ p_s r0 r1 r2 r3 r4 v_).den) FU (v0,l0)
noncomputable def Xa(R_:UJ)(p_s:aA):Mo (aA):=
 .cl (MO p_s.lI) fun r0 _=>
 .cl (MO p_s.lJ) fun r1 _=>
 .cl (acJ p_s.jU) fun r2 _=>
 .ask (Q78 p_s.dJ) fun r3 h0=>
 .say [.res (.lf (.rows 1 (r3.map lfS))),.num p_s.dW.length] (okc (EI _ _ h0) (okc (ln_ p_s.dW cu.lf) (ok1 (by simp[cu.aY]:(([]:List cu).map cu.lf)=[]))))<|
 .l1m [.yU 3 206 22,.lQ 2 (([]:List cu).map cu.lf)] Tryz.f143 0 [1,1,1,1,1,1,0,1,0] 0 (.exit 0) (fun(v0,l0)=>⟨[(1,.ptr 0 0),(2,.ptr 1 0),(3,.own 2),(26,.lf (.rows 22 (p_s.dW.map cu.lf))),(27,.i_ (p_s.dW.length:Int)),(28,.i_ v0)],[.box 46 (.dat (aA.lf1 (aA.dD (aA.gX (aA.kC (aA.jZ p_s r0) r1) r2) r3))),.box 46 (Z46),.row 206 22 (l0.map cu.lf)]⟩) (fun r_=>⟨[(1,.ptr 0 0),(2,.ptr 1 0),(3,.own 2)],[.box 46 (.dat (aA.lf1 (aA.dD (aA.gX (aA.kC (aA.jZ p_s r0) r1) r2) r3))),.box 46 (Z46),.row 206 22 (r_.map cu.lf)]⟩) (acP R_ p_s r0 r1 r2 r3 0 ([]:List cu)) (E8 R_ p_s r0 r1 r2 r3) (0,([]:List cu)) fun r4=>
 .say [.num ((aA.dD (aA.gX (aA.kC (aA.jZ p_s r0) r1) r2) r3).fB).length] (okc (ln_ ((aA.dD (aA.gX (aA.kC (aA.jZ p_s r0) r1) r2) r3).fB) aA.lf) (ok1 (by simp[aA.aY]:(([]:List aA).map aA.lf)=[])))<|
 .l1m [.yU 6 46 21,.lQ 3 (([]:List aA).map aA.lf)] Tryz.f143 0 [1,1,1,1,1,1,1,1,1,0,1,0] 0 (.exit 2) (fun(v1,l1)=>⟨[(1,.ptr 0 0),(2,.ptr 1 0),(6,.own 3),(45,.lf (.rows 21 (((aA.dD (aA.gX (aA.kC (aA.jZ p_s r0) r1) r2) r3).fB).map aA.lf))),(46,.i_ (((aA.dD (aA.gX (aA.kC (aA.jZ p_s r0) r1) r2) r3).fB).length:Int)),(47,.i_ v1)],[.box 46 (Et (.agg ((aA.lf1 (aA.dD (aA.gX (aA.kC (aA.jZ p_s r0) r1) r2) r3)).map AV.lf)) [(2,.i_ (((aA.dD (aA.gX (aA.kC (aA.jZ p_s r0) r1) r2) r3).lI).aB)),(3,.i_ (((aA.dD (aA.gX (aA.kC (aA.jZ p_s r0) r1) r2) r3).lI).dG)),(4,.lf (.str (((aA.dD (aA.gX (aA.kC (aA.jZ p_s r0) r1) r2) r3).lI).fText))),(5,.lf (.rows 5 ((((aA.dD (aA.gX (aA.kC (aA.jZ p_s r0) r1) r2) r3).lI).aX).map aj.lf))),(6,.lf (.rows 6 ((((aA.dD (aA.gX (aA.kC (aA.jZ p_s r0) r1) r2) r3).lI).bC).map aF.lf))),(8,.i_ (((aA.dD (aA.gX (aA.kC (aA.jZ p_s r0) r1) r2) r3).lJ).aB)),(9,.i_ (((aA.dD (aA.gX (aA.kC (aA.jZ p_s r0) r1) r2) r3).lJ).dG)),(10,.lf (.str (((aA.dD (aA.gX (aA.kC (aA.jZ p_s r0) r1) r2) r3).lJ).fText))),(11,.lf (.rows 5 ((((aA.dD (aA.gX (aA.kC (aA.jZ p_s r0) r1) r2) r3).lJ).aX).map aj.lf))),(12,.lf (.rows 6 ((((aA.dD (aA.gX (aA.kC (aA.jZ p_s r0) r1) r2) r3).lJ).bC).map aF.lf))),(17,.own 2)]),.box 46 (Z46),.row 206 22 (r4.map cu.lf),.row 46 21 (l1.map aA.lf)]⟩) (fun r_=>⟨[(1,.ptr 0 0),(2,.ptr 1 0),(6,.own 3)],[.box 46 (Et (.agg ((aA.lf1 (aA.dD (aA.gX (aA.kC (aA.jZ p_s r0) r1) r2) r3)).map AV.lf)) [(2,.i_ (((aA.dD (aA.gX (aA.kC (aA.jZ p_s r0) r1) r2) r3).lI).aB)),(3,.i_ (((aA.dD (aA.gX (aA.kC (aA.jZ p_s r0) r1) r2) r3).lI).dG)),(4,.lf (.str (((aA.dD (aA.gX (aA.kC (aA.jZ p_s r0) r1) r2) r3).lI).fText))),(5,.lf (.rows 5 ((((aA.dD (aA.gX (aA.kC (aA.jZ p_s r0) r1) r2) r3).lI).aX).map aj.lf))),(6,.lf (.rows 6 ((((aA.dD (aA.gX (aA.kC (aA.jZ p_s r0) r1) r2) r3).lI).bC).map aF.lf))),(8,.i_ (((aA.dD (aA.gX (aA.kC (aA.jZ p_s r0) r1) r2) r3).lJ).aB)),(9,.i_ (((aA.dD (aA.gX (aA.kC (aA.jZ p_s r0) r1) r2) r3).lJ).dG)),(10,.lf (.str (((aA.dD (aA.gX (aA.kC (aA.jZ p_s r0) r1) r2) r3).lJ).fText))),(11,.lf (.rows 5 ((((aA.dD (aA.gX (aA.kC (aA.jZ p_s r0) r1) r2) r3).lJ).aX).map aj.lf))),(12,.lf (.rows 6 ((((aA.dD (aA.gX (aA.kC (aA.jZ p_s r0) r1) r2) r3).lJ).bC).map aF.lf))),(17,.own 2)]),.box 46 (Z46),.row 206 22 (r4.map cu.lf),.row 46 21 (r_.map aA.lf)]⟩) (acQ R_ p_s r0 r1 r2 r3 r4 0 ([]:List aA)) (Fa R_ p_s r0 r1 r2 r3 r4) (0,([]:List aA)) fun r5=>
 .say [.at_ 0 0,.frz 2,.frz 3] ok0<|
 .ret (bF 1) (aA.ai3 (aA.ai2 (aA.kC (aA.jZ (aA.dD (aA.gX (aA.kC (aA.jZ p_s r0) r1) r2) r3) ((aA.dD (aA.gX (aA.kC (aA.jZ p_s r0) r1) r2) r3).lI)) ((aA.dD (aA.gX (aA.kC (aA.jZ p_s r0) r1) r2) r3).lJ)) r4) r5)
theorem agQ(R_:UJ):MP fun p_s=>Mo.den (Xa R_ p_s):=fun _=>dI Tryz.func143
noncomputable def qF:Nat→UJ
 |0=>{ m1:=fun p_s=>none,ok1:=fun _ _ h=>(by cases h) }
 |n_+1=>{ m1:=fun p_s=>Mo.den (Xa (qF n_) p_s),ok1:=agQ (qF n_) }
noncomputable def Q29(p_s:aA):Option (aA):=(qF FU).m1 p_s
theorem ajI:MP Q29:=(qF FU).ok1
noncomputable def Fb(p_d:ak):(Int×(List aW))→Mo ((Int×(List aW))⊕((List aW))):=fun(v0,l0)=>
 .iB (decide ((v0:Int)<(p_d.bn.length:Int))) (.gx aW.aY p_d.bn v0 fun x0 _=>
 .ask (Q49 x0) fun r0 h0=>
 .say [.res (.dat (aW.lf1 r0)),.rows ((l0++[r0]).map aW.lf)] (okc (acO _ _ h0) (ok1 (ap_ aW.aY l0 r0)))<|
 .grd ((l0.length+[r0].length)*456≤140737488355328) fun h1=>
 .say [] (ok1 (cp_ aW.lf h1))<|
 .ret ⟨[],[1,2,3,7,8,9],[(5,2)],3⟩ (.inl (IntKind.wrap .i64 (v0+1),l0++[r0])))<|
 .rt [1,2,3] 3 (.inr (l0))
noncomputable def acR(p_d:ak)(v0:Int)(l0:List aW):Option (((List aW))):=dA (fun v_=>(Fb p_d v_).den) FU (v0,l0)
noncomputable def acS(p_d:ak):Mo (ak):=
 .say [.num p_d.bn.length] (okc (ln_ p_d.bn aW.lf) (ok1 (by simp[aW.aY]:(([]:List aW).map aW.lf)=[])))<|
 .l1m [.yU 3 60 31,.lQ 2 (([]:List aW).map aW.lf)] Tryz.f83 0 [1,1,0,1,0] 0 (.exit 0) (fun(v0,l0)=>⟨[(1,.ptr 0 0),(2,.ptr 1 0),(3,.own 2),(7,.lf (.rows 31 (p_d.bn.map aW.lf))),(8,.i_ (p_d.bn.length:Int)),(9,.i_ v0)],[lV p_d,.box 48 (Z48),.row 60 31 (l0.map aW.lf)]⟩) (fun r_=>⟨[(1,.ptr 0 0),(2,.ptr 1 0),(3,.own 2)],[lV p_d,.box 48 (Z48),.row 60 31 (r_.map aW.lf)]⟩) (acR p_d 0 ([]:List aW)) (Fb p_d) (0,([]:List aW)) fun r0=>
 .cl (ajI p_d.fV) fun r1 _=>
 .ret ⟨[.kill 0,.kill 1,.mvn 2],[0],[(3,0)],1⟩ (ak.mk p_d.fName r0 r1 p_d.yx p_d.oH)
noncomputable def Q31(p_d:ak):Option (ak):=Mo.den (acS p_d)
theorem MQ(p_d:ak):FH (Q31 p_d) 83 [.dat (ak.lf1 p_d)] [] (fun r=>Et (.agg ((ak.lf1 r).map AV.lf)) [(1,.own 0)]) (fun r=>[.row 60 31 (r.bn.map aW.lf)]):=jA Tryz.func83
end
end Go.Proofs.YtpdlghcgekojlaaGreatDoor
namespace Go.Proofs.YtpdlghcgekojlaaGreatDoor
open Go.RowKit
theorem Xb(o:Nat):∀(cs:List Value) (k:Nat) (z:Array Value),o+k+cs.length≤z.size→
 (List.foldl (fun(a:Array Value) (x:Value×Nat)=>a.setIfInBounds (o+x.2) x.1) z (cs.zipIdx k)).toList=z.toList.take (o+k)++cs++z.toList.drop (o+k+cs.length)
 |[],k,z,h=>by simp
 |c::r,k,z,h=>by
  rw[List.zipIdx_cons,List.foldl_cons,Xb o r (k+1) _ (by simp at h ⊢;omega)]
  simp only[Array.toList_setIfInBounds,List.length_cons] at h ⊢
  have hz:z.toList.length=z.size:=by simp
  have h1:(z.toList.set (o+k) c).take (o+(k+1))=z.toList.take (o+k)++[c]:=by
   rw[←Nat.add_assoc,List.take_succ_eq_append_getElem (by simp;omega),List.take_set_of_le (Nat.le_refl _)]
   simp
  have h2:(z.toList.set (o+k) c).drop (o+(k+1)+r.length)=z.toList.drop (o+k+(r.length+1)):=by
   rw[List.drop_set_of_lt (by omega),show o+(k+1)+r.length=o+k+(r.length+1) by omega]
  grind
theorem UK{P:Program}{op:Oper}{a:Act}(w:World)(t el:TypeId)(x:Operand)(ho:op.op=.buildSlice t 1 #[(0,x)])(c:List Value)(hx:a.eval x=.agg c.toArray)(n:Nat)(ii:TypeInfo)(z:Value)(hu:P.underlying t=some (.slice el))(hi:P.info? el=some ii)(hz:ii.zero=some z)(hs:ii.size=n)(hzc:z.cells.size=n)(hc:c.length=n)(hn:0<n)(hm:n≤16777216):
 (execOp a.eval op).run P w=.ok (.value (.slice (some ⟨w.heap.size,0,none⟩) 1 1)) (w.alloc (.cells c.toArray el)):=by
 have hz0:(zeroValue el).run P w=.ok z w:=by simp[zeroValue,typeInfo,hi,hz]
 have hsz:(P.info? el).map (·.size)=some n:=by rw[hi];simp[hs]
 have hZ:(Array.map (fun k=>z.cells[k%z.cells.size]!) (Array.range (1*n))).size=n:=by simp
 have hf:Instr.fill (fun i=>some (i*n,n)) (Array.map (fun k=>z.cells[k%z.cells.size]!) (Array.range (1*n))) [(0,.agg c.toArray)]=some c.toArray:=by
  generalize Array.map (fun k=>z.cells[k%z.cells.size]!) (Array.range (1*n))=Z at hZ
  unfold Instr.fill
  simp only[Nat.zero_mul,Nat.zero_add,Value.cells]
  refine(if_neg ?_).trans ?_
  ·grind
  unfold Instr.fill
  congr 1
  apply Array.toList_inj.1
  have:=Xb 0 c 0 Z (by omega)
  grind
 simp only[execOp,ho,Instr.buildSlice,Sem.run_bind,run_underlying hu,Result.andThen_ok,run_sizeOf' hsz]
 rw[if_neg (by omega),if_neg (by omega)]
 simp only[Sem.run_bind,hz0,Sem.run_pure,Result.andThen_ok]
 have hp:(#[(0,x)].map fun(y:Nat×Operand)=>(y.1,a.eval y.2)).toList=[(0,.agg c.toArray)]:=by simp[hx]
 rw[hp,hf]
 rfl
theorem Jp{P:Program}{op:Oper}{a:Act}{w:World}{K:Act→World→Prop}{Q:Exit→Act→World→Prop}(t el:TypeId)(x:Operand)(ho:op.op=.buildSlice t 1 #[(0,x)])(c:List Value)(hx:a.eval x=.agg c.toArray)(n:Nat)(ii:TypeInfo)(z:Value)(hu:P.underlying t=some (.slice el))(hi:P.info? el=some ii)(hz:ii.zero=some z)(hs:ii.size=n)(hzc:z.cells.size=n)(hc:c.length=n)(hn:0<n)(hm:n≤16777216)
 (h:K (a.put op.dst (.slice (some ⟨w.heap.size,0,none⟩) 1 1)) (w.alloc (.cells c.toArray el))):op.wp P a w K Q:=by
 unfold Oper.wp
 rw[UK w t el x ho c hx n ii z hu hi hz hs hzc hc hn hm]
 exact h
theorem Hz{P:Program}{ops:Array Oper}{rest:List Oper}{op:Oper}{a:Act}{w:World}{Q:Exit→Act→World→Prop}(hgd:op.guard=none)(t el:TypeId)(x:Operand)(ho:op.op=.buildSlice t 1 #[(0,x)])(c:List Value)(hx:a.eval x=.agg c.toArray)(n:Nat)(ii:TypeInfo)(z:Value)(hu:P.underlying t=some (.slice el))(hi:P.info? el=some ii)(hz:ii.zero=some z)(hs:ii.size=n)(hzc:z.cells.size=n)(hc:c.length=n)(hn:0<n)(hm:n≤16777216)
 (h:wpList P ops Q rest (a.put op.dst (.slice (some ⟨w.heap.size,0,none⟩) 1 1)) (w.alloc (.cells c.toArray el))):wpList P ops Q (op::rest) a w:=
 wpList_plain hgd fun _ hK=>Jp t el x ho c hx n ii z hu hi hz hs hzc hc hn hm (hK _ _ h)
theorem alU{I:Gh}{w:World}(hi:Inv I w){b o:Nat}{cs:List Value}(hI:∀q u,cs[q]?=some u→I b (o+q)=some u):w.rangeAt b o cs:=fun j v hj=>hi _ _ _ (hI j v hj)
theorem Jq(w:World)(z:Array Value)(ty:TypeId)(n:Nat)(hn:z.size=n):(w.alloc (.cells z ty)).there w.heap.size 0 n:=fun j hj=>by
 simp_all
theorem Ext.setCells{w:World}(b:Nat)(hb:w.heap.size≤b):∀(vs:List Value) (o:Nat) (w':World),Ext w w'→Ext w (w'.setCells b o vs)
 |[],_,_,h=>h
 |v::vs,o,w',h=>by
  unfold World.setCells
  exact Ext.setCells b hb vs (o+1) _ (h.setCell (p:=⟨b,o,none⟩) hb v)
theorem Acc.mono{I J:Gh}{w:World}{base:Nat}{e:TypeId}{n:Nat}{x:Value}{l:List (List Lf)}(h:Acc I w base e n x l)(hl:Le I J)(ha:∀g,x.ownBlock=some g→Av J g):Acc J w base e n x l:=by
 obtain⟨xs,h1,h2,h3,_⟩:=h
 exact⟨xs,h1,bV.mono hl _ _ h2,h3,ha⟩
theorem Acc.keep{I:Gh}{w w':World}{base:Nat}{e:TypeId}{n:Nat}{x:Value}{l:List (List Lf)}(h:Acc I w base e n x l)(hk:∀g,x.ownBlock=some g→w'.heap[g]?=w.heap[g]?):Acc I w' base e n x l:=by
 obtain⟨xs,h1,h2,h3,h4⟩:=h
 refine⟨xs,⟨h1.1,?_⟩,h2,h3,h4⟩
 rcases h1.2 with h|⟨g,cap,cur,rfl,hg,hb,hn⟩
 ·exact .inl h
 exact .inr ⟨g,cap,cur,rfl,hg,(hk g rfl).trans hb,hn⟩
theorem Acc.low{I:Gh}{w:World}{base base':Nat}{e:TypeId}{n:Nat}{x:Value}{l:List (List Lf)}(h:Acc I w base e n x l)(hb:base'≤base):Acc I w base' e n x l:=by
 obtain⟨xs,h1,h2,h3,h4⟩:=h
 refine⟨xs,⟨h1.1,?_⟩,h2,h3,h4⟩
 rcases h1.2 with h|⟨g,cap,cur,rfl,hg,hb',hn⟩
 ·exact .inl h
 exact .inr ⟨g,cap,cur,rfl,Nat.le_trans hb hg,hb',hn⟩
theorem Acc.own{I:Gh}{w:World}{base:Nat}{e:TypeId}{n:Nat}{x:Value}{l:List (List Lf)}(h:Acc I w base e n x l):∀g,x.ownBlock=some g→base≤g∧g<w.heap.size:=by
 obtain⟨xs,h1,_⟩:=h
 exact fun g hg=>h1.lt g hg
theorem Acc.ext{I:Gh}{w w':World}{base:Nat}{e:TypeId}{n:Nat}{x:Value}{l:List (List Lf)}(h:Acc I w base e n x l)(k:Ext w w'):Acc I w' base e n x l:=
 h.keep fun g hg=>k.below.block g (h.own g hg).2
def SpC(I:Gh)(r:ak)(c:List Value)(h:Value):Prop:=∃c0 ct,c=c0::h::ct∧LRp I (.str r.fName) c0∧bV I ((ak.lf1 r).drop 2) ct
theorem SpC.mono{I J:Gh}{r:ak}{c:List Value}{h:Value}(k:SpC I r c h)(hl:Le I J):SpC J r c h:=by
 obtain⟨c0,ct,e,k1,k2⟩:=k
 exact⟨c0,ct,e,LRp.mono hl _ _ k1,bV.mono hl _ _ k2⟩
theorem SpC.put{I J:Gh}{r:ak}{c:List Value}{h:Value}(k:SpC I r c h)(hl:Le I J){h':Value}{idx:List aW}(hh:LRp J (.rows 31 (idx.map aW.lf)) h'):bV J (ak.lf1 { r with bn:=idx }) (c.set 1 h'):=by
 obtain⟨c0,ct,rfl,k1,k2⟩:=k
 show bV J (.str r.fName::.rows 31 (idx.map aW.lf)::(ak.lf1 r).drop 2) (c0::h'::ct)
 exact bV.app [.str r.fName,.rows 31 (idx.map aW.lf)] _ [c0,h'] _ ⟨c0,[h'],rfl,LRp.mono hl _ _ k1,h',[],rfl,hh,rfl⟩ (bV.mono hl _ _ k2)
theorem SpC.data{I:Gh}{r:ak}{c:List Value}{h:Value}(k:SpC I r c h)(hh:LRp I (.rows 31 (r.bn.map aW.lf)) h):bV I (ak.lf1 r) c:=by
 have:=k.put (Le.refl I) hh
 obtain⟨c0,ct,rfl,k1,k2⟩:=k
 exact this
theorem SpC.len{I:Gh}{r:ak}{c:List Value}{h:Value}(k:SpC I r c h):c.length=25:=by
 obtain⟨c0,ct,rfl,k1,k2⟩:=k
 have:=bV.len _ _ k2
 simp only[List.length_cons,this]
 rfl
theorem VRs.lfs{e:Env}:∀{r:List Lf} {cs:List Value},VRs e (r.map AV.lf) cs→bV e.I r cs
 |[],cs,h=>by simp only[List.map_nil] at h;unfold VRs at h;exact h
 |x::r,cs,h=>by
  simp only[List.map_cons] at h
  obtain⟨c,q,rfl,k,hq⟩:=VRs.mP h
  exact⟨c,q,rfl,VR.lf.1 k,VRs.lfs hq⟩
theorem UL{e:Env}{r:ak}{v:Value}(h:VR e (Et (.agg ((ak.lf1 r).map AV.lf)) [(1,.own 0)]) v):∃c,v=.agg c.toArray∧SpC e.I r c (e.sv 0):=by
 have h:VR e (.agg (.lf (.str r.fName)::.own 0::((ak.lf1 r).drop 2).map AV.lf)) v:=h
 obtain⟨cs,rfl,hcs⟩:=VR.agg.1 h
 obtain⟨c0,q,rfl,k0,hq⟩:=VRs.mP hcs
 obtain⟨c1,ct,rfl,k1,hq2⟩:=VRs.mP hq
 unfold VR at k1
 obtain⟨_,rfl,_⟩:=k1
 exact⟨_,rfl,c0,ct,rfl,VR.lf.1 k0,VRs.lfs hq2⟩
theorem UM{I:Gh}{w:World}(hG:GI I)(hI:Inv I w){d r:ak}(h:Q31 d=some r){cs:List Value}(hcs:bV I (ak.lf1 d) cs):
 Calls Tryz.prog 83 #[.agg cs.toArray] w fun en w'=>∃I' c hx,en=.returned (.agg c.toArray)∧Gr I I' w w'∧SpC I' r c hx∧Acc I' w' w.heap.size 60 31 hx (r.bn.map aW.lf):=by
 have hno:∀g,¬blks (rZ I) [] g:=fun g ⟨b,s,hs,_⟩=>by simp at hs
 have hF:=(MQ d r h).2 (rZ I) (fun _=>[]) w [.agg cs.toArray] hG ⟨fun b s hs=>by simp at hs,fun b s hs=>by simp at hs,fun b hb=>hb.elim,fun b b' s s' g hs=>by simp at hs,fun b s g hs=>by simp at hs,hI⟩ (VRs.one (VR.dat.2 ⟨cs,rfl,hcs⟩))
 refine Calls.mono hF ?_
 rintro en w' ⟨e',C',v,rfl,hg,hM,hv⟩
 obtain⟨c,rfl,hc⟩:=UL hv
 have hO:=hg.only
 have hr:w'.ownsRow 0 60 31 (e'.sv 0) (r.bn.map aW.lf).length (C' 0):=hM.hw 0 _ rfl
 obtain⟨_,k1,k2,_⟩:=hM.hv 0 _ rfl
 refine⟨e'.I,c,e'.sv 0,rfl,⟨hg.le.I,fun b o u m1 m2=>(hg.fresh b o u m1 m2).resolve_right (hno b),hM.inv,⟨hO.os,hO.tape,hO.output,hO.size,fun i hi=>hO.block i hi (hno i)⟩⟩,hc,C' 0,⟨hr.1,?_⟩,k1,k2,fun g hgb=>hM.av 0 _ g rfl hgb⟩
 rcases hr.2 with h0|⟨g,cap,cur,e1,_,e2⟩
 ·exact .inl h0
 refine .inr ⟨g,cap,cur,e1,(hg.mine g ⟨0,_,rfl,?_⟩).resolve_right (hno g),e2⟩
 show(e'.sv 0).ownBlock=some g
 rw[e1];rfl
noncomputable def xZ:List ak→Option (List ak)
 |[]=>some []
 |s::r=>match Q31 s with
  |none=>none
  |some y=>match xZ r with
   |none=>none
   |some l=>some (y::l)
theorem zV:∀{l rs:List ak},xZ l=some rs→rs.length=l.length∧∀(j:Nat) (s:ak),l[j]?=some s→∃y,rs[j]?=some y∧Q31 s=some y
 |[],rs,h=>by injection h with h;subst h;exact⟨rfl,fun j s hs=>by simp at hs⟩
 |s::r,rs,h=>by
  unfold xZ at h
  split at h
  ·cases h
  rename_i y hy
  split at h
  ·cases h
  rename_i l hl
  injection h with h;subst h
  obtain⟨k1,k2⟩:=zV hl
  grind
def SpX(I:Gh)(w:World)(base i0:Nat)(hdr:Value)(rs:List ak):Prop:=∃css:List (List Value),css.length=rs.length∧w.ownsRow base 48 25 hdr rs.length css.flatten∧(∀g,hdr.ownBlock=some g→Av I g)∧
 ∀(k:Nat) (c:List Value) (r:ak),css[k]?=some c→rs[k]?=some r→c.length=25∧(∀u∈c,u.oneCell'=true)∧(k≠i0→bV I (ak.lf1 r) c)∧(k=i0→∃h,SpC I r c h∧Acc I w base 60 31 h (r.bn.map aW.lf)∧∀g,h.ownBlock=some g→hdr.ownBlock≠some g)
theorem SpX.nil(I:Gh)(w:World)(base i0:Nat):SpX I w base i0 (.slice none 0 0) []:=⟨[],rfl,World.ownsRow_nil w base 48 25,(fun g h=>by cases h),(fun k c r h=>by simp at h)⟩
theorem Qe{w w':World}{base:Nat}{e:TypeId}{n len:Nat}{v:Value}{xs:List Value}(h:w.ownsRow base e n v len xs)(k:Ext w w'):w'.ownsRow base e n v len xs:=lu h fun g hg=>k.below.block g (h.lt g hg).2
theorem SpX.ext{I J:Gh}{w w':World}{base i0:Nat}{hdr:Value}{rs:List ak}(h:SpX I w base i0 hdr rs)(k:Gr I J w w'):SpX J w' base i0 hdr rs:=by
 obtain⟨css,h1,h2,h3,h4⟩:=h
 refine⟨css,h1,Qe h2 k.ext,fun g hg=>k.av (h2.lt g hg).2 (h3 g hg),fun q c r hc hr=>?_⟩
 obtain⟨k1,k2,k3,k4⟩:=h4 q c r hc hr
 refine⟨k1,k2,fun hq=>bV.mono k.le _ _ (k3 hq),fun hq=>?_⟩
 obtain⟨x,x1,x2,x3⟩:=k4 hq
 exact⟨x,x1.mono k.le,(x2.ext k.ext).mono k.le fun g hg=>k.av (x2.own g hg).2 (by obtain⟨_,_,_,_,z⟩:=x2;exact z g hg),x3⟩
theorem Gr.join{I J K:Gh}{w w':World}(h:Gr I J w w')(k:Gr J K w w'):Gr I K w w':=⟨h.le.trans k.le,fun b o v e f=>by
 cases hj:J b o with
 |none=>exact k.fresh b o v e hj
 |some u=>exact h.fresh b o u hj f,k.inv,h.ext⟩
theorem SpX.push{I:Gh}{w w':World}{base i0:Nat}{hdr hdr':Value}{rs:List ak}{css:List (List Value)}(h1:css.length=rs.length)(h2:w.ownsRow base 48 25 hdr rs.length css.flatten)(h3:∀g,hdr.ownBlock=some g→Av I g)
 (h4:∀(k:Nat) (c:List Value) (r:ak),css[k]?=some c→rs[k]?=some r→c.length=25∧(∀u∈c,u.oneCell'=true)∧(k≠i0→bV I (ak.lf1 r) c)∧(k=i0→∃h,SpC I r c h∧Acc I w base 60 31 h (r.bn.map aW.lf)∧∀g,h.ownBlock=some g→hdr.ownBlock≠some g))
 {r:ak} {c:List Value} (hg:w.grownBy w' hdr.ownBlock) (ho:w'.ownsRow 0 48 25 hdr' (rs.length+1) (css.flatten++c)) (hbk:∀g,hdr'.ownBlock=some g→hdr.ownBlock=some g∨g=w.heap.size) (hbs:base≤w.heap.size) (hI:Inv I w) (hlen:c.length=25) (hone:∀u∈c,u.oneCell'=true)
 (hd:rs.length≠i0→bV I (ak.lf1 r) c) (hx:rs.length=i0→∃h,SpC I r c h∧Acc I w base 60 31 h (r.bn.map aW.lf)∧∀g,h.ownBlock=some g→hdr.ownBlock≠some g):SpX I w' base i0 hdr' (rs++[r]):=by
 have hacc:∀{h:Value} {L:List (List Lf)},Acc I w base 60 31 h L→(∀g,h.ownBlock=some g→hdr.ownBlock≠some g)→Acc I w' base 60 31 h L∧∀g,h.ownBlock=some g→hdr'.ownBlock≠some g:=fun {h L} k k2=>⟨k.keep fun g hgb=>hg.block g (k.own g hgb).2 (fun e=>k2 g hgb e.symm),fun g hgb e=>by
  rcases hbk g e with h5|h5
  ·grind
  have:=(k.own g hgb).2;omega⟩
 refine⟨css++[c],by simp[h1],?_,fun g hgb=>?_,fun k c2 r2 hc hr=>?_⟩
 ·rw[List.flatten_append,List.length_append]
  simp only[List.flatten_cons,List.flatten_nil,List.append_nil,List.length_cons,List.length_nil,Nat.zero_add]
  refine⟨ho.1,?_⟩
  rcases ho.2 with h0|⟨g,cap,cur,e1,_,e2⟩
  ·exact .inl h0
  refine .inr ⟨g,cap,cur,e1,?_,e2⟩
  rcases hbk g (by rw[e1];rfl) with h5|h5
  ·exact(h2.lt g h5).1
  omega
 ·rcases hbk g hgb with h5|h5
  ·exact h3 g h5
  rw[h5];exact hI.av (Nat.le_refl _)
 rw[List.getElem?_append] at hc hr
 grind
theorem Gr.grown{I J:Gh}{w0 w w':World}{row:Option Nat}(h:Gr I J w0 w)(hg:w.grownBy w' row)(hr:∀g,row=some g→Av J g∧w0.heap.size≤g):Gr I J w0 w':=
 ⟨h.le,h.fresh,h.inv.grown hg fun g e=>(hr g e).1,((Only.IE (fun _=>False) h.ext).grown hg fun g e=>.inl (hr g e).2).ext⟩
theorem Xc{w:World}{base:Nat}{e:TypeId}{n len:Nat}{v:Value}{xs:List Value}(h:w.ownsRow base e n v len xs):w.ownsRow 0 e n v len xs:=by
 refine⟨h.1,?_⟩
 rcases h.2 with h0|⟨g,cap,cur,e1,_,e2⟩
 all_goals grind
theorem Jr(w:World)(c:List Value)(ty:TypeId):∀(j:Nat) (u:Value),c[j]?=some u→(w.alloc (.cells c.toArray ty)).cell? ((⟨w.heap.size,0,none⟩:Addr).add j)=some u:=fun j u hu=>by
 rw[Addr.add_lit,Nat.zero_add]
 simp_all
theorem agR{I:Gh}{w W:World}(hE:Ext w W)(hG:GI I)(hI:Inv I w){d r:ak}(h:Q31 d=some r){cs:List Value}(hcs:bV I (ak.lf1 d) cs)(base i0 j:Nat)(hb:base≤w.heap.size){hdr:Value}(hh:∀g,hdr.ownBlock=some g→g<w.heap.size):
 Calls Tryz.prog 83 #[.agg cs.toArray] W fun en w'=>∃J c,en=.returned (.agg c.toArray)∧Gr I J w w'∧c.length=25∧(∀u∈c,u.oneCell'=true)∧(j≠i0→bV J (ak.lf1 r) c)∧
  (j=i0→∃h,SpC J r c h∧Acc J w' base 60 31 h (r.bn.map aW.lf)∧∀g,h.ownBlock=some g→hdr.ownBlock≠some g):=by
 refine Calls.mono (UM hG (hI.ext hE) h hcs) ?_
 rintro en w' ⟨I2,c,hx,rfl,g2,hc,hacc⟩
 have hone:∀u∈c,u.oneCell'=true:=by
  obtain⟨a,cp,e1⟩:=hacc.shape
  obtain⟨c0,ct,rfl,k1,k2⟩:=hc
  intro u hu
  rcases List.mem_cons.1 hu with rfl|hu
  ·exact LRp.one _ _ k1
  rcases List.mem_cons.1 hu with rfl|hu
  ·rw[e1];rfl
  exact bV.one _ _ k2 u hu
 by_cases hji:j=i0
 ·refine⟨I2,c,rfl,g2.pre hE,hc.len,hone,fun h=>absurd hji h,fun _=>⟨hx,hc,hacc.low (Nat.le_trans hb hE.size),fun g hg hu=>?_⟩⟩
  have h1:=(hacc.own g hg).1
  have h2:=hh g hu
  have h3:=hE.size
  omega
 obtain⟨I3,k1,k2⟩:=hacc.done g2.inv (Nat.le_refl _) g2.ext
 exact⟨I3,c,rfl,(g2.join k1).pre hE,hc.len,hone,fun _=>(hc.mono k1.le).data k2,fun h=>absurd h hji⟩
set_option maxRecDepth 100000 in
set_option maxHeartbeats 4000000 in
theorem Di{I0:Gh}{w0:World}(hG:GI I0)(hI:Inv I0 w0){l rs:List ak}(hcp:xZ l=some rs)(hbig:l.length*368≤140737488355328){v:Value}(hv:LRp I0 (.rows 25 (l.map ak.lf)) v)(i0:Nat):
 Calls Tryz.prog 96 #[v] w0 fun en w=>∃I hdr,en=.returned hdr∧Gr I0 I w0 w∧SpX I w w0.heap.size i0 hdr rs:=by
 obtain⟨ad,cp,rfl,hc1,hc2⟩:=LRp.slice hv
 rw[List.length_map] at hc1 ⊢
 obtain⟨hrl,hat⟩:=zV hcp
 have HV:=Lib.hid hv
 have HG:=Lib.hid hG
 have HAT:=Lib.hid hat
 have HRL:=Lib.hid hrl
 have HBIG:=Lib.hid hbig
 have HI:=Lib.hid hI
 have HC:=Lib.hid hc1
 have hts:Tryz.prog.underlying 28=some (.slice 48):=by kernel_rfl
 have hinf:(Tryz.prog.info? 48).map (fun i=>(i.zero.map (·.cells.size),i.size,i.bytes))=some (some 25,25,368):=by kernel_rfl
 obtain⟨ii,hi0,hi1⟩:=Option.map_eq_some_iff.1 hinf
 simp only[Prod.mk.injEq] at hi1
 obtain⟨hz0,hzs,hzb⟩:=hi1
 obtain⟨z,hz,hzc⟩:=Option.map_eq_some_iff.1 hz0
 have SI:=Lib.hid (by kernel_rfl:(Tryz.prog.info? 48).map (·.size)=some 25)
 have HS0:Hid (∃I,Gr I0 I w0 w0∧SpX I w0 w0.heap.size i0 (.slice none 0 0) (rs.take 0)):=⟨I0,Gr.refl hI,SpX.nil _ _ _ _⟩
 clear hv hG hat hrl hbig hcp hI
 go_enter Tryz.func96,Tryz.ntmps96
 go_wp2_with fail
 go_loopw [3,8] (fun h x wr=>∃(j:Nat),j≤l.length∧x=.int .i64 j∧Hid (∃I,Gr I0 I w0 wr∧SpX I wr w0.heap.size i0 h (rs.take j))) (fun _ x _=>l.length-(intOf x).toNat)
 case atStart=>exact⟨0,Nat.zero_le _,rfl,HS0⟩
 case round=>
  clear HS0
  obtain⟨j,hj,rfl,HS⟩:=hrel
  by_cases hlt:j<l.length
  case pos=>
   obtain⟨s,hs⟩:∃s,l[j]?=some s:=⟨_,List.getElem?_eq_getElem hlt⟩
   obtain⟨y,hy1,hy2⟩:=HAT.out j s hs
   obtain⟨b,ofs,cp',ce,hsl,hcl,hcm,hwl,hve,hIc⟩:=LRp.elem HV.out j (ak.lf1 s) (by simp[hs,ak.aY])
   injection hsl with hsl1 _ hsl2
   subst hsl1 hsl2
   obtain⟨I,hgr,hsp⟩:=HS.out
   have hce:ce.length=25:=by rw[bV.len _ _ hve];rfl
   have hin:=hgr.inv
   have RG:=Lib.hid (alU (o:=ofs+j*25) hin (fun q u hu=>hgr.le _ _ _ (hIc q u hu)))
   have LI:Hid ((Tryz.prog.info? 48).map (·.size)=some ce.length):=by rw[hce];exact SI
   have LJ:Hid ((Tryz.prog.info? 48).map (·.size)=some ce.toArray.size):=LI
   have SZ:Hid (ce.toArray.size=25):=hce
   have ON:Hid (ce.toArray.all (·.oneCell')=true):=Array.all_eq_true_iff_forall_mem.2 fun u hu=>bV.one _ _ hve u (by simpa using hu)
   have hbk:b<wr.heap.size:=hin.lt (hgr.le _ _ _ (hIc 0 ce[0] (List.getElem?_eq_getElem (by omega))))
   have HVE:=Lib.hid hve
   have HGR:=Lib.hid hgr
   have HSP:=Lib.hid hsp
   have HIN:=Lib.hid hin
   have HY1:=Lib.hid hy1
   have HY2:=Lib.hid hy2
   have HH:Hid (∀g,u3.ownBlock=some g→g<wr.heap.size):=by
    obtain⟨_,_,k,_⟩:=hsp
    exact fun g hg=>(k.lt g hg).2
   clear hs hy1 hy2 hve hIc hgr hsp hce hin HS
   go_wp2_with (first
    |refine wpList_load_mid rfl 48 _ rfl _ _ rfl _ _ RG.out Tryz.underlying48 rfl LI.out ?_
    |refine wpList_store_mid rfl 48 _ _ rfl _ _ _ rfl rfl (Jq _ _ _ _ SZ.out.symm) LJ.out ON.out ?_
    |refine wpList_load_mid rfl 48 _ rfl _ _ rfl _ _ (World.rangeAt_setCells_same _ _ _ _ (Jq _ _ _ _ SZ.out.symm)) Tryz.underlying48 rfl LI.out ?_)
   refine Calls.mono (agR (Ext.setCells _ (Nat.le_refl _) _ _ _ ((Ext.refl wr).alloc _)) (jD.G I0 I HGR.out.le HG.out) HIN.out HY2.out (bV.mono HGR.out.le _ _ HVE.out) w0.heap.size i0 j HGR.out.ext.size HH.out) ?_
   rintro e w3 ⟨J,c,rfl,g3,hcl3,hone,hd,hx⟩
   have g4:=g3.akX ((Ext.refl w3).alloc (.cells c.toArray 48))
   obtain⟨css,k1,k2,k3,k4⟩:=HSP.out.ext g4
   have hrj:(rs.take j).length=j:=by rw[List.length_take,HRL.out];omega
   have hbig:(j+1)*368≤140737488355328:=by have:=HBIG.out;omega
   have hjm:j+1≤maxLen:=by omega
   obtain⟨v', w5, hr, hown, hgr5, hbk⟩:=rY (P:=Tryz.prog) (w3.alloc (.cells c.toArray 48)) 28 28 48 ii z 25 368 hts hi0 hz hzs hzb hzc (by decide) u3 (rs.take j).length css.flatten (Xc k2) (some ⟨w3.heap.size, 0, none⟩) 1 1 c (by rw[hcl3]) (fun h=>by cases h)
    (fun ad had=>by injection had with had;subst had;exact Jr w3 c 48) hone (by rw[hrj];exact hjm) (by rw[hrj];exact hbig)
   have hsz0:w0.heap.size≤(w3.alloc (.cells c.toArray 48)).heap.size:=Nat.le_trans HGR.out.ext.size g4.ext.size
   have hgr:=HGR.out.trans g4
   have HS5:Hid (∃I,Gr I0 I w0 w5∧SpX I w5 w0.heap.size i0 v' (rs.take (j+1))):=by
    refine⟨J,hgr.grown hgr5 fun g hg=>⟨k3 g hg,(k2.lt g hg).1⟩,?_⟩
    have e1:rs.take (j+1)=rs.take j++[y]:=by
     have hjr:j<rs.length:=by rw[HRL.out];exact hlt
     rw[List.take_succ_eq_append_getElem hjr]
     have:=HY1.out
     rw[List.getElem?_eq_getElem hjr] at this
     injection this with this
     rw[this]
    rw[e1]
    refine SpX.push k1 k2 k3 k4 hgr5 hown hbk hsz0 hgr.inv hcl3 hone ?_ ?_
    ·rw[hrj];exact hd
    rw[hrj]
    intro hq
    obtain⟨x,x1,x2,x3⟩:=hx hq
    exact⟨x,x1,x2.ext ((Ext.refl w3).alloc _),x3⟩
   have HR:=Lib.hid hr
   clear RG LI LJ SZ ON hgr hsz0 hr hown hgr5 hbk k1 k2 k3 k4 g4 g3 hd hx HSP HGR HIN HH HVE
   have hw1:IntKind.i64.wrap ((j:Int)+1)=((j+1:Nat):Int):=by unfold maxLen at hjm;rw[IntKind.wrap_i64];omega
   go_wp2_with (first
    |refine Hz rfl 28 48 _ rfl c rfl 25 ii z hts hi0 hz hzs hzc hcl3 (by decide) (by decide) ?_
    |(at_builtin;refine Lib.wpList_append_run _ rfl _ _ _ _ rfl _ _ rfl rfl _ _ HR.out ?_))
   exact⟨⟨j+1,by omega,by go_num,HS5⟩,by simp[intOf];omega⟩
  obtain rfl:j=l.length:=by omega
  clear hlt
  go_wp2_with fail
  go_ret
  obtain⟨I,h1,h2⟩:=HS.out
  exact⟨I,_,rfl,h1,by rw[←HRL.out,List.take_length] at h2;exact h2⟩
theorem acT{w:World}{g:Nat}{cs:List Value}{T0:TypeId}(h:w.heap[g]?=some (.cells cs.toArray T0 (0,0))):w.rangeAt g 0 cs:=fun j v hj=>by
 rw[Nat.zero_add,lq h j];simpa using hj
theorem acU:∀{css:List (List Value)} {n:Nat},(∀(k:Nat) (c:List Value),css[k]?=some c→c.length=n)→∀(k j:Nat) (c:List Value),css[k]?=some c→j<n→css.flatten[k*n+j]?=c[j]?
 |[],_,_,k,j,c,h,_=>by simp at h
 |c0::r,n,hl,0,j,c,h,hj=>by
  grind
 |c0::r,n,hl,k+1,j,c,h,hj=>by
  have h0:=hl 0 c0 rfl
  rw[List.flatten_cons,List.getElem?_append_right (by rw[h0,Nat.add_mul];omega),h0,show(k+1)*n+j-n=k*n+j by rw[Nat.add_mul];omega]
  exact acU (fun k' c' h'=>hl (k'+1) c' (by simpa using h')) k j c (by simpa using h) hj
theorem MR:∀{css:List (List Value)} {n:Nat},(∀(k:Nat) (c:List Value),css[k]?=some c→c.length=n)→∀(k j:Nat) (c:List Value) (v:Value),css[k]?=some c→j<n→css.flatten.set (k*n+j) v=(css.set k (c.set j v)).flatten
 |[],_,_,k,j,c,v,h,_=>by simp at h
 |c0::r,n,hl,0,j,c,v,h,hj=>by
  grind
 |c0::r,n,hl,k+1,j,c,v,h,hj=>by
  have h0:=hl 0 c0 rfl
  rw[List.flatten_cons, List.set_append_right _ _ (by rw[h0, Nat.add_mul];omega), h0, show(k+1)*n+j-n=k*n+j by rw[Nat.add_mul];omega,
   MR (fun k' c' h'=>hl (k'+1) c' (by simpa using h')) k j c v (by simpa using h) hj,List.set_cons_succ,List.flatten_cons]
theorem bV.flat{I:Gh}{β:Type}{f:β→List Lf}{n:Nat}:∀{css:List (List Value)} {rs:List β},css.length=rs.length→(∀(k:Nat) (c:List Value) (r:β),css[k]?=some c→rs[k]?=some r→bV I (f r) c)→bV I (rs.map f).flatten css.flatten
 |[],[],_,_=>rfl
 |[],_::_,h,_=>by simp at h
 |_::_,[],h,_=>by simp at h
 |c::css,r::rs,h,k=>by
  rw[List.map_cons,List.flatten_cons,List.flatten_cons]
  exact bV.app _ _ _ _ (k 0 c r rfl rfl) (bV.flat (n:=n) (by simpa using h) fun q c' r' h1 h2=>k (q+1) c' r' (by simpa using h1) (by simpa using h2))
theorem Acc.gr{I J:Gh}{w w':World}{base:Nat}{e:TypeId}{n:Nat}{x:Value}{l:List (List Lf)}(h:Acc I w base e n x l)(k:Gr I J w w'):Acc J w' base e n x l:=
 (h.ext k.ext).mono k.le fun g hg=>k.av (h.own g hg).2 (by obtain⟨_,_,_,_,z⟩:=h;exact z g hg)
theorem Dj{w w':World}{b:Nat}(h:w'.heap[b]?=w.heap[b]?)(o:Nat):w'.frozen? ⟨b,o,none⟩=w.frozen? ⟨b,o,none⟩:=by
 unfold World.frozen?;simp only[h]
theorem Acc.app{I:Gh}{w:World}{base:Nat}{e t:TypeId}{n bytes:Nat}{x:Value}{l:List (List Lf)}(h:Acc I w base e n x l)(hI:Inv I w)(hb:base≤w.heap.size){ii:TypeInfo}{z:Value}(ht:Tryz.prog.underlying t=some (.slice e))(hi:Tryz.prog.info? e=some ii)(hz:ii.zero=some z)(hs:ii.size=n)(hby:ii.bytes=bytes)(hzs:z.cells.size=n)(hn:0<n)
 {q:List Lf} {c:List Value} (hc:bV I q c) (hq:q.length=n) {a:Addr} (ha:∀(j:Nat) (u:Value),c[j]?=some u→w.cell? (a.add j)=some u) (ty:TypeId) (h63:l.length+1≤maxLen) (hbig:(l.length+1)*bytes≤140737488355328):
 ∃v' w',(Builtin.append_ #[t,t] ty #[x,.slice (some a) 1 1]).run Tryz.prog w=.ok v' w'∧Acc I w' base e n v' (l++[q])∧w.grownBy w' x.ownBlock∧∀g,v'.ownBlock=some g→x.ownBlock=some g∨g=w.heap.size:=by
 obtain⟨xs,h1,h2,h3,h4⟩:=h
 obtain⟨v', w', hr, ho, hg, hbk⟩:=rY (P:=Tryz.prog) w t ty e ii z n bytes ht hi hz hs hby hzs hn x l.length xs (Xc h1) (some a) 1 1 c (by rw[bV.len _ _ hc, hq, Nat.one_mul]) (fun h=>by cases h)
  (fun ad had=>by injection had with had;subst had;exact ha) (fun u hu=>bV.one _ _ hc u hu) h63 hbig
 refine⟨v',w',hr,⟨xs++c,?_,?_,fun r hr=>?_,fun g hgb=>?_⟩,hg,hbk⟩
 ·rw[List.length_append]
  refine⟨ho.1,?_⟩
  rcases ho.2 with h0|⟨g,cap,cur,e1,_,e2⟩
  ·exact .inl h0
  refine .inr ⟨g,cap,cur,e1,?_,e2⟩
  rcases hbk g (by rw[e1];rfl) with h5|h5
  ·exact(h1.lt g h5).1
  omega
 ·rw[List.flatten_append]
  exact bV.app _ _ _ _ h2 (by simpa using hc)
 ·grind
 rcases hbk g hgb with h5|h5
 ·exact h4 g h5
 rw[h5];exact hI.av (Nat.le_refl _)
theorem Acc.done2{I:Gh}{w w0:World}{base:Nat}{e:TypeId}{n:Nat}{x:Value}{l:List (List Lf)}(h:Acc I w base e n x l)(hi:Inv I w)(hb:w0.heap.size≤base)(he:Ext w0 w):
 ∃I',Gr I I' w0 w∧LRp I' (.rows n l) x∧∀b,x.ownBlock≠some b→Av I b→Av I' b:=by
 obtain⟨xs,h1,h2,h3,h4⟩:=h
 rcases h1.2 with⟨rfl,h0⟩|⟨g,cap,cur,rfl,hg,hblk,hn,hm,hsz,htk⟩
 ·obtain rfl:l=[]:=List.eq_nil_of_length_eq_zero h0
  exact⟨I,⟨Le.refl I,fun b o v e f=>(by rw[f] at e;cases e),hi,he⟩,LRp.nil I n,fun _ _ h=>h⟩
 have hxl:xs.length=l.length*n:=h1.1
 have hc:∀j v,j<l.length*n→xs[j]?=some v→w.cell? ⟨g,j,none⟩=some v:=fun j v hj hv=>by
  rw[lq hblk j]
  grind
 refine⟨yT I g (l.length*n) xs,VG hi (h4 g rfl) (by omega) he hc,?_,fun b hb ha o=>?_⟩
 ·unfold LRp
  refine⟨_,cap,rfl,hn,hm,fun _=>⟨g,0,rfl,DJ l 0 xs h3 (bV.mono (vV (h4 g rfl) _ _) _ _ h2) (fun j v hj=>?_)⟩⟩
  rw[Nat.zero_add]
  exact KY (by have:=(List.getElem?_eq_some_iff.1 hj).1;omega) hj
 unfold yT
 rw[if_neg (fun h=>hb (by rw[h];rfl))];exact ha o
theorem SpX.open_{I:Gh}{w:World}{base i:Nat}{hdr:Value}{rs:List ak}(h:SpX I w base i hdr rs){r:ak}(hr:rs[i]?=some r):
 ∃g cap hx,hdr=.slice (some ⟨g,0,none⟩) rs.length cap∧base≤g∧g<w.heap.size∧Av I g∧w.cell? ⟨g,i*25+1,none⟩=some hx∧w.frozen? ⟨g,i*25+1,none⟩=false∧Acc I w base 60 31 hx (r.bn.map aW.lf)∧(∀k,hx.ownBlock=some k→k≠g)∧
  ∀(J:Gh) (w2:World) (v:Value) (idx:List aW),Le I J→Av J g→w2.heap[g]?=w.heap[g]?→LRp J (.rows 31 (idx.map aW.lf)) v→Acc J (w2.setCell ⟨g,i*25+1,none⟩ v) base 48 25 hdr ((rs.set i { r with bn:=idx }).map ak.lf):=by
 obtain⟨css,h1,h2,h3,h4⟩:=h
 have hir:=(List.getElem?_eq_some_iff.1 hr).1
 have hic:i<css.length:=by omega
 have hci:css[i]?=some css[i]:=List.getElem?_eq_getElem hic
 obtain⟨k1,k2,_,k4⟩:=h4 i css[i] r hci hr
 obtain⟨hx,x1,x2,x3⟩:=k4 rfl
 have hl25:∀(k:Nat) (c:List Value),css[k]?=some c→c.length=25:=fun k c hc=>by
  grind
 rcases h2.2 with⟨_,h0⟩|⟨g,cap,cur,rfl,hbg,hg,hnc,hcm,hcs,htk⟩
 ·omega
 have hx1:css[i][1]?=some hx:=by
  obtain⟨c0,ct,e1,_⟩:=x1
  rw[e1];rfl
 have hpos:i*25+1<rs.length*25:=by omega
 have hat:cur.toList[i*25+1]?=some hx:=by
  have:=acU hl25 i 1 css[i] hci (by decide)
  grind
 refine⟨g,cap,hx,rfl,hbg,(Array.getElem?_eq_some_iff.1 hg).1,h3 g rfl,jg hg hat,yR hg _,x2,fun k hk he=>x3 k hk (by rw[he];rfl),fun J w2 v idx hle hav hw2 hv=>?_⟩
 have hg2:w2.heap[g]?=some (.cells cur 48 (0,0)):=hw2.trans hg
 refine⟨(css.set i (css[i].set 1 v)).flatten,⟨?_,.inr ⟨g,cap,cur.setIfInBounds (i*25+1) v,?_,hbg,VF hg2 _ _,by simpa using hnc,hcm,by simpa using hcs,?_⟩⟩,?_,?_,fun k hk=>?_⟩
 ·rw[←MR hl25 i 1 css[i] v hci (by decide), List.length_set]
  grind
 ·simp
 ·rw[Array.toList_setIfInBounds, List.take_set, ←MR hl25 i 1 css[i] v hci (by decide)]
  grind
 ·refine bV.flat (n:=25) (by simp[h1]) fun k c q hc hq=>?_
  rw[List.getElem?_set] at hc hq
  by_cases hki:i=k
  ·subst hki
   rw[if_pos rfl,if_pos (by omega)] at hc hq
   injection hc with hc;injection hq with hq;subst hc hq
   exact x1.put hle hv
  rw[if_neg hki] at hc hq
  exact bV.mono hle _ _ ((h4 k c q hc hq).2.2.1 (Ne.symm hki))
 ·intro q hq
  obtain⟨s,_,rfl⟩:=List.mem_map.1 hq
  rfl
 obtain rfl:g=k:=by injection hk
 exact hav
theorem Qg{I0 K:Gh}{w0 w:World}(G:Gr I0 K w0 w){g n:Nat}{v hdr:Value}{idx:List aW}{rs:List ak}{r:ak}(hg:w0.heap.size≤g)(hav:Av K g)(hA:Acc K w w0.heap.size 60 31 v (idx.map aW.lf))(hne:∀k,v.ownBlock=some k→k≠g)
 (hput:∀J,Le K J→Av J g→LRp J (.rows 31 (idx.map aW.lf)) v→Acc J (w.setCell ⟨g,n*25+1,none⟩ v) w0.heap.size 48 25 hdr ((rs.set n { r with bn:=idx }).map ak.lf)):
 ∃J,Gr I0 J w0 (w.setCell ⟨g,n*25+1,none⟩ v)∧LRp J (.rows 25 ((rs.set n { r with bn:=idx }).map ak.lf)) hdr:=by
 have Gs:Gr I0 K w0 (w.setCell ⟨g,n*25+1,none⟩ v):=⟨G.le,G.fresh,G.inv.setCell (p:=⟨g,n*25+1,none⟩) hav v,Ext.setCell G.ext (p:=⟨g,n*25+1,none⟩) hg v⟩
 have A1:Acc K (w.setCell ⟨g,n*25+1,none⟩ v) w0.heap.size 60 31 v (idx.map aW.lf):=hA.keep fun k hk=>Below.heap_setCell w ⟨g,n*25+1,none⟩ v k (hne k hk)
 obtain⟨J,j1,j2,j3⟩:=A1.done2 Gs.inv (Nat.le_refl _) Gs.ext
 have A2:=hput J j1.le (j3 g (fun e=>hne g e rfl) hav) j2
 obtain⟨J2,i1,i2⟩:=A2.done j1.inv (Nat.le_refl _) Gs.ext
 exact⟨J2,(Gs.join j1).join i1,i2⟩
end Go.Proofs.YtpdlghcgekojlaaGreatDoor
