/- codec.need, take, num, count, text. -/
import Derived.Test.YtflpefkohpjjpaaGreatDoorQNRd
import Derived.Test.YtflpefkohpjjpaaGreatDoorQNNodes
import Derived.Test.YtflpefkohpjjpaaGreatDoorQNMixP
import Derived.Deep.QuietTactic
import Derived.BigQuiet
set_option linter.unusedSimpArgs false
set_option linter.unusedVariables false
namespace Go.Proofs.YtflpefkohpjjpaaGreatDoor
open Go.RowKit
def flt(c:Int):List PanicEntry:=[{ v:=.iface 237 (.agg #[.int .i64 c]),recovered:=false }]
set_option maxRecDepth 20000 in
set_option maxHeartbeats 1000000 in
theorem dQ(c:Int)(w:World):Calls Tryz.prog 283 #[.bool true,.int .i64 c] w fun e w'=>e=.returned (.tuple #[])∧w=w':=by
 go_enter Tryz.func283,Tryz.ntmps283
 go_wp2_with fail
 go_end0
 exact⟨rfl,rfl⟩
set_option maxRecDepth 20000 in
set_option maxHeartbeats 1000000 in
theorem iM(c:Int)(w:World):Calls Tryz.prog 283 #[.bool false,.int .i64 c] w fun e w'=>e=.panicked (flt c)∧w=w':=by
 go_enter Tryz.func283,Tryz.ntmps283
 go_wp2_with fail
 exact⟨rfl,rfl,rfl⟩
def bP(s:ByteArray)(p bg:Nat):Obj:=.cells #[.string s,.int .i64 (p:Int),.int .i64 (bg:Int)] 240 (0,0)
def vg(rb:Nat)(s:ByteArray)(bg:Nat)(w:World)(x:Except Int (Value×Nat))(e:Ending)(w':World):Prop:=
 match x with
 |.ok (v,p)=>e=.returned v∧w'.heap[rb]?=some (bP s p bg)∧w.grownBy w' (some rb)
 |.error c=>e=.panicked (flt c)∧w.grownBy w' (some rb)
theorem Jw{w:World}{rb:Nat}{s:ByteArray}{p p' bg:Nat}(h:w.heap[rb]?=some (bP s p bg))(x:Int)(hx:x=p'):(w.setCell ⟨rb,1,none⟩ (.int .i64 x)).heap[rb]?=some (bP s p' bg):=by
 subst hx;exact gB h 1 _
theorem fV{w:World}{rb:Nat}{s:ByteArray}{p bg bg':Nat}(h:w.heap[rb]?=some (bP s p bg))(x:Int)(hx:x=bg'):(w.setCell ⟨rb,2,none⟩ (.int .i64 x)).heap[rb]?=some (bP s p bg'):=by
 subst hx;exact gB h 2 _
def dL(s:ByteArray)(p n:Nat):Except Int (Value×Nat):=if n≤s.size-p then .ok (.string (s.extract p (p+n)),p+n) else .error 5
theorem BN{a w:World}{r:Option Nat}(h:a.grownBy w r)(n:Nat):a.grownBy (w.drewN n) r:=⟨h.os,h.tape,h.output,h.size,h.block⟩
set_option maxRecDepth 20000 in
set_option maxHeartbeats 2000000 in
theorem wP(s:ByteArray)(rb p bg n:Nat)(w:World)(hs:s.size≤1000000000000000)(hp:p≤s.size)(hn:(n:Int)<9223372036854775808)(h:w.heap[rb]?=some (bP s p bg)):
 Calls Tryz.prog 284 #[.pointer (some ⟨rb,0,none⟩),.int .i64 (n:Int)] w (vg rb s bg w (dL s p n)):=by
 have hrb:=dI h
 have ck:=aN h
 have cf:=aX h
 have H:=Lib.hid h
 clear h
 have hw1:=jF ((s.size:Int)-(p:Int)) (by omega) (by omega)
 by_cases hc:n≤s.size-p
 ·have hR:dL s p n=.ok (.string (s.extract p (p+n)), p+n):=by unfold dL;rw[if_pos hc]
  rw[hR]
  clear hR
  have d1:decide ((n:Int)≤(s.size:Int)-(p:Int))=true:=by simp;omega
  go_enter Tryz.func284,Tryz.ntmps284
  go_wp2_with fail
  refine lK (fun _ _ _=>False) (Ext w) [(true,0),(true,1),(true,2),(true,3),(true,4),(true,5),(true,6),(true,7),(true,8),(true,9),(true,10),(true,11),(false,12)] (by kernel_rfl) (by kernel_rfl) (by kernel_rfl) (by kernel_rfl) (fun _ _ _ h=>h.elim) ?hS ?_
  case hS=>exact(Ext.refl _).drew
  repeat (first|(refine kM (v:=?_) rfl rfl ?_ ?_;rotate_left;(· intro wq hSq;have cq:=hSq.cells;go_simp;try (with_reducible rfl));simp only[Act.put,List.setIfInBounds_toArray,List.set_cons_zero,List.set_cons_succ,List.getElem_toArray,List.getElem_cons_zero,List.getElem_cons_succ])|(refine kN rfl rfl ?_;simp only[Act.put,List.setIfInBounds_toArray,List.set_cons_zero,List.set_cons_succ,List.getElem_toArray,List.getElem_cons_zero,List.getElem_cons_succ]))
  refine jC rfl rfl (fun K hK=>?_)
  go_simp
  refine(dQ _ _).mono ?_
  rintro e w1 ⟨rfl,rfl⟩
  refine hK _ _ (Ext.refl _).drew ?_
  clear hK K
  refine BM ?_
  have hw2:=jF ((p:Int)+(n:Int)-(n:Int)) (by omega) (by omega)
  have hw3:(p:Int)+(n:Int)-(n:Int)=p:=by omega
  clear hw1
  go_wp2_with fail
  go_quiet (fail)
  go_wp2_with fail
  go_ret
  refine⟨rfl,?_,?_⟩
  ·exact Jw H.out _ (by omega)
  ·refine BN ?_ _
   repeat (first|with_reducible exact World.grownBy.refl _ _|with_reducible refine dV ?_|with_reducible refine aW ?_ (.inl rfl) _)
 ·have hR:dL s p n=.error 5:=by unfold dL;rw[if_neg hc]
  rw[hR]
  clear hR
  have d1:decide ((n:Int)≤(s.size:Int)-(p:Int))=false:=by simp;omega
  go_enter Tryz.func284,Tryz.ntmps284
  go_wp2_with fail
  refine lK (fun c ds W=>ds=[]∧vg rb s bg w (.error 5) (.panicked c) W) (Ext w) [(true,0),(true,1),(true,2),(true,3),(true,4),(true,5),(true,6),(true,7),(true,8),(true,9),(true,10),(true,11),(false,12)] (by kernel_rfl) (by kernel_rfl) (by kernel_rfl) (by kernel_rfl) (fun _ _ _ h=>h) ?hS ?_
  case hS=>exact(Ext.refl _).drew
  repeat (first|(refine kM (v:=?_) rfl rfl ?_ ?_;rotate_left;(· intro wq hSq;have cq:=hSq.cells;go_simp;try (with_reducible rfl));simp only[Act.put,List.setIfInBounds_toArray,List.set_cons_zero,List.set_cons_succ,List.getElem_toArray,List.getElem_cons_zero,List.getElem_cons_succ])|(refine kN rfl rfl ?_;simp only[Act.put,List.setIfInBounds_toArray,List.set_cons_zero,List.set_cons_succ,List.getElem_toArray,List.getElem_cons_zero,List.getElem_cons_succ]))
  refine jC rfl rfl (fun K hK=>?_)
  go_simp
  refine(iM _ _).mono ?_
  rintro e w1 ⟨rfl,rfl⟩
  exact⟨rfl,rfl,((Ext.refl w).drew).only _⟩
def jq(s:ByteArray)(p:Nat):Except Int (Int×Nat):=match rdN 0 0 (rest s p) with
 |.error e=>.error e
 |.ok (u,k)=>.ok (zL u,p+k)
def asV:Except Int (Int×Nat)→Except Int (Value×Nat)
 |.error e=>.error e
 |.ok (n,q)=>.ok (.int .i64 n,q)
theorem Uz(s:ByteArray):∀(l:List UInt8) (k u:Nat) (u' k':Nat),rdN k u l=.ok (u',k')→k<k'∧k'≤k+l.length:=by
 intro l
 induction l with
 |nil=>intro k u u' k' h;simp[rdN] at h
 |cons b r ih=>
  intro k u u' k' h
  simp only[rdN] at h
  split at h
  ·cases h
  ·split at h
   ·injection h with h;injection h with h1 h2;simp;omega
   ·have:=ih _ _ _ _ h;simp;omega
theorem oI{s:ByteArray}{p:Nat}{n:Int}{q:Nat}(hp:p≤s.size)(h:jq s p=.ok (n,q)):p<q∧q≤s.size:=by
 unfold jq at h
 cases hr:rdN 0 0 (rest s p) with
 |error e=>rw[hr] at h;cases h
 |ok uk=>
  obtain⟨u,k⟩:=uk
  rw[hr] at h
  injection h with h;injection h with h1 h2
  have:=Uz s _ _ _ _ _ hr
  rw[zM] at this
  omega
theorem Pj:∀(l:List UInt8) (k u:Nat) (u' k':Nat),k≤9→u<128^k→rdN k u l=.ok (u',k')→U64 u':=by
 intro l
 induction l with
 |nil=>intro k u u' k' _ _ h;simp[rdN] at h
 |cons b r ih=>
  intro k u u' k' hk hu h
  simp only[rdN] at h
  split at h
  ·cases h
  ·rename_i hb
   have h9:k=9→b.toNat≤1:=fun e=>by
    rcases Nat.lt_or_ge 1 b.toNat with h1|h1
    ·exact absurd (.inl ⟨e,h1⟩) hb
    ·exact h1
   split at h
   ·injection h with h;injection h with h1 h2
    rw[←h1];exact Dp u _ k hu hk h9
   ·rename_i h128
    exact ih _ _ _ _ (by have:=h9;omega) (BK u _ k hu) h
theorem wQ{s:ByteArray}{p:Nat}{n:Int}{q:Nat}(h:jq s p=.ok (n,q)):I64 n:=by
 unfold jq at h
 cases hr:rdN 0 0 (rest s p) with
 |error e=>rw[hr] at h;cases h
 |ok uk=>
  obtain⟨u,k⟩:=uk
  rw[hr] at h
  injection h with h;injection h with h1 h2
  rw[←h1];exact Pe _ (Pj _ 0 0 _ _ (by omega) (by decide) hr)
theorem Pm{s:ByteArray}{p:Nat}(hp:p≤s.size):rdV s p=match jq s p with|.error e=>(0,0,e)|.ok (n,q)=>(n,(q:Int),0):=by
 rw[Jv s p hp]
 unfold jq
 cases rdN 0 0 (rest s p) with
 |error e=>rfl
 |ok uk=>obtain⟨u,k⟩:=uk;simp[rdR]
theorem Po:∀(l:List UInt8) (k u:Nat) (e:Int),rdN k u l=.error e→e=4∨e=5:=by
 intro l
 induction l with
 |nil=>intro k u e h;simp[rdN] at h;exact .inr h.symm
 |cons b r ih=>
  intro k u e h
  simp only[rdN] at h
  split at h
  ·injection h with h;exact .inl h.symm
  ·split at h
   ·cases h
   ·exact ih _ _ _ h
theorem Jy{s:ByteArray}{p:Nat}{e:Int}(h:jq s p=.error e):e=4∨e=5:=by
 unfold jq at h
 cases hr:rdN 0 0 (rest s p) with
 |error e'=>rw[hr] at h;injection h with h;subst h;exact Po _ _ _ _ hr
 |ok uk=>rw[hr] at h;cases h
set_option maxRecDepth 20000 in
set_option maxHeartbeats 2000000 in
theorem BO(s:ByteArray)(rb p bg:Nat)(w:World)(hs:s.size≤1000000000000000)(hp:p≤s.size)(h:w.heap[rb]?=some (bP s p bg)):
 Calls Tryz.prog 285 #[.pointer (some ⟨rb,0,none⟩)] w (vg rb s bg w (asV (jq s p))):=by
 have hrb:=dI h
 have ck:=aN h
 have cf:=aX h
 have H:=Lib.hid h
 clear h
 have hV:=Pm (s:=s) hp
 obtain⟨x,hx⟩:∃x,jq s p=x:=⟨_,rfl⟩
 rw[hx] at hV ⊢
 have HE:=Lib.hid (fun e (he:x=.error e)=>Jy (hx.trans he))
 have HQ:=Lib.hid (fun n q (he:x=.ok (n,q))=>oI hp (hx.trans he))
 clear hx
 have HV:=Lib.hid hV
 clear hV
 go_enter Tryz.func285,Tryz.ntmps285
 go_wp2_with fail
 refine jd (Ext w) [(true,0),(true,1),(true,2),(true,3),(true,4),(true,5),(true,6),(true,7),(false,8),(true,9),(true,10),(true,11),(true,12),(true,13),(true,14),(true,15)] (by kernel_rfl) (by kernel_rfl) (by kernel_rfl) (by kernel_rfl) ?hS ?_
 case hS=>exact(Ext.refl _).drew
 repeat (first|(refine kM (v:=?_) rfl rfl ?_ ?_;rotate_left;(· intro wq hSq;have cq:=hSq.cells;go_simp;try (with_reducible rfl));simp only[Act.put,List.setIfInBounds_toArray,List.set_cons_zero,List.set_cons_succ,List.getElem_toArray,List.getElem_cons_zero,List.getElem_cons_succ])|(refine kN rfl rfl ?_;simp only[Act.put,List.setIfInBounds_toArray,List.set_cons_zero,List.set_cons_succ,List.getElem_toArray,List.getElem_cons_zero,List.getElem_cons_succ]))
 refine jC rfl rfl (fun K hK=>?_)
 go_simp
 refine(BL s _ _ (by unfold maxLen;omega)).mono ?_
 rintro e w1 ⟨rfl,rfl⟩
 rw[HV.out]
 cases x with
 |error c=>
  simp only[asV]
  have hc:=HE.out c rfl
  have d1:(c==(0:Int))=false:=beq_eq_false_iff_ne.2 (by omega)
  refine hK _ _ (Ext.refl _).drew ?_
  clear hK K HE HQ HV
  repeat (first|(refine kM (v:=?_) rfl rfl ?_ ?_;rotate_left;(· intro wq hSq;have cq:=hSq.cells;go_simp;try (with_reducible rfl));simp only[Act.put,List.setIfInBounds_toArray,List.set_cons_zero,List.set_cons_succ,List.getElem_toArray,List.getElem_cons_zero,List.getElem_cons_succ])|(refine kN rfl rfl ?_;simp only[Act.put,List.setIfInBounds_toArray,List.set_cons_zero,List.set_cons_succ,List.getElem_toArray,List.getElem_cons_zero,List.getElem_cons_succ]))
  refine l9 ?_
  go_wp2_with fail
  refine(iM _ _).mono ?_
  rintro e w1 ⟨rfl,rfl⟩
  exact⟨rfl,rfl,((Ext.refl w).drew).only _⟩
 |ok nq=>
  obtain⟨n,q⟩:=nq
  simp only[asV]
  have hq:=HQ.out n q rfl
  refine hK _ _ (Ext.refl _).drew ?_
  clear hK K HE HQ HV
  repeat (first|(refine kM (v:=?_) rfl rfl ?_ ?_;rotate_left;(· intro wq hSq;have cq:=hSq.cells;go_simp;try (with_reducible rfl));simp only[Act.put,List.setIfInBounds_toArray,List.set_cons_zero,List.set_cons_succ,List.getElem_toArray,List.getElem_cons_zero,List.getElem_cons_succ])|(refine kN rfl rfl ?_;simp only[Act.put,List.setIfInBounds_toArray,List.set_cons_zero,List.set_cons_succ,List.getElem_toArray,List.getElem_cons_zero,List.getElem_cons_succ]))
  refine l9 ?_
  go_wp2_with fail
  refine(dQ _ _).mono ?_
  rintro e w1 ⟨rfl,rfl⟩
  go_wp2_with fail
  go_ret
  refine⟨rfl,?_,?_⟩
  ·exact Jw H.out _ rfl
  ·repeat (first|with_reducible exact World.grownBy.refl _ _|with_reducible refine dV ?_|with_reducible refine aW ?_ (.inl rfl) _)
end Go.Proofs.YtflpefkohpjjpaaGreatDoor
