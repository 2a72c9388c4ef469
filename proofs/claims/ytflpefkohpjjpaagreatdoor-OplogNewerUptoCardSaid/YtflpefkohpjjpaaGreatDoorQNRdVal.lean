/- (*codec.reader).value, kind by kind (printed by genval.py). -/
import Derived.Test.YtflpefkohpjjpaaGreatDoorQNRdr2
import Derived.Test.YtflpefkohpjjpaaGreatDoorQNNodes2
import Derived.Test.YtflpefkohpjjpaaGreatDoorQNAcc
set_option linter.unusedSimpArgs false
set_option linter.unusedVariables false
namespace Go.Proofs.YtflpefkohpjjpaaGreatDoor
open Go.RowKit
def iU(rb:Nat)(s:ByteArray)(w:World)(x:Except Int (Tr×Nat×Nat))(e:Ending)(w':World):Prop:=
 match x with
 |.ok (t,q,bg)=>∃v,e=.returned v∧iC w.heap.size w'.heap.size w' t v∧w'.heap[rb]?=some (bP s q bg)∧w.grownBy w' (some rb)
 |.error c=>e=.panicked (flt c)∧w.grownBy w' (some rb)
def Dt(s:ByteArray)(W0:World)(d:Nat):Prop:=∀(rb p bg:Nat) (lv:Int) (w:World),lv=17-d→p≤s.size→bg≤1024→Ext W0 w→W0.heap.size≤rb→w.heap[rb]?=some (bP s p bg)→
 Calls Tryz.prog 223 #[.pointer (some ⟨rb,0,none⟩),.int .i64 lv] w (iU rb s w (rdT s d p bg))
theorem dR(s:ByteArray)(rb p bg n:Nat)(x:Int)(hx:x=n)(w:World)(hs:s.size≤1000000000000000)(hp:p≤s.size)(hn:(n:Int)<9223372036854775808)(h:w.heap[rb]?=some (bP s p bg)):
 Calls Tryz.prog 284 #[.pointer (some ⟨rb,0,none⟩),.int .i64 x] w (vg rb s bg w (dL s p n)):=by subst hx;exact wP s rb p bg n w hs hp hn h
def kY(k bg:Nat):Except Int (Int×Nat)→Except Int (Tr×Nat×Nat)
 |.error e=>.error e
 |.ok (n,q)=>.ok (iD k n ⟨#[]⟩,q,bg+1)
def kZ(k bg:Nat):Except Int (ByteArray×Nat)→Except Int (Tr×Nat×Nat)
 |.error e=>.error e
 |.ok (t,q)=>.ok (iD k 0 t,q,bg+1)
def sQ(bg:Nat):Except Int (ByteArray×Nat)→Except Int (Tr×Nat×Nat)
 |.error e=>.error e
 |.ok (t,q)=>if rY t then .ok (iD 4 0 t,q,bg+1) else .error 4
theorem EZ{s:ByteArray}{p:Nat}{n:Int}{q:Nat}(h:dH s p=.ok (n,q)):I64 n:=by
 unfold dH nH at h
 cases hn:jq s p with
 |error e=>rw[hn] at h;cases h
 |ok nq=>
  obtain⟨m,r⟩:=nq
  rw[hn] at h
  simp only at h
  split at h
  ·injection h with h;injection h with h1 h2
   rw[←h1];exact wQ hn
  ·cases h
theorem iq{a b c:World}{g:Nat}(h:Ext a b)(k:b.grownBy c (some g))(hg:a.heap.size≤g):Ext a c:=h.Oq k hg
theorem eu(s:ByteArray)(p:Nat)(h:p<s.size):∃t1:ByteArray,s.extract p (p+1)=t1∧t1.size≤1∧∃(h0:0<t1.size),(t1[0]'h0).toNat=bM s p:=by
 have h0:0<(s.extract p (p+1)).size:=by simp;omega
 refine⟨_,rfl,by simp;omega,h0,?_⟩
 have e1:=byte_at (s.extract p (p+1)) 0 h0
 have e2:=byte_at s p h
 have e3:(s.extract p (p+1)).data.toList[0]?=s.data.toList[p]?:=by
  rw[ByteArray.data_extract];simp
 rw[e1,e2] at e3
 injection e3 with e3
 unfold bM
 rw[List.getD_eq_getElem?_getD,e2,e3];rfl
set_option maxRecDepth 20000 in
set_option maxHeartbeats 1000000 in
theorem val_zero(s:ByteArray)(rb p bg:Nat)(w:World)(hs:s.size≤1000000000000000)(h:w.heap[rb]?=some (bP s p bg)):
 Calls Tryz.prog 223 #[.pointer (some ⟨rb,0,none⟩),.int .i64 17] w (iU rb s w (.error 2)):=by
 have ck:=aN h
 have hrb:=dI h
 go_enter Tryz.func223,Tryz.ntmps223
 go_wp2_with fail
 refine(iM _ _).mono ?_
 rintro e w1 ⟨rfl,rfl⟩
 exact⟨rfl,rfl,aU (World.grownBy.refl _ _) _⟩
set_option maxRecDepth 20000 in
set_option maxHeartbeats 1000000 in
theorem Jz(s:ByteArray)(W0:World)(d rb p bg:Nat)(lv:Int)(w:World)(hs:s.size≤1000000000000000)(hlv:lv=16-d)(hd:d≤16)(hp:p≤s.size)(hbg:bg≤1024)(hE:Ext W0 w)(hrb0:W0.heap.size≤rb)(hT:Tabs W0)(h:w.heap[rb]?=some (bP s p bg))(hb:1024≤bg):
 Calls Tryz.prog 223 #[.pointer (some ⟨rb,0,none⟩),.int .i64 lv] w (iU rb s w (.error 2)):=by
 have ck:=aN h
 have hrb:=dI h
 have d0:decide (lv≤16)=true:=by simp;omega
 have d1:decide ((bg:Int)<1024)=false:=by simp;omega
 clear hT
 go_enter Tryz.func223,Tryz.ntmps223
 go_wp2_with fail
 refine(iM _ _).mono ?_
 rintro e w1 ⟨rfl,rfl⟩
 exact⟨rfl,rfl,aU (World.grownBy.refl _ _) _⟩
set_option maxRecDepth 20000 in
set_option maxHeartbeats 1000000 in
theorem E5(s:ByteArray)(W0:World)(d rb p bg:Nat)(lv:Int)(w:World)(hs:s.size≤1000000000000000)(hlv:lv=16-d)(hd:d≤16)(hp:p≤s.size)(hbg:bg≤1024)(hE:Ext W0 w)(hrb0:W0.heap.size≤rb)(hT:Tabs W0)(h:w.heap[rb]?=some (bP s p bg))(hb:bg<1024)(hps:p=s.size):
 Calls Tryz.prog 223 #[.pointer (some ⟨rb,0,none⟩),.int .i64 lv] w (iU rb s w (.error 5)):=by
 have ck:=aN h
 have cf:=aX h
 have hrb:=dI h
 have HT:=Lib.hid hT
 have H:=Lib.hid h
 have hne:rb≠w.heap.size:=by omega
 have d0:decide (lv≤16)=true:=by simp;omega
 have d1:decide ((bg:Int)<1024)=true:=by simp;omega
 have HLV:=Lib.hid hlv
 have hlv1:0≤lv∧lv≤16:=by omega
 clear hlv
 clear hT h
 go_enter Tryz.func223,Tryz.ntmps223
 go_wp2_with fail
 refine(dQ _ _).mono ?_
 rintro e w1 ⟨rfl,rfl⟩
 have HB2:=Lib.hid (aS (fV H.out ((bg:Int)+1) (bg':=bg+1) (by omega)) (.cells #[.int .i64 0,.int .i64 0,.string ⟨#[]⟩,.slice none 0 0,.slice none 0 0] 25))
 have HG2:Hid (w.grownBy ((w.setCell ⟨rb,2,none⟩ (.int .i64 ((bg:Int)+1))).alloc (.cells #[.int .i64 0,.int .i64 0,.string ⟨#[]⟩,.slice none 0 0,.slice none 0 0] 25)) (some rb)):=aU (aW (World.grownBy.refl _ _) (.inl rfl) _) _
 have HA2:Hid (((w.setCell ⟨rb,2,none⟩ (.int .i64 ((bg:Int)+1))).alloc (.cells #[.int .i64 0,.int .i64 0,.string ⟨#[]⟩,.slice none 0 0,.slice none 0 0] 25)).heap[w.heap.size]?=some (.cells #[.int .i64 0,.int .i64 0,.string ⟨#[]⟩,.slice none 0 0,.slice none 0 0] 25 (0,0))):=by
  have:=dF (w.setCell ⟨rb,2,none⟩ (.int .i64 ((bg:Int)+1))) (.cells #[.int .i64 0,.int .i64 0,.string ⟨#[]⟩,.slice none 0 0,.slice none 0 0] 25)
  rw[size_setCell] at this;exact this
 go_wp2_with fail
 clear ck
 refine(dR s rb p (bg+1) 1 1 rfl _ hs hp (by omega) HB2.out).mono ?_
 rw[show dL s p 1=.error 5 by unfold dL;rw[if_neg (by omega)]]
 rintro e w3 ⟨rfl,g3⟩
 exact⟨rfl,rfl,aT HG2.out g3⟩
set_option maxRecDepth 20000 in
set_option maxHeartbeats 2000000 in
theorem UC(s:ByteArray)(W0:World)(d rb p bg:Nat)(lv:Int)(w:World)(hs:s.size≤1000000000000000)(hlv:lv=16-d)(hd:d≤16)(hp:p≤s.size)(hbg:bg≤1024)(hE:Ext W0 w)(hrb0:W0.heap.size≤rb)(hT:Tabs W0)(h:w.heap[rb]?=some (bP s p bg))(hb:bg<1024)(hlt:p<s.size)(hk:bM s p=1):
 Calls Tryz.prog 223 #[.pointer (some ⟨rb,0,none⟩),.int .i64 lv] w (iU rb s w (.ok (iD 1 0 ⟨#[]⟩,p+1,bg+1))):=by
 have ck:=aN h
 have cf:=aX h
 have hrb:=dI h
 have HT:=Lib.hid hT
 have H:=Lib.hid h
 have hne:rb≠w.heap.size:=by omega
 have d0:decide (lv≤16)=true:=by simp;omega
 have d1:decide ((bg:Int)<1024)=true:=by simp;omega
 have HLV:=Lib.hid hlv
 have hlv1:0≤lv∧lv≤16:=by omega
 clear hlv
 clear hT h
 go_enter Tryz.func223,Tryz.ntmps223
 go_wp2_with fail
 refine(dQ _ _).mono ?_
 rintro e w1 ⟨rfl,rfl⟩
 have HB2:=Lib.hid (aS (fV H.out ((bg:Int)+1) (bg':=bg+1) (by omega)) (.cells #[.int .i64 0,.int .i64 0,.string ⟨#[]⟩,.slice none 0 0,.slice none 0 0] 25))
 have HG2:Hid (w.grownBy ((w.setCell ⟨rb,2,none⟩ (.int .i64 ((bg:Int)+1))).alloc (.cells #[.int .i64 0,.int .i64 0,.string ⟨#[]⟩,.slice none 0 0,.slice none 0 0] 25)) (some rb)):=aU (aW (World.grownBy.refl _ _) (.inl rfl) _) _
 have HA2:Hid (((w.setCell ⟨rb,2,none⟩ (.int .i64 ((bg:Int)+1))).alloc (.cells #[.int .i64 0,.int .i64 0,.string ⟨#[]⟩,.slice none 0 0,.slice none 0 0] 25)).heap[w.heap.size]?=some (.cells #[.int .i64 0,.int .i64 0,.string ⟨#[]⟩,.slice none 0 0,.slice none 0 0] 25 (0,0))):=by
  have:=dF (w.setCell ⟨rb,2,none⟩ (.int .i64 ((bg:Int)+1))) (.cells #[.int .i64 0,.int .i64 0,.string ⟨#[]⟩,.slice none 0 0,.slice none 0 0] 25)
  rw[size_setCell] at this;exact this
 go_wp2_with fail
 clear ck
 refine(dR s rb p (bg+1) 1 1 rfl _ hs hp (by omega) HB2.out).mono ?_
 rw[show dL s p 1=.ok (.string (s.extract p (p+1)),p+1) by unfold dL;rw[if_pos (by omega)]]
 rintro e w3 ⟨rfl,hb3,g3⟩
 obtain⟨t1,ht1,hz1,hz0,hzb⟩:=eu s p hlt
 rw[ht1]
 rw[hk] at hzb
 clear ht1
 have HB3:=Lib.hid hb3
 have HG3:=Lib.hid (aT HG2.out g3)
 have HA3:=Lib.hid (bD HA2.out g3 hne.symm)
 have s3:w.heap.size<w3.heap.size:=by have:=g3.size;simp[World.setCell] at this;omega
 have r3:rb<w3.heap.size:=by omega
 clear hb3 g3 HB2 HG2 HA2 H cf
 have ca:=aN HA3.out
 have fa:=aX HA3.out
 go_wp2_with fail
 refine bodyPost_ret (v:=.agg #[.int .i64 1,.int .i64 0,.string ⟨#[]⟩,.slice none 0 0,.slice none 0 0]) (by simp only[results,Tryz.results223];go_simp) rfl ⟨_,rfl,iC.leaf _ _ _ _ _ _ (by unfold I64;omega) (by unfold I64;omega) (by unfold maxLen;decide),?_,?_⟩
 ·exact(by repeat (first|with_reducible exact HB3.out|with_reducible refine aS ?_ _|((with_reducible refine dB ?_ ?_ _);rotate_left;(· first|(simp;omega)|omega))))
 ·exact(by repeat (first|with_reducible exact HG3.out|with_reducible refine dV ?_|with_reducible refine aU ?_ _|((with_reducible refine aW ?_ (.inr ?_) _);rotate_left;(· first|exact Nat.le_refl _|omega|(simp;done)|(simp;omega)))))
set_option maxRecDepth 20000 in
set_option maxHeartbeats 2000000 in
theorem UD(s:ByteArray)(W0:World)(d rb p bg:Nat)(lv:Int)(w:World)(hs:s.size≤1000000000000000)(hlv:lv=16-d)(hd:d≤16)(hp:p≤s.size)(hbg:bg≤1024)(hE:Ext W0 w)(hrb0:W0.heap.size≤rb)(hT:Tabs W0)(h:w.heap[rb]?=some (bP s p bg))(hb:bg<1024)(hlt:p<s.size)(hk:bM s p=2):
 Calls Tryz.prog 223 #[.pointer (some ⟨rb,0,none⟩),.int .i64 lv] w (iU rb s w (.ok (iD 2 0 ⟨#[]⟩,p+1,bg+1))):=by
 have ck:=aN h
 have cf:=aX h
 have hrb:=dI h
 have HT:=Lib.hid hT
 have H:=Lib.hid h
 have hne:rb≠w.heap.size:=by omega
 have d0:decide (lv≤16)=true:=by simp;omega
 have d1:decide ((bg:Int)<1024)=true:=by simp;omega
 have HLV:=Lib.hid hlv
 have hlv1:0≤lv∧lv≤16:=by omega
 clear hlv
 clear hT h
 go_enter Tryz.func223,Tryz.ntmps223
 go_wp2_with fail
 refine(dQ _ _).mono ?_
 rintro e w1 ⟨rfl,rfl⟩
 have HB2:=Lib.hid (aS (fV H.out ((bg:Int)+1) (bg':=bg+1) (by omega)) (.cells #[.int .i64 0,.int .i64 0,.string ⟨#[]⟩,.slice none 0 0,.slice none 0 0] 25))
 have HG2:Hid (w.grownBy ((w.setCell ⟨rb,2,none⟩ (.int .i64 ((bg:Int)+1))).alloc (.cells #[.int .i64 0,.int .i64 0,.string ⟨#[]⟩,.slice none 0 0,.slice none 0 0] 25)) (some rb)):=aU (aW (World.grownBy.refl _ _) (.inl rfl) _) _
 have HA2:Hid (((w.setCell ⟨rb,2,none⟩ (.int .i64 ((bg:Int)+1))).alloc (.cells #[.int .i64 0,.int .i64 0,.string ⟨#[]⟩,.slice none 0 0,.slice none 0 0] 25)).heap[w.heap.size]?=some (.cells #[.int .i64 0,.int .i64 0,.string ⟨#[]⟩,.slice none 0 0,.slice none 0 0] 25 (0,0))):=by
  have:=dF (w.setCell ⟨rb,2,none⟩ (.int .i64 ((bg:Int)+1))) (.cells #[.int .i64 0,.int .i64 0,.string ⟨#[]⟩,.slice none 0 0,.slice none 0 0] 25)
  rw[size_setCell] at this;exact this
 go_wp2_with fail
 clear ck
 refine(dR s rb p (bg+1) 1 1 rfl _ hs hp (by omega) HB2.out).mono ?_
 rw[show dL s p 1=.ok (.string (s.extract p (p+1)),p+1) by unfold dL;rw[if_pos (by omega)]]
 rintro e w3 ⟨rfl,hb3,g3⟩
 obtain⟨t1,ht1,hz1,hz0,hzb⟩:=eu s p hlt
 rw[ht1]
 rw[hk] at hzb
 clear ht1
 have HB3:=Lib.hid hb3
 have HG3:=Lib.hid (aT HG2.out g3)
 have HA3:=Lib.hid (bD HA2.out g3 hne.symm)
 have s3:w.heap.size<w3.heap.size:=by have:=g3.size;simp[World.setCell] at this;omega
 have r3:rb<w3.heap.size:=by omega
 clear hb3 g3 HB2 HG2 HA2 H cf
 have ca:=aN HA3.out
 have fa:=aX HA3.out
 go_wp2_with fail
 refine bodyPost_ret (v:=.agg #[.int .i64 2,.int .i64 0,.string ⟨#[]⟩,.slice none 0 0,.slice none 0 0]) (by simp only[results,Tryz.results223];go_simp) rfl ⟨_,rfl,iC.leaf _ _ _ _ _ _ (by unfold I64;omega) (by unfold I64;omega) (by unfold maxLen;decide),?_,?_⟩
 ·exact(by repeat (first|with_reducible exact HB3.out|with_reducible refine aS ?_ _|((with_reducible refine dB ?_ ?_ _);rotate_left;(· first|(simp;omega)|omega))))
 ·exact(by repeat (first|with_reducible exact HG3.out|with_reducible refine dV ?_|with_reducible refine aU ?_ _|((with_reducible refine aW ?_ (.inr ?_) _);rotate_left;(· first|exact Nat.le_refl _|omega|(simp;done)|(simp;omega)))))
set_option maxRecDepth 20000 in
set_option maxHeartbeats 2000000 in
theorem Py(s:ByteArray)(W0:World)(d rb p bg:Nat)(lv:Int)(w:World)(hs:s.size≤1000000000000000)(hlv:lv=16-d)(hd:d≤16)(hp:p≤s.size)(hbg:bg≤1024)(hE:Ext W0 w)(hrb0:W0.heap.size≤rb)(hT:Tabs W0)(h:w.heap[rb]?=some (bP s p bg))(hb:bg<1024)(hlt:p<s.size)(hk:bM s p=11):
 Calls Tryz.prog 223 #[.pointer (some ⟨rb,0,none⟩),.int .i64 lv] w (iU rb s w (.ok (iD 11 0 ⟨#[]⟩,p+1,bg+1))):=by
 have ck:=aN h
 have cf:=aX h
 have hrb:=dI h
 have HT:=Lib.hid hT
 have H:=Lib.hid h
 have hne:rb≠w.heap.size:=by omega
 have d0:decide (lv≤16)=true:=by simp;omega
 have d1:decide ((bg:Int)<1024)=true:=by simp;omega
 have HLV:=Lib.hid hlv
 have hlv1:0≤lv∧lv≤16:=by omega
 clear hlv
 clear hT h
 go_enter Tryz.func223,Tryz.ntmps223
 go_wp2_with fail
 refine(dQ _ _).mono ?_
 rintro e w1 ⟨rfl,rfl⟩
 have HB2:=Lib.hid (aS (fV H.out ((bg:Int)+1) (bg':=bg+1) (by omega)) (.cells #[.int .i64 0,.int .i64 0,.string ⟨#[]⟩,.slice none 0 0,.slice none 0 0] 25))
 have HG2:Hid (w.grownBy ((w.setCell ⟨rb,2,none⟩ (.int .i64 ((bg:Int)+1))).alloc (.cells #[.int .i64 0,.int .i64 0,.string ⟨#[]⟩,.slice none 0 0,.slice none 0 0] 25)) (some rb)):=aU (aW (World.grownBy.refl _ _) (.inl rfl) _) _
 have HA2:Hid (((w.setCell ⟨rb,2,none⟩ (.int .i64 ((bg:Int)+1))).alloc (.cells #[.int .i64 0,.int .i64 0,.string ⟨#[]⟩,.slice none 0 0,.slice none 0 0] 25)).heap[w.heap.size]?=some (.cells #[.int .i64 0,.int .i64 0,.string ⟨#[]⟩,.slice none 0 0,.slice none 0 0] 25 (0,0))):=by
  have:=dF (w.setCell ⟨rb,2,none⟩ (.int .i64 ((bg:Int)+1))) (.cells #[.int .i64 0,.int .i64 0,.string ⟨#[]⟩,.slice none 0 0,.slice none 0 0] 25)
  rw[size_setCell] at this;exact this
 go_wp2_with fail
 clear ck
 refine(dR s rb p (bg+1) 1 1 rfl _ hs hp (by omega) HB2.out).mono ?_
 rw[show dL s p 1=.ok (.string (s.extract p (p+1)),p+1) by unfold dL;rw[if_pos (by omega)]]
 rintro e w3 ⟨rfl,hb3,g3⟩
 obtain⟨t1,ht1,hz1,hz0,hzb⟩:=eu s p hlt
 rw[ht1]
 rw[hk] at hzb
 clear ht1
 have HB3:=Lib.hid hb3
 have HG3:=Lib.hid (aT HG2.out g3)
 have HA3:=Lib.hid (bD HA2.out g3 hne.symm)
 have s3:w.heap.size<w3.heap.size:=by have:=g3.size;simp[World.setCell] at this;omega
 have r3:rb<w3.heap.size:=by omega
 clear hb3 g3 HB2 HG2 HA2 H cf
 have ca:=aN HA3.out
 have fa:=aX HA3.out
 go_wp2_with fail
 refine bodyPost_ret (v:=.agg #[.int .i64 11,.int .i64 0,.string ⟨#[]⟩,.slice none 0 0,.slice none 0 0]) (by simp only[results,Tryz.results223];go_simp) rfl ⟨_,rfl,iC.leaf _ _ _ _ _ _ (by unfold I64;omega) (by unfold I64;omega) (by unfold maxLen;decide),?_,?_⟩
 ·exact(by repeat (first|with_reducible exact HB3.out|with_reducible refine aS ?_ _|((with_reducible refine dB ?_ ?_ _);rotate_left;(· first|(simp;omega)|omega))))
 ·exact(by repeat (first|with_reducible exact HG3.out|with_reducible refine dV ?_|with_reducible refine aU ?_ _|((with_reducible refine aW ?_ (.inr ?_) _);rotate_left;(· first|exact Nat.le_refl _|omega|(simp;done)|(simp;omega)))))
set_option maxRecDepth 20000 in
set_option maxHeartbeats 2000000 in
theorem UE(s:ByteArray)(W0:World)(d rb p bg:Nat)(lv:Int)(w:World)(hs:s.size≤1000000000000000)(hlv:lv=16-d)(hd:d≤16)(hp:p≤s.size)(hbg:bg≤1024)(hE:Ext W0 w)(hrb0:W0.heap.size≤rb)(hT:Tabs W0)(h:w.heap[rb]?=some (bP s p bg))(hb:bg<1024)(hlt:p<s.size)(hk:bM s p=3):
 Calls Tryz.prog 223 #[.pointer (some ⟨rb,0,none⟩),.int .i64 lv] w (iU rb s w (kY 3 bg (jq s (p+1)))):=by
 obtain⟨x,hx⟩:∃x,jq s (p+1)=x:=⟨_,rfl⟩
 obtain⟨r,hr⟩:∃r,kY 3 bg x=r:=⟨_,rfl⟩
 have HQ:=Lib.hid (fun n q (he:x=.ok (n,q))=>wQ (hx.trans he))
 rw[hx,hr]
 have HX:=Lib.hid hx
 have HR:=Lib.hid hr
 clear hx hr
 have ck:=aN h
 have cf:=aX h
 have hrb:=dI h
 have HT:=Lib.hid hT
 have H:=Lib.hid h
 have hne:rb≠w.heap.size:=by omega
 have d0:decide (lv≤16)=true:=by simp;omega
 have d1:decide ((bg:Int)<1024)=true:=by simp;omega
 have HLV:=Lib.hid hlv
 have hlv1:0≤lv∧lv≤16:=by omega
 clear hlv
 clear hT h
 go_enter Tryz.func223,Tryz.ntmps223
 go_wp2_with fail
 refine(dQ _ _).mono ?_
 rintro e w1 ⟨rfl,rfl⟩
 have HB2:=Lib.hid (aS (fV H.out ((bg:Int)+1) (bg':=bg+1) (by omega)) (.cells #[.int .i64 0,.int .i64 0,.string ⟨#[]⟩,.slice none 0 0,.slice none 0 0] 25))
 have HG2:Hid (w.grownBy ((w.setCell ⟨rb,2,none⟩ (.int .i64 ((bg:Int)+1))).alloc (.cells #[.int .i64 0,.int .i64 0,.string ⟨#[]⟩,.slice none 0 0,.slice none 0 0] 25)) (some rb)):=aU (aW (World.grownBy.refl _ _) (.inl rfl) _) _
 have HA2:Hid (((w.setCell ⟨rb,2,none⟩ (.int .i64 ((bg:Int)+1))).alloc (.cells #[.int .i64 0,.int .i64 0,.string ⟨#[]⟩,.slice none 0 0,.slice none 0 0] 25)).heap[w.heap.size]?=some (.cells #[.int .i64 0,.int .i64 0,.string ⟨#[]⟩,.slice none 0 0,.slice none 0 0] 25 (0,0))):=by
  have:=dF (w.setCell ⟨rb,2,none⟩ (.int .i64 ((bg:Int)+1))) (.cells #[.int .i64 0,.int .i64 0,.string ⟨#[]⟩,.slice none 0 0,.slice none 0 0] 25)
  rw[size_setCell] at this;exact this
 go_wp2_with fail
 clear ck
 refine(dR s rb p (bg+1) 1 1 rfl _ hs hp (by omega) HB2.out).mono ?_
 rw[show dL s p 1=.ok (.string (s.extract p (p+1)),p+1) by unfold dL;rw[if_pos (by omega)]]
 rintro e w3 ⟨rfl,hb3,g3⟩
 obtain⟨t1,ht1,hz1,hz0,hzb⟩:=eu s p hlt
 rw[ht1]
 rw[hk] at hzb
 clear ht1
 have HB3:=Lib.hid hb3
 have HG3:=Lib.hid (aT HG2.out g3)
 have HA3:=Lib.hid (bD HA2.out g3 hne.symm)
 have s3:w.heap.size<w3.heap.size:=by have:=g3.size;simp[World.setCell] at this;omega
 have r3:rb<w3.heap.size:=by omega
 clear hb3 g3 HB2 HG2 HA2 H cf
 have HVB:=Lib.hid (dF w3 (.cells #[.int .i64 3,.int .i64 0,.string ⟨#[]⟩,.slice none 0 0,.slice none 0 0] 25))
 have HG4:Hid (w.grownBy (w3.alloc (.cells #[.int .i64 3,.int .i64 0,.string ⟨#[]⟩,.slice none 0 0,.slice none 0 0] 25)) (some rb)):=aU HG3.out _
 go_wp2_with fail
 refine(BO s rb (p+1) (bg+1) _ hs (by omega) (aS HB3.out _)).mono ?_
 rw[HX.out]
 cases x with
 |error c=>
  have e:=HR.out
  simp only[kY] at e
  subst e
  rintro e w4 ⟨rfl,g4⟩
  exact⟨rfl,rfl,aT HG4.out g4⟩
 |ok nq=>
  obtain⟨n,q⟩:=nq
  have hq:=HQ.out n q rfl
  rintro e w4 ⟨rfl,hb4,g4⟩
  have HB4:=Lib.hid hb4
  have HG5:=Lib.hid (aT HG4.out g4)
  have HA4:=Lib.hid (bD (aS HA3.out (.cells #[.int .i64 3,.int .i64 0,.string ⟨#[]⟩,.slice none 0 0,.slice none 0 0] 25)) g4 hne.symm)
  have HV4:=Lib.hid (bD HVB.out g4 (by omega))
  have s4:w3.heap.size<w4.heap.size:=by have:=g4.size;simp at this;omega
  have ca:=aN HA4.out
  have fa:=aX HA4.out
  have cv:=aN HV4.out
  have fv:=aX HV4.out
  have hnv:¬w.heap.size=w3.heap.size:=by omega
  clear hb4 g4 HG4 HVB HB3 HG3 HA3
  have e:=HR.out
  simp only[kY] at e
  subst e
  go_wp2_with fail
  refine bodyPost_ret (v:=.agg #[.int .i64 3,.int .i64 n,.string ⟨#[]⟩,.slice none 0 0,.slice none 0 0]) (by simp only[results,Tryz.results223];go_simp) rfl ⟨_,rfl,iC.leaf _ _ _ _ _ _ (by unfold I64;omega) hq (by unfold maxLen;decide),?_,?_⟩
  ·exact(by repeat (first|with_reducible exact HB4.out|with_reducible refine aS ?_ _|((with_reducible refine dB ?_ ?_ _);rotate_left;(· first|(simp;omega)|omega))))
  ·exact(by repeat (first|with_reducible exact HG5.out|with_reducible refine dV ?_|with_reducible refine aU ?_ _|((with_reducible refine aW ?_ (.inr ?_) _);rotate_left;(· first|exact Nat.le_refl _|omega|(simp;done)|(simp;omega)))))
set_option maxRecDepth 20000 in
set_option maxHeartbeats 2000000 in
theorem Pz(s:ByteArray)(W0:World)(d rb p bg:Nat)(lv:Int)(w:World)(hs:s.size≤1000000000000000)(hlv:lv=16-d)(hd:d≤16)(hp:p≤s.size)(hbg:bg≤1024)(hE:Ext W0 w)(hrb0:W0.heap.size≤rb)(hT:Tabs W0)(h:w.heap[rb]?=some (bP s p bg))(hb:bg<1024)(hlt:p<s.size)(hk:bM s p=10):
 Calls Tryz.prog 223 #[.pointer (some ⟨rb,0,none⟩),.int .i64 lv] w (iU rb s w (kY 10 bg (dH s (p+1)))):=by
 obtain⟨x,hx⟩:∃x,dH s (p+1)=x:=⟨_,rfl⟩
 obtain⟨r,hr⟩:∃r,kY 10 bg x=r:=⟨_,rfl⟩
 have HQ:=Lib.hid (fun n q (he:x=.ok (n,q))=>EZ (hx.trans he))
 rw[hx,hr]
 have HX:=Lib.hid hx
 have HR:=Lib.hid hr
 clear hx hr
 have ck:=aN h
 have cf:=aX h
 have hrb:=dI h
 have HT:=Lib.hid hT
 have H:=Lib.hid h
 have hne:rb≠w.heap.size:=by omega
 have d0:decide (lv≤16)=true:=by simp;omega
 have d1:decide ((bg:Int)<1024)=true:=by simp;omega
 have HLV:=Lib.hid hlv
 have hlv1:0≤lv∧lv≤16:=by omega
 clear hlv
 clear hT h
 go_enter Tryz.func223,Tryz.ntmps223
 go_wp2_with fail
 refine(dQ _ _).mono ?_
 rintro e w1 ⟨rfl,rfl⟩
 have HB2:=Lib.hid (aS (fV H.out ((bg:Int)+1) (bg':=bg+1) (by omega)) (.cells #[.int .i64 0,.int .i64 0,.string ⟨#[]⟩,.slice none 0 0,.slice none 0 0] 25))
 have HG2:Hid (w.grownBy ((w.setCell ⟨rb,2,none⟩ (.int .i64 ((bg:Int)+1))).alloc (.cells #[.int .i64 0,.int .i64 0,.string ⟨#[]⟩,.slice none 0 0,.slice none 0 0] 25)) (some rb)):=aU (aW (World.grownBy.refl _ _) (.inl rfl) _) _
 have HA2:Hid (((w.setCell ⟨rb,2,none⟩ (.int .i64 ((bg:Int)+1))).alloc (.cells #[.int .i64 0,.int .i64 0,.string ⟨#[]⟩,.slice none 0 0,.slice none 0 0] 25)).heap[w.heap.size]?=some (.cells #[.int .i64 0,.int .i64 0,.string ⟨#[]⟩,.slice none 0 0,.slice none 0 0] 25 (0,0))):=by
  have:=dF (w.setCell ⟨rb,2,none⟩ (.int .i64 ((bg:Int)+1))) (.cells #[.int .i64 0,.int .i64 0,.string ⟨#[]⟩,.slice none 0 0,.slice none 0 0] 25)
  rw[size_setCell] at this;exact this
 go_wp2_with fail
 clear ck
 refine(dR s rb p (bg+1) 1 1 rfl _ hs hp (by omega) HB2.out).mono ?_
 rw[show dL s p 1=.ok (.string (s.extract p (p+1)),p+1) by unfold dL;rw[if_pos (by omega)]]
 rintro e w3 ⟨rfl,hb3,g3⟩
 obtain⟨t1,ht1,hz1,hz0,hzb⟩:=eu s p hlt
 rw[ht1]
 rw[hk] at hzb
 clear ht1
 have HB3:=Lib.hid hb3
 have HG3:=Lib.hid (aT HG2.out g3)
 have HA3:=Lib.hid (bD HA2.out g3 hne.symm)
 have s3:w.heap.size<w3.heap.size:=by have:=g3.size;simp[World.setCell] at this;omega
 have r3:rb<w3.heap.size:=by omega
 clear hb3 g3 HB2 HG2 HA2 H cf
 have HVB:=Lib.hid (dF w3 (.cells #[.int .i64 10,.int .i64 0,.string ⟨#[]⟩,.slice none 0 0,.slice none 0 0] 25))
 have HG4:Hid (w.grownBy (w3.alloc (.cells #[.int .i64 10,.int .i64 0,.string ⟨#[]⟩,.slice none 0 0,.slice none 0 0] 25)) (some rb)):=aU HG3.out _
 go_wp2_with fail
 refine(count_ok' s rb (p+1) (bg+1) _ hs (by omega) (aS HB3.out _)).mono ?_
 rw[HX.out]
 cases x with
 |error c=>
  have e:=HR.out
  simp only[kY] at e
  subst e
  rintro e w4 ⟨rfl,g4⟩
  exact⟨rfl,rfl,aT HG4.out g4⟩
 |ok nq=>
  obtain⟨n,q⟩:=nq
  have hq:=HQ.out n q rfl
  rintro e w4 ⟨rfl,hb4,g4⟩
  have HB4:=Lib.hid hb4
  have HG5:=Lib.hid (aT HG4.out g4)
  have HA4:=Lib.hid (bD (aS HA3.out (.cells #[.int .i64 10,.int .i64 0,.string ⟨#[]⟩,.slice none 0 0,.slice none 0 0] 25)) g4 hne.symm)
  have HV4:=Lib.hid (bD HVB.out g4 (by omega))
  have s4:w3.heap.size<w4.heap.size:=by have:=g4.size;simp at this;omega
  have ca:=aN HA4.out
  have fa:=aX HA4.out
  have cv:=aN HV4.out
  have fv:=aX HV4.out
  have hnv:¬w.heap.size=w3.heap.size:=by omega
  clear hb4 g4 HG4 HVB HB3 HG3 HA3
  have e:=HR.out
  simp only[kY] at e
  subst e
  go_wp2_with fail
  refine bodyPost_ret (v:=.agg #[.int .i64 10,.int .i64 n,.string ⟨#[]⟩,.slice none 0 0,.slice none 0 0]) (by simp only[results,Tryz.results223];go_simp) rfl ⟨_,rfl,iC.leaf _ _ _ _ _ _ (by unfold I64;omega) hq (by unfold maxLen;decide),?_,?_⟩
  ·exact(by repeat (first|with_reducible exact HB4.out|with_reducible refine aS ?_ _|((with_reducible refine dB ?_ ?_ _);rotate_left;(· first|(simp;omega)|omega))))
  ·exact(by repeat (first|with_reducible exact HG5.out|with_reducible refine dV ?_|with_reducible refine aU ?_ _|((with_reducible refine aW ?_ (.inr ?_) _);rotate_left;(· first|exact Nat.le_refl _|omega|(simp;done)|(simp;omega)))))
set_option maxRecDepth 20000 in
set_option maxHeartbeats 2000000 in
theorem UF(s:ByteArray)(W0:World)(d rb p bg:Nat)(lv:Int)(w:World)(hs:s.size≤1000000000000000)(hlv:lv=16-d)(hd:d≤16)(hp:p≤s.size)(hbg:bg≤1024)(hE:Ext W0 w)(hrb0:W0.heap.size≤rb)(hT:Tabs W0)(h:w.heap[rb]?=some (bP s p bg))(hb:bg<1024)(hlt:p<s.size)(hk:bM s p=7):
 Calls Tryz.prog 223 #[.pointer (some ⟨rb,0,none⟩),.int .i64 lv] w (iU rb s w (kZ 7 bg (textS s (p+1)))):=by
 obtain⟨x,hx⟩:∃x,textS s (p+1)=x:=⟨_,rfl⟩
 obtain⟨r,hr⟩:∃r,kZ 7 bg x=r:=⟨_,rfl⟩
 have HQ:=Lib.hid (fun n q (he:x=.ok (n,q))=>oJ (by omega) (hx.trans he))
 rw[hx,hr]
 have HX:=Lib.hid hx
 have HR:=Lib.hid hr
 clear hx hr
 have ck:=aN h
 have cf:=aX h
 have hrb:=dI h
 have HT:=Lib.hid hT
 have H:=Lib.hid h
 have hne:rb≠w.heap.size:=by omega
 have d0:decide (lv≤16)=true:=by simp;omega
 have d1:decide ((bg:Int)<1024)=true:=by simp;omega
 have HLV:=Lib.hid hlv
 have hlv1:0≤lv∧lv≤16:=by omega
 clear hlv
 clear hT h
 go_enter Tryz.func223,Tryz.ntmps223
 go_wp2_with fail
 refine(dQ _ _).mono ?_
 rintro e w1 ⟨rfl,rfl⟩
 have HB2:=Lib.hid (aS (fV H.out ((bg:Int)+1) (bg':=bg+1) (by omega)) (.cells #[.int .i64 0,.int .i64 0,.string ⟨#[]⟩,.slice none 0 0,.slice none 0 0] 25))
 have HG2:Hid (w.grownBy ((w.setCell ⟨rb,2,none⟩ (.int .i64 ((bg:Int)+1))).alloc (.cells #[.int .i64 0,.int .i64 0,.string ⟨#[]⟩,.slice none 0 0,.slice none 0 0] 25)) (some rb)):=aU (aW (World.grownBy.refl _ _) (.inl rfl) _) _
 have HA2:Hid (((w.setCell ⟨rb,2,none⟩ (.int .i64 ((bg:Int)+1))).alloc (.cells #[.int .i64 0,.int .i64 0,.string ⟨#[]⟩,.slice none 0 0,.slice none 0 0] 25)).heap[w.heap.size]?=some (.cells #[.int .i64 0,.int .i64 0,.string ⟨#[]⟩,.slice none 0 0,.slice none 0 0] 25 (0,0))):=by
  have:=dF (w.setCell ⟨rb,2,none⟩ (.int .i64 ((bg:Int)+1))) (.cells #[.int .i64 0,.int .i64 0,.string ⟨#[]⟩,.slice none 0 0,.slice none 0 0] 25)
  rw[size_setCell] at this;exact this
 go_wp2_with fail
 clear ck
 refine(dR s rb p (bg+1) 1 1 rfl _ hs hp (by omega) HB2.out).mono ?_
 rw[show dL s p 1=.ok (.string (s.extract p (p+1)),p+1) by unfold dL;rw[if_pos (by omega)]]
 rintro e w3 ⟨rfl,hb3,g3⟩
 obtain⟨t1,ht1,hz1,hz0,hzb⟩:=eu s p hlt
 rw[ht1]
 rw[hk] at hzb
 clear ht1
 have HB3:=Lib.hid hb3
 have HG3:=Lib.hid (aT HG2.out g3)
 have HA3:=Lib.hid (bD HA2.out g3 hne.symm)
 have s3:w.heap.size<w3.heap.size:=by have:=g3.size;simp[World.setCell] at this;omega
 have r3:rb<w3.heap.size:=by omega
 clear hb3 g3 HB2 HG2 HA2 H cf
 have HVB:=Lib.hid (dF w3 (.cells #[.int .i64 7,.int .i64 0,.string ⟨#[]⟩,.slice none 0 0,.slice none 0 0] 25))
 have HG4:Hid (w.grownBy (w3.alloc (.cells #[.int .i64 7,.int .i64 0,.string ⟨#[]⟩,.slice none 0 0,.slice none 0 0] 25)) (some rb)):=aU HG3.out _
 go_wp2_with fail
 refine(text_ok' s rb (p+1) (bg+1) _ hs (by omega) (aS HB3.out _)).mono ?_
 rw[HX.out]
 cases x with
 |error c=>
  have e:=HR.out
  simp only[kZ] at e
  subst e
  rintro e w4 ⟨rfl,g4⟩
  exact⟨rfl,rfl,aT HG4.out g4⟩
 |ok nq=>
  obtain⟨n,q⟩:=nq
  have hq:=HQ.out n q rfl
  rintro e w4 ⟨rfl,hb4,g4⟩
  have HB4:=Lib.hid hb4
  have HG5:=Lib.hid (aT HG4.out g4)
  have HA4:=Lib.hid (bD (aS HA3.out (.cells #[.int .i64 7,.int .i64 0,.string ⟨#[]⟩,.slice none 0 0,.slice none 0 0] 25)) g4 hne.symm)
  have HV4:=Lib.hid (bD HVB.out g4 (by omega))
  have s4:w3.heap.size<w4.heap.size:=by have:=g4.size;simp at this;omega
  have ca:=aN HA4.out
  have fa:=aX HA4.out
  have cv:=aN HV4.out
  have fv:=aX HV4.out
  have hnv:¬w.heap.size=w3.heap.size:=by omega
  clear hb4 g4 HG4 HVB HB3 HG3 HA3
  have e:=HR.out
  simp only[kZ] at e
  subst e
  go_wp2_with fail
  refine bodyPost_ret (v:=.agg #[.int .i64 7,.int .i64 0,.string n,.slice none 0 0,.slice none 0 0]) (by simp only[results,Tryz.results223];go_simp) rfl ⟨_,rfl,iC.leaf _ _ _ _ _ _ (by unfold I64;omega) (by unfold I64;omega) (by unfold maxLen;omega),?_,?_⟩
  ·exact(by repeat (first|with_reducible exact HB4.out|with_reducible refine aS ?_ _|((with_reducible refine dB ?_ ?_ _);rotate_left;(· first|(simp;omega)|omega))))
  ·exact(by repeat (first|with_reducible exact HG5.out|with_reducible refine dV ?_|with_reducible refine aU ?_ _|((with_reducible refine aW ?_ (.inr ?_) _);rotate_left;(· first|exact Nat.le_refl _|omega|(simp;done)|(simp;omega)))))
set_option maxRecDepth 20000 in
set_option maxHeartbeats 2000000 in
theorem UG(s:ByteArray)(W0:World)(d rb p bg:Nat)(lv:Int)(w:World)(hs:s.size≤1000000000000000)(hlv:lv=16-d)(hd:d≤16)(hp:p≤s.size)(hbg:bg≤1024)(hE:Ext W0 w)(hrb0:W0.heap.size≤rb)(hT:Tabs W0)(h:w.heap[rb]?=some (bP s p bg))(hb:bg<1024)(hlt:p<s.size)(hk:bM s p=8):
 Calls Tryz.prog 223 #[.pointer (some ⟨rb,0,none⟩),.int .i64 lv] w (iU rb s w (kZ 8 bg (jA s (p+1) 12))):=by
 obtain⟨x,hx⟩:∃x,jA s (p+1) 12=x:=⟨_,rfl⟩
 obtain⟨r,hr⟩:∃r,kZ 8 bg x=r:=⟨_,rfl⟩
 have HQ:=Lib.hid (fun n q (he:x=.ok (n,q))=>lM (by omega) (hx.trans he))
 rw[hx,hr]
 have HX:=Lib.hid hx
 have HR:=Lib.hid hr
 clear hx hr
 have ck:=aN h
 have cf:=aX h
 have hrb:=dI h
 have HT:=Lib.hid hT
 have H:=Lib.hid h
 have hne:rb≠w.heap.size:=by omega
 have d0:decide (lv≤16)=true:=by simp;omega
 have d1:decide ((bg:Int)<1024)=true:=by simp;omega
 have HLV:=Lib.hid hlv
 have hlv1:0≤lv∧lv≤16:=by omega
 clear hlv
 clear hT h
 go_enter Tryz.func223,Tryz.ntmps223
 go_wp2_with fail
 refine(dQ _ _).mono ?_
 rintro e w1 ⟨rfl,rfl⟩
 have HB2:=Lib.hid (aS (fV H.out ((bg:Int)+1) (bg':=bg+1) (by omega)) (.cells #[.int .i64 0,.int .i64 0,.string ⟨#[]⟩,.slice none 0 0,.slice none 0 0] 25))
 have HG2:Hid (w.grownBy ((w.setCell ⟨rb,2,none⟩ (.int .i64 ((bg:Int)+1))).alloc (.cells #[.int .i64 0,.int .i64 0,.string ⟨#[]⟩,.slice none 0 0,.slice none 0 0] 25)) (some rb)):=aU (aW (World.grownBy.refl _ _) (.inl rfl) _) _
 have HA2:Hid (((w.setCell ⟨rb,2,none⟩ (.int .i64 ((bg:Int)+1))).alloc (.cells #[.int .i64 0,.int .i64 0,.string ⟨#[]⟩,.slice none 0 0,.slice none 0 0] 25)).heap[w.heap.size]?=some (.cells #[.int .i64 0,.int .i64 0,.string ⟨#[]⟩,.slice none 0 0,.slice none 0 0] 25 (0,0))):=by
  have:=dF (w.setCell ⟨rb,2,none⟩ (.int .i64 ((bg:Int)+1))) (.cells #[.int .i64 0,.int .i64 0,.string ⟨#[]⟩,.slice none 0 0,.slice none 0 0] 25)
  rw[size_setCell] at this;exact this
 go_wp2_with fail
 clear ck
 refine(dR s rb p (bg+1) 1 1 rfl _ hs hp (by omega) HB2.out).mono ?_
 rw[show dL s p 1=.ok (.string (s.extract p (p+1)),p+1) by unfold dL;rw[if_pos (by omega)]]
 rintro e w3 ⟨rfl,hb3,g3⟩
 obtain⟨t1,ht1,hz1,hz0,hzb⟩:=eu s p hlt
 rw[ht1]
 rw[hk] at hzb
 clear ht1
 have HB3:=Lib.hid hb3
 have HG3:=Lib.hid (aT HG2.out g3)
 have HA3:=Lib.hid (bD HA2.out g3 hne.symm)
 have s3:w.heap.size<w3.heap.size:=by have:=g3.size;simp[World.setCell] at this;omega
 have r3:rb<w3.heap.size:=by omega
 clear hb3 g3 HB2 HG2 HA2 H cf
 have HVB:=Lib.hid (dF w3 (.cells #[.int .i64 8,.int .i64 0,.string ⟨#[]⟩,.slice none 0 0,.slice none 0 0] 25))
 have HG4:Hid (w.grownBy (w3.alloc (.cells #[.int .i64 8,.int .i64 0,.string ⟨#[]⟩,.slice none 0 0,.slice none 0 0] 25)) (some rb)):=aU HG3.out _
 go_wp2_with fail
 refine(dR s rb (p+1) (bg+1) 12 12 rfl _ hs (by omega) (by omega) (aS HB3.out _)).mono ?_
 rw[wR,HX.out]
 cases x with
 |error c=>
  have e:=HR.out
  simp only[kZ] at e
  subst e
  rintro e w4 ⟨rfl,g4⟩
  exact⟨rfl,rfl,aT HG4.out g4⟩
 |ok nq=>
  obtain⟨n,q⟩:=nq
  have hq:=HQ.out n q rfl
  rintro e w4 ⟨rfl,hb4,g4⟩
  have HB4:=Lib.hid hb4
  have HG5:=Lib.hid (aT HG4.out g4)
  have HA4:=Lib.hid (bD (aS HA3.out (.cells #[.int .i64 8,.int .i64 0,.string ⟨#[]⟩,.slice none 0 0,.slice none 0 0] 25)) g4 hne.symm)
  have HV4:=Lib.hid (bD HVB.out g4 (by omega))
  have s4:w3.heap.size<w4.heap.size:=by have:=g4.size;simp at this;omega
  have ca:=aN HA4.out
  have fa:=aX HA4.out
  have cv:=aN HV4.out
  have fv:=aX HV4.out
  have hnv:¬w.heap.size=w3.heap.size:=by omega
  clear hb4 g4 HG4 HVB HB3 HG3 HA3
  have e:=HR.out
  simp only[kZ] at e
  subst e
  go_wp2_with fail
  refine bodyPost_ret (v:=.agg #[.int .i64 8,.int .i64 0,.string n,.slice none 0 0,.slice none 0 0]) (by simp only[results,Tryz.results223];go_simp) rfl ⟨_,rfl,iC.leaf _ _ _ _ _ _ (by unfold I64;omega) (by unfold I64;omega) (by unfold maxLen;omega),?_,?_⟩
  ·exact(by repeat (first|with_reducible exact HB4.out|with_reducible refine aS ?_ _|((with_reducible refine dB ?_ ?_ _);rotate_left;(· first|(simp;omega)|omega))))
  ·exact(by repeat (first|with_reducible exact HG5.out|with_reducible refine dV ?_|with_reducible refine aU ?_ _|((with_reducible refine aW ?_ (.inr ?_) _);rotate_left;(· first|exact Nat.le_refl _|omega|(simp;done)|(simp;omega)))))
set_option maxRecDepth 20000 in
set_option maxHeartbeats 2000000 in
theorem UH(s:ByteArray)(W0:World)(d rb p bg:Nat)(lv:Int)(w:World)(hs:s.size≤1000000000000000)(hlv:lv=16-d)(hd:d≤16)(hp:p≤s.size)(hbg:bg≤1024)(hE:Ext W0 w)(hrb0:W0.heap.size≤rb)(hT:Tabs W0)(h:w.heap[rb]?=some (bP s p bg))(hb:bg<1024)(hlt:p<s.size)(hk:bM s p=4):
 Calls Tryz.prog 223 #[.pointer (some ⟨rb,0,none⟩),.int .i64 lv] w (iU rb s w (sQ bg (textS s (p+1)))):=by
 obtain⟨x,hx⟩:∃x,textS s (p+1)=x:=⟨_,rfl⟩
 obtain⟨r,hr⟩:∃r,sQ bg x=r:=⟨_,rfl⟩
 have HQ:=Lib.hid (fun n q (he:x=.ok (n,q))=>oJ (by omega) (hx.trans he))
 rw[hx,hr]
 have HX:=Lib.hid hx
 have HR:=Lib.hid hr
 clear hx hr
 have ck:=aN h
 have cf:=aX h
 have hrb:=dI h
 have HT:=Lib.hid hT
 have H:=Lib.hid h
 have hne:rb≠w.heap.size:=by omega
 have d0:decide (lv≤16)=true:=by simp;omega
 have d1:decide ((bg:Int)<1024)=true:=by simp;omega
 have HLV:=Lib.hid hlv
 have hlv1:0≤lv∧lv≤16:=by omega
 clear hlv
 clear hT h
 go_enter Tryz.func223,Tryz.ntmps223
 go_wp2_with fail
 refine(dQ _ _).mono ?_
 rintro e w1 ⟨rfl,rfl⟩
 have HB2:=Lib.hid (aS (fV H.out ((bg:Int)+1) (bg':=bg+1) (by omega)) (.cells #[.int .i64 0,.int .i64 0,.string ⟨#[]⟩,.slice none 0 0,.slice none 0 0] 25))
 have HG2:Hid (w.grownBy ((w.setCell ⟨rb,2,none⟩ (.int .i64 ((bg:Int)+1))).alloc (.cells #[.int .i64 0,.int .i64 0,.string ⟨#[]⟩,.slice none 0 0,.slice none 0 0] 25)) (some rb)):=aU (aW (World.grownBy.refl _ _) (.inl rfl) _) _
 have HA2:Hid (((w.setCell ⟨rb,2,none⟩ (.int .i64 ((bg:Int)+1))).alloc (.cells #[.int .i64 0,.int .i64 0,.string ⟨#[]⟩,.slice none 0 0,.slice none 0 0] 25)).heap[w.heap.size]?=some (.cells #[.int .i64 0,.int .i64 0,.string ⟨#[]⟩,.slice none 0 0,.slice none 0 0] 25 (0,0))):=by
  have:=dF (w.setCell ⟨rb,2,none⟩ (.int .i64 ((bg:Int)+1))) (.cells #[.int .i64 0,.int .i64 0,.string ⟨#[]⟩,.slice none 0 0,.slice none 0 0] 25)
  rw[size_setCell] at this;exact this
 go_wp2_with fail
 clear ck
 refine(dR s rb p (bg+1) 1 1 rfl _ hs hp (by omega) HB2.out).mono ?_
 rw[show dL s p 1=.ok (.string (s.extract p (p+1)),p+1) by unfold dL;rw[if_pos (by omega)]]
 rintro e w3 ⟨rfl,hb3,g3⟩
 obtain⟨t1,ht1,hz1,hz0,hzb⟩:=eu s p hlt
 rw[ht1]
 rw[hk] at hzb
 clear ht1
 have HB3:=Lib.hid hb3
 have HG3:=Lib.hid (aT HG2.out g3)
 have HA3:=Lib.hid (bD HA2.out g3 hne.symm)
 have s3:w.heap.size<w3.heap.size:=by have:=g3.size;simp[World.setCell] at this;omega
 have r3:rb<w3.heap.size:=by omega
 clear hb3 g3 HB2 HG2 HA2 H cf
 have HVB:=Lib.hid (dF w3 (.cells #[.int .i64 4,.int .i64 0,.string ⟨#[]⟩,.slice none 0 0,.slice none 0 0] 25))
 have HG4:Hid (w.grownBy (w3.alloc (.cells #[.int .i64 4,.int .i64 0,.string ⟨#[]⟩,.slice none 0 0,.slice none 0 0] 25)) (some rb)):=aU HG3.out _
 go_wp2_with fail
 refine(text_ok' s rb (p+1) (bg+1) _ hs (by omega) (aS HB3.out _)).mono ?_
 rw[HX.out]
 cases x with
 |error c=>
  have e:=HR.out
  simp only[sQ] at e
  subst e
  rintro e w4 ⟨rfl,g4⟩
  exact⟨rfl,rfl,aT HG4.out g4⟩
 |ok nq=>
  obtain⟨n,q⟩:=nq
  have hq:=HQ.out n q rfl
  rintro e w4 ⟨rfl,hb4,g4⟩
  have HB4:=Lib.hid hb4
  have HG5:=Lib.hid (aT HG4.out g4)
  have HA4:=Lib.hid (bD (aS HA3.out (.cells #[.int .i64 4,.int .i64 0,.string ⟨#[]⟩,.slice none 0 0,.slice none 0 0] 25)) g4 hne.symm)
  have HV4:=Lib.hid (bD HVB.out g4 (by omega))
  have s4:w3.heap.size<w4.heap.size:=by have:=g4.size;simp at this;omega
  have ca:=aN HA4.out
  have fa:=aX HA4.out
  have cv:=aN HV4.out
  have fv:=aX HV4.out
  have hnv:¬w.heap.size=w3.heap.size:=by omega
  clear hb4 g4 HG4 HVB HB3 HG3 HA3
  cases hu:rY n
  ·have e:=HR.out
   simp only[sQ,hu] at e
   simp only[Bool.false_eq_true,if_false] at e
   subst e
   go_wp2_with fail
   refine(jI n _ (by unfold maxLen;omega) (HT.out.ext ((iq hE HG5.out hrb0).setCell (by have:=hE.size;simp;omega) _))).mono ?_
   rintro e w5 ⟨rfl,h5⟩
   rw[hu]
   have HG6:Hid (w.grownBy w5 (some rb)):=aT (aW HG5.out (.inr (by simp;omega)) _) (h5.only _)
   clear hu h5
   go_wp2_with fail
   refine(iM _ _).mono ?_
   rintro e w6 ⟨rfl,rfl⟩
   exact⟨rfl,rfl,HG6.out⟩
  ·have e:=HR.out
   simp only[sQ,hu] at e
   simp only[if_true] at e
   subst e
   go_wp2_with fail
   refine(jI n _ (by unfold maxLen;omega) (HT.out.ext ((iq hE HG5.out hrb0).setCell (by have:=hE.size;simp;omega) _))).mono ?_
   rintro e w5 ⟨rfl,h5⟩
   rw[hu]
   have HG6:Hid (w.grownBy w5 (some rb)):=aT (aW HG5.out (.inr (by simp;omega)) _) (h5.only _)
   have HB6:=Lib.hid (vJ (dB HB4.out (by simp;omega) (.string n)) h5)
   have HA6:=Lib.hid (vJ (dB HA4.out (by simp;omega) (.string n)) h5)
   have HV6:=Lib.hid (vJ (gB HV4.out 2 (.string n)) h5)
   clear ca fa cv fv
   have ca:=aN HA6.out
   have fa:=aX HA6.out
   have cv:=aN HV6.out
   have fv:=aX HV6.out
   have s6:w4.heap.size≤w5.heap.size:=by have:=h5.size;simpa[World.setCell] using this
   clear hu h5
   go_wp2_with fail
   refine(dQ _ _).mono ?_
   rintro e w6 ⟨rfl,rfl⟩
   go_wp2_with fail
   refine bodyPost_ret (v:=.agg #[.int .i64 4,.int .i64 0,.string n,.slice none 0 0,.slice none 0 0]) (by simp only[results,Tryz.results223];go_simp) rfl ⟨_,rfl,iC.leaf _ _ _ _ _ _ (by unfold I64;omega) (by unfold I64;omega) (by unfold maxLen;omega),?_,?_⟩
   ·exact(by repeat (first|with_reducible exact HB6.out|with_reducible refine aS ?_ _|((with_reducible refine dB ?_ ?_ _);rotate_left;(· first|(simp;omega)|omega))))
   ·exact(by repeat (first|with_reducible exact HG6.out|with_reducible refine dV ?_|with_reducible refine aU ?_ _|((with_reducible refine aW ?_ (.inr ?_) _);rotate_left;(· first|exact Nat.le_refl _|omega|(simp;done)|(simp;omega)))))
set_option maxRecDepth 20000 in
set_option maxHeartbeats 2000000 in
theorem PD(s:ByteArray)(W0:World)(d rb p bg:Nat)(lv:Int)(w:World)(hs:s.size≤1000000000000000)(hlv:lv=16-d)(hd:d≤16)(hp:p≤s.size)(hbg:bg≤1024)(hE:Ext W0 w)(hrb0:W0.heap.size≤rb)(hT:Tabs W0)(h:w.heap[rb]?=some (bP s p bg))(hb:bg<1024)(hlt:p<s.size)(hk:bM s p=9)(h2:s.size≤p+1):
 Calls Tryz.prog 223 #[.pointer (some ⟨rb,0,none⟩),.int .i64 lv] w (iU rb s w (.error 5)):=by
 have ck:=aN h
 have cf:=aX h
 have hrb:=dI h
 have HT:=Lib.hid hT
 have H:=Lib.hid h
 have hne:rb≠w.heap.size:=by omega
 have d0:decide (lv≤16)=true:=by simp;omega
 have d1:decide ((bg:Int)<1024)=true:=by simp;omega
 have HLV:=Lib.hid hlv
 have hlv1:0≤lv∧lv≤16:=by omega
 clear hlv
 clear hT h
 go_enter Tryz.func223,Tryz.ntmps223
 go_wp2_with fail
 refine(dQ _ _).mono ?_
 rintro e w1 ⟨rfl,rfl⟩
 have HB2:=Lib.hid (aS (fV H.out ((bg:Int)+1) (bg':=bg+1) (by omega)) (.cells #[.int .i64 0,.int .i64 0,.string ⟨#[]⟩,.slice none 0 0,.slice none 0 0] 25))
 have HG2:Hid (w.grownBy ((w.setCell ⟨rb,2,none⟩ (.int .i64 ((bg:Int)+1))).alloc (.cells #[.int .i64 0,.int .i64 0,.string ⟨#[]⟩,.slice none 0 0,.slice none 0 0] 25)) (some rb)):=aU (aW (World.grownBy.refl _ _) (.inl rfl) _) _
 have HA2:Hid (((w.setCell ⟨rb,2,none⟩ (.int .i64 ((bg:Int)+1))).alloc (.cells #[.int .i64 0,.int .i64 0,.string ⟨#[]⟩,.slice none 0 0,.slice none 0 0] 25)).heap[w.heap.size]?=some (.cells #[.int .i64 0,.int .i64 0,.string ⟨#[]⟩,.slice none 0 0,.slice none 0 0] 25 (0,0))):=by
  have:=dF (w.setCell ⟨rb,2,none⟩ (.int .i64 ((bg:Int)+1))) (.cells #[.int .i64 0,.int .i64 0,.string ⟨#[]⟩,.slice none 0 0,.slice none 0 0] 25)
  rw[size_setCell] at this;exact this
 go_wp2_with fail
 clear ck
 refine(dR s rb p (bg+1) 1 1 rfl _ hs hp (by omega) HB2.out).mono ?_
 rw[show dL s p 1=.ok (.string (s.extract p (p+1)),p+1) by unfold dL;rw[if_pos (by omega)]]
 rintro e w3 ⟨rfl,hb3,g3⟩
 obtain⟨t1,ht1,hz1,hz0,hzb⟩:=eu s p hlt
 rw[ht1]
 rw[hk] at hzb
 clear ht1
 have HB3:=Lib.hid hb3
 have HG3:=Lib.hid (aT HG2.out g3)
 have HA3:=Lib.hid (bD HA2.out g3 hne.symm)
 have s3:w.heap.size<w3.heap.size:=by have:=g3.size;simp[World.setCell] at this;omega
 have r3:rb<w3.heap.size:=by omega
 clear hb3 g3 HB2 HG2 HA2 H cf
 have HVB:=Lib.hid (dF w3 (.cells #[.int .i64 9,.int .i64 0,.string ⟨#[]⟩,.slice none 0 0,.slice none 0 0] 25))
 have HG4:Hid (w.grownBy (w3.alloc (.cells #[.int .i64 9,.int .i64 0,.string ⟨#[]⟩,.slice none 0 0,.slice none 0 0] 25)) (some rb)):=aU HG3.out _
 go_wp2_with fail
 refine(dR s rb (p+1) (bg+1) 1 1 rfl _ hs (by omega) (by omega) (aS HB3.out _)).mono ?_
 rw[show dL s (p+1) 1=.error 5 by unfold dL;rw[if_neg (by omega)]]
 rintro e w4 ⟨rfl,g4⟩
 exact⟨rfl,rfl,aT HG4.out g4⟩
set_option maxRecDepth 20000 in
set_option maxHeartbeats 2000000 in
theorem PE(s:ByteArray)(W0:World)(d rb p bg:Nat)(lv:Int)(w:World)(hs:s.size≤1000000000000000)(hlv:lv=16-d)(hd:d≤16)(hp:p≤s.size)(hbg:bg≤1024)(hE:Ext W0 w)(hrb0:W0.heap.size≤rb)(hT:Tabs W0)(h:w.heap[rb]?=some (bP s p bg))(hb:bg<1024)(hlt:p<s.size)(hk:bM s p=9)(h2:p+1<s.size)(hb1:1<bM s (p+1)):
 Calls Tryz.prog 223 #[.pointer (some ⟨rb,0,none⟩),.int .i64 lv] w (iU rb s w (.error 4)):=by
 have ck:=aN h
 have cf:=aX h
 have hrb:=dI h
 have HT:=Lib.hid hT
 have H:=Lib.hid h
 have hne:rb≠w.heap.size:=by omega
 have d0:decide (lv≤16)=true:=by simp;omega
 have d1:decide ((bg:Int)<1024)=true:=by simp;omega
 have HLV:=Lib.hid hlv
 have hlv1:0≤lv∧lv≤16:=by omega
 clear hlv
 clear hT h
 go_enter Tryz.func223,Tryz.ntmps223
 go_wp2_with fail
 refine(dQ _ _).mono ?_
 rintro e w1 ⟨rfl,rfl⟩
 have HB2:=Lib.hid (aS (fV H.out ((bg:Int)+1) (bg':=bg+1) (by omega)) (.cells #[.int .i64 0,.int .i64 0,.string ⟨#[]⟩,.slice none 0 0,.slice none 0 0] 25))
 have HG2:Hid (w.grownBy ((w.setCell ⟨rb,2,none⟩ (.int .i64 ((bg:Int)+1))).alloc (.cells #[.int .i64 0,.int .i64 0,.string ⟨#[]⟩,.slice none 0 0,.slice none 0 0] 25)) (some rb)):=aU (aW (World.grownBy.refl _ _) (.inl rfl) _) _
 have HA2:Hid (((w.setCell ⟨rb,2,none⟩ (.int .i64 ((bg:Int)+1))).alloc (.cells #[.int .i64 0,.int .i64 0,.string ⟨#[]⟩,.slice none 0 0,.slice none 0 0] 25)).heap[w.heap.size]?=some (.cells #[.int .i64 0,.int .i64 0,.string ⟨#[]⟩,.slice none 0 0,.slice none 0 0] 25 (0,0))):=by
  have:=dF (w.setCell ⟨rb,2,none⟩ (.int .i64 ((bg:Int)+1))) (.cells #[.int .i64 0,.int .i64 0,.string ⟨#[]⟩,.slice none 0 0,.slice none 0 0] 25)
  rw[size_setCell] at this;exact this
 go_wp2_with fail
 clear ck
 refine(dR s rb p (bg+1) 1 1 rfl _ hs hp (by omega) HB2.out).mono ?_
 rw[show dL s p 1=.ok (.string (s.extract p (p+1)),p+1) by unfold dL;rw[if_pos (by omega)]]
 rintro e w3 ⟨rfl,hb3,g3⟩
 obtain⟨t1,ht1,hz1,hz0,hzb⟩:=eu s p hlt
 rw[ht1]
 rw[hk] at hzb
 clear ht1
 have HB3:=Lib.hid hb3
 have HG3:=Lib.hid (aT HG2.out g3)
 have HA3:=Lib.hid (bD HA2.out g3 hne.symm)
 have s3:w.heap.size<w3.heap.size:=by have:=g3.size;simp[World.setCell] at this;omega
 have r3:rb<w3.heap.size:=by omega
 clear hb3 g3 HB2 HG2 HA2 H cf
 have HVB:=Lib.hid (dF w3 (.cells #[.int .i64 9,.int .i64 0,.string ⟨#[]⟩,.slice none 0 0,.slice none 0 0] 25))
 have HG4:Hid (w.grownBy (w3.alloc (.cells #[.int .i64 9,.int .i64 0,.string ⟨#[]⟩,.slice none 0 0,.slice none 0 0] 25)) (some rb)):=aU HG3.out _
 go_wp2_with fail
 refine(dR s rb (p+1) (bg+1) 1 1 rfl _ hs (by omega) (by omega) (aS HB3.out _)).mono ?_
 rw[show dL s (p+1) 1=.ok (.string (s.extract (p+1) (p+1+1)),p+1+1) by unfold dL;rw[if_pos (by omega)]]
 obtain⟨t2,ht2,hy1,hy0,hyb⟩:=eu s (p+1) h2
 rw[ht2]
 obtain⟨bb,hbb⟩:∃b,bM s (p+1)=b:=⟨_,rfl⟩
 rw[hbb] at hyb hb1
 clear ht2 
 rintro e w4 ⟨rfl,hb4,g4⟩
 have HB4:=Lib.hid hb4
 have HG5:=Lib.hid (aT HG4.out g4)
 have HA4:=Lib.hid (bD (aS HA3.out (.cells #[.int .i64 9,.int .i64 0,.string ⟨#[]⟩,.slice none 0 0,.slice none 0 0] 25)) g4 hne.symm)
 have HV4:=Lib.hid (bD HVB.out g4 (by omega))
 have s4:w3.heap.size<w4.heap.size:=by have:=g4.size;simp at this;omega
 have ca:=aN HA4.out
 have fa:=aX HA4.out
 have cv:=aN HV4.out
 have fv:=aX HV4.out
 have hnv:¬w.heap.size=w3.heap.size:=by omega
 have HBB:=Lib.hid hbb
 clear hb4 g4 HG4 HVB HB3 HG3 HA3 hbb
 have db:decide ((bb:Int)≤1)=false:=by simp;omega
 have h256:bb<256:=by rw[←hyb];exact t2[0].toNat_lt
 go_wp2_with fail
 refine(iM _ _).mono ?_
 rintro e w6 ⟨rfl,rfl⟩
 exact⟨rfl,rfl,aW HG5.out (.inr (by simp;omega)) _⟩
set_option maxRecDepth 20000 in
set_option maxHeartbeats 2000000 in
theorem PG(s:ByteArray)(W0:World)(d rb p bg:Nat)(lv:Int)(w:World)(hs:s.size≤1000000000000000)(hlv:lv=16-d)(hd:d≤16)(hp:p≤s.size)(hbg:bg≤1024)(hE:Ext W0 w)(hrb0:W0.heap.size≤rb)(hT:Tabs W0)(h:w.heap[rb]?=some (bP s p bg))(hb:bg<1024)(hlt:p<s.size)(hk:bM s p=9)(h2:p+1<s.size)(hb1:bM s (p+1)≤1):
 Calls Tryz.prog 223 #[.pointer (some ⟨rb,0,none⟩),.int .i64 lv] w (iU rb s w (.ok (iD 9 (bM s (p+1)) ⟨#[]⟩,p+1+1,bg+1))):=by
 have ck:=aN h
 have cf:=aX h
 have hrb:=dI h
 have HT:=Lib.hid hT
 have H:=Lib.hid h
 have hne:rb≠w.heap.size:=by omega
 have d0:decide (lv≤16)=true:=by simp;omega
 have d1:decide ((bg:Int)<1024)=true:=by simp;omega
 have HLV:=Lib.hid hlv
 have hlv1:0≤lv∧lv≤16:=by omega
 clear hlv
 clear hT h
 go_enter Tryz.func223,Tryz.ntmps223
 go_wp2_with fail
 refine(dQ _ _).mono ?_
 rintro e w1 ⟨rfl,rfl⟩
 have HB2:=Lib.hid (aS (fV H.out ((bg:Int)+1) (bg':=bg+1) (by omega)) (.cells #[.int .i64 0,.int .i64 0,.string ⟨#[]⟩,.slice none 0 0,.slice none 0 0] 25))
 have HG2:Hid (w.grownBy ((w.setCell ⟨rb,2,none⟩ (.int .i64 ((bg:Int)+1))).alloc (.cells #[.int .i64 0,.int .i64 0,.string ⟨#[]⟩,.slice none 0 0,.slice none 0 0] 25)) (some rb)):=aU (aW (World.grownBy.refl _ _) (.inl rfl) _) _
 have HA2:Hid (((w.setCell ⟨rb,2,none⟩ (.int .i64 ((bg:Int)+1))).alloc (.cells #[.int .i64 0,.int .i64 0,.string ⟨#[]⟩,.slice none 0 0,.slice none 0 0] 25)).heap[w.heap.size]?=some (.cells #[.int .i64 0,.int .i64 0,.string ⟨#[]⟩,.slice none 0 0,.slice none 0 0] 25 (0,0))):=by
  have:=dF (w.setCell ⟨rb,2,none⟩ (.int .i64 ((bg:Int)+1))) (.cells #[.int .i64 0,.int .i64 0,.string ⟨#[]⟩,.slice none 0 0,.slice none 0 0] 25)
  rw[size_setCell] at this;exact this
 go_wp2_with fail
 clear ck
 refine(dR s rb p (bg+1) 1 1 rfl _ hs hp (by omega) HB2.out).mono ?_
 rw[show dL s p 1=.ok (.string (s.extract p (p+1)),p+1) by unfold dL;rw[if_pos (by omega)]]
 rintro e w3 ⟨rfl,hb3,g3⟩
 obtain⟨t1,ht1,hz1,hz0,hzb⟩:=eu s p hlt
 rw[ht1]
 rw[hk] at hzb
 clear ht1
 have HB3:=Lib.hid hb3
 have HG3:=Lib.hid (aT HG2.out g3)
 have HA3:=Lib.hid (bD HA2.out g3 hne.symm)
 have s3:w.heap.size<w3.heap.size:=by have:=g3.size;simp[World.setCell] at this;omega
 have r3:rb<w3.heap.size:=by omega
 clear hb3 g3 HB2 HG2 HA2 H cf
 have HVB:=Lib.hid (dF w3 (.cells #[.int .i64 9,.int .i64 0,.string ⟨#[]⟩,.slice none 0 0,.slice none 0 0] 25))
 have HG4:Hid (w.grownBy (w3.alloc (.cells #[.int .i64 9,.int .i64 0,.string ⟨#[]⟩,.slice none 0 0,.slice none 0 0] 25)) (some rb)):=aU HG3.out _
 go_wp2_with fail
 refine(dR s rb (p+1) (bg+1) 1 1 rfl _ hs (by omega) (by omega) (aS HB3.out _)).mono ?_
 rw[show dL s (p+1) 1=.ok (.string (s.extract (p+1) (p+1+1)),p+1+1) by unfold dL;rw[if_pos (by omega)]]
 obtain⟨t2,ht2,hy1,hy0,hyb⟩:=eu s (p+1) h2
 rw[ht2]
 obtain⟨bb,hbb⟩:∃b,bM s (p+1)=b:=⟨_,rfl⟩
 rw[hbb] at hyb hb1
 clear ht2 
 rintro e w4 ⟨rfl,hb4,g4⟩
 have HB4:=Lib.hid hb4
 have HG5:=Lib.hid (aT HG4.out g4)
 have HA4:=Lib.hid (bD (aS HA3.out (.cells #[.int .i64 9,.int .i64 0,.string ⟨#[]⟩,.slice none 0 0,.slice none 0 0] 25)) g4 hne.symm)
 have HV4:=Lib.hid (bD HVB.out g4 (by omega))
 have s4:w3.heap.size<w4.heap.size:=by have:=g4.size;simp at this;omega
 have ca:=aN HA4.out
 have fa:=aX HA4.out
 have cv:=aN HV4.out
 have fv:=aX HV4.out
 have hnv:¬w.heap.size=w3.heap.size:=by omega
 have HBB:=Lib.hid hbb
 clear hb4 g4 HG4 HVB HB3 HG3 HA3 hbb
 have db:decide ((bb:Int)≤1)=true:=by simp;omega
 go_wp2_with fail
 refine(dQ _ _).mono ?_
 rintro e w6 ⟨rfl,rfl⟩
 go_wp2_with fail
 refine bodyPost_ret (v:=.agg #[.int .i64 9,.int .i64 (bM s (p+1):Int),.string ⟨#[]⟩,.slice none 0 0,.slice none 0 0]) (by rw[HBB.out];simp only[results,Tryz.results223];go_simp) rfl ⟨_,rfl,iC.leaf _ _ _ _ _ _ (by unfold I64;omega) (by rw[HBB.out];unfold I64;omega) (by unfold maxLen;decide),?_,?_⟩
 ·exact(by repeat (first|with_reducible exact HB4.out|with_reducible refine aS ?_ _|((with_reducible refine dB ?_ ?_ _);rotate_left;(· first|(simp;omega)|omega))))
 ·exact(by repeat (first|with_reducible exact HG5.out|with_reducible refine dV ?_|with_reducible refine aU ?_ _|((with_reducible refine aW ?_ (.inr ?_) _);rotate_left;(· first|exact Nat.le_refl _|omega|(simp;done)|(simp;omega)))))
set_option maxRecDepth 20000 in
set_option maxHeartbeats 2000000 in
theorem UJ(s:ByteArray)(W0:World)(d rb p bg:Nat)(lv:Int)(w:World)(hs:s.size≤1000000000000000)(hlv:lv=16-d)(hd:d≤16)(hp:p≤s.size)(hbg:bg≤1024)(hE:Ext W0 w)(hrb0:W0.heap.size≤rb)(hT:Tabs W0)(h:w.heap[rb]?=some (bP s p bg))(hb:bg<1024)(hlt:p<s.size)(kk:Nat)(hk:bM s p=kk)(hkx:¬kk=1∧¬kk=2∧¬kk=3∧¬kk=4∧¬kk=5∧¬kk=6∧¬kk=7∧¬kk=8∧¬kk=9∧¬kk=10∧¬kk=11):
 Calls Tryz.prog 223 #[.pointer (some ⟨rb,0,none⟩),.int .i64 lv] w (iU rb s w (.error 4)):=by
 have ck:=aN h
 have cf:=aX h
 have hrb:=dI h
 have HT:=Lib.hid hT
 have H:=Lib.hid h
 have hne:rb≠w.heap.size:=by omega
 have d0:decide (lv≤16)=true:=by simp;omega
 have d1:decide ((bg:Int)<1024)=true:=by simp;omega
 have HLV:=Lib.hid hlv
 have hlv1:0≤lv∧lv≤16:=by omega
 clear hlv
 clear hT h
 go_enter Tryz.func223,Tryz.ntmps223
 go_wp2_with fail
 refine(dQ _ _).mono ?_
 rintro e w1 ⟨rfl,rfl⟩
 have HB2:=Lib.hid (aS (fV H.out ((bg:Int)+1) (bg':=bg+1) (by omega)) (.cells #[.int .i64 0,.int .i64 0,.string ⟨#[]⟩,.slice none 0 0,.slice none 0 0] 25))
 have HG2:Hid (w.grownBy ((w.setCell ⟨rb,2,none⟩ (.int .i64 ((bg:Int)+1))).alloc (.cells #[.int .i64 0,.int .i64 0,.string ⟨#[]⟩,.slice none 0 0,.slice none 0 0] 25)) (some rb)):=aU (aW (World.grownBy.refl _ _) (.inl rfl) _) _
 have HA2:Hid (((w.setCell ⟨rb,2,none⟩ (.int .i64 ((bg:Int)+1))).alloc (.cells #[.int .i64 0,.int .i64 0,.string ⟨#[]⟩,.slice none 0 0,.slice none 0 0] 25)).heap[w.heap.size]?=some (.cells #[.int .i64 0,.int .i64 0,.string ⟨#[]⟩,.slice none 0 0,.slice none 0 0] 25 (0,0))):=by
  have:=dF (w.setCell ⟨rb,2,none⟩ (.int .i64 ((bg:Int)+1))) (.cells #[.int .i64 0,.int .i64 0,.string ⟨#[]⟩,.slice none 0 0,.slice none 0 0] 25)
  rw[size_setCell] at this;exact this
 go_wp2_with fail
 clear ck
 refine(dR s rb p (bg+1) 1 1 rfl _ hs hp (by omega) HB2.out).mono ?_
 rw[show dL s p 1=.ok (.string (s.extract p (p+1)),p+1) by unfold dL;rw[if_pos (by omega)]]
 rintro e w3 ⟨rfl,hb3,g3⟩
 obtain⟨t1,ht1,hz1,hz0,hzb⟩:=eu s p hlt
 rw[ht1]
 rw[hk] at hzb
 clear ht1
 have HB3:=Lib.hid hb3
 have HG3:=Lib.hid (aT HG2.out g3)
 have HA3:=Lib.hid (bD HA2.out g3 hne.symm)
 have s3:w.heap.size<w3.heap.size:=by have:=g3.size;simp[World.setCell] at this;omega
 have r3:rb<w3.heap.size:=by omega
 clear hb3 g3 HB2 HG2 HA2 H cf
 have h256:kk<256:=by rw[←hzb];exact t1[0].toNat_lt
 obtain⟨n1,n2,n3,n4,n5,n6,n7,n8,n9,n10,n11⟩:=hkx
 have b1:((kk:Int)==1)=false:=beq_eq_false_iff_ne.2 (by omega)
 have b2:((kk:Int)==2)=false:=beq_eq_false_iff_ne.2 (by omega)
 have b3:((kk:Int)==3)=false:=beq_eq_false_iff_ne.2 (by omega)
 have b4:((kk:Int)==4)=false:=beq_eq_false_iff_ne.2 (by omega)
 have b5:((kk:Int)==5)=false:=beq_eq_false_iff_ne.2 (by omega)
 have b6:((kk:Int)==6)=false:=beq_eq_false_iff_ne.2 (by omega)
 have b7:((kk:Int)==7)=false:=beq_eq_false_iff_ne.2 (by omega)
 have b8:((kk:Int)==8)=false:=beq_eq_false_iff_ne.2 (by omega)
 have b9:((kk:Int)==9)=false:=beq_eq_false_iff_ne.2 (by omega)
 have b10:((kk:Int)==10)=false:=beq_eq_false_iff_ne.2 (by omega)
 have b11:((kk:Int)==11)=false:=beq_eq_false_iff_ne.2 (by omega)
 clear n1 n2 n3 n4 n5 n6 n7 n8 n9 n10 n11
 go_wp2_with fail
 exact⟨rfl,rfl,aU HG3.out _⟩
end Go.Proofs.YtflpefkohpjjpaaGreatDoor
