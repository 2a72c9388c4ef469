/- (*codec.reader).value at a document, and whole (printed by genval3.py). -/
import Derived.Test.YtflpefkohpjjpaaGreatDoorQNRdFld
set_option linter.unusedSimpArgs false
set_option linter.unusedVariables false
namespace Go.Proofs.YtflpefkohpjjpaaGreatDoor
open Go.RowKit
theorem jV.value{lo w0 hi:Nat}{w w':World}{x:Value}{ns:List ByteArray}{ts:List Tr}(h:jV lo w x ns ts)(hk:Same lo w w')(h0:w0≤lo)(hh:w.heap.size≤hi)(hl:ts.length*96≤140737488351232):
 iC w0 hi w' (.mk 5 0 ⟨#[]⟩ [] ns ts) (.agg #[.int .i64 5,.int .i64 0,.string ⟨#[]⟩,.slice none 0 0,x]):=by
 have hln:ns.length=ts.length:=by obtain⟨cs,_,h2⟩:=h;exact bH.len _ _ _ h2
 obtain⟨a,c,rfl,h1,h2,h3⟩:=h.O8 hh
 unfold iC fE
 refine⟨none,0,a,c,rfl,⟨by unfold maxLen;decide,by unfold I64;omega,by unfold I64;omega⟩,⟨Nat.le_refl _,by simp⟩,by unfold maxLen;omega,⟨h1,hl⟩,h2,hln,by unfold iw;trivial,?_⟩
 exact gQ.sub (iL (fun i hF hi=>⟨⟨by omega,hF.2⟩,hk i hF.1 hi⟩)) _ _ _ _ h3
def E8:Except Int ((List ByteArray×List Tr)×Nat×Nat)→Except Int (Tr×Nat×Nat)
 |.error e=>.error e
 |.ok ((ns,ds),q2,bg2)=>.ok (.mk 5 0 ⟨#[]⟩ [] ns ds,q2,bg2)
set_option maxRecDepth 20000 in
set_option maxHeartbeats 2000000 in
theorem UL(s:ByteArray)(W0:World)(d rb p bg:Nat)(lv:Int)(w:World)(hs:s.size≤1000000000000000)(hlv:lv=16-d)(hd:d≤16)(hp:p≤s.size)(hbg:bg≤1024)(hE:Ext W0 w)(hrb0:W0.heap.size≤rb)(hT:Tabs W0)(h:w.heap[rb]?=some (bP s p bg))(hb:bg<1024)(hlt:p<s.size)(hk:bM s p=5)(ih:Dt s W0 d):
 Calls Tryz.prog 223 #[.pointer (some ⟨rb,0,none⟩),.int .i64 lv] w (iU rb s w (E8 (wS s d (bg+1) (dH s (p+1))))):=by
 obtain⟨x,hx⟩:∃x,wS s d (bg+1) (dH s (p+1))=x:=⟨_,rfl⟩
 obtain⟨r,hr⟩:∃r,E8 x=r:=⟨_,rfl⟩
 rw[hx,hr]
 have HX:=Lib.hid hx
 have HR:=Lib.hid hr
 have HIH:=Lib.hid ih
 clear hx hr ih
 have ck:=aN h
 have cf:=aX h
 have hrb:=dI h
 have HT:=Lib.hid hT
 have H:=Lib.hid h
 have hne:rb≠w.heap.size:=by omega
 have d0:decide (lv≤16)=true:=by simp;omega
 have d1:decide ((bg:Int)<1024)=true:=by simp;omega
 have HLV:=Lib.hid hlv
 have hlv1:0≤lv∧lv≤16:=by omega
 clear hlv
 clear hT h
 go_enter Tryz.func223,Tryz.ntmps223
 go_wp2_with fail
 refine(dQ _ _).mono ?_
 rintro e w1 ⟨rfl,rfl⟩
 have HB2:=Lib.hid (aS (fV H.out ((bg:Int)+1) (bg':=bg+1) (by omega)) (.cells #[.int .i64 0,.int .i64 0,.string ⟨#[]⟩,.slice none 0 0,.slice none 0 0] 25))
 have HG2:Hid (w.grownBy ((w.setCell ⟨rb,2,none⟩ (.int .i64 ((bg:Int)+1))).alloc (.cells #[.int .i64 0,.int .i64 0,.string ⟨#[]⟩,.slice none 0 0,.slice none 0 0] 25)) (some rb)):=aU (aW (World.grownBy.refl _ _) (.inl rfl) _) _
 have HA2:Hid (((w.setCell ⟨rb,2,none⟩ (.int .i64 ((bg:Int)+1))).alloc (.cells #[.int .i64 0,.int .i64 0,.string ⟨#[]⟩,.slice none 0 0,.slice none 0 0] 25)).heap[w.heap.size]?=some (.cells #[.int .i64 0,.int .i64 0,.string ⟨#[]⟩,.slice none 0 0,.slice none 0 0] 25 (0,0))):=by
  have:=dF (w.setCell ⟨rb,2,none⟩ (.int .i64 ((bg:Int)+1))) (.cells #[.int .i64 0,.int .i64 0,.string ⟨#[]⟩,.slice none 0 0,.slice none 0 0] 25)
  rw[size_setCell] at this;exact this
 go_wp2_with fail
 clear ck
 refine(dR s rb p (bg+1) 1 1 rfl _ hs hp (by omega) HB2.out).mono ?_
 rw[show dL s p 1=.ok (.string (s.extract p (p+1)),p+1) by unfold dL;rw[if_pos (by omega)]]
 rintro e w3 ⟨rfl,hb3,g3⟩
 obtain⟨t1,ht1,hz1,hz0,hzb⟩:=eu s p hlt
 rw[ht1]
 rw[hk] at hzb
 clear ht1
 have HB3:=Lib.hid hb3
 have HG3:=Lib.hid (aT HG2.out g3)
 have HA3:=Lib.hid (bD HA2.out g3 hne.symm)
 have s3:w.heap.size<w3.heap.size:=by have:=g3.size;simp[World.setCell] at this;omega
 have r3:rb<w3.heap.size:=by omega
 clear hb3 g3 HB2 HG2 HA2 H cf
 have HVB:=Lib.hid (dF w3 (.cells #[.int .i64 5,.int .i64 0,.string ⟨#[]⟩,.slice none 0 0,.slice none 0 0] 25))
 have HG4:Hid (w.grownBy (w3.alloc (.cells #[.int .i64 5,.int .i64 0,.string ⟨#[]⟩,.slice none 0 0,.slice none 0 0] 25)) (some rb)):=aU HG3.out _
 have hwl:=jF (lv+1) (by omega) (by omega)
 go_wp2_with fail
 refine(PI s W0 d rb (p+1) (bg+1) _ _ hs (by have:=HLV.out;omega) (by omega) (by omega) ((iq hE HG3.out hrb0).alloc _) hrb0 (aS HB3.out _) HIH.out).mono ?_
 rw[HX.out]
 cases x with
 |error c=>
  have e:=HR.out
  simp only[E8] at e
  subst e
  rintro e w4 ⟨rfl,g4⟩
  exact⟨rfl,rfl,aT HG4.out g4⟩
 |ok nq=>
  obtain⟨⟨ns,ds⟩,q2,bg2⟩:=nq
  have e:=HR.out
  simp only[E8] at e
  subst e
  rintro e w4 ⟨v4,rfl,a4,hl4,hb4,g4⟩
  have HAcc:=Lib.hid a4
  have HB4:=Lib.hid hb4
  have HG5:=Lib.hid (aT HG4.out g4)
  have HA4:=Lib.hid (bD (aS HA3.out (.cells #[.int .i64 5,.int .i64 0,.string ⟨#[]⟩,.slice none 0 0,.slice none 0 0] 25)) g4 hne.symm)
  have HV4:=Lib.hid (bD HVB.out g4 (by omega))
  have s4:w3.heap.size<w4.heap.size:=by have:=g4.size;simp at this;omega
  have ca:=aN HA4.out
  have fa:=aX HA4.out
  have cv:=aN HV4.out
  have fv:=aX HV4.out
  have hnv:¬w.heap.size=w3.heap.size:=by omega
  obtain⟨ax,cx,rfl⟩:=HAcc.out.shape
  clear hb4 g4 HG4 HVB HB3 HG3 HA3 a4
  go_wp2_with fail
  refine bodyPost_ret (v:=.agg #[.int .i64 5,.int .i64 0,.string ⟨#[]⟩,.slice none 0 0,.slice ax ds.length cx]) (by simp only[results,Tryz.results223];go_simp) rfl ⟨_,rfl,HAcc.out.value (w0:=w.heap.size) ?_ (by simp;omega) ?_ (by omega),?_,?_⟩
  ·repeat (first|with_reducible exact Same.refl _ _|((with_reducible refine Same.setCell ?_ ?_ _);rotate_left;(· first|(simp;done)|(simp;omega))))
  ·simp[World.setCell]
  ·exact(by repeat (first|with_reducible exact HB4.out|with_reducible refine aS ?_ _|((with_reducible refine dB ?_ ?_ _);rotate_left;(· first|(simp;omega)|omega))))
  ·exact(by repeat (first|with_reducible exact HG5.out|with_reducible refine dV ?_|with_reducible refine aU ?_ _|((with_reducible refine aW ?_ (.inr ?_) _);rotate_left;(· first|exact Nat.le_refl _|omega|(simp;done)|(simp;omega)))))
theorem UM(s:ByteArray)(d p bg:Nat):rdT s (d+1) p bg=if 1024≤bg then .error 2 else if s.size≤p then .error 5 else
 if bM s p=1∨bM s p=2∨bM s p=11 then .ok (iD (bM s p) 0 ⟨#[]⟩,p+1,bg+1)
 else if bM s p=3 then kY 3 bg (jq s (p+1))
 else if bM s p=10 then kY 10 bg (dH s (p+1))
 else if bM s p=9 then(if s.size≤p+1 then .error 5 else if 1<bM s (p+1) then .error 4 else .ok (iD 9 (bM s (p+1)) ⟨#[]⟩,p+1+1,bg+1))
 else if bM s p=4 then sQ bg (textS s (p+1))
 else if bM s p=7 then kZ 7 bg (textS s (p+1))
 else if bM s p=8 then kZ 8 bg (jA s (p+1) 12)
 else if bM s p=6 then sU s d bg (dH s (p+1))
 else if bM s p=5 then E8 (wS s d (bg+1) (dH s (p+1))) else .error 4:=by
 rw[rdT]
 have e3:(match jq s (p+1) with|.error e=>.error e|.ok (n,q)=>.ok (iD 3 n ⟨#[]⟩,q,bg+1))=kY 3 bg (jq s (p+1)):=by cases jq s (p+1)<;>rfl
 have e10:(match dH s (p+1) with|.error e=>.error e|.ok (n,q)=>.ok (iD 10 n ⟨#[]⟩,q,bg+1))=kY 10 bg (dH s (p+1)):=by cases dH s (p+1)<;>rfl
 have e4:(match textS s (p+1) with|.error e=>.error e|.ok (t,q)=>if rY t then .ok (iD 4 0 t,q,bg+1) else .error 4)=sQ bg (textS s (p+1)):=by cases textS s (p+1)<;>rfl
 have e7:(match textS s (p+1) with|.error e=>.error e|.ok (t,q)=>.ok (iD 7 0 t,q,bg+1))=kZ 7 bg (textS s (p+1)):=by cases textS s (p+1)<;>rfl
 have e8:(match jA s (p+1) 12 with|.error e=>.error e|.ok (t,q)=>.ok (iD 8 0 t,q,bg+1))=kZ 8 bg (jA s (p+1) 12):=by cases jA s (p+1) 12<;>rfl
 have e6:(match dH s (p+1) with|.error e=>.error e|.ok (n,q)=>match rdL (rdT s d) n.toNat q (bg+1) [] with|.error e=>.error e|.ok (l,q2,bg2)=>.ok (.mk 6 0 ⟨#[]⟩ l [] [],q2,bg2))=sU s d bg (dH s (p+1)):=by cases dH s (p+1)<;>rfl
 have e5:(match dH s (p+1) with|.error e=>.error e|.ok (n,q)=>match rdF s (rdT s d) n.toNat q (bg+1) [] [] with|.error e=>.error e|.ok ((ns,ds),q2,bg2)=>.ok (.mk 5 0 ⟨#[]⟩ [] ns ds,q2,bg2))=E8 (wS s d (bg+1) (dH s (p+1))):=by
  cases dH s (p+1) with
  |error e=>rfl
  |ok nq=>obtain⟨n,q⟩:=nq;simp only[wS];cases rdF s (rdT s d) n.toNat q (bg+1) [] []<;>rfl
 rw[←e3,←e10,←e4,←e7,←e8,←e6,←e5]
 rfl
theorem val_ok(s:ByteArray)(W0:World)(hs:s.size≤1000000000000000)(hT:Tabs W0):∀d,d≤17→Dt s W0 d
 |0,_=>by
  intro rb p bg lv w hlv hp hbg hE hrb0 h
  obtain rfl:lv=17:=by omega
  exact val_zero s rb p bg w hs h
 |d+1,hd=>by
  intro rb p bg lv w hlv hp hbg hE hrb0 h
  have ih:=val_ok s W0 hs hT d (by omega)
  have hl:lv=16-d:=by omega
  rw[UM]
  by_cases c0:1024≤bg
  ·rw[if_pos c0];exact Jz s W0 d rb p bg lv w hs hl (by omega) hp hbg hE hrb0 hT h c0
  rw[if_neg c0]
  by_cases c1:s.size≤p
  ·rw[if_pos c1];exact E5 s W0 d rb p bg lv w hs hl (by omega) hp hbg hE hrb0 hT h (by omega) (by omega)
  rw[if_neg c1]
  by_cases c2:bM s p=1∨bM s p=2∨bM s p=11
  ·rw[if_pos c2]
   rcases c2 with c2|c2|c2
   ·rw[c2];exact UC s W0 d rb p bg lv w hs hl (by omega) hp hbg hE hrb0 hT h (by omega) (by omega) c2
   ·rw[c2];exact UD s W0 d rb p bg lv w hs hl (by omega) hp hbg hE hrb0 hT h (by omega) (by omega) c2
   ·rw[c2];exact Py s W0 d rb p bg lv w hs hl (by omega) hp hbg hE hrb0 hT h (by omega) (by omega) c2
  rw[if_neg c2]
  by_cases c3:bM s p=3
  ·rw[if_pos c3];exact UE s W0 d rb p bg lv w hs hl (by omega) hp hbg hE hrb0 hT h (by omega) (by omega) c3
  rw[if_neg c3]
  by_cases c4:bM s p=10
  ·rw[if_pos c4];exact Pz s W0 d rb p bg lv w hs hl (by omega) hp hbg hE hrb0 hT h (by omega) (by omega) c4
  rw[if_neg c4]
  by_cases c5:bM s p=9
  ·rw[if_pos c5]
   by_cases b1:s.size≤p+1
   ·rw[if_pos b1];exact PD s W0 d rb p bg lv w hs hl (by omega) hp hbg hE hrb0 hT h (by omega) (by omega) c5 b1
   rw[if_neg b1]
   by_cases b2:1<bM s (p+1)
   ·rw[if_pos b2];exact PE s W0 d rb p bg lv w hs hl (by omega) hp hbg hE hrb0 hT h (by omega) (by omega) c5 (by omega) b2
   rw[if_neg b2];exact PG s W0 d rb p bg lv w hs hl (by omega) hp hbg hE hrb0 hT h (by omega) (by omega) c5 (by omega) (by omega)
  rw[if_neg c5]
  by_cases c6:bM s p=4
  ·rw[if_pos c6];exact UH s W0 d rb p bg lv w hs hl (by omega) hp hbg hE hrb0 hT h (by omega) (by omega) c6
  rw[if_neg c6]
  by_cases c7:bM s p=7
  ·rw[if_pos c7];exact UF s W0 d rb p bg lv w hs hl (by omega) hp hbg hE hrb0 hT h (by omega) (by omega) c7
  rw[if_neg c7]
  by_cases c8:bM s p=8
  ·rw[if_pos c8];exact UG s W0 d rb p bg lv w hs hl (by omega) hp hbg hE hrb0 hT h (by omega) (by omega) c8
  rw[if_neg c8]
  by_cases c9:bM s p=6
  ·rw[if_pos c9];exact UK s W0 d rb p bg lv w hs hl (by omega) hp hbg hE hrb0 hT h (by omega) (by omega) c9 ih
  rw[if_neg c9]
  by_cases c10:bM s p=5
  ·rw[if_pos c10];exact UL s W0 d rb p bg lv w hs hl (by omega) hp hbg hE hrb0 hT h (by omega) (by omega) c10 ih
  rw[if_neg c10]
  exact UJ s W0 d rb p bg lv w hs hl (by omega) hp hbg hE hrb0 hT h (by omega) (by omega) _ rfl ⟨fun e=>c2 (.inl e),fun e=>c2 (.inr (.inl e)),c3,c6,c10,c9,c7,c8,c5,c4,fun e=>c2 (.inr (.inr e))⟩
end Go.Proofs.YtflpefkohpjjpaaGreatDoor
