/- (*codec.reader).value at a list (printed by genval2.py). -/
import Derived.Test.YtflpefkohpjjpaaGreatDoorQNRdVal
import Derived.Test.YtflpefkohpjjpaaGreatDoorQNRdLe
set_option linter.unusedSimpArgs false
set_option linter.unusedVariables false
namespace Go.Proofs.YtflpefkohpjjpaaGreatDoor
open Go.RowKit
def sU(s:ByteArray)(d bg:Nat):Except Int (Int×Nat)→Except Int (Tr×Nat×Nat)
 |.error e=>.error e
 |.ok (n,q)=>match rdL (rdT s d) n.toNat q (bg+1) [] with
  |.error e=>.error e
  |.ok (l,q2,bg2)=>.ok (.mk 6 0 ⟨#[]⟩ l [] [],q2,bg2)
def Du:Except Int (List Tr×Nat×Nat)→Except Int (Tr×Nat×Nat)
 |.error e=>.error e
 |.ok (l,q2,bg2)=>.ok (.mk 6 0 ⟨#[]⟩ l [] [],q2,bg2)
theorem JC(s:ByteArray)(d bg:Nat)(n:Int)(q:Nat):sU s d bg (.ok (n,q))=Du (rdL (rdT s d) n.toNat q (bg+1) []):=by
 simp only[sU];cases rdL (rdT s d) n.toNat q (bg+1) []<;>rfl
theorem Same.refl(lo:Nat)(w:World):Same lo w w:=fun _ _ _=>rfl
theorem Same.trans{lo:Nat}{a b c:World}(h:Same lo a b)(hs:a.heap.size≤b.heap.size)(k:Same lo b c):Same lo a c:=fun i hi hl=>(k i hi (by omega)).trans (h i hi hl)
theorem Same.alloc{lo:Nat}{a w:World}(h:Same lo a w)(hs:a.heap.size≤w.heap.size)(o:Obj):Same lo a (w.alloc o):=fun i hi hl=>(Below.heap_alloc w o i (by omega)).trans (h i hi hl)
theorem Same.setCell{lo:Nat}{a w:World}(h:Same lo a w){p:Addr}(hp:p.block<lo)(u:Value):Same lo a (w.setCell p u):=fun i hi hl=>(Below.heap_setCell w p u i (by rintro rfl;omega)).trans (h i hi hl)
theorem Same.drew{lo:Nat}{a w:World}(h:Same lo a w):Same lo a w.drew:=h
theorem Same.drewN{lo:Nat}{a w:World}(h:Same lo a w)(n:Nat):Same lo a (w.drewN n):=h
theorem Same.only{lo:Nat}{a w w':World}{g:Nat}(h:Same lo a w)(hs:a.heap.size≤w.heap.size)(k:w.grownBy w' (some g))(hg:g<lo):Same lo a w':=fun i hi hl=>(k.block i (by omega) (by intro e;injection e with e;omega)).trans (h i hi hl)
theorem nI.value{lo w0 hi:Nat}{w w':World}{x:Value}{ts:List Tr}(h:nI lo w x ts)(hk:Same lo w w')(h0:w0≤lo)(hh:w.heap.size≤hi)(hl:ts.length*80≤140737488351232):
 iC w0 hi w' (.mk 6 0 ⟨#[]⟩ ts [] []) (.agg #[.int .i64 6,.int .i64 0,.string ⟨#[]⟩,x,.slice none 0 0]):=by
 obtain⟨a,c,rfl,h1,h2,h3⟩:=h.EX hh
 unfold iC fE
 refine⟨a,c,none,0,rfl,⟨by unfold maxLen;decide,by unfold I64;omega,by unfold I64;omega⟩,⟨h1,hl⟩,h2,⟨Nat.le_refl _,by simp⟩,by unfold maxLen;omega,rfl,?_,by unfold gQ;trivial⟩
 exact iw.sub (iL (fun i hF hi=>⟨⟨by omega,hF.2⟩,hk i hF.1 hi⟩)) _ _ _ h3
set_option maxRecDepth 20000 in
set_option maxHeartbeats 2000000 in
theorem UK(s:ByteArray)(W0:World)(d rb p bg:Nat)(lv:Int)(w:World)(hs:s.size≤1000000000000000)(hlv:lv=16-d)(hd:d≤16)(hp:p≤s.size)(hbg:bg≤1024)(hE:Ext W0 w)(hrb0:W0.heap.size≤rb)(hT:Tabs W0)(h:w.heap[rb]?=some (bP s p bg))(hb:bg<1024)(hlt:p<s.size)(hk:bM s p=6)(ih:Dt s W0 d):
 Calls Tryz.prog 223 #[.pointer (some ⟨rb,0,none⟩),.int .i64 lv] w (iU rb s w (sU s d bg (dH s (p+1)))):=by
 obtain⟨x,hx⟩:∃x,dH s (p+1)=x:=⟨_,rfl⟩
 obtain⟨r,hr⟩:∃r,sU s d bg x=r:=⟨_,rfl⟩
 have HQ:=Lib.hid (fun n q (he:x=.ok (n,q))=>iZ (by omega) (hx.trans he))
 rw[hx,hr]
 have HX:=Lib.hid hx
 have HR:=Lib.hid hr
 clear hx hr
 have ck:=aN h
 have cf:=aX h
 have hrb:=dI h
 have HT:=Lib.hid hT
 have H:=Lib.hid h
 have hne:rb≠w.heap.size:=by omega
 have d0:decide (lv≤16)=true:=by simp;omega
 have d1:decide ((bg:Int)<1024)=true:=by simp;omega
 have HLV:=Lib.hid hlv
 have hlv1:0≤lv∧lv≤16:=by omega
 clear hlv
 clear hT h
 go_enter Tryz.func223,Tryz.ntmps223
 go_wp2_with fail
 refine(dQ _ _).mono ?_
 rintro e w1 ⟨rfl,rfl⟩
 have HB2:=Lib.hid (aS (fV H.out ((bg:Int)+1) (bg':=bg+1) (by omega)) (.cells #[.int .i64 0,.int .i64 0,.string ⟨#[]⟩,.slice none 0 0,.slice none 0 0] 25))
 have HG2:Hid (w.grownBy ((w.setCell ⟨rb,2,none⟩ (.int .i64 ((bg:Int)+1))).alloc (.cells #[.int .i64 0,.int .i64 0,.string ⟨#[]⟩,.slice none 0 0,.slice none 0 0] 25)) (some rb)):=aU (aW (World.grownBy.refl _ _) (.inl rfl) _) _
 have HA2:Hid (((w.setCell ⟨rb,2,none⟩ (.int .i64 ((bg:Int)+1))).alloc (.cells #[.int .i64 0,.int .i64 0,.string ⟨#[]⟩,.slice none 0 0,.slice none 0 0] 25)).heap[w.heap.size]?=some (.cells #[.int .i64 0,.int .i64 0,.string ⟨#[]⟩,.slice none 0 0,.slice none 0 0] 25 (0,0))):=by
  have:=dF (w.setCell ⟨rb,2,none⟩ (.int .i64 ((bg:Int)+1))) (.cells #[.int .i64 0,.int .i64 0,.string ⟨#[]⟩,.slice none 0 0,.slice none 0 0] 25)
  rw[size_setCell] at this;exact this
 go_wp2_with fail
 clear ck
 refine(dR s rb p (bg+1) 1 1 rfl _ hs hp (by omega) HB2.out).mono ?_
 rw[show dL s p 1=.ok (.string (s.extract p (p+1)),p+1) by unfold dL;rw[if_pos (by omega)]]
 rintro e w3 ⟨rfl,hb3,g3⟩
 obtain⟨t1,ht1,hz1,hz0,hzb⟩:=eu s p hlt
 rw[ht1]
 rw[hk] at hzb
 clear ht1
 have HB3:=Lib.hid hb3
 have HG3:=Lib.hid (aT HG2.out g3)
 have HA3:=Lib.hid (bD HA2.out g3 hne.symm)
 have s3:w.heap.size<w3.heap.size:=by have:=g3.size;simp[World.setCell] at this;omega
 have r3:rb<w3.heap.size:=by omega
 clear hb3 g3 HB2 HG2 HA2 H cf
 have HVB:=Lib.hid (dF w3 (.cells #[.int .i64 6,.int .i64 0,.string ⟨#[]⟩,.slice none 0 0,.slice none 0 0] 25))
 have HG4:Hid (w.grownBy (w3.alloc (.cells #[.int .i64 6,.int .i64 0,.string ⟨#[]⟩,.slice none 0 0,.slice none 0 0] 25)) (some rb)):=aU HG3.out _
 go_wp2_with fail
 refine(count_ok' s rb (p+1) (bg+1) _ hs (by omega) (aS HB3.out _)).mono ?_
 rw[HX.out]
 cases x with
 |error c=>
  have e:=HR.out
  simp only[sU] at e
  subst e
  rintro e w4 ⟨rfl,g4⟩
  exact⟨rfl,rfl,aT HG4.out g4⟩
 |ok nq=>
  obtain⟨n,q⟩:=nq
  have hq:=HQ.out n q rfl
  rintro e w4 ⟨rfl,hb4,g4⟩
  have HB4:=Lib.hid hb4
  have HG5:=Lib.hid (aT HG4.out g4)
  have HA4:=Lib.hid (bD (aS HA3.out (.cells #[.int .i64 6,.int .i64 0,.string ⟨#[]⟩,.slice none 0 0,.slice none 0 0] 25)) g4 hne.symm)
  have HV4:=Lib.hid (bD HVB.out g4 (by omega))
  have s4:w3.heap.size<w4.heap.size:=by have:=g4.size;simp at this;omega
  have ca:=aN HA4.out
  have fa:=aX HA4.out
  have cv:=aN HV4.out
  have fv:=aX HV4.out
  have hnv:¬w.heap.size=w3.heap.size:=by omega
  clear hb4 g4 HG4 HVB HB3 HG3 HA3
  have e:=HR.out
  rw[JC] at e
  obtain⟨m,hm⟩:∃m:Nat,n=m:=Int.eq_ofNat_of_zero_le hq.2.2.1
  subst hm
  rw[Int.toNat_natCast] at e
  have HRR:=Lib.hid e
  have hLV:=HLV.out
  clear e HR hLV
  have lo0:w3.heap.size<w4.heap.size:=s4
  have HIH:=Lib.hid ih
  clear ih
  go_wp2_with fail
  go_loopw [80] (fun c wr=>∃(j:Nat) (ts:List Tr) (q' b':Nat) (x:Value),j≤m∧c=.int .i64 j∧Hid (Du (rdL (rdT s d) (m-j) q' b' ts)=r)∧q'≤s.size∧b'≤1024∧ts.length≤b'∧Hid (wr.heap[rb]?=some (bP s q' b'))∧Hid (wr.heap[w3.heap.size]?=some (.cells #[.int .i64 6,.int .i64 0,.string ⟨#[]⟩,x,.slice none 0 0] 25 (0,0)))∧
   Hid (wr.heap[w.heap.size]?=some (.cells #[.int .i64 0,.int .i64 0,.string ⟨#[]⟩,.slice none 0 0,.slice none 0 0] 25 (0,0)))∧Hid (nI w4.heap.size wr x ts)∧Hid (w.grownBy wr (some rb))∧w4.heap.size≤wr.heap.size) (fun c _=>m-(intOf c).toNat)
  case atStart=>exact⟨0,[],q,bg+1,_,by omega,rfl,HRR,hq.2.1,by omega,by simp,HB4,HV4,HA4,nI.nil _ _,HG5,Nat.le_refl _⟩
  case round=>
   obtain⟨j,ts,q',b',x,hj,rfl,HF,hq',hb',htl,HBr,HVr,HAr,HAcc,HGr,hsr⟩:=hrel
   clear ca fa cv fv
   obtain⟨ax,cx,rfl⟩:=HAcc.out.shape
   have cv:=aN HVr.out
   have fv:=aX HVr.out
   by_cases hjm:j<m
   ·have hF:=HF.out
    rw[show m-j=(m-(j+1))+1 by omega] at hF
    simp only[rdL] at hF
    have HF2:=Lib.hid hF
    have hwl:=jF (lv+1) (by omega) (by omega)
    have hvl:w3.heap.size<wr.heap.size:=by omega
    clear hF HF
    go_wp2_with fail
    refine qN (fun c ds W=>ds=[]∧iU rb s w r (.panicked c) W) (fun W=>W.heap[w3.heap.size]?=some (.cells #[.int .i64 6,.int .i64 0,.string ⟨#[]⟩,.slice ax ts.length cx,.slice none 0 0] 25 (0,0))) 9 [(true,0),(true,1),(true,2),(true,3),(true,4),(false,5),(false,6),(false,7),(true,8),(false,9)] (by kernel_rfl) (by kernel_rfl) (by kernel_rfl) (by kernel_rfl) (by kernel_rfl) (by kernel_rfl) (fun _ _ _ h=>h) ?hS ?_
    case hS=>exact HVr.out
    repeat (first|(refine yX (v:=?_) rfl rfl ?_ ?_;rotate_left;(· intro wq hSq;have cq:=aN hSq;go_simp;try (with_reducible rfl));simp only[Act.put,List.setIfInBounds_toArray,List.set_cons_zero,List.set_cons_succ,List.getElem_toArray,List.getElem_cons_zero,List.getElem_cons_succ])|(refine yY rfl rfl ?_;simp only[Act.put,List.setIfInBounds_toArray,List.set_cons_zero,List.set_cons_succ,List.getElem_toArray,List.getElem_cons_zero,List.getElem_cons_succ]))
    refine og rfl rfl (fun K hK=>?_)
    go_simp
    refine(HIH.out rb q' b' (lv+1) _ (by have:=HLV.out;omega) hq' hb' (iq hE HGr.out hrb0).drew hrb0 HBr.out).mono ?_
    obtain⟨y,hy⟩:∃y,rdT s d q' b'=y:=⟨_,rfl⟩
    have hgo:=sS s d q' b'
    rw[hy] at hgo HF2 ⊢
    have HGo:=Lib.hid hgo
    clear hy hgo
    cases y with
    |error c=>
     have e:=HF2.out
     simp only[Du] at e
     subst e
     rintro e w5 ⟨rfl,g5⟩
     exact⟨rfl,rfl,aT (dV HGr.out) g5⟩
    |ok tqb=>
     obtain⟨t5,q5,b5⟩:=tqb
     have hg5:=HGo.out t5 q5 b5 hq' hb' rfl
     rintro e w5 ⟨v5,rfl,hv5,hb5,g5⟩
     have HF3:=Lib.hid HF2.out
     simp only at HF3
     have HB5:=Lib.hid hb5
     have HG5':=Lib.hid (aT (dV HGr.out) g5)
     have HV5:=Lib.hid (bD (w:=wr.drew) HVr.out g5 (by omega))
     have HA5:=Lib.hid (bD (w:=wr.drew) HAr.out g5 hne.symm)
     have sz5:wr.heap.size≤w5.heap.size:=g5.size
     have HSm:Hid (Same w4.heap.size wr w5):=Same.only (w:=wr.drew) (Same.refl _ wr).drew (Nat.le_refl _) g5 (by omega)
     have HAcc5:=Lib.hid (HAcc.out.keep HSm.out)
     have HW5:Hid (iC wr.heap.size w5.heap.size w5 t5 v5):=hv5
     obtain⟨k',i',s',la',ln',lc',da',dn',dc',rfl⟩:=fE.shape (show fE (win _ w5) t5 v5 from HW5.out)
     have hown:∀g,(Value.slice ax ts.length cx).ownBlock=some g→w4.heap.size≤g∧g<wr.heap.size:=fun g hg=>by
      obtain⟨cs,ho,_⟩:=HAcc.out
      exact ho.lt g hg
     have HOwn:=Lib.hid hown
     refine hK _ _ HV5.out ?_
     clear hK K hv5 hb5 g5 hown HF2 HGo
     refine og rfl rfl (fun K hK=>?_)
     go_simp
     refine hK _ _ (aS HV5.out _) ?_
     clear hK K
     refine og rfl rfl (fun K hK=>?_)
     refine sK w5 _ _ rfl w4.heap.size (.slice ax ts.length cx) ts rfl HAcc5.out t5 _ _ _ _ _ rfl wr.heap.size hsr (fun g hg=>(HOwn.out g hg).2) HW5.out (by omega) (by omega) ?_
     intro v6 w6 a6 o6 g6
     obtain⟨ts6,hts6⟩:∃l,ts++[t5]=l:=⟨_,rfl⟩
     have hl6:ts6.length≤b5:=by rw[←hts6];simp;omega
     rw[hts6] at a6 HF3
     clear hts6
     have HAcc6:=Lib.hid a6
     have hbk:∀i,i<w4.heap.size→w6.heap[i]?=w5.heap[i]?:=fun i hi=>by
      rw[g6.block i (by simp;omega) (fun e=>by have:=(HOwn.out i e.symm).1;omega),Below.heap_alloc w5 _ i (by omega)]
     have HB6:Hid (w6.heap[rb]?=some (bP s q5 b5)):=(hbk rb (by omega)).trans HB5.out
     have HV6:Hid (w6.heap[w3.heap.size]?=some (.cells #[.int .i64 6,.int .i64 0,.string ⟨#[]⟩,.slice ax ts.length cx,.slice none 0 0] 25 (0,0))):=(hbk _ (by omega)).trans HV5.out
     have HA6:Hid (w6.heap[w.heap.size]?=some (.cells #[.int .i64 0,.int .i64 0,.string ⟨#[]⟩,.slice none 0 0,.slice none 0 0] 25 (0,0))):=(hbk _ (by omega)).trans HA5.out
     have sz6:w5.heap.size<w6.heap.size:=by have:=g6.size;simp at this;omega
     have HG6:Hid (w.grownBy w6 (some rb)):=by
      have g7:=aU HG5'.out (.cells #[.int .i64 k',.int .i64 i',.string s',.slice la' ln' lc',.slice da' dn' dc'] 25)
      exact⟨g6.os.trans g7.os,g6.tape.trans g7.tape,g6.output.trans g7.output,Nat.le_trans g7.size g6.size,fun i hi hn=>by
       rw[g6.block i (by have:=g7.size;omega) (fun e=>by have:=(HOwn.out i e.symm).1;omega)]
       exact g7.block i hi hn⟩
     refine hK _ _ HV6.out ?_
     clear hK K a6 g6 hbk HAcc5 HB5 HV5 HA5 HG5' cv fv
     obtain⟨ax6,cx6,rfl⟩:=HAcc6.out.shape
     repeat (first|(refine yX (v:=?_) rfl rfl ?_ ?_;rotate_left;(· intro wq hSq;have cq:=aN hSq;go_simp;try (with_reducible rfl));simp only[Act.put,List.setIfInBounds_toArray,List.set_cons_zero,List.set_cons_succ,List.getElem_toArray,List.getElem_cons_zero,List.getElem_cons_succ])|(refine yY rfl rfl ?_;simp only[Act.put,List.setIfInBounds_toArray,List.set_cons_zero,List.set_cons_succ,List.getElem_toArray,List.getElem_cons_zero,List.getElem_cons_succ]))
     refine yZ rfl rfl (fun K hK=>?_)
     have cv:=aN HV6.out
     have fv:=aX HV6.out
     go_simp
     refine hK _ _ ?_
     clear hK K
     refine zN ?_
     have HV7:=Lib.hid (gB HV6.out 3 (.slice ax6 ts6.length cx6))
     have HB7:=Lib.hid (dB HB6.out (p:=⟨w3.heap.size,3,none⟩) (by simp;omega) (.slice ax6 ts6.length cx6))
     have HA7:=Lib.hid (dB HA6.out (p:=⟨w3.heap.size,3,none⟩) (by simp;omega) (.slice ax6 ts6.length cx6))
     have HG7:=Lib.hid (aW HG6.out (p:=⟨w3.heap.size,3,none⟩) (.inr (by simp;omega)) (.slice ax6 ts6.length cx6))
     have HAcc7:=Lib.hid (HAcc6.out.keep (Same.setCell (Same.refl _ _) (p:=⟨w3.heap.size,3,none⟩) (by simp;omega) (.slice ax6 ts6.length cx6)))
     go_wp2_with fail
     exact⟨⟨j+1,ts6,q5,b5,_,by omega,by go_num,HF3,hg5.1,hg5.2.2,hl6,HB7,HV7,HA7,HAcc7,HG7,by simp[World.setCell];omega⟩,by simp[intOf];omega⟩
   ·have hj2:j=m:=by omega
    subst hj2
    have hF:=HF.out
    rw[Nat.sub_self] at hF
    simp only[rdL,Du] at hF
    subst hF
    have ca:=aN HAr.out
    have fa:=aX HAr.out
    go_wp2_with fail
    refine bodyPost_ret (v:=.agg #[.int .i64 6,.int .i64 0,.string ⟨#[]⟩,.slice ax ts.length cx,.slice none 0 0]) (by simp only[results,Tryz.results223];go_simp) rfl ⟨_,rfl,HAcc.out.value (w0:=w.heap.size) ?_ (by omega) ?_ (by omega),?_,?_⟩
    ·repeat (first|with_reducible exact Same.refl _ _|((with_reducible refine Same.setCell ?_ ?_ _);rotate_left;(· simp;omega)))
    ·simp[World.setCell]
    ·exact(by repeat (first|with_reducible exact HBr.out|with_reducible refine aS ?_ _|((with_reducible refine dB ?_ ?_ _);rotate_left;(· first|(simp;omega)|omega))))
    ·exact(by repeat (first|with_reducible exact HGr.out|with_reducible refine dV ?_|with_reducible refine aU ?_ _|((with_reducible refine aW ?_ (.inr ?_) _);rotate_left;(· first|exact Nat.le_refl _|omega|(simp;done)|(simp;omega)))))
end Go.Proofs.YtflpefkohpjjpaaGreatDoor
