/- (*codec.reader).fields. -/
import Derived.Test.YtflpefkohpjjpaaGreatDoorQNRdVal2
import Derived.Test.YtflpefkohpjjpaaGreatDoorQNSeen
set_option linter.unusedSimpArgs false
set_option linter.unusedVariables false
namespace Go.Proofs.YtflpefkohpjjpaaGreatDoor
open Go.RowKit Go.Maps
theorem Seen.only{w w':World}{B n rb:Nat}{l:List ByteArray}(h:Seen w B n l)(k:w.grownBy w' (some rb))(hne:B≠rb):Seen w' B n l:=World.ownsMap.kept h k (by simpa using hne)
theorem nJ{ops:Array Oper}{rest:List Oper}{o:Oper}{a:Act}{Q:Exit→Act→World→Prop}(w:World)(hgd:o.guard=none)(s x:Operand)(ho:o.op=.call { callee:=.builtin .append,args:=#[s,x],argTypes:=#[23,23] })
 (lo:Nat) (v:Value) (ns:List ByteArray) (ts:List Tr) (hs:a.eval s=v) (hR:jV lo w v ns ts) (t:Tr) (n:ByteArray) (hn:n.size≤maxLen) (c0 c1 c2 c3 c4:Value) (hx:a.eval x=.slice (some ⟨w.heap.size,0,none⟩) 1 1)
 (lo':Nat) (hlo:lo≤lo') (hown:∀g,v.ownBlock=some g→g<lo') (hV:iC lo' w.heap.size w t (.agg #[c0,c1,c2,c3,c4])) (hlen:(ts.length+1)*96≤140737488355328) (hbase:lo≤w.heap.size)
 (h:∀v' w',jV lo w' v' (ns++[n]) (ts++[t])→(∀g,v'.ownBlock=some g→lo≤g∧g<w'.heap.size)→(w.alloc (.cells #[.string n,c0,c1,c2,c3,c4] 115)).grownBy w' v.ownBlock→wpList Tryz.prog ops Q rest (a.put o.dst v') w'):
 wpList Tryz.prog ops Q (o::rest) a (w.alloc (.cells #[.string n,c0,c1,c2,c3,c4] 115)):=
 wpList_plain hgd fun _ hK=>sO w s x ho lo v ns ts hs hR t n hn c0 c1 c2 c3 c4 hx lo' hlo hown hV hlen hbase fun v' w' h2 h3 h4=>hK _ _ (h v' w' h2 h3 h4)
def wS(s:ByteArray)(d bg:Nat):Except Int (Int×Nat)→Except Int ((List ByteArray×List Tr)×Nat×Nat)
 |.error e=>.error e
 |.ok (n,q)=>rdF s (rdT s d) n.toNat q bg [] []
def WZ(rb:Nat)(s:ByteArray)(w:World)(x:Except Int ((List ByteArray×List Tr)×Nat×Nat))(e:Ending)(w':World):Prop:=
 match x with
 |.ok ((ns,ds),q,bg)=>∃v,e=.returned v∧jV w.heap.size w' v ns ds∧ds.length≤1024∧w'.heap[rb]?=some (bP s q bg)∧w.grownBy w' (some rb)
 |.error c=>e=.panicked (flt c)∧w.grownBy w' (some rb)
theorem jV.lower{lo lo':Nat}{w:World}{x:Value}{ns:List ByteArray}{ts:List Tr}(h:jV lo w x ns ts)(hl:lo'≤lo):jV lo' w x ns ts:=by
 obtain⟨cs,h1,h2⟩:=h
 refine⟨cs,⟨h1.1,?_⟩,bH.sub (iL (fun i hF hi=>⟨⟨by omega,hF.2⟩,rfl⟩)) _ _ _ h2⟩
 rcases h1.2 with h3|⟨g,cap,cur,e1,e2,e3⟩
 ·exact .inl h3
 ·exact .inr ⟨g,cap,cur,e1,by omega,e3⟩
set_option maxRecDepth 20000 in
set_option maxHeartbeats 4000000 in
theorem PI(s:ByteArray)(W0:World)(d rb p bg:Nat)(lv:Int)(w:World)(hs:s.size≤1000000000000000)(hlv:lv=17-d)(hp:p≤s.size)(hbg:bg≤1024)(hE:Ext W0 w)(hrb0:W0.heap.size≤rb)(h:w.heap[rb]?=some (bP s p bg))(ih:Dt s W0 d):
 Calls Tryz.prog 288 #[.pointer (some ⟨rb,0,none⟩),.int .i64 lv] w (WZ rb s w (wS s d bg (dH s p))):=by
 have hrb:=dI h
 have H:=Lib.hid h
 have HLV:=Lib.hid hlv
 have HIH:=Lib.hid ih
 clear h hlv ih
 obtain⟨x,hx⟩:∃x,dH s p=x:=⟨_,rfl⟩
 obtain⟨r,hr⟩:∃r,wS s d bg x=r:=⟨_,rfl⟩
 have HQ:=Lib.hid (fun n q (he:x=.ok (n,q))=>iZ hp (hx.trans he))
 rw[hx,hr]
 have HX:=Lib.hid hx
 have HR:=Lib.hid hr
 clear hx hr
 have hmm:=@run_makeMap Tryz.prog
 go_enter Tryz.func288,Tryz.ntmps288
 go_wp2_with fail
 clear hmm
 refine(count_ok' s rb p bg _ hs hp (aS H.out _)).mono ?_
 rw[HX.out]
 cases x with
 |error c=>
  have e:=HR.out
  simp only[wS] at e
  subst e
  rintro e w4 ⟨rfl,g4⟩
  exact⟨rfl,rfl,aT (aU (World.grownBy.refl _ _) _) g4⟩
 |ok nq=>
  obtain⟨n,q⟩:=nq
  have hq:=HQ.out n q rfl
  rintro e w4 ⟨rfl,hb4,g4⟩
  obtain⟨m,hm⟩:∃m:Nat,n=m:=Int.eq_ofNat_of_zero_le hq.2.2.1
  subst hm
  have e:=HR.out
  simp only[wS,Int.toNat_natCast] at e
  have HRR:=Lib.hid e
  have HB4:=Lib.hid hb4
  have HG4:=Lib.hid (aT (aU (World.grownBy.refl w _) _) g4)
  have HS4:=Lib.hid ((Seen.made w).only g4 (by omega))
  have s4:w.heap.size<w4.heap.size:=by have:=g4.size;simp at this;omega
  clear e hb4 g4 HR HQ HX
  go_wp2_with fail
  go_loopw [5,12] (fun x c wr=>∃(j:Nat) (ns:List ByteArray) (ds:List Tr) (q' b':Nat),j≤m∧c=.int .i64 j∧Hid (rdF s (rdT s d) (m-j) q' b' ns ds=r)∧q'≤s.size∧b'≤1024∧ds.length≤b'∧Hid (wr.heap[rb]?=some (bP s q' b'))∧(∃k:Nat,k≤b'∧Hid (Seen wr w.heap.size k ns.reverse))∧
   Hid (jV w4.heap.size wr x ns ds)∧Hid (w.grownBy wr (some rb))∧w4.heap.size≤wr.heap.size) (fun _ c _=>m-(intOf c).toNat)
  case atStart=>exact⟨0,[],[],q,bg,by omega,rfl,HRR,hq.2.1,hbg,by simp,HB4,⟨0,by omega,HS4⟩,jV.nil _ _,HG4,Nat.le_refl _⟩
  case round=>
   obtain⟨j,ns,ds,q',b',hj,rfl,HF,hq',hb',htl,HBr,⟨kk,hkk,HSr⟩,HAcc,HGr,hsr⟩:=hrel
   obtain⟨ax,cx,rfl⟩:=HAcc.out.shape
   by_cases hjm:j<m
   ·have hF:=HF.out
    rw[show m-j=(m-(j+1))+1 by omega] at hF
    simp only[rdF] at hF
    obtain⟨y,hy⟩:∃y,jq s q'=y:=⟨_,rfl⟩
    rw[hy] at hF
    have HY:=Lib.hid hy
    have HYq:=Lib.hid (fun n q (he:y=.ok (n,q))=>oI hq' (hy.trans he))
    have HF1:=Lib.hid hF
    clear hF HF hy
    go_wp2_with fail
    refine(BO s rb q' b' _ hs hq' HBr.out).mono ?_
    rw[HY.out]
    cases y with
    |error c=>
     have e:=HF1.out
     simp only at e
     subst e
     rintro e w5 ⟨rfl,g5⟩
     exact⟨rfl,rfl,aT HGr.out g5⟩
    |ok mq=>
     obtain⟨mm,q1⟩:=mq
     have hq1:=HYq.out mm q1 rfl
     have hF:=HF1.out
     simp only at hF
     rintro e w5 ⟨rfl,hb5,g5⟩
     have HB5:=Lib.hid hb5
     have HG5:=Lib.hid (aT HGr.out g5)
     have HS5:=Lib.hid (HSr.out.only g5 (by omega))
     have HAcc5:=Lib.hid (HAcc.out.keep (Same.only (Same.refl _ wr) (Nat.le_refl _) g5 (by omega)))
     have s5:wr.heap.size≤w5.heap.size:=g5.size
     clear hb5 g5 HF1 HYq HY
     by_cases hmm:1≤mm∧mm≤32
     case neg=>
      rw[if_neg hmm] at hF
      subst hF
      by_cases h1:1≤mm
      ·have d1:decide (1≤mm)=true:=by simpa using h1
       have d2:decide (mm≤32)=false:=by simp;omega
       go_wp2_with fail
       refine(iM _ _).mono ?_
       rintro e w6 ⟨rfl,rfl⟩
       exact⟨rfl,rfl,HG5.out⟩
      ·have d1:decide (1≤mm)=false:=by simpa using h1
       go_wp2_with fail
       refine(iM _ _).mono ?_
       rintro e w6 ⟨rfl,rfl⟩
       exact⟨rfl,rfl,HG5.out⟩
     rw[if_pos hmm] at hF
     obtain⟨m1,hm1⟩:∃k:Nat,mm=k:=Int.eq_ofNat_of_zero_le (by omega)
     subst hm1
     rw[Int.toNat_natCast] at hF
     have HF2:=Lib.hid hF
     have d1:decide (1≤(m1:Int))=true:=by simp;omega
     have d2:decide ((m1:Int)≤32)=true:=by simp;omega
     clear hF
     go_wp2_with fail
     refine(dQ _ _).mono ?_
     rintro e w6 ⟨rfl,rfl⟩
     go_wp2_with fail
     refine(wP s rb q1 b' m1 _ hs hq1.2 (by omega) HB5.out).mono ?_
     rw[wR]
     obtain⟨z,hz⟩:∃z,jA s q1 m1=z:=⟨_,rfl⟩
     have HZq:=Lib.hid (fun n q (he:z=.ok (n,q))=>lM hq1.2 (hz.trans he))
     rw[hz] at HF2 ⊢
     clear hz
     cases z with
     |error c=>
      have e:=HF2.out
      simp only at e
      subst e
      rintro e w6 ⟨rfl,g6⟩
      exact⟨rfl,rfl,aT HG5.out g6⟩
     |ok nq=>
      obtain⟨nm,q2⟩:=nq
      have hq2:=HZq.out nm q2 rfl
      have hF:=HF2.out
      simp only at hF
      rintro e w6 ⟨rfl,hb6,g6⟩
      have HB6:=Lib.hid hb6
      have HG6:=Lib.hid (aT HG5.out g6)
      have HS6:=Lib.hid (HS5.out.only g6 (by omega))
      have HAcc6:=Lib.hid (HAcc5.out.keep (Same.only (Same.refl _ w5) (Nat.le_refl _) g6 (by omega)))
      have s6:w5.heap.size≤w6.heap.size:=g6.size
      have hnm1:1≤nm.size∧nm.size≤32:=by omega
      have HF3:=Lib.hid hF
      clear hb6 g6 HF2 HZq hF HB5 HG5 HS5 HAcc5
      go_wp2_with fail
      refine(BP nm _ hnm1.1 hnm1.2).mono ?_
      rintro e w7 ⟨rfl,rfl⟩
      cases hnb:nameB nm
      ·have e:=HF3.out
       rw[hnb] at e
       simp only[Bool.false_and,Bool.false_eq_true,if_false] at e
       subst e
       clear hnb
       go_wp2_with fail
       refine(iM _ _).mono ?_
       rintro e w8 ⟨rfl,rfl⟩
       exact⟨rfl,rfl,HG6.out⟩
      have hF:=HF3.out
      rw[hnb,Bool.true_and] at hF
      clear hnb HF3
      have hlk:=HS6.out.look nm (by unfold maxLen;omega)
      cases hha:BD ns.reverse nm
      case true=>
       rw[hha] at hlk
       unfold UA at hF
       rw[hha] at hF
       simp only[Bool.not_true,Bool.false_eq_true,if_false] at hF
       subst hF
       clear hha
       go_wp2_with fail
       refine(iM _ _).mono ?_
       rintro e w8 ⟨rfl,rfl⟩
       exact⟨rfl,rfl,HG6.out⟩
      rw[hha] at hlk
      unfold UA at hF
      rw[hha] at hF
      simp only[Bool.not_false,if_true] at hF
      have HF4:=Lib.hid hF
      clear hha hF
      go_wp2_with fail
      refine(dQ _ _).mono ?_
      rintro e w8 ⟨rfl,rfl⟩
      clear hlk
      obtain⟨w8,hmu,hS8,g8⟩:=HS6.out.put nm (by unfold maxLen;omega) (by unfold maxLen;omega)
      have HS8:=Lib.hid hS8
      have HB8:=Lib.hid (bD HB6.out g8 (by omega))
      have HAcc8:=Lib.hid (HAcc6.out.keep (Same.only (Same.refl _ w6) (Nat.le_refl _) g8 (by omega)))
      have s8:w6.heap.size≤w8.heap.size:=g8.size
      have HG8:Hid (w.grownBy w8 (some rb)):=⟨g8.os.trans HG6.out.os,g8.tape.trans HG6.out.tape,g8.output.trans HG6.out.output,Nat.le_trans HG6.out.size g8.size,fun i hi hn=>(g8.block i (by have:=HG6.out.size;omega) (by intro e;injection e with e;omega)).trans (HG6.out.block i hi hn)⟩
      clear hS8 g8
      go_wp2_with fail
      clear hmu
      refine(HIH.out rb q2 b' lv _ HLV.out hq2.2.1 hb' (iq hE HG8.out hrb0) hrb0 HB8.out).mono ?_
      obtain⟨u,hu⟩:∃u,rdT s d q2 b'=u:=⟨_,rfl⟩
      have hgo:=sS s d q2 b'
      rw[hu] at hgo HF4 ⊢
      have HGo:=Lib.hid hgo
      clear hu hgo
      cases u with
      |error c=>
       have e:=HF4.out
       simp only at e
       subst e
       rintro e w9 ⟨rfl,g9⟩
       exact⟨rfl,rfl,aT HG8.out g9⟩
      |ok tqb=>
       obtain⟨t9,q9,b9⟩:=tqb
       have hg9:=HGo.out t9 q9 b9 hq2.2.1 hb' rfl
       have HF5:=Lib.hid HF4.out
       simp only at HF5
       rintro e w9 ⟨v9,rfl,hv9,hb9,g9⟩
       have HB9:=Lib.hid hb9
       have HG9:=Lib.hid (aT HG8.out g9)
       have HS9:=Lib.hid (HS8.out.only g9 (by omega))
       have HAcc9:=Lib.hid (HAcc8.out.keep (Same.only (Same.refl _ w8) (Nat.le_refl _) g9 (by omega)))
       have s9:w8.heap.size≤w9.heap.size:=g9.size
       have HW9:Hid (iC w8.heap.size w9.heap.size w9 t9 v9):=hv9
       obtain⟨k',i',s',la',ln',lc',da',dn',dc',rfl⟩:=fE.shape (show fE (win _ w9) t9 v9 from HW9.out)
       have hown:∀g,(Value.slice ax ds.length cx).ownBlock=some g→w4.heap.size≤g∧g<wr.heap.size:=fun g hg=>by
        obtain⟨cs,ho,_⟩:=HAcc.out
        exact ho.lt g hg
       have HOwn:=Lib.hid hown
       have HLn:Hid ((ds.length+1)*96≤140737488355328):=by show _≤_;omega
       clear hv9 hb9 g9 hown HF4 HGo
       go_wp2_with (at_builtin;refine nJ w9 rfl _ _ rfl w4.heap.size (.slice ax ds.length cx) ns ds rfl HAcc9.out t9 nm (by unfold maxLen;omega) _ _ _ _ _ rfl w8.heap.size (by omega) (fun g hg=>by have:=(HOwn.out g hg).2;omega) HW9.out HLn.out (by omega) ?_)
       intro v10 w10 a10 o10 g10
       obtain⟨ds10,hds10⟩:∃l,ds++[t9]=l:=⟨_,rfl⟩
       obtain⟨ns10,hns10⟩:∃l,ns++[nm]=l:=⟨_,rfl⟩
       have hl10:ds10.length≤b9:=by rw[←hds10];simp;omega
       rw[hds10,hns10] at a10 HF5
       have hrev:ns10.reverse=nm::ns.reverse:=by rw[←hns10];simp
       have HAcc10:=Lib.hid a10
       have hbk:∀i,i<w4.heap.size→w10.heap[i]?=w9.heap[i]?:=fun i hi=>by
        rw[g10.block i (by simp;omega) (fun e=>by have:=(HOwn.out i e.symm).1;omega),Below.heap_alloc w9 _ i (by omega)]
       have HB10:Hid (w10.heap[rb]?=some (bP s q9 b9)):=(hbk rb (by omega)).trans HB9.out
       have HS10:Hid (Seen w10 w.heap.size (kk+1) ns10.reverse):=by
        rw[hrev]
        exact World.ownsMap.kept (World.ownsMap.kept HS9.out (World.grownBy_alloc w9 _ none) (by simp)) g10 (by intro e;have:=(HOwn.out _ e.symm).1;omega)
       have sz10:w9.heap.size<w10.heap.size:=by have:=g10.size;simp at this;omega
       have HG10:Hid (w.grownBy w10 (some rb)):=by
        have g7:=aU HG9.out (.cells #[.string nm,.int .i64 k',.int .i64 i',.string s',.slice la' ln' lc',.slice da' dn' dc'] 115)
        exact⟨g10.os.trans g7.os,g10.tape.trans g7.tape,g10.output.trans g7.output,Nat.le_trans g7.size g10.size,fun i hi hn=>by
         rw[g10.block i (by have:=g7.size;omega) (fun e=>by have:=(HOwn.out i e.symm).1;omega)]
         exact g7.block i hi hn⟩
       clear a10 g10 hbk hds10 hns10 hrev
       obtain⟨ax10,cx10,rfl⟩:=HAcc10.out.shape
       go_wp2_with fail
       exact⟨⟨j+1,ns10,ds10,q9,b9,by omega,by go_num,HF5,hg9.1,hg9.2.2,hl10,HB10,⟨kk+1,by omega,HS10⟩,HAcc10,HG10,by omega⟩,by simp[intOf];omega⟩
   ·have hj2:j=m:=by omega
    subst hj2
    have hF:=HF.out
    rw[Nat.sub_self] at hF
    simp only[rdF] at hF
    subst hF
    go_wp2_with fail
    go_ret
    exact⟨_,rfl,HAcc.out.lower (by omega),by omega,HBr.out,HGr.out⟩
end Go.Proofs.YtflpefkohpjjpaaGreatDoor
