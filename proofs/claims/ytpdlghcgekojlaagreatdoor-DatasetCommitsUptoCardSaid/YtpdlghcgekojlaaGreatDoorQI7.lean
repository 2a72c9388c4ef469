/- AddIndex, DropIndex: the contracts. -/
import Derived.Test.YtpdlghcgekojlaaGreatDoorQI6
import Derived.Deep.RegionLaw
import Derived.Lib.SlicesDelete
import Derived.Maps.RangeWalk
set_option linter.unusedSimpArgs false
set_option linter.unusedVariables false
namespace Go.Proofs.YtpdlghcgekojlaaGreatDoor
open Go.RowKit
theorem Fn.calls{P:Program}{G:Gh→Prop}{f:FuncId}{args:List AV}{res:AV}(h:Fn P G f args res){I:Gh}{w:World}{vs:List Value}(hG:G I)(hI:Inv I w)(hv:VRs (rZ I) args vs){K:Ending→World→Prop}
 (hK:∀I' v w',Gr I I' w w'→VR (rZ I') res v→K (.returned v) w'):Calls P f vs.toArray w K:=
 Calls.mono (h.2 I w vs hG hI hv) fun en w' ⟨I',v,e,g,k⟩=>e▸hK I' v w' g k
noncomputable def acV(l:List ak)(name:ByteArray)(x:aW):Option (List ak×Int):=
 match Q93 l name with
 |none=>none
 |some i=>match decide (i<0) with
  |true=>some ([],15)
  |false=>match Q81 x with
   |none=>none
   |some e=>match e != 0 with
    |true=>some ([],e)
    |false=>match jf l i with
     |none=>none
     |some s=>match Q84 s.bn x.fName with
      |none=>none
      |some k=>match decide (0≤k) with
       |true=>some ([],16)
       |false=>match decide (16≤(s.bn.length:Int)) with
        |true=>some ([],2)
        |false=>match Nat.ble (l.length*368) 140737488355328,xZ l,Q49 x with
         |true,some rs,some y=>match rs[i.toNat]? with
          |none=>none
          |some r=>match Nat.ble ((r.bn.length+1)*456) 140737488355328 with
           |true=>some (rs.set i.toNat { r with bn:=r.bn++[y] },0)
           |false=>none
         |_,_,_=>none
set_option maxRecDepth 100000 in
set_option maxHeartbeats 4000000 in
theorem agS(p_l:List ak)(p_name:ByteArray)(p_x:aW)(r:(List ak)×Int)(h:acV p_l p_name p_x=some r):Fn Tryz.prog GI 116 [.lf (.rows 25 (p_l.map ak.lf)),.lf (.str p_name),.dat (aW.lf1 p_x)] (.tup [.lf (.rows 25 (r.1.map ak.lf)),.lf (.int .i64 r.2)]):=by
 refine⟨by kernel_rfl,fun I w vs hG hI hvs=>?_⟩
 obtain⟨v,u,y,rfl,hv,hu,hy⟩:=LY hvs
 obtain⟨rfl,hus⟩:=hu.str
 obtain⟨cs,rfl,hcs⟩:=VR.dat.1 hy
 obtain⟨ad,cp,rfl,hc1,hc2⟩:=LRp.slice (VR.lf.1 hv)
 rw[List.length_map] at hc1 hv ⊢
 have nil2:∀(J:Gh) (e:Int),(Lit.int .i64 e).wf=true→VR (rZ J) (.tup [.lf (.rows 25 (([]:List ak).map ak.lf)),.lf (.int .i64 e)]) (.tuple #[.slice none 0 0,.int .i64 e]):=fun J e he=>VR.tup.2 ⟨_,rfl,VRs.cons (VR.lf.2 (LRp.nil _ _)) (VRs.one (VR.mkInt he))⟩
 unfold acV at h
 cases hf:Q93 p_l p_name with
 |none=>grind
 |some i=>
 rw[hf] at h
 have HV:=Lib.hid hv
 have HY:=Lib.hid hy
 have HCS:=Lib.hid hcs
 have HG:=Lib.hid hG
 have HI:=Lib.hid hI
 have HF:=Lib.hid hf
 have HUS:=Lib.hid hus
 have HH:=Lib.hid h
 have HN:=Lib.hid nil2
 clear hv hy hcs hG hI hf hus h nil2 hvs hu
 go_enter Tryz.func116,Tryz.ntmps116
 go_wp2_with fail
 refine Fn.calls (vs:=[_,_]) (ER _ _ _ HF.out) HG.out (HI.out.ext ((Ext.refl w).alloc _)) (VRs.cons HV.out (VRs.one (VR.mkStr HUS.out))) ?_
 intro I1 v1 w1 g1 k1
 obtain⟨rfl,hiw⟩:=k1.int
 have G1:=Lib.hid (g1.pre ((Ext.refl w).alloc (.cells cs.toArray 60)))
 have hb1:w1.heap[w.heap.size]?=some (.cells cs.toArray 60 (0,0)):=rU (w:=w.alloc (.cells cs.toArray 60)) (by show(w.heap.push _)[w.heap.size]?=_;exact Array.getElem?_push_size) g1.ext
 have B1:=Lib.hid hb1
 clear g1 k1 hb1
 by_cases hi:i<0
 ·have hh:=HH.out
  rw[decide_eq_true hi] at hh
  injection hh with hh;subst hh
  clear HH
  go_wp2_with fail
  refine bodyPost_ret (v:=.tuple #[.slice none 0 0,.int .i64 15]) (by simp only[results,Tryz.results116];go_simp) rfl ?_
  exact⟨I1,_,rfl,G1.out,HN.out I1 15 rfl⟩
 have hh:=HH.out
 rw[decide_eq_false hi] at hh
 cases he:Q81 p_x with
 |none=>grind
 |some e=>
 rw[he] at hh
 replace HH:=Lib.hid hh
 have HE:=Lib.hid he
 clear hh he
 have RG1:=Lib.hid (acT B1.out)
 have LI:=Lib.hid (by rw[(by rw[bV.len _ _ HCS.out];rfl:cs.length=31)];kernel_rfl:(Tryz.prog.info? 60).map (·.size)=some cs.length)
 go_wp2_with (refine wpList_load_mid rfl 60 _ rfl _ _ rfl _ _ RG1.out Tryz.underlying60 rfl LI.out ?_)
 refine Fn.calls (vs:=[_]) (UC _ _ HE.out) (jD.G I I1 G1.out.le HG.out) G1.out.inv (VRs.one (VR.dat.2 ⟨cs,rfl,bV.mono G1.out.le _ _ HCS.out⟩)) ?_
 intro I2 v2 w2 g2 k2
 obtain⟨rfl,hew⟩:=k2.int
 have G2:=Lib.hid (G1.out.trans g2)
 have B2:=Lib.hid (rU B1.out g2.ext)
 clear g2 k2 G1 B1 RG1
 by_cases hz:e=0
 case neg=>
  have hh:=HH.out
  rw[show(e != 0)=true by simpa using hz] at hh
  injection hh with hh;subst hh
  have HEW:=Lib.hid hew
  clear HH hew
  go_wp2_with fail
  refine bodyPost_ret (v:=.tuple #[.slice none 0 0,.int .i64 e]) (by simp only[results,Tryz.results116];go_simp) rfl ?_
  exact⟨I2,_,rfl,G2.out,HN.out I2 e HEW.out⟩
 subst hz
 have hh:=HH.out
 simp only[bne_self_eq_false] at hh
 clear hew LI
 replace HH:=Lib.hid hh
 clear hh
 go_wp2_with fail
 have hh:=HH.out
 cases hs:jf p_l i with
 |none=>grind
 |some s=>
 rw[hs] at hh
 cases hk:Q84 s.bn p_x.fName with
 |none=>grind
 |some k=>
 simp only[hk] at hh
 replace HH:=Lib.hid hh
 have HK:=Lib.hid hk
 obtain⟨n,rfl⟩:=Int.eq_ofNat_of_zero_le (show 0≤i by omega)
 obtain⟨_,hsl⟩:=eu ak.aY hs
 obtain⟨b,ofs,cp',ce,hsl1,hcl1,hcm1,hwl,hve,hIc⟩:=LRp.elem (VR.lf.1 HV.out) n (ak.lf1 s) (by simpa using hsl)
 injection hsl1 with hsl1 hlq hsl2
 subst hsl1 hsl2
 clear hlq
 have hwf:=G2.out.inv
 obtain⟨c0,hx0,ct,rfl,hc0,hx1,hct⟩:∃c0 h0 ct,ce=c0::h0::ct∧LRp I (.str s.fName) c0∧LRp I (.rows 31 (s.bn.map aW.lf)) h0∧bV I ((ak.lf1 s).drop 2) ct:=by
  obtain⟨c0,q,rfl,k0,h0,q2,rfl,k1,k2⟩:=hve
  exact⟨c0,h0,q2,rfl,k0,k1,k2⟩
 obtain⟨n0,nt,rfl,hn0,hnt⟩:∃n0 nt,cs=n0::nt∧LRp I (.str p_x.fName) n0∧True:=by
  obtain⟨c0,q,rfl,k0,_⟩:=HCS.out
  exact⟨c0,q,rfl,k0,trivial⟩
 obtain⟨rfl,hns⟩:=hn0.str
 obtain⟨a1,cp1,rfl,_,_⟩:=LRp.slice hx1
 rw[List.length_map] at hx1 hIc
 have hcel:w2.cell? ⟨b,ofs+n*25+1,none⟩=some (.slice a1 s.bn.length cp1):=hwf _ _ _ (G2.out.le _ _ _ (hIc 1 _ rfl))
 have hcel2:w2.cell? ⟨w.heap.size,0,none⟩=some (.string p_x.fName):=by rw[lq B2.out 0];rfl
 have hbk:b<w2.heap.size:=hwf.lt (G2.out.le _ _ _ (hIc 1 _ rfl))
 have hnl:n<p_l.length:=by
  grind
 have hnl2:(n:Int)<(p_l.length:Int):=by omega
 have HX1:=Lib.hid hx1
 have HNS:=Lib.hid hns
 have HC1:=Lib.hid hcel
 have HC2:=Lib.hid hcel2
 have HIC:=Lib.hid hIc
 clear hh hk hs hsl hwl hve hIc hwf hc0 hct hx1 hns hnt hn0 hcel hcel2 hcl1 hcm1 hiw
 refine xR (fun W=>W.cell? ⟨b,ofs+n*25+1,none⟩=some (.slice a1 s.bn.length cp1)∧W.cell? ⟨w.heap.size,0,none⟩=some (.string p_x.fName)) [(true,0),(true,1),(true,2),(true,3),(true,4),(true,5),(true,6),(false,7),(true,8)] (by kernel_rfl) (by kernel_rfl) (by kernel_rfl) (by kernel_rfl) ?hS ?_
 case hS=>exact⟨HC1.out,HC2.out⟩
 repeat (first|(refine V5 (v:=?_) rfl rfl ?_ ?_;rotate_left;(· intro wq hSq;have cq:=hSq.1;have cq2:=hSq.2;go_simp;try (with_reducible rfl));simp only[Act.put,List.setIfInBounds_toArray,List.set_cons_zero,List.set_cons_succ,List.getElem_toArray,List.getElem_cons_zero,List.getElem_cons_succ])|(refine V6 rfl rfl ?_;simp only[Act.put,List.setIfInBounds_toArray,List.set_cons_zero,List.set_cons_succ,List.getElem_toArray,List.getElem_cons_zero,List.getElem_cons_succ]))
 refine afv rfl rfl (fun K hK=>?_)
 go_simp
 refine Fn.calls (vs:=[_,_]) (UD _ _ _ HK.out) (jD.G I I2 G2.out.le HG.out) G2.out.inv.drew (VRs.cons (VR.lf.2 (LRp.mono G2.out.le _ _ HX1.out)) (VRs.one (VR.mkStr HNS.out))) ?_
 intro I3 v3 w3 g3 k3
 obtain⟨rfl,hkw⟩:=k3.int
 have G3:=Lib.hid (G2.out.trans (g3.pre (Ext.refl w2).drew))
 have B3:=Lib.hid (rU (w:=w2.drew) B2.out g3.ext)
 have HD1:=Lib.hid (g3.ext.keep (w:=w2.drew) HC1.out)
 have HD2:=Lib.hid (g3.ext.keep (w:=w2.drew) HC2.out)
 have hsz3:w2.heap.size≤w3.heap.size:=g3.ext.size
 refine hK _ _ ⟨HD1.out,HD2.out⟩ ?_
 clear hK K g3 k3 hkw HC1 HC2 B2 G2
 repeat (first|(refine V5 (v:=?_) rfl rfl ?_ ?_;rotate_left;(· intro wq hSq;have cq:=hSq.1;have cq2:=hSq.2;go_simp;try (with_reducible rfl));simp only[Act.put,List.setIfInBounds_toArray,List.set_cons_zero,List.set_cons_succ,List.getElem_toArray,List.getElem_cons_zero,List.getElem_cons_succ])|(refine V6 rfl rfl ?_;simp only[Act.put,List.setIfInBounds_toArray,List.set_cons_zero,List.set_cons_succ,List.getElem_toArray,List.getElem_cons_zero,List.getElem_cons_succ]))
 refine Yd ?_
 by_cases hk0:0≤k
 case pos=>
  have hh:=HH.out
  rw[decide_eq_true hk0] at hh
  injection hh with hh;subst hh
  clear HH
  go_wp2_with fail
  refine bodyPost_ret (v:=.tuple #[.slice none 0 0,.int .i64 16]) (by simp only[results,Tryz.results116];go_simp) rfl ?_
  exact⟨I3,_,rfl,G3.out,HN.out I3 16 rfl⟩
 have hh:=HH.out
 rw[decide_eq_false hk0] at hh
 have cq:=HD1.out
 by_cases h16:16≤(s.bn.length:Int)
 case pos=>
  rw[decide_eq_true h16] at hh
  injection hh with hh;subst hh
  clear HH
  have h16n:16≤s.bn.length:=by omega
  go_wp2_with fail
  refine bodyPost_ret (v:=.tuple #[.slice none 0 0,.int .i64 2]) (by simp only[results,Tryz.results116];go_simp) rfl ?_
  exact⟨I3,_,rfl,G3.out,HN.out I3 2 rfl⟩
 rw[decide_eq_false h16] at hh
 have h16n:¬16≤s.bn.length:=by omega
 replace HH:=Lib.hid hh
 clear hh
 go_wp2_with fail
 have hh:=HH.out
 cases hbg:Nat.ble (p_l.length*368) 140737488355328 with
 |false=>grind
 |true=>
 cases hcp:xZ p_l with
 |none=>grind
 |some rs=>
 cases hci:Q49 p_x with
 |none=>grind
 |some y=>
 simp only[hbg,hcp,hci,Int.toNat_natCast] at hh
 cases hr2:rs[n]? with
 |none=>grind
 |some q=>
 rw[hr2] at hh
 cases hbb:Nat.ble ((q.bn.length+1)*456) 140737488355328 with
 |false=>grind
 |true=>
 simp only[hbb] at hh
 injection hh with hh;subst hh
 have hrl:=(zV hcp).1
 have HCI:=Lib.hid hci
 have HBB:=Lib.hid (Nat.le_of_ble_eq_true hbb)
 have HR2:=Lib.hid hr2
 have HRL:=Lib.hid hrl
 have hcall:=Di (jD.G I I3 G3.out.le HG.out) G3.out.inv hcp (Nat.le_of_ble_eq_true hbg) (LRp.mono G3.out.le _ _ (VR.lf.1 HV.out)) n
 clear HH hci hbb hbg hrl hr2
 refine Calls.mono hcall ?_
 rintro en w4 ⟨I4,hdr,rfl,g4,hsp⟩
 clear hcall
 obtain⟨g,cap,hx,rfl,hbs,hglt,hav,hcell,hfree,hacc,hne,hput⟩:=hsp.open_ HR2.out
 have hnr:n<rs.length:=(List.getElem?_eq_some_iff.1 HR2.out).1
 have hnr2:(n:Int)<(rs.length:Int):=by omega
 have G4:=Lib.hid g4
 have B4:=Lib.hid (rU B3.out g4.ext)
 have HCELL:=Lib.hid hcell
 have HFREE:=Lib.hid hfree
 have HAV:=Lib.hid hav
 have HACC:=Lib.hid hacc
 have HNE:=Lib.hid hne
 have HPUT:=Lib.hid hput
 have HBS:=Lib.hid hbs
 have LI:=Lib.hid (by rw[(by rw[bV.len _ _ HCS.out];rfl:(Value.string p_x.fName::nt).length=31)];kernel_rfl:(Tryz.prog.info? 60).map (·.size)=some (Value.string p_x.fName::nt).length)
 have HY:=Lib.hid (bV.mono (G3.out.trans g4).le _ _ HCS.out)
 have HG4:=Lib.hid (jD.G I I4 (G3.out.trans g4).le HG.out)
 have hinf:(Tryz.prog.info? 60).map (fun i=>(i.zero.map (·.cells.size),i.size,i.bytes))=some (some 31,31,456):=by kernel_rfl
 obtain⟨ii,hi0,hi1⟩:=Option.map_eq_some_iff.1 hinf
 simp only[Prod.mk.injEq] at hi1
 obtain⟨hz0,hzs,hzb⟩:=hi1
 obtain⟨z,hz,hzc⟩:=Option.map_eq_some_iff.1 hz0
 have hts:Tryz.prog.underlying 41=some (.slice 60):=by kernel_rfl
 have HZ:=Lib.hid (And.intro hi0 (And.intro hz (And.intro hzs (And.intro hzb (And.intro hzc hts)))))
 clear hsp hcell hfree hav hacc hne hput hbs g4 hinf hi0 hz0 hzs hzb hz hzc hts HCS HN HF HE HK hnl hnl2 hbk hsz3
 go_wp2_with fail
 refine uJ (fun W=>W.cell? ⟨g,n*25+1,none⟩=some hx∧W.heap[w.heap.size]?=some (.cells (.string p_x.fName::nt).toArray 60 (0,0))) 13 [(true,0),(true,1),(true,2),(true,3),(true,4),(true,5),(true,6),(true,7),(false,8),(false,9),(false,10),(true,11),(true,12),(false,13)] (by kernel_rfl) (by kernel_rfl) (by kernel_rfl) (by kernel_rfl) (by kernel_rfl) (by kernel_rfl) ?hS ?_
 case hS=>exact⟨HCELL.out,B4.out⟩
 iterate 7 (refine Oy (v:=?_) rfl rfl ?_ ?_;rotate_left;(· intro wq hSq;have cq:=hSq.1;go_simp;try (with_reducible rfl));simp only[Act.put,List.setIfInBounds_toArray,List.set_cons_zero,List.set_cons_succ,List.getElem_toArray,List.getElem_cons_zero,List.getElem_cons_succ])
 refine⟨_,_,rfl,yieldsIf_load_mid rfl 60 _ rfl _ _ rfl (.string p_x.fName::nt) _ (fun W h=>acT h.2) Tryz.underlying60 rfl LI.out,?_⟩
 (try simp only[Act.put,List.setIfInBounds_toArray,List.set_cons_zero,List.set_cons_succ,List.getElem_toArray,List.getElem_cons_zero,List.getElem_cons_succ])
 refine zh rfl rfl (fun K hK=>?_)
 go_simp
 refine Fn.calls (vs:=[_]) (acO _ _ HCI.out) HG4.out G4.out.inv.drew (VRs.one (VR.dat.2 ⟨_,rfl,HY.out⟩)) ?_
 intro I5 v5 w5 g5 k5
 obtain⟨ys,rfl,hys⟩:=VR.dat.1 k5
 have G5:=Lib.hid (g5.pre (Ext.refl w4).drew)
 have HC5:=Lib.hid (g5.ext.keep (w:=w4.drew) HCELL.out)
 have B5:=Lib.hid (rU (w:=w4.drew) B4.out g5.ext)
 refine hK _ _ ⟨HC5.out,B5.out⟩ ?_
 clear hK K
 have hyl:ys.length=31:=by rw[bV.len _ _ hys];rfl
 have HYL:=Lib.hid hyl
 have HYS:=Lib.hid hys
 clear g5 k5 hys hyl B4
 refine zh rfl rfl (fun K hK=>?_)
 refine Jp 41 60 _ rfl ys rfl 31 ii z HZ.out.2.2.2.2.2 HZ.out.1 HZ.out.2.1 HZ.out.2.2.1 HZ.out.2.2.2.2.1 HYL.out (by decide) (by decide) ?_
 refine hK _ _ ⟨((Ext.refl w5).alloc _).keep HC5.out,rU B5.out ((Ext.refl w5).alloc _)⟩ ?_
 clear hK K
 (try simp only[Act.put,List.setIfInBounds_toArray,List.set_cons_zero,List.set_cons_succ,List.getElem_toArray,List.getElem_cons_zero,List.getElem_cons_succ])
 have G6:=Lib.hid (G5.out.akX ((Ext.refl w5).alloc (.cells ys.toArray 60)))
 have hb6:w3.heap.size≤(w5.alloc (.cells ys.toArray 60)).heap.size:=Nat.le_trans G4.out.ext.size G6.out.ext.size
 obtain⟨v',w7,hr,hacc7,hg7,hbk7⟩:=(HACC.out.gr G6.out).app G6.out.inv hb6 HZ.out.2.2.2.2.2 HZ.out.1 HZ.out.2.1 HZ.out.2.2.1 HZ.out.2.2.2.1 HZ.out.2.2.2.2.1 (by decide) HYS.out rfl (Jr w5 ys 60) 41 (by have:=HBB.out;rw[List.length_map];unfold maxLen;omega) (by have:=HBB.out;rw[List.length_map];omega)
 obtain⟨a7,c7,hv7⟩:=hacc7.shape
 rw[(by simp:((q.bn.map aW.lf)++[aW.lf1 y]).length=q.bn.length+1)] at hv7
 subst hv7
 have HR:=Lib.hid hr
 have hg6:g<(w5.alloc (.cells ys.toArray 60)).heap.size:=Nat.lt_of_lt_of_le hglt G6.out.ext.size
 have hgb:w7.heap[g]?=w4.heap[g]?:=(hg7.block g hg6 (fun e=>HNE.out g e.symm rfl)).trans (G6.out.ext.below.block g hglt)
 have hbx:w.heap.size<w3.heap.size:=KW B3.out
 have B7:=Lib.hid ((hg7.block w.heap.size (Nat.lt_of_lt_of_le hbx hb6) (fun e=>by have:=(HACC.out.own _ e.symm).1;omega)).trans (rU B5.out ((Ext.refl w5).alloc (.cells ys.toArray 60))))
 have HC7:=Lib.hid ((oJ hgb (n*25+1)).trans HCELL.out)
 have HF7:=Lib.hid ((Dj hgb (n*25+1)).trans HFREE.out)
 have hne7:∀k,(Value.slice a7 (q.bn.length+1) c7).ownBlock=some k→k≠g:=fun k hk he=>by
  rcases hbk7 k hk with h5|h5
  ·exact HNE.out k h5 he
  omega
 have hg3:Gr I3 I5 w3 w7:=(G4.out.trans G6.out).grown hg7 fun k hk=>⟨((HACC.out.gr G6.out).elim fun _ h=>h.2.2.2) k hk,(HACC.out.own k hk).1⟩
 obtain⟨J,j1,j2⟩:=Qg (hdr:=.slice (some ⟨g,0,none⟩) rs.length cap) (rs:=rs) (r:=q) (n:=n) (idx:=q.bn++[y]) hg3 HBS.out (G6.out.av hglt HAV.out) (by rw[List.map_append];simpa[aW.aY] using hacc7) hne7 (fun J hle hav' hrow=>HPUT.out J w7 _ (q.bn++[y]) (G6.out.le.trans hle) hav' hgb hrow)
 have HJ:=Lib.hid (And.intro j1 j2)
 clear hr hacc7 hg7 hbk7 hgb hne7 hg3 j1 j2 hg6 hb6 HC5 B5
 refine zh rfl rfl (fun K hK=>?_)
 refine Lib.wp_append_run _ _ _ _ _ rfl _ _ rfl rfl _ _ HR.out ?_
 refine hK _ _ ⟨HC7.out,B7.out⟩ ?_
 clear hK K
 (try simp only[Act.put,List.setIfInBounds_toArray,List.set_cons_zero,List.set_cons_succ,List.getElem_toArray,List.getElem_cons_zero,List.getElem_cons_succ])
 iterate 2 (refine Oy (v:=?_) rfl rfl ?_ ?_;rotate_left;(· intro wq hSq;have cq:=hSq.1;go_simp;try (with_reducible rfl));simp only[Act.put,List.setIfInBounds_toArray,List.set_cons_zero,List.set_cons_succ,List.getElem_toArray,List.getElem_cons_zero,List.getElem_cons_succ])
 refine Oz rfl rfl (fun K hK=>?_)
 have cv:=HC7.out
 have fv:=HF7.out
 go_simp
 refine hK _ _ ?_
 clear hK K cv fv
 refine TJ ?_
 go_wp2_with fail
 refine bodyPost_ret (v:=.tuple #[.slice (some ⟨g,0,none⟩) rs.length cap,.int .i64 0]) (by simp only[results,Tryz.results116];go_simp) rfl ?_
 exact⟨J,_,rfl,G3.out.trans HJ.out.1,VR.tup.2 ⟨_,rfl,VRs.cons (VR.lf.2 (by have h2:=HJ.out.2;rw[List.map_set] at h2;exact h2)) (VRs.one (VR.mkInt rfl))⟩⟩
theorem H6{P:Program}(w:World)(t e ty:TypeId)(z:Value)(zs:List Value)(hzs:z.cells.toList=zs)(ht:P.underlying t=some (.slice e))(hv:∀w,(zeroValue e).run P w=.ok z w)(h1:∀v∈zs,v.oneCell'=true)(b o c:Nat)
 (hc:∀j,j<zs.length→(w.cell? ⟨b,o+j,none⟩).isSome=true) (hf:∀j,j<zs.length→w.frozen? ⟨b,o+j,none⟩=false):
 (Builtin.clear_ #[t] ty #[.slice (some ⟨b,o,none⟩) 1 c]).run P w=.ok (.tuple #[]) (w.setCells b o zs):=by
 subst hzs
 have hzc:(Builtin.zeroCells z.cells 1).toList=z.cells.toList:=by
  simp only[Builtin.zeroCells,Nat.one_mul]
  apply List.ext_getElem
  ·simp
  intro i h1 h2
  have h3:i<z.cells.size:=by simpa using h2
  simp[Nat.mod_eq_of_lt h3,h3]
 have hst:=run_storeCells_cells (P:=P) b o z.cells.toList 0 w (by simpa using hc) (by simpa using hf) h1
 simp only[Nat.add_zero] at hst
 simp[Builtin.clear_,run_underlying ht,hv,hzc,hst]
set_option maxRecDepth 100000 in
set_option maxHeartbeats 4000000 in
theorem del_walk(w:World)(g n c k:Nat)(cur:Array Value)(hk:k<n)(hnc:n≤c)(hcm:c≤9223372036854775807)(hg:w.heap[g]?=some (.cells cur 60 (0,0)))(hcs:cur.size=c*31)(ho:∀v∈cur.toList.take (n*31),v.oneCell'=true):
 Calls Tryz.prog 179 #[.slice (some ⟨g,0,none⟩) n c,.int .i64 k,.int .i64 ((k:Int)+1)] w fun e w'=>e=.returned (.slice (some ⟨g,0,none⟩) (n-1) c)∧∃cur':Array Value,w'.heap[g]?=some (.cells cur' 60 (0,0))∧cur'.size=c*31∧
  cur'.toList.take ((n-1)*31)=cur.toList.take (k*31)++(cur.toList.take (n*31)).drop ((k+1)*31)∧w.grownBy w' (some g):=by
 have hts:Tryz.prog.underlying 41=some (.slice 60):=by kernel_rfl
 have hinf:(Tryz.prog.info? 60).map (fun i=>(i.zero.map (fun z=>(z.cells.size,z.cells.all (·.oneCell'))),i.size))=some (some (31,true),31):=by kernel_rfl
 obtain⟨i0,hi0,hi1⟩:=Option.map_eq_some_iff.1 hinf
 simp only[Prod.mk.injEq] at hi1
 obtain⟨hz0,hzs⟩:=hi1
 obtain⟨z,hz,hz1⟩:=Option.map_eq_some_iff.1 hz0
 simp only[Prod.mk.injEq] at hz1
 obtain⟨hzc,hzo⟩:=hz1
 have hzv:∀w,(zeroValue 60).run Tryz.prog w=.ok z w:=fun w=>by simp[zeroValue,typeInfo,hi0,hz]
 obtain⟨zs,hZS⟩:∃zs,z.cells.toList=zs:=⟨_,rfl⟩
 have hzl:zs.length=31:=by rw[←hZS];simpa using hzc
 have hz1:∀v∈zs,v.oneCell'=true:=fun v hv=>(Array.all_eq_true_iff_forall_mem.1 hzo) v (by rw[←hZS] at hv;simpa using hv)
 have HZS:=Lib.hid hZS
 have htk:(cur.toList.take (n*31)).length=n*31:=by rw[List.length_take,Array.length_toList,hcs];omega
 obtain⟨news,hnews⟩:∃news,news=(cur.toList.take (n*31)).drop ((k+1)*31):=⟨_,rfl⟩
 have hlen:news.length=(n-(k+1))*31:=by rw[hnews,List.length_drop,htk];omega
 have hat:∀(j:Nat) (u:Value),news[j]?=some u→w.cell? ⟨g,(k+1)*31+j,none⟩=some u:=fun j u hu=>by
  rw[hnews,List.getElem?_drop,List.getElem?_take] at hu
  split at hu
  ·exact jg hg hu
  cases hu
 obtain⟨A,hA,hsrc⟩:∃A:Addr,(if c=k+1 then some (⟨g,0,none⟩:Addr) else some ⟨g,(k+1)*31,none⟩)=some A∧Hid (∀t u,news[t]?=some u→w.drew.cell? (A.add t)=some u):=by
  by_cases h:c=k+1
  ·simp_all
  refine⟨⟨g, (k+1)*31, none⟩, by simp[h], fun t u hu=>?_⟩
  rw[Addr.add_lit]
  simp_all
 have s1:Hid (news.length=(n-(k+1))*31):=hlen
 have s2:Hid (∀u∈news,u.oneCell'=true):=fun u hu=>ho u (List.mem_of_mem_drop (by rw[hnews] at hu;exact hu))
 have hin:∀j,j<c*31→(w.cell? ⟨g,j,none⟩).isSome=true:=fun j hj=>by
  rw[lq hg j,Array.getElem?_eq_getElem (by omega)];rfl
 have s3:Hid (∀t,t<news.length→(w.drew.cell? ⟨g,0+k*31+t,none⟩).isSome=true∧w.drew.frozen? ⟨g,0+k*31+t,none⟩=false):=fun t ht=>by
  rw[hlen] at ht
  exact⟨hin _ (by omega),yR hg _⟩
 obtain⟨W1,hW1⟩:∃W1,W1=w.drew.setCells g (0+k*31) news:=⟨_,rfl⟩
 obtain⟨L1,hL1⟩:∃L1,L1=cur.toList.take (0+k*31)++news++cur.toList.drop (0+k*31+news.length):=⟨_,rfl⟩
 have hg1:W1.heap[g]?=some (.cells L1.toArray 60 (0,0)):=by
  rw[hW1,hL1]
  exact lC news (0+k*31) cur.toList w.drew (by show w.heap[g]?=_;simpa using hg) (by rw[hlen,Array.length_toList,hcs];omega)
 have hl1:L1.length=c*31:=by
  grind
 have hG1:w.grownBy W1 (some g):=by rw[hW1];exact yh (⟨rfl,rfl,rfl,Nat.le_refl _,fun _ _ _=>rfl⟩:w.grownBy w.drew (some g)) (lD g news _ _)
 have hW:Hid (W1=w.drew.setCells g (0+k*31) news):=hW1
 have HL1:=Lib.hid hL1
 have HG:=Lib.hid hg1
 have HG1:=Lib.hid hG1
 have HLL:=Lib.hid hl1
 have HNEWS:=Lib.hid hnews
 have HTK:=Lib.hid htk
 have HZV:=Lib.hid hzv
 have HZL:=Lib.hid hzl
 have HZ1:=Lib.hid hz1
 have hkc:k≤c:=by omega
 have hkc2:k+1≤c:=by omega
 have hkn:k+1≤n:=by omega
 have hne:¬((k:Int)=(k:Int)+1):=by omega
 have htn:((k:Int)+1).toNat=k+1:=by omega
 have hb1:(0:Int)≤(k:Int)+1:=by omega
 have hb2:¬(c=k):=by omega
 have hb3:(k:Int)+1≤(n:Int):=by omega
 have hb4:(k:Int)≤(k:Int)+1:=by omega
 have hb5:(n:Int)≤(c:Int):=by omega
 have hb6:(k:Int)+1≤(c:Int):=by omega
 have mixed:Tryz.prog.follows Departure.mixedOrders=true:=by kernel_rfl
 clear hZS hW1 hL1 hg1 hG1 hl1 hat hnews hlen hg hcs ho hin htk hinf hz0 hz hzc hzo hzv hzl hz1
 go_enter Tryz.func179,Tryz.ntmps179
 go_wp2_with fail
 go_region_law_o (refine step_append_room rfl (.tmp 22) (.tmp 25) 41 rfl 60 i0 31 hts hi0 hzs g 0 k c (by simp[Act.eval,Act.put]) A (n-(k+1)) (c-(k+1)) news (by simp[Act.eval,Act.put]) s1.out hsrc.out s2.out (by omega) s3.out ?_;rw[←hW.out])
 have hkk:k+(n-(k+1))=n-1:=by omega
 simp only[hkk]
 have hn1:n-1≤c:=by omega
 have hn2:((n-1:Nat):Int)≤(n:Int):=by omega
 have hn3:¬(c=n-1):=by omega
 have hn4:n-1≤n:=by omega
 go_wp2_with fail
 have hnn:n-(n-1)=1:=by omega
 simp only[hnn]
 have hG1:=HG.out
 have hl1:L1.toArray.size=c*31:=HLL.out
 have hj:∀j,j<zs.length→(n-1)*31+j<c*31:=fun j hj=>by
  rw[HZL.out] at hj
  omega
 rw[H6 W1 41 60 _ z zs HZS.out hts HZV.out HZ1.out g ((n-1)*31) (c-(n-1)) (fun j h=>by rw[lq hG1,Array.getElem?_eq_getElem (by rw[hl1];exact hj j h)];rfl) (fun j _=>yR hG1 _)]
 clear hG1 hl1 hj
 simp only[Result.andThen]
 rw[Oper.upon_value]
 have hg2:=lC (ty:=60) zs ((n-1)*31) L1 W1 HG.out (by rw[HZL.out,HLL.out];omega)
 have HG2:=Lib.hid hg2
 have HGG:=Lib.hid (yh HG1.out (lD g zs ((n-1)*31) W1))
 clear hg2
 go_wp2_with fail
 go_ret
 refine⟨rfl,_,HG2.out,?_,?_,HGG.out⟩
 ·simp only[List.size_toArray,List.length_append,List.length_take,List.length_drop,HZL.out,HLL.out]
  omega
 have h1:(L1.take ((n-1)*31)).length=(n-1)*31:=by rw[List.length_take, HLL.out];omega
 have h2:(cur.toList.take (0+k*31)).length+news.length=(n-1)*31:=by
  have:=HTK.out
  rw[List.length_take] at this ⊢
  rw[s1.out]
  omega
 show List.take ((n-1)*31) (L1.take ((n-1)*31)++zs++L1.drop ((n-1)*31+zs.length))=_
 rw[List.append_assoc, List.take_append_of_le_length (by rw[h1];exact Nat.le_refl _), List.take_of_length_le (by rw[h1];exact Nat.le_refl _), HL1.out, List.take_append_of_le_length (by rw[List.length_append, h2];exact Nat.le_refl _),
  List.take_of_length_le (by rw[List.length_append,h2];exact Nat.le_refl _),HNEWS.out,Nat.zero_add]
theorem YV{I:Gh}{w:World}{base:Nat}{x:Value}{l:List aW}(h:Acc I w base 60 31 x (l.map aW.lf)){k:Nat}(hk:k<l.length):
 Calls Tryz.prog 179 #[x,.int .i64 k,.int .i64 ((k:Int)+1)] w fun e w'=>∃x',e=.returned x'∧Acc I w' base 60 31 x' ((l.eraseIdx k).map aW.lf)∧w.grownBy w' x.ownBlock∧x'.ownBlock=x.ownBlock:=by
 obtain⟨xs,h1,h2,h3,h4⟩:=h
 rcases h1.2 with⟨_,h0⟩|⟨g,cap,cur,rfl,hbg,hg,hnc,hcm,hcs,htk⟩
 ·grind
 rw[List.length_map] at hnc htk ⊢
 refine(del_walk w g l.length cap k cur hk hnc hcm hg hcs (by rw[htk];exact fun v hv=>bV.one _ _ h2 v hv)).mono ?_
 rintro e w' ⟨rfl,cur',q1,q2,q3,q4⟩
 have hel:(l.eraseIdx k).length=l.length-1:=by rw[List.length_eraseIdx,if_pos hk]
 have hlen:(((l.eraseIdx k).map aW.lf)).length=l.length-1:=by rw[List.length_map,hel]
 have hl31:∀(q:List aW),((q.map aW.lf).flatten).length=q.length*31:=fun q=>by
  rw[yY (n:=31) _ (fun r hr=>by obtain⟨s,_,rfl⟩:=List.mem_map.1 hr;rw[aW.aY];rfl),List.length_map]
 have hv:bV I ((l.eraseIdx k).map aW.lf).flatten (xs.take (k*31)++xs.drop ((k+1)*31)):=by
  have e1:(l.map aW.lf).flatten=((l.take k).map aW.lf).flatten++(((l.drop k).take 1).map aW.lf).flatten++((l.drop (k+1)).map aW.lf).flatten:=by
   rw[←List.flatten_append,←List.flatten_append,←List.map_append,←List.map_append]
   congr 2
   rw[show k+1=1+k by omega,Nat.add_comm 1 k,←List.drop_drop,List.append_assoc,List.take_append_drop,List.take_append_drop]
  rw[e1] at h2
  obtain⟨ab,c,rfl,hab,hc⟩:=bV.split _ _ _ h2
  obtain⟨a,b,rfl,ha,hb⟩:=bV.split _ _ _ hab
  have la:a.length=k*31:=by rw[bV.len _ _ ha,hl31,List.length_take];congr 1;omega
  have lb:b.length=31:=by rw[bV.len _ _ hb,hl31,List.length_take,List.length_drop,Nat.min_eq_left (by omega)]
  have e2:(a++b++c).take (k*31)=a:=by rw[List.append_assoc,←la,List.take_left]
  have e3:(a++b++c).drop ((k+1)*31)=c:=by rw[show(k+1)*31=(a++b).length by rw[List.length_append,la,lb];omega,List.drop_left]
  rw[e2,e3,List.eraseIdx_eq_take_drop_succ,List.map_append,List.flatten_append]
  exact bV.app _ _ _ _ ha hc
 refine⟨_,rfl,⟨_,⟨?_,.inr ⟨g,cap,cur',?_,hbg,q1,?_,hcm,q2,?_⟩⟩,hv,fun r hr=>?_,fun j hj=>h4 j hj⟩,q4,rfl⟩
 ·grind
 ·rw[hlen]
 ·omega
 ·grind
 obtain⟨s,_,rfl⟩:=List.mem_map.1 hr
 rfl
noncomputable def acW(l:List ak)(name:ByteArray)(index:ByteArray):Option (List ak×Int):=
 match Q93 l name with
 |none=>none
 |some i=>match decide (i<0) with
  |true=>some ([],15)
  |false=>match jf l i with
   |none=>none
   |some s=>match Q84 s.bn index with
    |none=>none
    |some k=>match decide (k<0) with
     |true=>some ([],15)
     |false=>match Nat.ble (l.length*368) 140737488355328,xZ l with
      |true,some rs=>match rs[i.toNat]? with
       |none=>none
       |some r=>match Nat.ble (k.toNat+1) r.bn.length with
        |true=>some (rs.set i.toNat { r with bn:=r.bn.eraseIdx k.toNat },0)
        |false=>none
      |_,_=>none
set_option maxRecDepth 100000 in
set_option maxHeartbeats 4000000 in
theorem agT(p_l:List ak)(p_name:ByteArray)(p_index:ByteArray)(r:(List ak)×Int)(h:acW p_l p_name p_index=some r):Fn Tryz.prog GI 117 [.lf (.rows 25 (p_l.map ak.lf)),.lf (.str p_name),.lf (.str p_index)] (.tup [.lf (.rows 25 (r.1.map ak.lf)),.lf (.int .i64 r.2)]):=by
 refine⟨by kernel_rfl,fun I w vs hG hI hvs=>?_⟩
 obtain⟨v,u,y,rfl,hv,hu,hy⟩:=LY hvs
 obtain⟨rfl,hus⟩:=hu.str
 obtain⟨rfl,hys⟩:=hy.str
 obtain⟨ad,cp,rfl,hc1,hc2⟩:=LRp.slice (VR.lf.1 hv)
 rw[List.length_map] at hc1 hv ⊢
 have nil2:∀(J:Gh) (e:Int),(Lit.int .i64 e).wf=true→VR (rZ J) (.tup [.lf (.rows 25 (([]:List ak).map ak.lf)),.lf (.int .i64 e)]) (.tuple #[.slice none 0 0,.int .i64 e]):=fun J e he=>VR.tup.2 ⟨_,rfl,VRs.cons (VR.lf.2 (LRp.nil _ _)) (VRs.one (VR.mkInt he))⟩
 unfold acW at h
 cases hf:Q93 p_l p_name with
 |none=>grind
 |some i=>
 rw[hf] at h
 have HV:=Lib.hid hv
 have HYS:=Lib.hid hys
 have HG:=Lib.hid hG
 have HI:=Lib.hid hI
 have HF:=Lib.hid hf
 have HUS:=Lib.hid hus
 have HH:=Lib.hid h
 have HN:=Lib.hid nil2
 clear hv hy hys hG hI hf hus h nil2 hvs hu
 go_enter Tryz.func117,Tryz.ntmps117
 go_wp2_with fail
 refine Fn.calls (vs:=[_,_]) (ER _ _ _ HF.out) HG.out HI.out (VRs.cons HV.out (VRs.one (VR.mkStr HUS.out))) ?_
 intro I1 v1 w1 g1 k1
 obtain⟨rfl,hiw⟩:=k1.int
 have G1:=Lib.hid g1
 clear g1 k1 hiw
 by_cases hi:i<0
 ·have hh:=HH.out
  rw[decide_eq_true hi] at hh
  injection hh with hh;subst hh
  clear HH
  go_wp2_with fail
  refine bodyPost_ret (v:=.tuple #[.slice none 0 0,.int .i64 15]) (by simp only[results,Tryz.results117];go_simp) rfl ?_
  exact⟨I1,_,rfl,G1.out,HN.out I1 15 rfl⟩
 have hh:=HH.out
 rw[decide_eq_false hi] at hh
 cases hs:jf p_l i with
 |none=>grind
 |some s=>
 rw[hs] at hh
 cases hk:Q84 s.bn p_index with
 |none=>grind
 |some k=>
 simp only[hk] at hh
 replace HH:=Lib.hid hh
 have HK:=Lib.hid hk
 clear hh hk
 obtain⟨n,rfl⟩:=Int.eq_ofNat_of_zero_le (show 0≤i by omega)
 obtain⟨_,hsl⟩:=eu ak.aY hs
 obtain⟨b,ofs,cp',ce,hsl1,hcl1,hcm1,hwl,hve,hIc⟩:=LRp.elem (VR.lf.1 HV.out) n (ak.lf1 s) (by simpa using hsl)
 injection hsl1 with hsl1 hlq hsl2
 subst hsl1 hsl2
 clear hlq
 have hwf:=G1.out.inv
 obtain⟨c0,hx0,ct,rfl,hc0,hx1,hct⟩:∃c0 h0 ct,ce=c0::h0::ct∧LRp I (.str s.fName) c0∧LRp I (.rows 31 (s.bn.map aW.lf)) h0∧bV I ((ak.lf1 s).drop 2) ct:=by
  obtain⟨c0,q,rfl,k0,h0,q2,rfl,k1,k2⟩:=hve
  exact⟨c0,h0,q2,rfl,k0,k1,k2⟩
 have hcel:w1.cell? ⟨b,ofs+n*25+1,none⟩=some hx0:=hwf _ _ _ (G1.out.le _ _ _ (hIc 1 hx0 rfl))
 have hnl:n<p_l.length:=by
  grind
 have hnl2:(n:Int)<(p_l.length:Int):=by omega
 have HX1:=Lib.hid hx1
 clear hs hsl hwl hve hIc hwf hc0 hct hx1 hcl1 hcm1
 go_wp2_with fail
 refine Fn.calls (vs:=[_,_]) (UD _ _ _ HK.out) (jD.G I I1 G1.out.le HG.out) G1.out.inv (VRs.cons (VR.lf.2 (LRp.mono G1.out.le _ _ HX1.out)) (VRs.one (VR.mkStr HYS.out))) ?_
 intro I3 v3 w3 g3 k3
 obtain⟨rfl,hkw⟩:=k3.int
 have G3:=Lib.hid (G1.out.trans g3)
 clear g3 k3 hkw hcel
 by_cases hk0:k<0
 case pos=>
  have hh:=HH.out
  rw[decide_eq_true hk0] at hh
  injection hh with hh;subst hh
  clear HH
  go_wp2_with fail
  refine bodyPost_ret (v:=.tuple #[.slice none 0 0,.int .i64 15]) (by simp only[results,Tryz.results117];go_simp) rfl ?_
  exact⟨I3,_,rfl,G3.out,HN.out I3 15 rfl⟩
 have hh:=HH.out
 rw[decide_eq_false hk0] at hh
 cases hbg:Nat.ble (p_l.length*368) 140737488355328 with
 |false=>grind
 |true=>
 cases hcp:xZ p_l with
 |none=>grind
 |some rs=>
 simp only[hbg,hcp,Int.toNat_natCast] at hh
 cases hr2:rs[n]? with
 |none=>grind
 |some q=>
 rw[hr2] at hh
 cases hbb:Nat.ble (k.toNat+1) q.bn.length with
 |false=>grind
 |true=>
 simp only[hbb] at hh
 injection hh with hh;subst hh
 obtain⟨m,rfl⟩:=Int.eq_ofNat_of_zero_le (show 0≤k by omega)
 rw[Int.toNat_natCast] at hbb
 have hml:m+1≤q.bn.length:=Nat.le_of_ble_eq_true hbb
 have HR2:=Lib.hid hr2
 have HRL:=Lib.hid (zV hcp).1
 have HML:=Lib.hid hml
 have HCALL:=Lib.hid (Di (jD.G I I3 G3.out.le HG.out) G3.out.inv hcp (Nat.le_of_ble_eq_true hbg) (LRp.mono G3.out.le _ _ (VR.lf.1 HV.out)) n)
 clear HH hbb hbg hr2 hml
 go_wp2_with fail
 refine Calls.mono HCALL.out ?_
 rintro en w4 ⟨I4,hdr,rfl,g4,hsp⟩
 clear HCALL
 obtain⟨g,cap,hx,rfl,hbs,hglt,hav,hcell,hfree,hacc,hne,hput⟩:=hsp.open_ HR2.out
 obtain⟨ax,cx,hxe⟩:=hacc.shape
 rw[List.length_map] at hxe
 subst hxe
 have hnr:n<rs.length:=(List.getElem?_eq_some_iff.1 HR2.out).1
 have hnr2:(n:Int)<(rs.length:Int):=by omega
 have hm63:m+1≤maxLen:=by
  obtain⟨xs,h1,_⟩:=hacc
  rcases h1.2 with⟨_,h0⟩|⟨g',cap',cur,_,_,_,hnc,hcm,_⟩
  ·rw[List.length_map] at h0
   have:=HML.out
   omega
  rw[List.length_map] at hnc
  have:=HML.out
  omega
 have hw1:IntKind.i64.wrap ((m:Int)+1)=(m:Int)+1:=by unfold maxLen at hm63;rw[IntKind.wrap_i64];omega
 have G4:=Lib.hid g4
 have HCELL:=Lib.hid hcell
 have HFREE:=Lib.hid hfree
 have HAV:=Lib.hid hav
 have HACC:=Lib.hid hacc
 have HNE:=Lib.hid hne
 have HPUT:=Lib.hid hput
 have HBS:=Lib.hid hbs
 have cq:=hcell
 clear hsp hcell hfree hav hacc hne hput hbs g4 HN HF HK hnl hnl2
 go_wp2_with fail
 refine(YV HACC.out (k:=m) (by have:=HML.out;omega)).mono ?_
 rintro en w7 ⟨x',rfl,hacc7,hg7,hxo⟩
 obtain⟨a7,c7,hv7⟩:=hacc7.shape
 subst hv7
 have hgb:w7.heap[g]?=w4.heap[g]?:=hg7.block g hglt (fun e=>HNE.out g e.symm rfl)
 have hne7:∀k,(Value.slice a7 ((q.bn.eraseIdx m).map aW.lf).length c7).ownBlock=some k→k≠g:=fun k hk he=>HNE.out k (hxo▸hk) he
 have hg3:Gr I3 I4 w3 w7:=G4.out.grown hg7 fun k hk=>⟨(HACC.out.elim fun _ h=>h.2.2.2) k hk,(HACC.out.own k hk).1⟩
 obtain⟨J,j1,j2⟩:=Qg (hdr:=.slice (some ⟨g,0,none⟩) rs.length cap) (rs:=rs) (r:=q) (n:=n) (idx:=q.bn.eraseIdx m) hg3 HBS.out HAV.out hacc7 hne7 (fun J hle hav' hrow=>HPUT.out J w7 _ (q.bn.eraseIdx m) hle hav' hgb hrow)
 have HJ:=Lib.hid (And.intro j1 j2)
 have cv:w7.cell? ⟨g,n*25+1,none⟩=some (.slice ax q.bn.length cx):=(oJ hgb (n*25+1)).trans HCELL.out
 have fv:w7.frozen? ⟨g,n*25+1,none⟩=false:=(Dj hgb (n*25+1)).trans HFREE.out
 obtain⟨ln,hln⟩:∃ln,((q.bn.eraseIdx m).map aW.lf).length=ln:=⟨_,rfl⟩
 rw[hln] at HJ ⊢
 clear hacc7 hg7 hgb hne7 hg3 j1 j2 hxo cq hln
 go_wp2_with fail
 refine bodyPost_ret (v:=.tuple #[.slice (some ⟨g,0,none⟩) rs.length cap,.int .i64 0]) (by simp only[results,Tryz.results117];go_simp) rfl ?_
 exact⟨J,_,rfl,G3.out.trans HJ.out.1,VR.tup.2 ⟨_,rfl,VRs.cons (VR.lf.2 (by have h2:=HJ.out.2;rw[List.map_set] at h2;exact h2)) (VRs.one (VR.mkInt rfl))⟩⟩
end Go.Proofs.YtpdlghcgekojlaaGreatDoor
namespace Go.Proofs.YtpdlghcgekojlaaGreatDoor
open Go.RowKit
set_option maxRecDepth 20000
set_option maxHeartbeats 4000000
noncomputable section
noncomputable def am9(p_s0:List (ByteArray×ah))(r:Unit):List AV:=[.clo 86 [.ptr 1 0]]
noncomputable def alV(p_s0:List (ByteArray×ah))(r:Unit):List Slot:=[.res (bP p_s0) none,.box 110 (.agg [.mp 0])]
noncomputable def alW(p_s0:List (ByteArray×ah)):Mo (Unit):=
 .rt [0] 2 ()
noncomputable def Q82(p_s0:List (ByteArray×ah)):Option (Unit):=Mo.den (alW p_s0)
theorem ajJ(p_s0:List (ByteArray×ah)):FH (Q82 p_s0) 47 [.mp 0] [.res (bP p_s0) none] (fun r=>resV (am9 p_s0 r)) (fun r=>alV p_s0 r):=jA Tryz.func47
noncomputable def ana(p_b0_0:Int)(p_b0_1:List ak)(p_s1:aZ)(p_s2:List (ByteArray×ah))(p_s3:List (ByteArray×au))(r:List ByteArray):List AV:=[.lf (.rows 1 (r.map lfS))]
noncomputable def alX(p_b0_0:Int)(p_b0_1:List ak)(p_s1:aZ)(p_s2:List (ByteArray×ah))(p_s3:List (ByteArray×au))(r:List ByteArray):List Slot:=[.box 113 (.agg [.i_ p_b0_0,.lf (.rows 25 (p_b0_1.map ak.lf)),.mp 1,.mp 2,.mp 3]),.res (bH p_s1 none) none,.res (bP p_s2) none,.res (bT p_s3) none]
noncomputable def acX(p_b0_0:Int)(p_b0_1:List ak)(p_s1:aZ)(p_s2:List (ByteArray×ah))(p_s3:List (ByteArray×au)):Mo (List ByteArray):=
 .say [.br false,.iO [2] (.clo 86 [.ptr 1 0]) [.res (bP p_s2) none,.box 110 (.agg [.mp 0])]] (ok1 (rfl:false=false))<|
 .ask (Q82 p_s2) fun r0 h0=>
 .say [] (ok1 (ajJ _ _ h0))<|
 .cH [4,2] (agd p_s2) fun r1 _=>
 .ret ⟨[.frz 5,.kill 4],[0],[],4⟩ (r1)
noncomputable def Q83(p_b0_0:Int)(p_b0_1:List ak)(p_s1:aZ)(p_s2:List (ByteArray×ah))(p_s3:List (ByteArray×au)):Option (List ByteArray):=Mo.den (acX p_b0_0 p_b0_1 p_s1 p_s2 p_s3)
theorem ajK(p_b0_0:Int)(p_b0_1:List ak)(p_s1:aZ)(p_s2:List (ByteArray×ah))(p_s3:List (ByteArray×au)):FH (Q83 p_b0_0 p_b0_1 p_s1 p_s2 p_s3) 21 [.ptr 0 0] [.box 113 (.agg [.i_ p_b0_0,.lf (.rows 25 (p_b0_1.map ak.lf)),.mp 1,.mp 2,.mp 3]),.res (bH p_s1 none) none,.res (bP p_s2) none,.res (bT p_s3) none] (fun r=>resV (ana p_b0_0 p_b0_1 p_s1 p_s2 p_s3 r)) (fun r=>alX p_b0_0 p_b0_1 p_s1 p_s2 p_s3 r):=jA Tryz.func21
noncomputable def acY(p_x:Int):Mo (Bool):=
 .ret (bF 1) (p_x != p_x)
noncomputable def ajL(p_x:Int):Option (Bool):=Mo.den (acY p_x)
theorem Xd(p_x:Int):FV (ajL p_x) 207 [.i_ p_x] .b_:=dI Tryz.func207
noncomputable def Xe(p_x:Int)(p_y:Int):Mo (Int):=
 .cl (Xd p_x) fun r0 _=>
 .cl (Xd p_y) fun r1 _=>
 .iB (r0) (.iB (r1) (.ret (bF 1) (0))<|
 .ret (bF 1) ((-1)))<|
 .iB (r1) (.ret (bF 1) (1))<|
 .iB (decide ((p_x:Int)<p_y)) (.ret (bF 1) ((-1)))<|
 .iB (decide ((p_y:Int)<p_x)) (.ret (bF 1) (1))<|
 .ret (bF 1) (0)
noncomputable def Q95(p_x:Int)(p_y:Int):Option (Int):=Mo.den (Xe p_x p_y)
theorem MS(p_x:Int)(p_y:Int):FV (Q95 p_x p_y) 151 [.i_ p_x,.i_ p_y] .i_:=dI Tryz.func151
abbrev MV(m:aj→aj→Option (Int)):Prop:=∀p_a p_b,FV (m p_a p_b) 93 [.dat (aj.lf1 p_a),.dat (aj.lf1 p_b)] .i_
structure Fe where
 m1:(p_a:aj)→(p_b:aj)→Option (Int)
 ok1:MV m1
noncomputable def Fg(R_:Fe)(p_a:aj)(p_b:aj):Mo (Bool):=
 .iB (p_a.aB==3) (.rt [2,3,21,22] 2 (p_a.aB==3))<|
 .iB (p_a.aB==9) (.rt [2,3,21,22] 2 (p_a.aB==9))<|
 .rt [2,3,21,22] 2 (p_a.aB==10)
noncomputable def UN(R_:Fe)(p_a:aj)(p_b:aj):Option (Bool):=Mo.den (Fg R_ p_a p_b)
noncomputable def Fh(R_:Fe)(p_a:aj)(p_b:aj):Mo (Bool):=
 .iB (p_a.aB==4) (.rt [2,3,21,31] 2 (p_a.aB==4))<|
 .iB (p_a.aB==7) (.rt [2,3,21,31] 2 (p_a.aB==7))<|
 .rt [2,3,21,31] 2 (p_a.aB==8)
noncomputable def UO(R_:Fe)(p_a:aj)(p_b:aj):Option (Bool):=Mo.den (Fh R_ p_a p_b)
noncomputable def qW(R_:Fe)(p_a:aj)(p_b:aj):(Int)→Mo ((Int)⊕(Int)⊕Unit):=fun(v0)=>
 .iB (decide ((v0:Int)<(if(p_b.aX.length:Int)<(p_a.aX.length:Int) then(p_b.aX.length:Int) else(p_a.aX.length:Int)))) (.ask (jf p_a.aX v0) fun x0 h0=>
 .say [] (ok1 (eu aj.aY h0))<|
 .ask (jf p_b.aX v0) fun x1 h1=>
 .say [] (ok1 (eu aj.aY h1))<|
 .ask (R_.m1 x0 x1) fun r0 h2=>
 .say [.eG (.q 0 (.q 1 (.q 2 (.q 3 (.q 4 (.q 5 (.q 6 (.q 7 (.q 8 (.q 9 (.l 10 (.q 11 .fin)))))))))))) (some 10) [] [.row (aj.lf1 x0),.row (aj.lf1 x1),.res (.i_ r0)] [2,3,6,48,49] 2 [(2,.ptr 0 0),(3,.ptr 1 0),(6,.i_ r0),(48,.i_ (if(p_b.aX.length:Int)<(p_a.aX.length:Int) then(p_b.aX.length:Int) else(p_a.aX.length:Int))),(49,.i_ v0)] [bI p_a,bI p_b]] (okc (R_.ok1 _ _ _ h2) (ok1 (rf_ ⟨[(2,.ptr 0 0),(3,.ptr 1 0),(6,.i_ r0),(48,.i_ (if(p_b.aX.length:Int)<(p_a.aX.length:Int) then(p_b.aX.length:Int) else(p_a.aX.length:Int))),(49,.i_ v0)],[bI p_a,bI p_b]⟩)))<|
 .iB (r0 != 0) (.ret ⟨[.kill 0,.kill 1],[4],[],2⟩ (.inr (.inl (r0))))<|
 .rt [2,3,48,49] 2 (.inl (IntKind.wrap .i64 (v0+1))))<|
 .rt [2,3] 2 (.inr (.inr (())))
noncomputable def Xf(R_:Fe)(p_a:aj)(p_b:aj)(v0:Int):Option ((Int)⊕Unit):=dA (fun v_=>(qW R_ p_a p_b v_).den) FU (v0)
noncomputable def qX(R_:Fe)(p_a:aj)(p_b:aj):(Int)→Mo ((Int)⊕(Int)⊕Unit):=fun(v0)=>
 .iB (decide ((v0:Int)<(if(p_b.bC.length:Int)<(p_a.bC.length:Int) then(p_b.bC.length:Int) else(p_a.bC.length:Int)))) (.ask (jf p_a.bC v0) fun x0 h0=>
 .say [] (ok1 (eu aF.aY h0))<|
 .ask (jf p_b.bC v0) fun x1 h1=>
 .say [] (ok1 (eu aF.aY h1))<|
 .ask (aje x0.fName x1.fName) fun r0 h2=>
 .say [.eG (.q 0 (.q 1 (.q 2 (.q 3 (.q 4 (.q 5 (.q 6 (.q 7 (.q 8 (.q 9 (.q 10 (.q 11 (.l 12 (.q 13 .fin)))))))))))))) (some 12) [] [.row (aF.lf1 x0),.row (aF.lf1 x1),.res (.i_ r0)] [2,3,7,8,82,83] 2 [(2,.ptr 0 0),(3,.ptr 1 0),(7,.i_ v0),(8,.i_ r0),(82,.i_ (if(p_b.bC.length:Int)<(p_a.bC.length:Int) then(p_b.bC.length:Int) else(p_a.bC.length:Int))),(83,.i_ v0)] [bI p_a,bI p_b]] (okc (Wu _ _ _ h2) (ok1 (rf_ ⟨[(2,.ptr 0 0),(3,.ptr 1 0),(7,.i_ v0),(8,.i_ r0),(82,.i_ (if(p_b.bC.length:Int)<(p_a.bC.length:Int) then(p_b.bC.length:Int) else(p_a.bC.length:Int))),(83,.i_ v0)],[bI p_a,bI p_b]⟩)))<|
 .iB (r0 != 0) (.ret ⟨[.kill 0,.kill 1],[4],[],2⟩ (.inr (.inl (r0))))<|
 .ask (jf p_a.bC v0) fun x2 h3=>
 .say [] (ok1 (eu aF.aY h3))<|
 .ask (jf p_b.bC v0) fun x3 h4=>
 .say [] (ok1 (eu aF.aY h4))<|
 .ask (R_.m1 x2.fValue x3.fValue) fun r1 h5=>
 .say [.eG (.q 0 (.q 1 (.q 2 (.q 3 (.q 4 (.q 5 (.q 6 (.q 7 (.q 8 (.q 9 (.q 10 (.q 11 (.l 12 (.q 13 .fin)))))))))))))) (some 12) [] [.row (aF.lf1 x2),.row (aF.lf1 x3),.res (.i_ r1)] [2,3,9,82,83] 2 [(2,.ptr 0 0),(3,.ptr 1 0),(9,.i_ r1),(82,.i_ (if(p_b.bC.length:Int)<(p_a.bC.length:Int) then(p_b.bC.length:Int) else(p_a.bC.length:Int))),(83,.i_ v0)] [bI p_a,bI p_b]] (okc (R_.ok1 _ _ _ h5) (ok1 (rf_ ⟨[(2,.ptr 0 0),(3,.ptr 1 0),(9,.i_ r1),(82,.i_ (if(p_b.bC.length:Int)<(p_a.bC.length:Int) then(p_b.bC.length:Int) else(p_a.bC.length:Int))),(83,.i_ v0)],[bI p_a,bI p_b]⟩)))<|
 .iB (r1 != 0) (.ret ⟨[.kill 0,.kill 1],[4],[],2⟩ (.inr (.inl (r1))))<|
 .rt [2,3,82,83] 2 (.inl (IntKind.wrap .i64 (v0+1))))<|
 .rt [2,3] 2 (.inr (.inr (())))
noncomputable def Xg(R_:Fe)(p_a:aj)(p_b:aj)(v0:Int):Option ((Int)⊕Unit):=dA (fun v_=>(qX R_ p_a p_b v_).den) FU (v0)
noncomputable def Qh(R_:Fe)(p_a:aj)(p_b:aj):Mo (Int):=
 .iB (p_a.aB != p_b.aB) (.cl (MS p_a.aB p_b.aB) fun r0 _=>
 .ret (bF 1) (r0))<|
 .jp Tryz.f93 0 [1,1,0,1,0,0,1] 1 [2,3,21,22] 2 (.normal) (fun r_=>⟨[(2,.ptr 0 0),(3,.ptr 1 0),(21,.i_ p_a.aB),(22,.b_ r_)],[bI p_a,bI p_b]⟩) ⟨[(2,.ptr 0 0),(3,.ptr 1 0),(21,.i_ p_a.aB),(22,.lf (.bool (p_a.aB==3)))],[bI p_a,bI p_b]⟩ (UN R_ p_a p_b) (jW (by kernel_rfl)) fun r1 _=>
 .iB (r1) (.cl (MS p_a.dG p_b.dG) fun r2 _=>
 .ret (bF 1) (r2))<|
 .jp Tryz.f93 0 [1,1,0,1,0,1,1,0,1] 1 [2,3,21,31] 2 (.normal) (fun r_=>⟨[(2,.ptr 0 0),(3,.ptr 1 0),(21,.i_ p_a.aB),(31,.b_ r_)],[bI p_a,bI p_b]⟩) ⟨[(2,.ptr 0 0),(3,.ptr 1 0),(21,.i_ p_a.aB),(31,.lf (.bool (p_a.aB==4)))],[bI p_a,bI p_b]⟩ (UO R_ p_a p_b) (jW (by kernel_rfl)) fun r3 _=>
 .iB (r3) (.cl (Wu p_a.fText p_b.fText) fun r4 _=>
 .ret (bF 1) (r4))<|
 .iB (p_a.aB==6) (.nu p_a.aX aj.lf<|
 .nu p_b.aX aj.lf<|
 .l2m [] Tryz.f93 0 [1,1,0,1,0,1,1,1,1,1,0,0,1,0] 0 (fun(v0)=>⟨[(2,.ptr 0 0),(3,.ptr 1 0),(48,.i_ (if(p_b.aX.length:Int)<(p_a.aX.length:Int) then(p_b.aX.length:Int) else(p_a.aX.length:Int))),(49,.i_ v0)],[bI p_a,bI p_b]⟩) .ret (fun o_=>⟨[(4,.i_ o_)],[.dead,.dead]⟩) (.exit 1) (fun _=>⟨[(2,.ptr 0 0),(3,.ptr 1 0)],[bI p_a,bI p_b]⟩) (Xf R_ p_a p_b 0) (qW R_ p_a p_b) (0) (fun o0=>
 .ret (bF 1) (o0)) fun o1=>
 .nu p_a.aX aj.lf<|
 .nu p_b.aX aj.lf<|
 .cl (MS (p_a.aX.length:Int) (p_b.aX.length:Int)) fun r5 _=>
 .ret (bF 1) (r5))<|
 .iB (p_a.aB==5) (.nu p_a.bC aF.lf<|
 .nu p_b.bC aF.lf<|
 .l2m [] Tryz.f93 0 [1,1,0,1,0,1,1,1,1,1,1,1,0,0,1,0] 0 (fun(v1)=>⟨[(2,.ptr 0 0),(3,.ptr 1 0),(82,.i_ (if(p_b.bC.length:Int)<(p_a.bC.length:Int) then(p_b.bC.length:Int) else(p_a.bC.length:Int))),(83,.i_ v1)],[bI p_a,bI p_b]⟩) .ret (fun o_=>⟨[(4,.i_ o_)],[.dead,.dead]⟩) (.exit 3) (fun _=>⟨[(2,.ptr 0 0),(3,.ptr 1 0)],[bI p_a,bI p_b]⟩) (Xg R_ p_a p_b 0) (qX R_ p_a p_b) (0) (fun o2=>
 .ret (bF 1) (o2)) fun o3=>
 .nu p_a.bC aF.lf<|
 .nu p_b.bC aF.lf<|
 .cl (MS (p_a.bC.length:Int) (p_b.bC.length:Int)) fun r6 _=>
 .ret (bF 1) (r6))<|
 .ret (bF 1) (0)
theorem agU(R_:Fe):MV fun p_a p_b=>Mo.den (Qh R_ p_a p_b):=fun _ _=>dI Tryz.func93
noncomputable def lg:Nat→Fe
 |0=>{ m1:=fun p_a p_b=>none,ok1:=fun _ _ _ h=>(by cases h) }
 |n_+1=>{ m1:=fun p_a p_b=>Mo.den (Qh (lg n_) p_a p_b),ok1:=agU (lg n_) }
noncomputable def Q12(p_a:aj)(p_b:aj):Option (Int):=(lg FU).m1 p_a p_b
theorem ajM:MV Q12:=(lg FU).ok1
noncomputable def MW(p_a:aj)(p_b:aj):Mo (Bool):=
 .cl (ajM p_a p_b) fun r0 _=>
 .ret (bF 1) (r0==0)
noncomputable def YW(p_a:aj)(p_b:aj):Option (Bool):=Mo.den (MW p_a p_b)
theorem MX(p_a:aj)(p_b:aj):FV (YW p_a p_b) 57 [.dat (aj.lf1 p_a),.dat (aj.lf1 p_b)] .b_:=dI Tryz.func57
noncomputable def Qi(p_b0_0:Int)(p_b0_1:List ak)(p_key:aj)(p_s1:aZ)(p_s2:List (ByteArray×ah))(p_s3:List (ByteArray×au))(p_space:ByteArray)(r0:List ByteArray)(v0:Int)(v1:Int)(x0:ByteArray)(x1:ay):Mo (Bool):=
 .iG 20004 (decide ((x1.aT:ByteArray)=(p_space:ByteArray))) (.cl (MX x1.dL p_key) fun r1 _=>
 .ret ⟨[.kill 5],[0,1,5,8,14,15,16,26,27,28,41],[],6⟩ (r1))<|
 .ret ⟨[.kill 5],[0,1,5,8,14,15,16,26,27,28,41],[],6⟩ (false)
noncomputable def uY(p_b0_0:Int)(p_b0_1:List ak)(p_key:aj)(p_s1:aZ)(p_s2:List (ByteArray×ah))(p_s3:List (ByteArray×au))(p_space:ByteArray)(r0:List ByteArray)(v0:Int)(x0:ByteArray):(Int)→Mo ((Int)⊕(Unit⊕Unit)):=fun(v1)=>
 .iB (decide ((v1:Int)<((((aI x0 p_s2).getD ah.z).bJ).length:Int))) (.gx ay.aY (((aI x0 p_s2).getD ah.z).bJ) v1 fun x1 _=>
 .jk Tryz.f30 4 [1,1,0,1,0,0,1,1,0,0,1,1,0,0,1,1,0,0,1,0] 25 (fun r_=>⟨[(0,.ptr 0 0),(1,.lf (.str p_space)),(5,.ptr 4 0),(8,.lf (.str x0)),(14,.lf (.rows 1 (r0.map lfS))),(15,.i_ (r0.length:Int)),(16,.i_ v0),(26,.lf (.rows 78 ((((aI x0 p_s2).getD ah.z).bJ).map ay.lf))),(27,.i_ ((((aI x0 p_s2).getD ah.z).bJ).length:Int)),(28,.i_ v1),(41,.b_ r_)],[.box 113 (.agg [.i_ p_b0_0,.lf (.rows 25 (p_b0_1.map ak.lf)),.mp 1,.mp 2,.mp 3]),.res (bH p_s1 none) none,.res (bP p_s2) none,.res (bT p_s3) none,bI p_key,.dead]⟩) ⟨[(0,.ptr 0 0),(1,.lf (.str p_space)),(5,.ptr 4 0),(8,.lf (.str x0)),(10,.ptr 5 0),(14,.lf (.rows 1 (r0.map lfS))),(15,.i_ (r0.length:Int)),(16,.i_ v0),(26,.lf (.rows 78 ((((aI x0 p_s2).getD ah.z).bJ).map ay.lf))),(27,.i_ ((((aI x0 p_s2).getD ah.z).bJ).length:Int)),(28,.i_ v1)],[.box 113 (.agg [.i_ p_b0_0,.lf (.rows 25 (p_b0_1.map ak.lf)),.mp 1,.mp 2,.mp 3]),.res (bH p_s1 none) none,.res (bP p_s2) none,.res (bT p_s3) none,bI p_key,.box 64 (.agg ((ay.lf1 x1).map AV.lf))]⟩ (Qi p_b0_0 p_b0_1 p_key p_s1 p_s2 p_s3 p_space r0 v0 v1 x0 x1) fun r1=>
 .iB (r1) (.ret ⟨[.kill 4],[6],[],5⟩ (.inr (.inl ())))<|
 .rt [0,1,5,8,14,15,16,26,27,28] 5 (.inl (IntKind.wrap .i64 (v1+1))))<|
 .rt [0,1,5,14,15,16] 5 (.inr (.inr (())))
noncomputable def acZ(p_b0_0:Int)(p_b0_1:List ak)(p_key:aj)(p_s1:aZ)(p_s2:List (ByteArray×ah))(p_s3:List (ByteArray×au))(p_space:ByteArray)(r0:List ByteArray)(v0:Int)(x0:ByteArray)(v1:Int):Option (Unit⊕Unit):=dA (fun v_=>(uY p_b0_0 p_b0_1 p_key p_s1 p_s2 p_s3 p_space r0 v0 x0 v_).den) FU (v1)
noncomputable def oL(p_b0_0:Int)(p_b0_1:List ak)(p_key:aj)(p_s1:aZ)(p_s2:List (ByteArray×ah))(p_s3:List (ByteArray×au))(p_space:ByteArray)(r0:List ByteArray):(Int)→Mo ((Int)⊕(ByteArray)⊕Unit):=fun(v0)=>
 .iB (decide ((v0:Int)<(r0.length:Int))) (.gx lS_ r0 v0 fun x0 _=>
 .say [.opH [2] (.dat (ah.lf1 ((aI x0 p_s2).getD ah.z))) [.res (bP p_s2) none],.num (((aI x0 p_s2).getD ah.z).bJ).length] (okc (WA p_s2 x0) (ok1 (ln_ (((aI x0 p_s2).getD ah.z).bJ) ay.lf)))<|
 .l2m [] Tryz.f30 4 [1,1,0,1,0,0,1,1,0,0,1,1,0] 0 (fun(v1)=>⟨[(0,.ptr 0 0),(1,.lf (.str p_space)),(5,.ptr 4 0),(8,.lf (.str x0)),(14,.lf (.rows 1 (r0.map lfS))),(15,.i_ (r0.length:Int)),(16,.i_ v0),(26,.lf (.rows 78 ((((aI x0 p_s2).getD ah.z).bJ).map ay.lf))),(27,.i_ ((((aI x0 p_s2).getD ah.z).bJ).length:Int)),(28,.i_ v1)],[.box 113 (.agg [.i_ p_b0_0,.lf (.rows 25 (p_b0_1.map ak.lf)),.mp 1,.mp 2,.mp 3]),.res (bH p_s1 none) none,.res (bP p_s2) none,.res (bT p_s3) none,bI p_key]⟩) .ret (fun _=>⟨[(6,.lf (.str x0))],[.box 113 (.agg [.i_ p_b0_0,.lf (.rows 25 (p_b0_1.map ak.lf)),.mp 1,.mp 2,.mp 3]),.res (bH p_s1 none) none,.res (bP p_s2) none,.res (bT p_s3) none,.dead]⟩) (.exit 2) (fun _=>⟨[(0,.ptr 0 0),(1,.lf (.str p_space)),(5,.ptr 4 0),(14,.lf (.rows 1 (r0.map lfS))),(15,.i_ (r0.length:Int)),(16,.i_ v0)],[.box 113 (.agg [.i_ p_b0_0,.lf (.rows 25 (p_b0_1.map ak.lf)),.mp 1,.mp 2,.mp 3]),.res (bH p_s1 none) none,.res (bP p_s2) none,.res (bT p_s3) none,bI p_key]⟩) (acZ p_b0_0 p_b0_1 p_key p_s1 p_s2 p_s3 p_space r0 v0 x0 0) (uY p_b0_0 p_b0_1 p_key p_s1 p_s2 p_s3 p_space r0 v0 x0) (0) (fun o0=>
 .rt [6] 5 (.inr (.inl (x0)))) fun o1=>
 .rt [0,1,5,14,15,16] 5 (.inl (IntKind.wrap .i64 (v0+1))))<|
 .ret ⟨[.kill 4],[],[],5⟩ (.inr (.inr (())))
noncomputable def Xh(p_b0_0:Int)(p_b0_1:List ak)(p_key:aj)(p_s1:aZ)(p_s2:List (ByteArray×ah))(p_s3:List (ByteArray×au))(p_space:ByteArray)(r0:List ByteArray)(v0:Int):Option ((ByteArray)⊕Unit):=dA (fun v_=>(oL p_b0_0 p_b0_1 p_key p_s1 p_s2 p_s3 p_space r0 v_).den) FU (v0)
noncomputable def anb(p_space:ByteArray)(p_key:aj)(p_b0_0:Int)(p_b0_1:List ak)(p_s1:aZ)(p_s2:List (ByteArray×ah))(p_s3:List (ByteArray×au))(r:ByteArray):List AV:=[.lf (.str r)]
noncomputable def alY(p_space:ByteArray)(p_key:aj)(p_b0_0:Int)(p_b0_1:List ak)(p_s1:aZ)(p_s2:List (ByteArray×ah))(p_s3:List (ByteArray×au))(r:ByteArray):List Slot:=[.box 113 (.agg [.i_ p_b0_0,.lf (.rows 25 (p_b0_1.map ak.lf)),.mp 1,.mp 2,.mp 3]),.res (bH p_s1 none) none,.res (bP p_s2) none,.res (bT p_s3) none]
noncomputable def ac0(p_space:ByteArray)(p_key:aj)(p_b0_0:Int)(p_b0_1:List ak)(p_s1:aZ)(p_s2:List (ByteArray×ah))(p_s3:List (ByteArray×au)):Mo (ByteArray):=
 .say [.br false] (ok1 (rfl:false=false))<|
 .ask (Q83 p_b0_0 p_b0_1 p_s1 p_s2 p_s3) fun r0 h0=>
 .say [.iO [0,1,2,3] (.lf (.rows 1 (r0.map lfS))) [.box 113 (.agg [.i_ p_b0_0,.lf (.rows 25 (p_b0_1.map ak.lf)),.mp 1,.mp 2,.mp 3]),.res (bH p_s1 none) none,.res (bP p_s2) none,.res (bT p_s3) none],.num r0.length] (okc (ajK _ _ _ _ _ _ h0) (ok1 (ln_ r0 lfS)))<|
 .l2m [] Tryz.f30 4 [1,1,0,1,0] 0 (fun(v0)=>⟨[(0,.ptr 0 0),(1,.lf (.str p_space)),(5,.ptr 4 0),(14,.lf (.rows 1 (r0.map lfS))),(15,.i_ (r0.length:Int)),(16,.i_ v0)],[.box 113 (.agg [.i_ p_b0_0,.lf (.rows 25 (p_b0_1.map ak.lf)),.mp 1,.mp 2,.mp 3]),.res (bH p_s1 none) none,.res (bP p_s2) none,.res (bT p_s3) none,bI p_key]⟩) .ret (fun o_=>⟨[(6,.lf (.str o_))],[.box 113 (.agg [.i_ p_b0_0,.lf (.rows 25 (p_b0_1.map ak.lf)),.mp 1,.mp 2,.mp 3]),.res (bH p_s1 none) none,.res (bP p_s2) none,.res (bT p_s3) none,.dead]⟩) (.exit 0) (fun _=>⟨[],[.box 113 (.agg [.i_ p_b0_0,.lf (.rows 25 (p_b0_1.map ak.lf)),.mp 1,.mp 2,.mp 3]),.res (bH p_s1 none) none,.res (bP p_s2) none,.res (bT p_s3) none,.dead]⟩) (Xh p_b0_0 p_b0_1 p_key p_s1 p_s2 p_s3 p_space r0 0) (oL p_b0_0 p_b0_1 p_key p_s1 p_s2 p_s3 p_space r0) (0) (fun o0=>
 .rt [0] 4 (o0)) fun o1=>
 .rt [0] 4 ((⟨#[]⟩:ByteArray))
noncomputable def Q13(p_space:ByteArray)(p_key:aj)(p_b0_0:Int)(p_b0_1:List ak)(p_s1:aZ)(p_s2:List (ByteArray×ah))(p_s3:List (ByteArray×au)):Option (ByteArray):=Mo.den (ac0 p_space p_key p_b0_0 p_b0_1 p_s1 p_s2 p_s3)
theorem UQ(p_space:ByteArray)(p_key:aj)(p_b0_0:Int)(p_b0_1:List ak)(p_s1:aZ)(p_s2:List (ByteArray×ah))(p_s3:List (ByteArray×au)):FH (Q13 p_space p_key p_b0_0 p_b0_1 p_s1 p_s2 p_s3) 30 [.ptr 0 0,.lf (.str p_space),.dat (aj.lf1 p_key)] [.box 113 (.agg [.i_ p_b0_0,.lf (.rows 25 (p_b0_1.map ak.lf)),.mp 1,.mp 2,.mp 3]),.res (bH p_s1 none) none,.res (bP p_s2) none,.res (bT p_s3) none] (fun r=>resV (anb p_space p_key p_b0_0 p_b0_1 p_s1 p_s2 p_s3 r)) (fun r=>alY p_space p_key p_b0_0 p_b0_1 p_s1 p_s2 p_s3 r):=jA Tryz.func30
noncomputable def ac1(p_v:aj):Mo (Bool):=
 .aV 6003 (p_v.dG==0) [1,2,13] 1 (decide ((p_v.fText:ByteArray)=(⟨#[]⟩:ByteArray)))
noncomputable def ac2(p_v:aj)(r0:Bool):Mo (Bool):=
 .iG 6008 (r0) (.nu p_v.aX aj.lf<|
 .rt [1,2,19] 1 ((p_v.aX.length:Int)==0))<|
 .rt [1,2,19] 1 (false)
noncomputable def YX(p_v:aj)(r0:Bool):Mo (Bool):=
 .iG 6014 (r0) (.nu p_v.bC aF.lf<|
 .ret ⟨[.kill 0],[2,25],[],1⟩ ((p_v.bC.length:Int)==0))<|
 .ret ⟨[.kill 0],[2,25],[],1⟩ (false)
noncomputable def ah7(p_v:aj):Mo (Bool):=
 .iB (p_v.aB==0) (.sf Tryz.f149 0 [1,0,1,0,0] 0 8 2 [(1,.ptr 0 0),(2,.b_ false)] [bI p_v] 13 (ac1 p_v) fun r0=>
 .sb Tryz.f149 0 [1,0,1,0,0] 8 6 2 [(1,.ptr 0 0),(2,.b_ false)] [bI p_v] 13 19 r0 (ac2 p_v r0) fun r1=>
 .sk Tryz.f149 0 [1,0,1,0,0] 14 6 2 (fun r_=>⟨[(2,.b_ false),(25,.b_ r_)],[.dead]⟩) ⟨[(1,.ptr 0 0),(2,.b_ false),(19,.b_ r1)],[bI p_v]⟩ (YX p_v r1) fun r2=>
 .sk Tryz.f149 0 [1,0,1,0,0] 20 1 2 (fun r_=>⟨[(2,.b_ r2)],[.dead]⟩) ⟨[(2,.b_ false),(25,.b_ r2)],[.dead]⟩ (gu r2) fun r3=>
 .ret (bF 1) (r2))<|
 .cl (sZ p_v) fun r4 _=>
 .ret (bF 1) (r4)
noncomputable def Q86(p_v:aj):Option (Bool):=Mo.den (ah7 p_v)
theorem ajN(p_v:aj):FV (Q86 p_v) 149 [.dat (aj.lf1 p_v)] .b_:=dI Tryz.func149
abbrev Xi(m:aj→Option (List Int)):Prop:=∀p_v,FH (m p_v) 150 [.raw (.slice none 0 0),.dat (aj.lf1 p_v)] [] (fun _=>.own 0) (fun r=>[.row 5 1 (r.map (lfK .u8))])
abbrev MZ(m:aj→(List Int)→Option (List Int)):Prop:=∀p_v p_s0,FH (m p_v p_s0) 150 [.own 0,.dat (aj.lf1 p_v)] [.row 5 1 (p_s0.map (lfK .u8))] (fun _=>.own 1) (fun r=>[.dead,.row 5 1 (r.map (lfK .u8))])
structure ni where
 m1:(p_v:aj)→Option (List Int)
 ok1:Xi m1
 m2:(p_v:aj)→(p_s0:List Int)→Option (List Int)
 ok2:MZ m2
noncomputable def ac3(R_:ni)(p_v:aj):Mo (Bool):=
 .iB (p_v.aB==3) (.rt [0,3,19,20] 3 (p_v.aB==3))<|
 .iB (p_v.aB==9) (.rt [0,3,19,20] 3 (p_v.aB==9))<|
 .rt [0,3,19,20] 3 (p_v.aB==10)
noncomputable def ac4(R_:ni)(p_v:aj):(Int×(List Int))→Mo ((Int×(List Int))⊕((List Int))):=fun(v0,l0)=>
 .iB (decide ((0:Int)≤v0)) (.say [.rows ((l0++[IntKind.wrap .u8 (qy .u64 (gW .xor .u64 (IntKind.wrap .u64 p_v.dG) 9223372036854775808) v0)]).map (lfK .u8))] ok0<|
 .grd ((0:Int)≤v0) fun h0=>
 .say [] (okc h0 (ok1 (by simp[lfI,lfK]:(l0++[IntKind.wrap .u8 (qy .u64 (gW .xor .u64 (IntKind.wrap .u64 p_v.dG) 9223372036854775808) v0)]).map (lfK .u8)=(l0.map (lfK .u8))++[((lfK .u8) (IntKind.wrap .u8 (qy .u64 (gW .xor .u64 (IntKind.wrap .u64 p_v.dG) 9223372036854775808) v0)))])))<|
 .grd ((l0.length+[IntKind.wrap .u8 (qy .u64 (gW .xor .u64 (IntKind.wrap .u64 p_v.dG) 9223372036854775808) v0)].length)*1≤140737488355328) fun h1=>
 .say [] (ok1 (by simpa using h1:((l0.map (lfK .u8)).length+[((lfK .u8) (IntKind.wrap .u8 (qy .u64 (gW .xor .u64 (IntKind.wrap .u64 p_v.dG) 9223372036854775808) v0)))].length)*1≤140737488355328))<|
 .ret ⟨[],[0,5,6],[(4,2)],3⟩ (.inl (IntKind.wrap .i64 (v0-8),l0++[IntKind.wrap .u8 (qy .u64 (gW .xor .u64 (IntKind.wrap .u64 p_v.dG) 9223372036854775808) v0)])))<|
 .rt [0] 3 (.inr (l0))
noncomputable def YZ(R_:ni)(p_v:aj):Mo (Bool):=
 .iB (p_v.aB==4) (.rt [0,3,19,39] 3 (p_v.aB==4))<|
 .iB (p_v.aB==7) (.rt [0,3,19,39] 3 (p_v.aB==7))<|
 .rt [0,3,19,39] 3 (p_v.aB==8)
noncomputable def Y0(R_:ni)(l0:List Int)(p_v:aj)(v0:Int):Mo (((List Int))):=
 .ask (kG p_v.fText v0) fun b0 h0=>
 .say [.byt b0,.rows ((l0++[(b0.toNat:Int)]).map (lfK .u8))] (okc (fK h0) (ok1 (by simp[lfI,lfK]:(l0++[(b0.toNat:Int)]).map (lfK .u8)=(l0.map (lfK .u8))++[((lfK .u8) (b0.toNat:Int))])))<|
 .grd ((l0.length+[(b0.toNat:Int)].length)*1≤140737488355328) fun h1=>
 .say [] (ok1 (by simpa using h1:((l0.map (lfK .u8)).length+[((lfK .u8) (b0.toNat:Int))].length)*1≤140737488355328))<|
 .ask (kG p_v.fText v0) fun b1 h2=>
 .say [.byt b1] (ok1 (fK h2))<|
 .iB ((b1.toNat:Int)==0) (.say [.rows (((l0++[(b0.toNat:Int)])++[(255:Int)]).map (lfK .u8))] (ok1 (by simp[lfI,lfK]:((l0++[(b0.toNat:Int)])++[(255:Int)]).map (lfK .u8)=((l0++[(b0.toNat:Int)]).map (lfK .u8))++[((lfK .u8) (255:Int))]))<|
 .grd (((l0++[(b0.toNat:Int)]).length+[(255:Int)].length)*1≤140737488355328) fun h3=>
 .say [] (ok1 (by simpa using h3:(((l0++[(b0.toNat:Int)]).map (lfK .u8)).length+[((lfK .u8) (255:Int))].length)*1≤140737488355328))<|
 .ret ⟨[],[0,3,45,46],[(6,2)],3⟩ ((l0++[(b0.toNat:Int)])++[(255:Int)]))<|
 .ret ⟨[],[0,3,45,46],[(4,2)],3⟩ (l0++[(b0.toNat:Int)])
noncomputable def Y1(R_:ni)(p_v:aj):(Int×(List Int))→Mo ((Int×(List Int))⊕((List Int))):=fun(v0,l0)=>
 .iB (decide ((v0:Int)<(p_v.fText.size:Int))) (.jk Tryz.f150 0 [1,1,0,1,0,1,1,1,0,0,1,0,0,1,1,0] 14 (fun r_=>⟨[(0,.own 2),(3,.ptr 0 0),(45,.i_ (p_v.fText.size:Int)),(46,.i_ v0)],[bI p_v,.dead,.row 5 1 (r_.map (lfK .u8))]⟩) ⟨[(0,.own 2),(3,.ptr 0 0),(45,.i_ (p_v.fText.size:Int)),(46,.i_ v0)],[bI p_v,.dead,.row 5 1 (l0.map (lfK .u8))]⟩ (Y0 R_ l0 p_v v0) fun r0=>
 .rt [0,3,45,46] 3 (.inl (IntKind.wrap .i64 (v0+1),r0)))<|
 .ret ⟨[.kill 0],[0],[],3⟩ (.inr (l0))
noncomputable def Y2(R_:ni)(p_v:aj):(Int×(List Int))→Mo ((Int×(List Int))⊕((List Int))):=fun(v0,l0)=>
 .iB (decide ((v0:Int)<(p_v.aX.length:Int))) (.gx aj.aY p_v.aX v0 fun x0 _=>
 .say [] (ok1 (by simp[lfI,lfK]:(l0++[(1:Int)]).map (lfK .u8)=(l0.map (lfK .u8))++[((lfK .u8) (1:Int))]))<|
 .grd ((l0.length+[(1:Int)].length)*1≤140737488355328) fun h0=>
 .say [] (ok1 (by simpa using h0:((l0.map (lfK .u8)).length+[((lfK .u8) (1:Int))].length)*1≤140737488355328))<|
 .ask (R_.m2 x0 (l0++[(1:Int)])) fun r0 h1=>
 .say [.eG (.q 0 (.q 3 (.l 1 (.l 2 (.l 4 (.q 5 .fin)))))) (some 4) [2,5] [.at_ 54 1,.resv 2,.slot 4,.rows ((l0++[(1:Int)]).map (lfK .u8)),.slot 5,.at_ 54 4,.tod 80,.iO [5] (.own 1) [.dead,.row 5 1 (r0.map (lfK .u8))]] [0,71,72,73] 7 [(0,.own 6),(71,.lf (.rows 5 (p_v.aX.map aj.lf))),(72,.i_ (p_v.aX.length:Int)),(73,.i_ v0)] [.dead,.dead,.dead,.box 40 (.agg [.i_ x0.aB,.i_ x0.dG,.lf (.str x0.fText),.lf (.rows 5 (x0.aX.map aj.lf)),.lf (.rows 6 (x0.bC.map aF.lf))]),.row 5 1 [((lfK .u8) (1:Int))],.dead,.row 5 1 (r0.map (lfK .u8))]] (okc (R_.ok2 _ _ _ h1) (ok1 (rf_ ⟨[(0,.own 6),(71,.lf (.rows 5 (p_v.aX.map aj.lf))),(72,.i_ (p_v.aX.length:Int)),(73,.i_ v0)],[.dead,.dead,.dead,.box 40 (.agg [.i_ x0.aB,.i_ x0.dG,.lf (.str x0.fText),.lf (.rows 5 (x0.aX.map aj.lf)),.lf (.rows 6 (x0.bC.map aF.lf))]),.row 5 1 [((lfK .u8) (1:Int))],.dead,.row 5 1 (r0.map (lfK .u8))]⟩)))<|
 .ret ⟨[],[0,71,72,73],[(6,2)],3⟩ (.inl (IntKind.wrap .i64 (v0+1),r0)))<|
 .rt [0] 3 (.inr (l0))
noncomputable def Y3(R_:ni)(p_v:aj):(Int×(List Int))→Mo ((Int×(List Int))⊕((List Int))):=fun(v0,l0)=>
 .iB (decide ((v0:Int)<(p_v.bC.length:Int))) (.gx aF.aY p_v.bC v0 fun x0 _=>
 .say [.rows ((l0++[(1:Int)]).map (lfK .u8)),.rows (((l0++[(1:Int)])++(numsOf (x0.fName:ByteArray))).map (lfK .u8))] (ok1 (by simp[lfI,lfK]:(l0++[(1:Int)]).map (lfK .u8)=(l0.map (lfK .u8))++[((lfK .u8) (1:Int))]))<|
 .grd ((l0.length+[(1:Int)].length)*1≤140737488355328) fun h0=>
 .say [] (okc (by simpa using h0:((l0.map (lfK .u8)).length+[((lfK .u8) (1:Int))].length)*1≤140737488355328) (ok1 (by first|(rw[List.map_append,qQ];done)|(rw[qQ,List.nil_append];done)|simp[lfI,lfK,qQ]:((l0++[(1:Int)])++(numsOf (x0.fName:ByteArray))).map (lfK .u8)=((l0++[(1:Int)]).map (lfK .u8))++Bc (x0.fName:ByteArray))))<|
 .grd ((l0++[(1:Int)]).length+(x0.fName:ByteArray).size≤140737488355328) fun h1=>
 .say [] (okc (by simpa using h1:((l0++[(1:Int)]).map (lfK .u8)).length+(x0.fName:ByteArray).size≤140737488355328) (ok1 (by simp[lfI,lfK]:(((l0++[(1:Int)])++(numsOf (x0.fName:ByteArray)))++[(0:Int)]).map (lfK .u8)=(((l0++[(1:Int)])++(numsOf (x0.fName:ByteArray))).map (lfK .u8))++[((lfK .u8) (0:Int))])))<|
 .grd ((((l0++[(1:Int)])++(numsOf (x0.fName:ByteArray))).length+[(0:Int)].length)*1≤140737488355328) fun h2=>
 .say [] (ok1 (by simpa using h2:((((l0++[(1:Int)])++(numsOf (x0.fName:ByteArray))).map (lfK .u8)).length+[((lfK .u8) (0:Int))].length)*1≤140737488355328))<|
 .ask (R_.m2 x0.fValue (((l0++[(1:Int)])++(numsOf (x0.fName:ByteArray)))++[(0:Int)])) fun r0 h3=>
 .say [.eG (.q 0 (.q 3 (.q 4 (.l 1 (.l 2 (.l 5 (.q 6 .fin))))))) (some 5) [6,8] [.at_ 72 1,.resv 2,.slot 7,.rows ((((l0++[(1:Int)])++(numsOf (x0.fName:ByteArray)))++[(0:Int)]).map (lfK .u8)),.slot 8,.at_ 72 5,.tod 106,.iO [8] (.own 1) [.dead,.row 5 1 (r0.map (lfK .u8))]] [0,89,90,91] 10 [(0,.own 9),(89,.lf (.rows 6 (p_v.bC.map aF.lf))),(90,.i_ (p_v.bC.length:Int)),(91,.i_ v0)] [.dead,.dead,.dead,.box 138 (.agg ((aF.lf1 x0).map AV.lf)),.row 5 1 [((lfK .u8) (1:Int))],.dead,.dead,.row 5 1 [((lfK .u8) (0:Int))],.dead,.row 5 1 (r0.map (lfK .u8))]] (okc (R_.ok2 _ _ _ h3) (ok1 (rf_ ⟨[(0,.own 9),(89,.lf (.rows 6 (p_v.bC.map aF.lf))),(90,.i_ (p_v.bC.length:Int)),(91,.i_ v0)],[.dead,.dead,.dead,.box 138 (.agg ((aF.lf1 x0).map AV.lf)),.row 5 1 [((lfK .u8) (1:Int))],.dead,.dead,.row 5 1 [((lfK .u8) (0:Int))],.dead,.row 5 1 (r0.map (lfK .u8))]⟩)))<|
 .ret ⟨[],[0,89,90,91],[(9,2)],3⟩ (.inl (IntKind.wrap .i64 (v0+1),r0)))<|
 .rt [0] 3 (.inr (l0))
noncomputable def Y4(R_:ni)(p_v:aj):Mo (((List Int))):=
 .jk Tryz.f150 0 [1,1,0,1,0,0,1] 1 (fun r_=>⟨[(0,.own 2),(3,.ptr 0 0),(19,.i_ p_v.aB),(20,.b_ r_)],[bI p_v,.dead,.row 5 1 ([IntKind.wrap .u8 p_v.aB].map (lfK .u8))]⟩) ⟨[(0,.own 2),(3,.ptr 0 0),(19,.i_ p_v.aB),(20,.lf (.bool (p_v.aB==3)))],[bI p_v,.dead,.row 5 1 ([IntKind.wrap .u8 p_v.aB].map (lfK .u8))]⟩ (ac3 R_ p_v) fun r0=>
 .iB (r0) (.l1y [.kill 0] Tryz.f150 0 [1,1,0,1,0,1,0,1,1,0] 0 (.exit 1) (fun(v0,l0)=>⟨[(0,.own 2),(5,.lf (.int .u64 (gW .xor .u64 (IntKind.wrap .u64 p_v.dG) 9223372036854775808))),(6,.i_ v0)],[.dead,.dead,.row 5 1 (l0.map (lfK .u8))]⟩) (fun r_=>⟨[(0,.own 2)],[.dead,.dead,.row 5 1 (r_.map (lfK .u8))]⟩) (ac4 R_ p_v) (56,[IntKind.wrap .u8 p_v.aB]) fun r1=>
 .rt [0] 3 (r1))<|
 .jk Tryz.f150 0 [1,1,0,1,0,1,1,0,1] 1 (fun r_=>⟨[(0,.own 2),(3,.ptr 0 0),(19,.i_ p_v.aB),(39,.b_ r_)],[bI p_v,.dead,.row 5 1 ([IntKind.wrap .u8 p_v.aB].map (lfK .u8))]⟩) ⟨[(0,.own 2),(3,.ptr 0 0),(19,.i_ p_v.aB),(39,.lf (.bool (p_v.aB==4)))],[bI p_v,.dead,.row 5 1 ([IntKind.wrap .u8 p_v.aB].map (lfK .u8))]⟩ (YZ R_ p_v) fun r2=>
 .iB (r2) (.l1 Tryz.f150 0 [1,1,0,1,0,1,1,1,0,0,1,0] 0 (.exit 3) (fun(v1,l2)=>⟨[(0,.own 2),(3,.ptr 0 0),(45,.i_ (p_v.fText.size:Int)),(46,.i_ v1)],[bI p_v,.dead,.row 5 1 (l2.map (lfK .u8))]⟩) (fun r_=>⟨[(0,.own 2)],[.dead,.dead,.row 5 1 (r_.map (lfK .u8))]⟩) (Y1 R_ p_v) (0,[IntKind.wrap .u8 p_v.aB]) fun r3=>
 .say [.rows ((r3++[(0:Int),(0:Int)]).map (lfK .u8))] (ok1 (by simp[lfI,lfK]:(r3++[(0:Int),(0:Int)]).map (lfK .u8)=(r3.map (lfK .u8))++[((lfK .u8) (0:Int)),((lfK .u8) (0:Int))]))<|
 .grd ((r3.length+[(0:Int),(0:Int)].length)*1≤140737488355328) fun h0=>
 .say [] (ok1 (by simpa using h0:((r3.map (lfK .u8)).length+[((lfK .u8) (0:Int)),((lfK .u8) (0:Int))].length)*1≤140737488355328))<|
 .ret ⟨[],[0],[(4,2)],3⟩ (r3++[(0:Int),(0:Int)]))<|
 .iB (p_v.aB==6) (.nu p_v.aX aj.lf<|
 .l1y [.kill 0] Tryz.f150 0 [1,1,0,1,0,1,1,1,1,1,0,0,1,0] 0 (.exit 5) (fun(v2,l3)=>⟨[(0,.own 2),(71,.lf (.rows 5 (p_v.aX.map aj.lf))),(72,.i_ (p_v.aX.length:Int)),(73,.i_ v2)],[.dead,.dead,.row 5 1 (l3.map (lfK .u8))]⟩) (fun r_=>⟨[(0,.own 2)],[.dead,.dead,.row 5 1 (r_.map (lfK .u8))]⟩) (Y2 R_ p_v) (0,[IntKind.wrap .u8 p_v.aB]) fun r4=>
 .say [.rows ((r4++[(0:Int)]).map (lfK .u8))] (ok1 (by simp[lfI,lfK]:(r4++[(0:Int)]).map (lfK .u8)=(r4.map (lfK .u8))++[((lfK .u8) (0:Int))]))<|
 .grd ((r4.length+[(0:Int)].length)*1≤140737488355328) fun h1=>
 .say [] (ok1 (by simpa using h1:((r4.map (lfK .u8)).length+[((lfK .u8) (0:Int))].length)*1≤140737488355328))<|
 .ret ⟨[],[0],[(4,2)],3⟩ (r4++[(0:Int)]))<|
 .iB (p_v.aB==5) (.nu p_v.bC aF.lf<|
 .l1y [.kill 0] Tryz.f150 0 [1,1,0,1,0,1,1,1,1,1,1,1,0,0,1,0] 0 (.exit 7) (fun(v3,l4)=>⟨[(0,.own 2),(89,.lf (.rows 6 (p_v.bC.map aF.lf))),(90,.i_ (p_v.bC.length:Int)),(91,.i_ v3)],[.dead,.dead,.row 5 1 (l4.map (lfK .u8))]⟩) (fun r_=>⟨[(0,.own 2)],[.dead,.dead,.row 5 1 (r_.map (lfK .u8))]⟩) (Y3 R_ p_v) (0,[IntKind.wrap .u8 p_v.aB]) fun r5=>
 .say [.rows ((r5++[(0:Int)]).map (lfK .u8))] (ok1 (by simp[lfI,lfK]:(r5++[(0:Int)]).map (lfK .u8)=(r5.map (lfK .u8))++[((lfK .u8) (0:Int))]))<|
 .grd ((r5.length+[(0:Int)].length)*1≤140737488355328) fun h2=>
 .say [] (ok1 (by simpa using h2:((r5.map (lfK .u8)).length+[((lfK .u8) (0:Int))].length)*1≤140737488355328))<|
 .ret ⟨[],[0],[(4,2)],3⟩ (r5++[(0:Int)]))<|
 .ret ⟨[.kill 0],[0],[],3⟩ ([IntKind.wrap .u8 p_v.aB])
noncomputable def ah8(R_:ni)(p_v:aj):Mo (List Int):=
 .say [.rows ([IntKind.wrap .u8 p_v.aB].map (lfK .u8))] (ok1 (by simp[lfI,lfK]:[IntKind.wrap .u8 p_v.aB].map (lfK .u8)=[]++[((lfK .u8) (IntKind.wrap .u8 p_v.aB))]))<|
 .grd ((([]:List Int).length+[IntKind.wrap .u8 p_v.aB].length)*1≤140737488355328) fun h0=>
 .say [] (ok1 (by first|(simp;done)|simpa using h0:(([]:List (List Lf)).length+[((lfK .u8) (IntKind.wrap .u8 p_v.aB))].length)*1≤140737488355328))<|
 .jy [.kill 1] Tryz.f150 0 [1,1,0,1] 6 (.normal) (fun r_=>⟨[(0,.own 2)],[.dead,.dead,.row 5 1 (r_.map (lfK .u8))]⟩) ⟨[(0,.own 2),(3,.ptr 0 0),(19,.i_ p_v.aB)],[bI p_v,.dead,.row 5 1 ([IntKind.wrap .u8 p_v.aB].map (lfK .u8))]⟩ (Y4 R_ p_v) fun r0=>
 .ret ⟨[.mvn 2],[0],[(3,0)],1⟩ (r0)
theorem agV(R_:ni):Xi fun p_v=>Mo.den (ah8 R_ p_v):=fun _=>jA Tryz.func150
noncomputable def Xj(R_:ni)(p_s0:List Int)(p_v:aj):Mo (Bool):=
 .iB (p_v.aB==3) (.rt [0,3,19,20] 4 (p_v.aB==3))<|
 .iB (p_v.aB==9) (.rt [0,3,19,20] 4 (p_v.aB==9))<|
 .rt [0,3,19,20] 4 (p_v.aB==10)
noncomputable def DZ(R_:ni)(p_v:aj):(Int×(List Int))→Mo ((Int×(List Int))⊕((List Int))):=fun(v0,l0)=>
 .iB (decide ((0:Int)≤v0)) (.say [.rows ((l0++[IntKind.wrap .u8 (qy .u64 (gW .xor .u64 (IntKind.wrap .u64 p_v.dG) 9223372036854775808) v0)]).map (lfK .u8))] ok0<|
 .grd ((0:Int)≤v0) fun h0=>
 .say [] (okc h0 (ok1 (by simp[lfI,lfK]:(l0++[IntKind.wrap .u8 (qy .u64 (gW .xor .u64 (IntKind.wrap .u64 p_v.dG) 9223372036854775808) v0)]).map (lfK .u8)=(l0.map (lfK .u8))++[((lfK .u8) (IntKind.wrap .u8 (qy .u64 (gW .xor .u64 (IntKind.wrap .u64 p_v.dG) 9223372036854775808) v0)))])))<|
 .grd ((l0.length+[IntKind.wrap .u8 (qy .u64 (gW .xor .u64 (IntKind.wrap .u64 p_v.dG) 9223372036854775808) v0)].length)*1≤140737488355328) fun h1=>
 .say [] (ok1 (by simpa using h1:((l0.map (lfK .u8)).length+[((lfK .u8) (IntKind.wrap .u8 (qy .u64 (gW .xor .u64 (IntKind.wrap .u64 p_v.dG) 9223372036854775808) v0)))].length)*1≤140737488355328))<|
 .ret ⟨[],[0,5,6],[(5,3)],4⟩ (.inl (IntKind.wrap .i64 (v0-8),l0++[IntKind.wrap .u8 (qy .u64 (gW .xor .u64 (IntKind.wrap .u64 p_v.dG) 9223372036854775808) v0)])))<|
 .rt [0] 4 (.inr (l0))
noncomputable def ac5(R_:ni)(p_v:aj)(v0:Int)(l0:List Int):Option (((List Int))):=dA (fun v_=>(DZ R_ p_v v_).den) FU (v0,l0)
noncomputable def Qj(R_:ni)(p_s0:List Int)(p_v:aj):Mo (Bool):=
 .iB (p_v.aB==4) (.rt [0,3,19,39] 4 (p_v.aB==4))<|
 .iB (p_v.aB==7) (.rt [0,3,19,39] 4 (p_v.aB==7))<|
 .rt [0,3,19,39] 4 (p_v.aB==8)
noncomputable def Qk(R_:ni)(l0:List Int)(p_v:aj)(v0:Int):Mo (((List Int))):=
 .ask (kG p_v.fText v0) fun b0 h0=>
 .say [.byt b0,.rows ((l0++[(b0.toNat:Int)]).map (lfK .u8))] (okc (fK h0) (ok1 (by simp[lfI,lfK]:(l0++[(b0.toNat:Int)]).map (lfK .u8)=(l0.map (lfK .u8))++[((lfK .u8) (b0.toNat:Int))])))<|
 .grd ((l0.length+[(b0.toNat:Int)].length)*1≤140737488355328) fun h1=>
 .say [] (ok1 (by simpa using h1:((l0.map (lfK .u8)).length+[((lfK .u8) (b0.toNat:Int))].length)*1≤140737488355328))<|
 .ask (kG p_v.fText v0) fun b1 h2=>
 .say [.byt b1] (ok1 (fK h2))<|
 .iB ((b1.toNat:Int)==0) (.say [.rows (((l0++[(b0.toNat:Int)])++[(255:Int)]).map (lfK .u8))] (ok1 (by simp[lfI,lfK]:((l0++[(b0.toNat:Int)])++[(255:Int)]).map (lfK .u8)=((l0++[(b0.toNat:Int)]).map (lfK .u8))++[((lfK .u8) (255:Int))]))<|
 .grd (((l0++[(b0.toNat:Int)]).length+[(255:Int)].length)*1≤140737488355328) fun h3=>
 .say [] (ok1 (by simpa using h3:(((l0++[(b0.toNat:Int)]).map (lfK .u8)).length+[((lfK .u8) (255:Int))].length)*1≤140737488355328))<|
 .ret ⟨[],[0,3,45,46],[(7,3)],4⟩ ((l0++[(b0.toNat:Int)])++[(255:Int)]))<|
 .ret ⟨[],[0,3,45,46],[(5,3)],4⟩ (l0++[(b0.toNat:Int)])
noncomputable def zW(R_:ni)(p_v:aj):(Int×(List Int))→Mo ((Int×(List Int))⊕((List Int))):=fun(v0,l0)=>
 .iB (decide ((v0:Int)<(p_v.fText.size:Int))) (.jk Tryz.f150 1 [1,1,0,1,0,1,1,1,0,0,1,0,0,1,1,0] 14 (fun r_=>⟨[(0,.own 3),(3,.ptr 1 0),(45,.i_ (p_v.fText.size:Int)),(46,.i_ v0)],[.dead,bI p_v,.dead,.row 5 1 (r_.map (lfK .u8))]⟩) ⟨[(0,.own 3),(3,.ptr 1 0),(45,.i_ (p_v.fText.size:Int)),(46,.i_ v0)],[.dead,bI p_v,.dead,.row 5 1 (l0.map (lfK .u8))]⟩ (Qk R_ l0 p_v v0) fun r0=>
 .rt [0,3,45,46] 4 (.inl (IntKind.wrap .i64 (v0+1),r0)))<|
 .ret ⟨[.kill 1],[0],[],4⟩ (.inr (l0))
noncomputable def ac6(R_:ni)(p_v:aj)(v0:Int)(l0:List Int):Option (((List Int))):=dA (fun v_=>(zW R_ p_v v_).den) FU (v0,l0)
noncomputable def zX(R_:ni)(p_v:aj):(Int×(List Int))→Mo ((Int×(List Int))⊕((List Int))):=fun(v0,l0)=>
 .iB (decide ((v0:Int)<(p_v.aX.length:Int))) (.gx aj.aY p_v.aX v0 fun x0 _=>
 .say [] (ok1 (by simp[lfI,lfK]:(l0++[(1:Int)]).map (lfK .u8)=(l0.map (lfK .u8))++[((lfK .u8) (1:Int))]))<|
 .grd ((l0.length+[(1:Int)].length)*1≤140737488355328) fun h0=>
 .say [] (ok1 (by simpa using h0:((l0.map (lfK .u8)).length+[((lfK .u8) (1:Int))].length)*1≤140737488355328))<|
 .ask (R_.m2 x0 (l0++[(1:Int)])) fun r0 h1=>
 .say [.eG (.q 0 (.q 3 (.l 1 (.l 2 (.l 4 (.q 5 .fin)))))) (some 4) [3,6] [.at_ 54 1,.resv 2,.slot 5,.rows ((l0++[(1:Int)]).map (lfK .u8)),.slot 6,.at_ 54 4,.tod 80,.iO [6] (.own 1) [.dead,.row 5 1 (r0.map (lfK .u8))]] [0,71,72,73] 8 [(0,.own 7),(71,.lf (.rows 5 (p_v.aX.map aj.lf))),(72,.i_ (p_v.aX.length:Int)),(73,.i_ v0)] [.dead,.dead,.dead,.dead,.box 40 (.agg [.i_ x0.aB,.i_ x0.dG,.lf (.str x0.fText),.lf (.rows 5 (x0.aX.map aj.lf)),.lf (.rows 6 (x0.bC.map aF.lf))]),.row 5 1 [((lfK .u8) (1:Int))],.dead,.row 5 1 (r0.map (lfK .u8))]] (okc (R_.ok2 _ _ _ h1) (ok1 (rf_ ⟨[(0,.own 7),(71,.lf (.rows 5 (p_v.aX.map aj.lf))),(72,.i_ (p_v.aX.length:Int)),(73,.i_ v0)],[.dead,.dead,.dead,.dead,.box 40 (.agg [.i_ x0.aB,.i_ x0.dG,.lf (.str x0.fText),.lf (.rows 5 (x0.aX.map aj.lf)),.lf (.rows 6 (x0.bC.map aF.lf))]),.row 5 1 [((lfK .u8) (1:Int))],.dead,.row 5 1 (r0.map (lfK .u8))]⟩)))<|
 .ret ⟨[],[0,71,72,73],[(7,3)],4⟩ (.inl (IntKind.wrap .i64 (v0+1),r0)))<|
 .rt [0] 4 (.inr (l0))
noncomputable def ac7(R_:ni)(p_v:aj)(v0:Int)(l0:List Int):Option (((List Int))):=dA (fun v_=>(zX R_ p_v v_).den) FU (v0,l0)
noncomputable def zY(R_:ni)(p_v:aj):(Int×(List Int))→Mo ((Int×(List Int))⊕((List Int))):=fun(v0,l0)=>
 .iB (decide ((v0:Int)<(p_v.bC.length:Int))) (.gx aF.aY p_v.bC v0 fun x0 _=>
 .say [.rows ((l0++[(1:Int)]).map (lfK .u8)),.rows (((l0++[(1:Int)])++(numsOf (x0.fName:ByteArray))).map (lfK .u8))] (ok1 (by simp[lfI,lfK]:(l0++[(1:Int)]).map (lfK .u8)=(l0.map (lfK .u8))++[((lfK .u8) (1:Int))]))<|
 .grd ((l0.length+[(1:Int)].length)*1≤140737488355328) fun h0=>
 .say [] (okc (by simpa using h0:((l0.map (lfK .u8)).length+[((lfK .u8) (1:Int))].length)*1≤140737488355328) (ok1 (by first|(rw[List.map_append,qQ];done)|(rw[qQ,List.nil_append];done)|simp[lfI,lfK,qQ]:((l0++[(1:Int)])++(numsOf (x0.fName:ByteArray))).map (lfK .u8)=((l0++[(1:Int)]).map (lfK .u8))++Bc (x0.fName:ByteArray))))<|
 .grd ((l0++[(1:Int)]).length+(x0.fName:ByteArray).size≤140737488355328) fun h1=>
 .say [] (okc (by simpa using h1:((l0++[(1:Int)]).map (lfK .u8)).length+(x0.fName:ByteArray).size≤140737488355328) (ok1 (by simp[lfI,lfK]:(((l0++[(1:Int)])++(numsOf (x0.fName:ByteArray)))++[(0:Int)]).map (lfK .u8)=(((l0++[(1:Int)])++(numsOf (x0.fName:ByteArray))).map (lfK .u8))++[((lfK .u8) (0:Int))])))<|
 .grd ((((l0++[(1:Int)])++(numsOf (x0.fName:ByteArray))).length+[(0:Int)].length)*1≤140737488355328) fun h2=>
 .say [] (ok1 (by simpa using h2:((((l0++[(1:Int)])++(numsOf (x0.fName:ByteArray))).map (lfK .u8)).length+[((lfK .u8) (0:Int))].length)*1≤140737488355328))<|
 .ask (R_.m2 x0.fValue (((l0++[(1:Int)])++(numsOf (x0.fName:ByteArray)))++[(0:Int)])) fun r0 h3=>
 .say [.eG (.q 0 (.q 3 (.q 4 (.l 1 (.l 2 (.l 5 (.q 6 .fin))))))) (some 5) [7,9] [.at_ 72 1,.resv 2,.slot 8,.rows ((((l0++[(1:Int)])++(numsOf (x0.fName:ByteArray)))++[(0:Int)]).map (lfK .u8)),.slot 9,.at_ 72 5,.tod 106,.iO [9] (.own 1) [.dead,.row 5 1 (r0.map (lfK .u8))]] [0,89,90,91] 11 [(0,.own 10),(89,.lf (.rows 6 (p_v.bC.map aF.lf))),(90,.i_ (p_v.bC.length:Int)),(91,.i_ v0)] [.dead,.dead,.dead,.dead,.box 138 (.agg ((aF.lf1 x0).map AV.lf)),.row 5 1 [((lfK .u8) (1:Int))],.dead,.dead,.row 5 1 [((lfK .u8) (0:Int))],.dead,.row 5 1 (r0.map (lfK .u8))]] (okc (R_.ok2 _ _ _ h3) (ok1 (rf_ ⟨[(0,.own 10),(89,.lf (.rows 6 (p_v.bC.map aF.lf))),(90,.i_ (p_v.bC.length:Int)),(91,.i_ v0)],[.dead,.dead,.dead,.dead,.box 138 (.agg ((aF.lf1 x0).map AV.lf)),.row 5 1 [((lfK .u8) (1:Int))],.dead,.dead,.row 5 1 [((lfK .u8) (0:Int))],.dead,.row 5 1 (r0.map (lfK .u8))]⟩)))<|
 .ret ⟨[],[0,89,90,91],[(10,3)],4⟩ (.inl (IntKind.wrap .i64 (v0+1),r0)))<|
 .rt [0] 4 (.inr (l0))
noncomputable def ac8(R_:ni)(p_v:aj)(v0:Int)(l0:List Int):Option (((List Int))):=dA (fun v_=>(zY R_ p_v v_).den) FU (v0,l0)
noncomputable def Ql(R_:ni)(p_s0:List Int)(p_v:aj):Mo (((List Int))):=
 .jk Tryz.f150 1 [1,1,0,1,0,0,1] 1 (fun r_=>⟨[(0,.own 3),(3,.ptr 1 0),(19,.i_ p_v.aB),(20,.b_ r_)],[.dead,bI p_v,.dead,.row 5 1 ((p_s0++[IntKind.wrap .u8 p_v.aB]).map (lfK .u8))]⟩) ⟨[(0,.own 3),(3,.ptr 1 0),(19,.i_ p_v.aB),(20,.lf (.bool (p_v.aB==3)))],[.dead,bI p_v,.dead,.row 5 1 ((p_s0++[IntKind.wrap .u8 p_v.aB]).map (lfK .u8))]⟩ (Xj R_ p_s0 p_v) fun r0=>
 .iB (r0) (.l1m [.kill 1] Tryz.f150 1 [1,1,0,1,0,1,0,1,1,0] 0 (.exit 1) (fun(v0,l0)=>⟨[(0,.own 3),(5,.lf (.int .u64 (gW .xor .u64 (IntKind.wrap .u64 p_v.dG) 9223372036854775808))),(6,.i_ v0)],[.dead,.dead,.dead,.row 5 1 (l0.map (lfK .u8))]⟩) (fun r_=>⟨[(0,.own 3)],[.dead,.dead,.dead,.row 5 1 (r_.map (lfK .u8))]⟩) (ac5 R_ p_v 56 (p_s0++[IntKind.wrap .u8 p_v.aB])) (DZ R_ p_v) (56,(p_s0++[IntKind.wrap .u8 p_v.aB])) fun r1=>
 .rt [0] 4 (r1))<|
 .jk Tryz.f150 1 [1,1,0,1,0,1,1,0,1] 1 (fun r_=>⟨[(0,.own 3),(3,.ptr 1 0),(19,.i_ p_v.aB),(39,.b_ r_)],[.dead,bI p_v,.dead,.row 5 1 ((p_s0++[IntKind.wrap .u8 p_v.aB]).map (lfK .u8))]⟩) ⟨[(0,.own 3),(3,.ptr 1 0),(19,.i_ p_v.aB),(39,.lf (.bool (p_v.aB==4)))],[.dead,bI p_v,.dead,.row 5 1 ((p_s0++[IntKind.wrap .u8 p_v.aB]).map (lfK .u8))]⟩ (Qj R_ p_s0 p_v) fun r2=>
 .iB (r2) (.l1m [] Tryz.f150 1 [1,1,0,1,0,1,1,1,0,0,1,0] 0 (.exit 3) (fun(v1,l1)=>⟨[(0,.own 3),(3,.ptr 1 0),(45,.i_ (p_v.fText.size:Int)),(46,.i_ v1)],[.dead,bI p_v,.dead,.row 5 1 (l1.map (lfK .u8))]⟩) (fun r_=>⟨[(0,.own 3)],[.dead,.dead,.dead,.row 5 1 (r_.map (lfK .u8))]⟩) (ac6 R_ p_v 0 (p_s0++[IntKind.wrap .u8 p_v.aB])) (zW R_ p_v) (0,(p_s0++[IntKind.wrap .u8 p_v.aB])) fun r3=>
 .say [.rows ((r3++[(0:Int),(0:Int)]).map (lfK .u8))] (ok1 (by simp[lfI,lfK]:(r3++[(0:Int),(0:Int)]).map (lfK .u8)=(r3.map (lfK .u8))++[((lfK .u8) (0:Int)),((lfK .u8) (0:Int))]))<|
 .grd ((r3.length+[(0:Int),(0:Int)].length)*1≤140737488355328) fun h0=>
 .say [] (ok1 (by simpa using h0:((r3.map (lfK .u8)).length+[((lfK .u8) (0:Int)),((lfK .u8) (0:Int))].length)*1≤140737488355328))<|
 .ret ⟨[],[0],[(5,3)],4⟩ (r3++[(0:Int),(0:Int)]))<|
 .iB (p_v.aB==6) (.nu p_v.aX aj.lf<|
 .l1m [.kill 1] Tryz.f150 1 [1,1,0,1,0,1,1,1,1,1,0,0,1,0] 0 (.exit 5) (fun(v2,l2)=>⟨[(0,.own 3),(71,.lf (.rows 5 (p_v.aX.map aj.lf))),(72,.i_ (p_v.aX.length:Int)),(73,.i_ v2)],[.dead,.dead,.dead,.row 5 1 (l2.map (lfK .u8))]⟩) (fun r_=>⟨[(0,.own 3)],[.dead,.dead,.dead,.row 5 1 (r_.map (lfK .u8))]⟩) (ac7 R_ p_v 0 (p_s0++[IntKind.wrap .u8 p_v.aB])) (zX R_ p_v) (0,(p_s0++[IntKind.wrap .u8 p_v.aB])) fun r4=>
 .say [.rows ((r4++[(0:Int)]).map (lfK .u8))] (ok1 (by simp[lfI,lfK]:(r4++[(0:Int)]).map (lfK .u8)=(r4.map (lfK .u8))++[((lfK .u8) (0:Int))]))<|
 .grd ((r4.length+[(0:Int)].length)*1≤140737488355328) fun h1=>
 .say [] (ok1 (by simpa using h1:((r4.map (lfK .u8)).length+[((lfK .u8) (0:Int))].length)*1≤140737488355328))<|
 .ret ⟨[],[0],[(5,3)],4⟩ (r4++[(0:Int)]))<|
 .iB (p_v.aB==5) (.nu p_v.bC aF.lf<|
 .l1m [.kill 1] Tryz.f150 1 [1,1,0,1,0,1,1,1,1,1,1,1,0,0,1,0] 0 (.exit 7) (fun(v3,l3)=>⟨[(0,.own 3),(89,.lf (.rows 6 (p_v.bC.map aF.lf))),(90,.i_ (p_v.bC.length:Int)),(91,.i_ v3)],[.dead,.dead,.dead,.row 5 1 (l3.map (lfK .u8))]⟩) (fun r_=>⟨[(0,.own 3)],[.dead,.dead,.dead,.row 5 1 (r_.map (lfK .u8))]⟩) (ac8 R_ p_v 0 (p_s0++[IntKind.wrap .u8 p_v.aB])) (zY R_ p_v) (0,(p_s0++[IntKind.wrap .u8 p_v.aB])) fun r5=>
 .say [.rows ((r5++[(0:Int)]).map (lfK .u8))] (ok1 (by simp[lfI,lfK]:(r5++[(0:Int)]).map (lfK .u8)=(r5.map (lfK .u8))++[((lfK .u8) (0:Int))]))<|
 .grd ((r5.length+[(0:Int)].length)*1≤140737488355328) fun h2=>
 .say [] (ok1 (by simpa using h2:((r5.map (lfK .u8)).length+[((lfK .u8) (0:Int))].length)*1≤140737488355328))<|
 .ret ⟨[],[0],[(5,3)],4⟩ (r5++[(0:Int)]))<|
 .ret ⟨[.kill 1],[0],[],4⟩ (p_s0++[IntKind.wrap .u8 p_v.aB])
noncomputable def agW(R_:ni)(p_v:aj)(p_s0:List Int):Mo (List Int):=
 .say [.rows ((p_s0++[IntKind.wrap .u8 p_v.aB]).map (lfK .u8))] (ok1 (by simp[lfI,lfK]:(p_s0++[IntKind.wrap .u8 p_v.aB]).map (lfK .u8)=(p_s0.map (lfK .u8))++[((lfK .u8) (IntKind.wrap .u8 p_v.aB))]))<|
 .grd ((p_s0.length+[IntKind.wrap .u8 p_v.aB].length)*1≤140737488355328) fun h0=>
 .say [] (ok1 (by simpa using h0:((p_s0.map (lfK .u8)).length+[((lfK .u8) (IntKind.wrap .u8 p_v.aB))].length)*1≤140737488355328))<|
 .jy [.kill 2] Tryz.f150 1 [1,1,0,1] 6 (.normal) (fun r_=>⟨[(0,.own 3)],[.dead,.dead,.dead,.row 5 1 (r_.map (lfK .u8))]⟩) ⟨[(0,.own 3),(3,.ptr 1 0),(19,.i_ p_v.aB)],[.dead,bI p_v,.dead,.row 5 1 ((p_s0++[IntKind.wrap .u8 p_v.aB]).map (lfK .u8))]⟩ (Ql R_ p_s0 p_v) fun r0=>
 .ret ⟨[.mvn 3],[0],[(4,1)],2⟩ (r0)
theorem ajO(R_:ni):MZ fun p_v p_s0=>Mo.den (agW R_ p_v p_s0):=fun _ _=>jA Tryz.func150
noncomputable def qG:Nat→ni
 |0=>{ m1:=fun p_v=>none,ok1:=fun _ _ h=>(by cases h),m2:=fun p_v p_s0=>none,ok2:=fun _ _ _ h=>(by cases h) }
 |n_+1=>{ m1:=fun p_v=>Mo.den (ah8 (qG n_) p_v),ok1:=agV (qG n_),m2:=fun p_v p_s0=>Mo.den (agW (qG n_) p_v p_s0),ok2:=ajO (qG n_) }
noncomputable def Q5(p_v:aj)(p_s0:List Int):Option (List Int):=(qG FU).m2 p_v p_s0
theorem alZ:MZ Q5:=(qG FU).ok2
noncomputable def ac9(p_desc:List Bool)(p_l:List aj)(v0:Int):(Int×(List Int))→Mo ((Int×(List Int))⊕((List Int))):=fun(v1,l0)=>
 .say [.num l0.length] (ok1 (by simp:l0.length=(l0.map (lfK .u8)).length))<|
 .iB (decide ((v1:Int)<(l0.length:Int))) (.ask (jf l0 v1) fun x0 h0=>
 .say [.row ((lfK .u8) x0)] (okc (sK (fun _=>rfl) h0:(0:Int)≤v1∧v1.toNat<(l0.map (lfK .u8)).length) (ok1 ((eu (fun _=>rfl) h0).2:(l0.map (lfK .u8))[v1.toNat]?=some ((lfK .u8) x0))))<|
 .ask (jf l0 v1) fun x1 h1=>
 .say [.row ((lfK .u8) x1),.rows ((l0.set v1.toNat (IntKind.wrap .u8 (255-x0))).map (lfK .u8))] (okc (sK (fun _=>rfl) h1:(0:Int)≤v1∧v1.toNat<(l0.map (lfK .u8)).length) (okc (by simp[lfI,lfK]:(l0.set v1.toNat (IntKind.wrap .u8 (255-x0))).map (lfK .u8)=(l0.map (lfK .u8)).set v1.toNat ((lfK .u8) (IntKind.wrap .u8 (255-x0)))) (ok1 ((eu (fun _=>rfl) h1).2:(l0.map (lfK .u8))[v1.toNat]?=some ((lfK .u8) x1)))))<|
 .rt [1,6,10,16,17,18] 3 (.inl (IntKind.wrap .i64 (v1+1),l0.set v1.toNat (IntKind.wrap .u8 (255-x0)))))<|
 .rt [1,6,16,17,18] 3 (.inr (l0))
noncomputable def Qm(l0:List Int)(p_desc:List Bool)(p_l:List aj)(v0:Int):Mo (Unit⊕((List Int))):=
 .gx aj.aY p_l v0 fun x0 _=>
 .cl (ajN x0) fun r0 _=>
 .iB (!r0) (.ret ⟨[.kill 0],[4,5],[],1⟩ (.inl ()))<|
 .say [.num l0.length,.at_ 22 2,.tod 29] (ok1 (by simp:l0.length=(l0.map (lfK .u8)).length))<|
 .cH [0] (alZ x0 l0) fun r1 _=>
 .ask (jf p_desc v0) fun x1 h0=>
 .say [.row (lfB x1)] (ok1 (eu (fun _=>rfl) h0:(0:Int)≤v0∧(p_desc.map lfB)[v0.toNat]?=some (lfB x1)))<|
 .iB (x1) (.l1y [.kill 1] Tryz.f92 0 [1,1,1,0,1,0,0,1,1,0,0,1,1,1,1,1,0,1,0] 0 (.exit 2) (fun(v1,l1)=>⟨[(1,.lf (.rows 1 (p_desc.map lfB))),(6,.own 2),(10,.i_ v1),(16,.lf (.rows 5 (p_l.map aj.lf))),(17,.i_ (p_l.length:Int)),(18,.i_ v0)],[.dead,.dead,.row 5 1 (l1.map (lfK .u8))]⟩) (fun r_=>⟨[(1,.lf (.rows 1 (p_desc.map lfB))),(6,.own 2),(16,.lf (.rows 5 (p_l.map aj.lf))),(17,.i_ (p_l.length:Int)),(18,.i_ v0)],[.dead,.dead,.row 5 1 (r_.map (lfK .u8))]⟩) (ac9 p_desc p_l v0) ((l0.length:Int),r1) fun r2=>
 .ret ⟨[],[1,6,16,17,18],[(2,0)],3⟩ (.inr (r2)))<|
 .ret ⟨[.kill 1],[1,6,16,17,18],[(2,0)],3⟩ (.inr (r1))
noncomputable def ny(p_desc:List Bool)(p_l:List aj):(Int×(List Int))→Mo ((Int×(List Int))⊕(Unit⊕((List Int)))):=fun(v0,l0)=>
 .iB (decide ((v0:Int)<(p_l.length:Int))) (.j2 [] Tryz.f92 0 [1,1,1,0,1,0,0,1,1,0] 8 .ret (fun _=>⟨[(4,.lf (.str ⟨#[]⟩)),(5,.i_ 8)],[.dead]⟩) .normal (fun o_=>⟨[(1,.lf (.rows 1 (p_desc.map lfB))),(6,.own 0),(16,.lf (.rows 5 (p_l.map aj.lf))),(17,.i_ (p_l.length:Int)),(18,.i_ v0)],[.row 5 1 (o_.map (lfK .u8)),.dead,.dead]⟩) ⟨[(1,.lf (.rows 1 (p_desc.map lfB))),(6,.own 0),(16,.lf (.rows 5 (p_l.map aj.lf))),(17,.i_ (p_l.length:Int)),(18,.i_ v0)],[.row 5 1 (l0.map (lfK .u8))]⟩ (Qm l0 p_desc p_l v0) (fun o0=>
 .rt [4,5] 1 (.inr (.inl ()))) fun o1=>
 .rt [1,6,16,17,18] 1 (.inl (IntKind.wrap .i64 (v0+1),o1)))<|
 .rt [6] 1 (.inr (.inr (l0)))
noncomputable def Na(p_desc:List Bool)(p_l:List aj)(v0:Int)(l0:List Int):Option (Unit⊕((List Int))):=dA (fun v_=>(ny p_desc p_l v_).den) FU (v0,l0)
noncomputable def ah9(p_l:List aj)(p_desc:List Bool):Mo (ByteArray×Int):=
 .nu p_l aj.lf<|
 .nu p_desc lfB<|
 .iB ((p_l.length:Int) != (p_desc.length:Int)) (.ret (bF 2) (⟨#[]⟩,1))<|
 .say [.num p_l.length] (okc (ln_ p_l aj.lf) (ok1 (by simp[lfI,lfK]:(([]:List Int).map (lfK .u8))=[])))<|
 .l2m [.yU 6 5 1,.lQ 0 (([]:List Int).map (lfK .u8))] Tryz.f92 0 [1,1,1,0,1,0] 0 (fun(v0,l0)=>⟨[(1,.lf (.rows 1 (p_desc.map lfB))),(6,.own 0),(16,.lf (.rows 5 (p_l.map aj.lf))),(17,.i_ (p_l.length:Int)),(18,.i_ v0)],[.row 5 1 (l0.map (lfK .u8))]⟩) .ret (fun _=>⟨[(4,.lf (.str ⟨#[]⟩)),(5,.i_ 8)],[.dead]⟩) (.exit 0) (fun o_=>⟨[(6,.own 0)],[.row 5 1 (o_.map (lfK .u8))]⟩) (Na p_desc p_l 0 ([]:List Int)) (ny p_desc p_l) (0,([]:List Int)) (fun o0=>
 .ret (bF 2) (⟨#[]⟩,8)) fun o1=>
 .say [.nums o1] (ok1 (by simp[lfI,lfK]:(o1.map (lfK .u8))=o1.map fun n=>[Lf.int .u8 n]))<|
 .ret (bF 2) (strOfNums o1,0)
noncomputable def Q39(p_l:List aj)(p_desc:List Bool):Option (ByteArray×Int):=Mo.den (ah9 p_l p_desc)
theorem ajP(p_l:List aj)(p_desc:List Bool):FV (Q39 p_l p_desc) 92 [.lf (.rows 5 (p_l.map aj.lf)),.lf (.rows 1 (p_desc.map lfB))] (fun r=>.tup [.lf (.str r.1),.i_ r.2]):=dI Tryz.func92
noncomputable def ada(p_key:aj):Mo (ByteArray×Bool):=
 .iB (p_key.aB==0) (.ret (bF 2) (⟨#[]⟩,false))<|
 .say [.at_ 8 3,.Tj 1 ([p_key].map aj.lf),.Tj 2 ([false].map lfB)] (okc (by simp[aj.aY]:[p_key].map aj.lf=[(aj.lf1 p_key)]) (ok1 (by simp[lfB]:[false].map lfB=[(lfB false)])))<|
 .cl (ajP [p_key] [false]) fun r0 _=>
 .ret (bF 2) (r0.1,r0.2==0)
noncomputable def agX(p_key:aj):Option (ByteArray×Bool):=Mo.den (ada p_key)
theorem Nb(p_key:aj):FV (agX p_key) 54 [.dat (aj.lf1 p_key)] (fun r=>.tup [.lf (.str r.1),.b_ r.2]):=dI Tryz.func54
noncomputable def Qn(p_b0_0:Int)(p_b0_1:List ak)(p_s1:aZ)(p_s2:List (ByteArray×ah))(p_s3:List (ByteArray×au))(p_space:ByteArray)(r0:ByteArray×Bool):Mo (Bool):=
 .iG 12002 (!r0.2) (.rt [9,31] 6 (true))<|
 .nu (p_s1.row (aI p_space p_s1.dir) r0.1) aP.lf<|
 .rt [9,31] 6 (((p_s1.row (aI p_space p_s1.dir) r0.1).length:Int)==0)
noncomputable def anc(p_space:ByteArray)(p_key:aj)(p_b0_0:Int)(p_b0_1:List ak)(p_s1:aZ)(p_s2:List (ByteArray×ah))(p_s3:List (ByteArray×au))(r:Int):List AV:=[.i_ r]
noncomputable def al0(p_space:ByteArray)(p_key:aj)(p_b0_0:Int)(p_b0_1:List ak)(p_s1:aZ)(p_s2:List (ByteArray×ah))(p_s3:List (ByteArray×au))(r:Int):List Slot:=[.box 113 (.agg [.i_ p_b0_0,.lf (.rows 25 (p_b0_1.map ak.lf)),.mp 1,.mp 2,.mp 3]),.res (bH p_s1 none) none,.res (bP p_s2) none,.res (bT p_s3) none]
noncomputable def adb(p_space:ByteArray)(p_key:aj)(p_b0_0:Int)(p_b0_1:List ak)(p_s1:aZ)(p_s2:List (ByteArray×ah))(p_s3:List (ByteArray×au)):Mo (Int):=
 .say [.br false] (ok1 (rfl:false=false))<|
 .ask (agX p_key) fun r0 h0=>
 .say [.res (.tup [.lf (.str r0.1),.b_ r0.2]),.opH [1] (.hnd 0 (aI p_space p_s1.dir)) [.res (bH p_s1 none) none],.opH [1] (.own 1) [.res (bH p_s1 (outOf (aI p_space p_s1.dir) r0.1)) (some 1),.row 147 6 ((p_s1.row (aI p_space p_s1.dir) r0.1).map aP.lf)]] (okc (Nb _ _ h0) (okc (L6 p_s1 p_space) (ok1 (wC p_s1 r0.1 (aI p_space p_s1.dir)))))<|
 .jy [.kill 4] Tryz.f31 4 [1,1,1,1,0,0] 17 (.normal) (fun r_=>⟨[(9,.own 5),(31,.b_ r_)],[.box 113 (.agg [.i_ p_b0_0,.lf (.rows 25 (p_b0_1.map ak.lf)),.mp 1,.mp 2,.mp 3]),.res (bH p_s1 (outOf (aI p_space p_s1.dir) r0.1)) (some 5),.res (bP p_s2) none,.res (bT p_s3) none,.dead,.row 147 6 ((p_s1.row (aI p_space p_s1.dir) r0.1).map aP.lf)]⟩) ⟨[(8,.b_ r0.2),(9,.own 5)],[.box 113 (.agg [.i_ p_b0_0,.lf (.rows 25 (p_b0_1.map ak.lf)),.mp 1,.mp 2,.mp 3]),.res (bH p_s1 (outOf (aI p_space p_s1.dir) r0.1)) (some 5),.res (bP p_s2) none,.res (bT p_s3) none,.dead,.row 147 6 ((p_s1.row (aI p_space p_s1.dir) r0.1).map aP.lf)]⟩ (Qn p_b0_0 p_b0_1 p_s1 p_s2 p_s3 p_space r0) fun r1=>
 .iB (r1) (.say [] (ok1 (wE p_s1 r0.1 (aI p_space p_s1.dir)))<|
 .ret ⟨[.gho [1,5] [.res (bH p_s1 none) none,.dead]],[0],[],4⟩ ((0:Int)))<|
 .nu (p_s1.row (aI p_space p_s1.dir) r0.1) aP.lf<|
 .ask (jf (p_s1.row (aI p_space p_s1.dir) r0.1) (IntKind.wrap .i64 (((p_s1.row (aI p_space p_s1.dir) r0.1).length:Int)-1))) fun x0 h1=>
 .say [.row (aP.lf1 x0)] (okc (sK aP.aY h1) (okc ((eu aP.aY h1).2) (ok1 (wE p_s1 r0.1 (aI p_space p_s1.dir)))))<|
 .ret ⟨[.gho [1,5] [.res (bH p_s1 none) none,.dead]],[0],[],4⟩ (x0.dw)
noncomputable def Q68(p_space:ByteArray)(p_key:aj)(p_b0_0:Int)(p_b0_1:List ak)(p_s1:aZ)(p_s2:List (ByteArray×ah))(p_s3:List (ByteArray×au)):Option (Int):=Mo.den (adb p_space p_key p_b0_0 p_b0_1 p_s1 p_s2 p_s3)
theorem UR(p_space:ByteArray)(p_key:aj)(p_b0_0:Int)(p_b0_1:List ak)(p_s1:aZ)(p_s2:List (ByteArray×ah))(p_s3:List (ByteArray×au)):FH (Q68 p_space p_key p_b0_0 p_b0_1 p_s1 p_s2 p_s3) 31 [.ptr 0 0,.lf (.str p_space),.dat (aj.lf1 p_key)] [.box 113 (.agg [.i_ p_b0_0,.lf (.rows 25 (p_b0_1.map ak.lf)),.mp 1,.mp 2,.mp 3]),.res (bH p_s1 none) none,.res (bP p_s2) none,.res (bT p_s3) none] (fun r=>resV (anc p_space p_key p_b0_0 p_b0_1 p_s1 p_s2 p_s3 r)) (fun r=>al0 p_space p_key p_b0_0 p_b0_1 p_s1 p_s2 p_s3 r):=jA Tryz.func31
noncomputable def ane(p_w:ay)(p_t:Int)(p_b0_0:Int)(p_b0_1:List ak)(p_s1:aZ)(p_s2:List (ByteArray×ah))(p_s3:List (ByteArray×au))(r:Int):List AV:=[.i_ r]
noncomputable def al1(p_w:ay)(p_t:Int)(p_b0_0:Int)(p_b0_1:List ak)(p_s1:aZ)(p_s2:List (ByteArray×ah))(p_s3:List (ByteArray×au))(r:Int):List Slot:=[.box 113 (.agg [.i_ p_b0_0,.lf (.rows 25 (p_b0_1.map ak.lf)),.mp 1,.mp 2,.mp 3]),.res (bH p_s1 none) none,.res (bP p_s2) none,.res (bT p_s3) none]
noncomputable def ade(p_w:ay)(p_t:Int)(p_b0_0:Int)(p_b0_1:List ak)(p_s1:aZ)(p_s2:List (ByteArray×ah))(p_s3:List (ByteArray×au)):Mo (Int):=
 .say [.eG (.q 0 (.q 1 (.q 2 (.q 3 (.q 4 (.q 5 (.l 6 (.q 7 (.q 8 (.q 9 (.q 10 (.q 11 .fin)))))))))))) (some 6) [] [.opH [1] (.tup [.hnd 0 (aI p_w.aT p_s1.dir),.lf (.bool ((aI p_w.aT p_s1.dir).isSome))]) [.res (bH p_s1 none) none]] [0,2,4,8] 5 [(0,.ptr 0 0),(2,.i_ p_t),(4,.ptr 4 0),(8,.lf (.bool ((aI p_w.aT p_s1.dir).isSome)))] [.box 113 (.agg [.i_ p_b0_0,.lf (.rows 25 (p_b0_1.map ak.lf)),.mp 1,.mp 2,.mp 3]),.res (bH p_s1 none) none,.res (bP p_s2) none,.res (bT p_s3) none,cO p_w]] (okc (zC p_s1 p_w.aT) (ok1 (rf_ ⟨[(0,.ptr 0 0),(2,.i_ p_t),(4,.ptr 4 0),(8,.lf (.bool ((aI p_w.aT p_s1.dir).isSome)))],[.box 113 (.agg [.i_ p_b0_0,.lf (.rows 25 (p_b0_1.map ak.lf)),.mp 1,.mp 2,.mp 3]),.res (bH p_s1 none) none,.res (bP p_s2) none,.res (bT p_s3) none,cO p_w]⟩)))<|
 .iB (!((aI p_w.aT p_s1.dir).isSome)) (.ret ⟨[.kill 4],[0],[],4⟩ ((15:Int)))<|
 .cH [0,1,2,3] (UQ p_w.aT p_w.dL p_b0_0 p_b0_1 p_s1 p_s2 p_s3) fun r0 _=>
 .iB (!decide ((r0:ByteArray)=(⟨#[]⟩:ByteArray))) (.ret ⟨[.kill 4],[0],[],4⟩ ((30:Int)))<|
 .cH [0,1,2,3] (UR p_w.aT p_w.dL p_b0_0 p_b0_1 p_s1 p_s2 p_s3) fun r1 _=>
 .iB (decide ((p_t:Int)≤r1)) (.ret ⟨[.kill 4],[0],[],4⟩ ((28:Int)))<|
 .ret ⟨[.kill 4],[0],[],4⟩ ((0:Int))
noncomputable def Q73(p_w:ay)(p_t:Int)(p_b0_0:Int)(p_b0_1:List ak)(p_s1:aZ)(p_s2:List (ByteArray×ah))(p_s3:List (ByteArray×au)):Option (Int):=Mo.den (ade p_w p_t p_b0_0 p_b0_1 p_s1 p_s2 p_s3)
theorem adf(p_w:ay)(p_t:Int)(p_b0_0:Int)(p_b0_1:List ak)(p_s1:aZ)(p_s2:List (ByteArray×ah))(p_s3:List (ByteArray×au)):FH (Q73 p_w p_t p_b0_0 p_b0_1 p_s1 p_s2 p_s3) 113 [.ptr 0 0,.dat (ay.lf1 p_w),.i_ p_t] [.box 113 (.agg [.i_ p_b0_0,.lf (.rows 25 (p_b0_1.map ak.lf)),.mp 1,.mp 2,.mp 3]),.res (bH p_s1 none) none,.res (bP p_s2) none,.res (bT p_s3) none] (fun r=>resV (ane p_w p_t p_b0_0 p_b0_1 p_s1 p_s2 p_s3 r)) (fun r=>al1 p_w p_t p_b0_0 p_b0_1 p_s1 p_s2 p_s3 r):=jA Tryz.func113
abbrev Nc(m:aj→Option (aj)):Prop:=∀p_v,FV (m p_v) 55 [.dat (aj.lf1 p_v)] (fun r=>.dat (aj.lf1 r))
structure UU where
 m1:(p_v:aj)→Option (aj)
 ok1:Nc m1
noncomputable def Fj(R_:UU)(p_v:aj):(Int×(List aj))→Mo ((Int×(List aj))⊕((List aj))):=fun(v0,l0)=>
 .iB (decide ((v0:Int)<(p_v.aX.length:Int))) (.gx aj.aY p_v.aX v0 fun x0 _=>
 .ask (R_.m1 x0) fun r0 h0=>
 .say [.eG (.q 0 (.q 2 (.alt 1 (.l 3 (.l 4 (.l 5 (.q 6 (.l 7 .fin))))) (.l 3 (.alt 1 (.l 4 (.l 5 (.q 6 (.l 7 .fin)))) (.l 4 (.l 1 (.l 5 (.q 6 (.l 7 .fin)))))))))) (some 7) [3,5,6] [.both [.at_ 14 1,.resv 2,.res (.dat (aj.lf1 r0)),.slot 5,.rows ((l0++[r0]).map aj.lf),.slot 6] [.at_ 14 3,.resv 2,.res (.dat (aj.lf1 r0)),.both [.slot 5,.rows ((l0++[r0]).map aj.lf),.slot 6] [.slot 5,.rows ((l0++[r0]).map aj.lf),.slot 6]]] [1,2,3,12,13,14] 7 [(1,.ptr 0 0),(2,.ptr 1 0),(3,.ptr 2 0),(12,.lf (.rows 5 (p_v.aX.map aj.lf))),(13,.i_ (p_v.aX.length:Int)),(14,.i_ v0)] [bI p_v,.box 40 (.agg [.i_ 0,.i_ 0,.lf (.str ⟨#[]⟩),.bK 5,.bK 6]),.box 40 (.agg [.i_ p_v.aB,.i_ p_v.dG,.lf (.str p_v.fText),.own 6,.bK 6]),.dead,.box 40 (.agg [.i_ x0.aB,.i_ x0.dG,.lf (.str x0.fText),.lf (.rows 5 (x0.aX.map aj.lf)),.lf (.rows 6 (x0.bC.map aF.lf))]),.row 40 5 [(aj.lf1 r0)],.row 40 5 ((l0++[r0]).map aj.lf)]] (okc (R_.ok1 _ _ h0) (ok1 (ap_ aj.aY l0 r0)))<|
 .grd ((l0.length+[r0].length)*80≤140737488355328) fun h1=>
 .say [] (okc (cp_ aj.lf h1) (okc (rf_ ⟨[(1,.ptr 0 0),(2,.ptr 1 0),(3,.ptr 2 0),(12,.lf (.rows 5 (p_v.aX.map aj.lf))),(13,.i_ (p_v.aX.length:Int)),(14,.i_ v0)],[bI p_v,.box 40 (.agg [.i_ 0,.i_ 0,.lf (.str ⟨#[]⟩),.bK 5,.bK 6]),.box 40 (.agg [.i_ p_v.aB,.i_ p_v.dG,.lf (.str p_v.fText),.own 6,.bK 6]),.dead,.box 40 (.agg [.i_ x0.aB,.i_ x0.dG,.lf (.str x0.fText),.lf (.rows 5 (x0.aX.map aj.lf)),.lf (.rows 6 (x0.bC.map aF.lf))]),.row 40 5 [(aj.lf1 r0)],.row 40 5 ((l0++[r0]).map aj.lf)]⟩) (okc (R_.ok1 _ _ h0) (okc (ap_ aj.aY l0 r0) (okc (cp_ aj.lf h1) (okc (rf_ ⟨[(1,.ptr 0 0),(2,.ptr 1 0),(3,.ptr 2 0),(12,.lf (.rows 5 (p_v.aX.map aj.lf))),(13,.i_ (p_v.aX.length:Int)),(14,.i_ v0)],[bI p_v,.box 40 (.agg [.i_ 0,.i_ 0,.lf (.str ⟨#[]⟩),.bK 5,.bK 6]),.box 40 (.agg [.i_ p_v.aB,.i_ p_v.dG,.lf (.str p_v.fText),.own 6,.bK 6]),.dead,.box 40 (.agg [.i_ x0.aB,.i_ x0.dG,.lf (.str x0.fText),.lf (.rows 5 (x0.aX.map aj.lf)),.lf (.rows 6 (x0.bC.map aF.lf))]),.row 40 5 [(aj.lf1 r0)],.row 40 5 ((l0++[r0]).map aj.lf)]⟩) (okc (ap_ aj.aY l0 r0) (okc (cp_ aj.lf h1) (ok1 (rf_ ⟨[(1,.ptr 0 0),(2,.ptr 1 0),(3,.ptr 2 0),(12,.lf (.rows 5 (p_v.aX.map aj.lf))),(13,.i_ (p_v.aX.length:Int)),(14,.i_ v0)],[bI p_v,.box 40 (.agg [.i_ 0,.i_ 0,.lf (.str ⟨#[]⟩),.bK 5,.bK 6]),.box 40 (.agg [.i_ p_v.aB,.i_ p_v.dG,.lf (.str p_v.fText),.own 6,.bK 6]),.dead,.box 40 (.agg [.i_ x0.aB,.i_ x0.dG,.lf (.str x0.fText),.lf (.rows 5 (x0.aX.map aj.lf)),.lf (.rows 6 (x0.bC.map aF.lf))]),.row 40 5 [(aj.lf1 r0)],.row 40 5 ((l0++[r0]).map aj.lf)]⟩))))))))))<|
 .ret ⟨[],[1,2,3,12,13,14],[(6,3)],4⟩ (.inl (IntKind.wrap .i64 (v0+1),l0++[r0])))<|
 .rt [1,2,3] 4 (.inr (l0))
noncomputable def adg(R_:UU)(p_v:aj)(v0:Int)(l0:List aj):Option (((List aj))):=dA (fun v_=>(Fj R_ p_v v_).den) FU (v0,l0)
noncomputable def Fp(R_:UU)(p_v:aj)(r0:((List aj))):(Int×(List aF))→Mo ((Int×(List aF))⊕((List aF))):=fun(v0,l0)=>
 .iB (decide ((v0:Int)<(p_v.bC.length:Int))) (.gx aF.aY p_v.bC v0 fun x0 _=>
 .ask (R_.m1 x0.fValue) fun r1 h0=>
 .say [.eG (.q 0 (.q 2 (.q 3 (.q 4 (.q 5 (.alt 1 (.l 6 (.q 7 (.l 8 (.l 9 (.q 10 (.l 11 .fin)))))) (.l 6 (.q 7 (.alt 1 (.l 8 (.l 9 (.q 10 (.l 11 .fin)))) (.l 8 (.l 1 (.l 9 (.q 10 (.l 11 .fin)))))))))))))) (some 11) [4,6,7] [.both [.at_ 24 1,.resv 2,.res (.dat (aj.lf1 r1)),.slot 6,.rows ((l0++[aF.mk x0.fName r1]).map aF.lf),.slot 7] [.at_ 24 6,.resv 2,.res (.dat (aj.lf1 r1)),.both [.slot 6,.rows ((l0++[aF.mk x0.fName r1]).map aF.lf),.slot 7] [.slot 6,.rows ((l0++[aF.mk x0.fName r1]).map aF.lf),.slot 7]]] [2,3,27,28,29] 8 [(2,.ptr 1 0),(3,.ptr 2 0),(27,.lf (.rows 6 (p_v.bC.map aF.lf))),(28,.i_ (p_v.bC.length:Int)),(29,.i_ v0)] [.dead,.box 40 (.agg [.i_ 0,.i_ 0,.lf (.str ⟨#[]⟩),.bK 5,.bK 6]),.box 40 (.agg [.i_ p_v.aB,.i_ p_v.dG,.lf (.str p_v.fText),.own 3,.own 7]),.row 40 5 (r0.map aj.lf),.dead,.box 138 (.agg ((aF.lf1 x0).map AV.lf)),.row 138 6 [(aF.lf1 (aF.mk x0.fName r1))],.row 138 6 ((l0++[aF.mk x0.fName r1]).map aF.lf)]] (okc (R_.ok1 _ _ h0) (ok1 (by simp[aF.aY]:(l0++[aF.mk x0.fName r1]).map aF.lf=(l0.map aF.lf)++[(aF.lf1 (aF.mk x0.fName r1))])))<|
 .grd ((l0.length+[aF.mk x0.fName r1].length)*96≤140737488355328) fun h1=>
 .say [] (okc (cp_ aF.lf h1) (okc (rf_ ⟨[(2,.ptr 1 0),(3,.ptr 2 0),(27,.lf (.rows 6 (p_v.bC.map aF.lf))),(28,.i_ (p_v.bC.length:Int)),(29,.i_ v0)],[.dead,.box 40 (.agg [.i_ 0,.i_ 0,.lf (.str ⟨#[]⟩),.bK 5,.bK 6]),.box 40 (.agg [.i_ p_v.aB,.i_ p_v.dG,.lf (.str p_v.fText),.own 3,.own 7]),.row 40 5 (r0.map aj.lf),.dead,.box 138 (.agg ((aF.lf1 x0).map AV.lf)),.row 138 6 [(aF.lf1 (aF.mk x0.fName r1))],.row 138 6 ((l0++[aF.mk x0.fName r1]).map aF.lf)]⟩) (okc (R_.ok1 _ _ h0) (okc (by simp[aF.aY]:(l0++[aF.mk x0.fName r1]).map aF.lf=(l0.map aF.lf)++[(aF.lf1 (aF.mk x0.fName r1))]) (okc (cp_ aF.lf h1) (okc (rf_ ⟨[(2,.ptr 1 0),(3,.ptr 2 0),(27,.lf (.rows 6 (p_v.bC.map aF.lf))),(28,.i_ (p_v.bC.length:Int)),(29,.i_ v0)],[.dead,.box 40 (.agg [.i_ 0,.i_ 0,.lf (.str ⟨#[]⟩),.bK 5,.bK 6]),.box 40 (.agg [.i_ p_v.aB,.i_ p_v.dG,.lf (.str p_v.fText),.own 3,.own 7]),.row 40 5 (r0.map aj.lf),.dead,.box 138 (.agg ((aF.lf1 x0).map AV.lf)),.row 138 6 [(aF.lf1 (aF.mk x0.fName r1))],.row 138 6 ((l0++[aF.mk x0.fName r1]).map aF.lf)]⟩) (okc (by simp[aF.aY]:(l0++[aF.mk x0.fName r1]).map aF.lf=(l0.map aF.lf)++[(aF.lf1 (aF.mk x0.fName r1))]) (okc (cp_ aF.lf h1) (ok1 (rf_ ⟨[(2,.ptr 1 0),(3,.ptr 2 0),(27,.lf (.rows 6 (p_v.bC.map aF.lf))),(28,.i_ (p_v.bC.length:Int)),(29,.i_ v0)],[.dead,.box 40 (.agg [.i_ 0,.i_ 0,.lf (.str ⟨#[]⟩),.bK 5,.bK 6]),.box 40 (.agg [.i_ p_v.aB,.i_ p_v.dG,.lf (.str p_v.fText),.own 3,.own 7]),.row 40 5 (r0.map aj.lf),.dead,.box 138 (.agg ((aF.lf1 x0).map AV.lf)),.row 138 6 [(aF.lf1 (aF.mk x0.fName r1))],.row 138 6 ((l0++[aF.mk x0.fName r1]).map aF.lf)]⟩))))))))))<|
 .ret ⟨[],[2,3,27,28,29],[(7,4)],5⟩ (.inl (IntKind.wrap .i64 (v0+1),l0++[aF.mk x0.fName r1])))<|
 .rt [2,3] 5 (.inr (l0))
noncomputable def adh(R_:UU)(p_v:aj)(r0:((List aj)))(v0:Int)(l0:List aF):Option (((List aF))):=dA (fun v_=>(Fp R_ p_v r0 v_).den) FU (v0,l0)
noncomputable def Xk(R_:UU)(p_v:aj):Mo (aj):=
 .say [.num p_v.aX.length] (okc (ln_ p_v.aX aj.lf) (ok1 (by simp[aj.aY]:(([]:List aj).map aj.lf)=[])))<|
 .l1m [.XW 2 3 40,.lQ 3 (([]:List aj).map aj.lf)] Tryz.f55 0 [1,1,1,0,1,0] 0 (.exit 0) (fun(v0,l0)=>⟨[(1,.ptr 0 0),(2,.ptr 1 0),(3,.ptr 2 0),(12,.lf (.rows 5 (p_v.aX.map aj.lf))),(13,.i_ (p_v.aX.length:Int)),(14,.i_ v0)],[bI p_v,.box 40 (.agg [.i_ 0,.i_ 0,.lf (.str ⟨#[]⟩),.bK 5,.bK 6]),.box 40 (.agg [.i_ p_v.aB,.i_ p_v.dG,.lf (.str p_v.fText),.own 3,.bK 6]),.row 40 5 (l0.map aj.lf)]⟩) (fun r_=>⟨[(1,.ptr 0 0),(2,.ptr 1 0),(3,.ptr 2 0)],[bI p_v,.box 40 (.agg [.i_ 0,.i_ 0,.lf (.str ⟨#[]⟩),.bK 5,.bK 6]),.box 40 (.agg [.i_ p_v.aB,.i_ p_v.dG,.lf (.str p_v.fText),.own 3,.bK 6]),.row 40 5 (r_.map aj.lf)]⟩) (adg R_ p_v 0 ([]:List aj)) (Fj R_ p_v) (0,([]:List aj)) fun r0=>
 .say [.num p_v.bC.length] (okc (ln_ p_v.bC aF.lf) (ok1 (by simp[aF.aY]:(([]:List aF).map aF.lf)=[])))<|
 .l1m [.kill 0,.XW 2 4 138,.lQ 4 (([]:List aF).map aF.lf)] Tryz.f55 0 [1,1,1,1,0,1,0] 0 (.exit 2) (fun(v1,l1)=>⟨[(2,.ptr 1 0),(3,.ptr 2 0),(27,.lf (.rows 6 (p_v.bC.map aF.lf))),(28,.i_ (p_v.bC.length:Int)),(29,.i_ v1)],[.dead,.box 40 (.agg [.i_ 0,.i_ 0,.lf (.str ⟨#[]⟩),.bK 5,.bK 6]),.box 40 (.agg [.i_ p_v.aB,.i_ p_v.dG,.lf (.str p_v.fText),.own 3,.own 4]),.row 40 5 (r0.map aj.lf),.row 138 6 (l1.map aF.lf)]⟩) (fun r_=>⟨[(2,.ptr 1 0),(3,.ptr 2 0)],[.dead,.box 40 (.agg [.i_ 0,.i_ 0,.lf (.str ⟨#[]⟩),.bK 5,.bK 6]),.box 40 (.agg [.i_ p_v.aB,.i_ p_v.dG,.lf (.str p_v.fText),.own 3,.own 4]),.row 40 5 (r0.map aj.lf),.row 138 6 (r_.map aF.lf)]⟩) (adh R_ p_v r0 0 ([]:List aF)) (Fp R_ p_v r0) (0,([]:List aF)) fun r1=>
 .say [.at_ 0 0,.frz 3,.frz 4] ok0<|
 .ret (bF 1) (aj.mk p_v.aB p_v.dG p_v.fText r0 r1)
theorem agY(R_:UU):Nc fun p_v=>Mo.den (Xk R_ p_v):=fun _=>dI Tryz.func55
noncomputable def qH:Nat→UU
 |0=>{ m1:=fun p_v=>none,ok1:=fun _ _ h=>(by cases h) }
 |n_+1=>{ m1:=fun p_v=>Mo.den (Xk (qH n_) p_v),ok1:=agY (qH n_) }
noncomputable def Q15(p_v:aj):Option (aj):=(qH FU).m1 p_v
theorem uZ:Nc Q15:=(qH FU).ok1
noncomputable def Qo(p_b0_0:Int)(p_b0_1:List ak)(p_s1:aZ)(p_s2:List (ByteArray×ah))(p_s3:List (ByteArray×au))(p_stamp:Int)(p_w:ay)(r0:ByteArray×Bool):Mo (Bool):=
 .oV 8002 (!((aI p_w.aT p_s1.dir).isSome)) [2,4,7,9,33] 7 (!r0.2)
noncomputable def Qp(p_b0_0:Int)(p_b0_1:List ak)(p_s1:aZ)(p_s2:List (ByteArray×ah))(p_s3:List (ByteArray×au))(p_stamp:Int)(p_w:ay)(r0:ByteArray×Bool):Mo (aP):=
 .iB (p_w.aB==2) (.cl (uZ p_w.bC) fun r1 _=>
 .ret ⟨[.norm 7,.kill 4],[7,9,11],[],8⟩ (aP.mk p_stamp r1))<|
 .ret ⟨[.norm 7,.kill 4],[7,9,11],[],8⟩ (aP.mk p_stamp (aj.mk 0 0 ⟨#[]⟩ [] []))
noncomputable def UW(p_b0_0:Int)(p_b0_1:List ak)(p_s1:aZ)(p_s2:List (ByteArray×ah))(p_s3:List (ByteArray×au))(p_stamp:Int)(p_w:ay)(r0:ByteArray×Bool):Option (aP):=Mo.den (Qp p_b0_0 p_b0_1 p_s1 p_s2 p_s3 p_stamp p_w r0)
noncomputable def anf(p_w:ay)(p_stamp:Int)(p_b0_0:Int)(p_b0_1:List ak)(p_s1:aZ)(p_s2:List (ByteArray×ah))(p_s3:List (ByteArray×au))(r:(Unit)⊕(aZ×ByteArray)):List AV:=match r with
 |.inl o_=>[.raw (.func (.func 177) #[] #[])]
 |.inr (o_)=>[.clo 178 [.ptr 5 0,.ptr 6 0]]
noncomputable def al2(p_w:ay)(p_stamp:Int)(p_b0_0:Int)(p_b0_1:List ak)(p_s1:aZ)(p_s2:List (ByteArray×ah))(p_s3:List (ByteArray×au))(r:(Unit)⊕(aZ×ByteArray)):List Slot:=match r with
 |.inl o_=>[.box 113 (.agg [.i_ p_b0_0,.lf (.rows 25 (p_b0_1.map ak.lf)),.mp 1,.mp 2,.mp 3]),.res (bH p_s1 none) none,.res (bP p_s2) none,.res (bT p_s3) none]
 |.inr (o_)=>[.box 113 (.agg [.i_ p_b0_0,.lf (.rows 25 (p_b0_1.map ak.lf)),.mp 1,.mp 2,.mp 3]),.res (bH o_.1 none) none,.res (bP p_s2) none,.res (bT p_s3) none,.dead,.box 139 (.agg [.hnd 1 (aI p_w.aT p_s1.dir)]),.box 9 (.dat [(.str o_.2)])]
noncomputable def adi(p_w:ay)(p_stamp:Int)(p_b0_0:Int)(p_b0_1:List ak)(p_s1:aZ)(p_s2:List (ByteArray×ah))(p_s3:List (ByteArray×au)):Mo ((Unit)⊕(aZ×ByteArray)):=
 .say [.eG (.q 0 (.q 1 (.q 2 (.q 3 (.q 4 (.q 5 (.alt 6 (.q 7 (.q 8 (.q 9 (.l 10 (.l 11 (.q 12 .fin)))))) (.l 10 (.l 6 (.q 7 (.q 8 (.q 9 (.l 11 (.q 12 .fin)))))))))))))) none [1,5] [.both [.at_ 4 6,.resv 1,.opH [1] (.tup [.hnd 0 (aI p_w.aT p_s1.dir),.lf (.bool ((aI p_w.aT p_s1.dir).isSome))]) [.res (bH p_s1 none) none],.slot 5] [.at_ 4 10,.resv 1,.slot 5,.opH [1] (.tup [.hnd 0 (aI p_w.aT p_s1.dir),.lf (.bool ((aI p_w.aT p_s1.dir).isSome))]) [.res (bH p_s1 none) none]]] [2,4,7,8] 6 [(2,.i_ p_stamp),(4,.ptr 4 0),(7,.ptr 5 0),(8,.lf (.bool ((aI p_w.aT p_s1.dir).isSome)))] [.box 113 (.agg [.i_ p_b0_0,.lf (.rows 25 (p_b0_1.map ak.lf)),.mp 1,.mp 2,.mp 3]),.res (bH p_s1 none) none,.res (bP p_s2) none,.res (bT p_s3) none,cO p_w,.box 139 (.agg [.hnd 1 (aI p_w.aT p_s1.dir)])]] (okc (zC p_s1 p_w.aT) (okc (rf_ ⟨[(2,.i_ p_stamp),(4,.ptr 4 0),(7,.ptr 5 0),(8,.lf (.bool ((aI p_w.aT p_s1.dir).isSome)))],[.box 113 (.agg [.i_ p_b0_0,.lf (.rows 25 (p_b0_1.map ak.lf)),.mp 1,.mp 2,.mp 3]),.res (bH p_s1 none) none,.res (bP p_s2) none,.res (bT p_s3) none,cO p_w,.box 139 (.agg [.hnd 1 (aI p_w.aT p_s1.dir)])]⟩) (okc (zC p_s1 p_w.aT) (ok1 (rf_ ⟨[(2,.i_ p_stamp),(4,.ptr 4 0),(7,.ptr 5 0),(8,.lf (.bool ((aI p_w.aT p_s1.dir).isSome)))],[.box 113 (.agg [.i_ p_b0_0,.lf (.rows 25 (p_b0_1.map ak.lf)),.mp 1,.mp 2,.mp 3]),.res (bH p_s1 none) none,.res (bP p_s2) none,.res (bT p_s3) none,cO p_w,.box 139 (.agg [.hnd 1 (aI p_w.aT p_s1.dir)])]⟩)))))<|
 .cl (Nb p_w.dL) fun r0 _=>
 .jk Tryz.f114 4 [1,1,1,0,0] 13 (fun r_=>⟨[(2,.i_ p_stamp),(4,.ptr 4 0),(7,.ptr 5 0),(9,.ptr 6 0),(33,.b_ r_)],[.box 113 (.agg [.i_ p_b0_0,.lf (.rows 25 (p_b0_1.map ak.lf)),.mp 1,.mp 2,.mp 3]),.res (bH p_s1 none) none,.res (bP p_s2) none,.res (bT p_s3) none,cO p_w,.box 139 (.agg [.hnd 1 (aI p_w.aT p_s1.dir)]),.box 9 (.dat [(.str r0.1)])]⟩) ⟨[(2,.i_ p_stamp),(4,.ptr 4 0),(7,.ptr 5 0),(8,.lf (.bool ((aI p_w.aT p_s1.dir).isSome))),(9,.ptr 6 0),(10,.b_ r0.2)],[.box 113 (.agg [.i_ p_b0_0,.lf (.rows 25 (p_b0_1.map ak.lf)),.mp 1,.mp 2,.mp 3]),.res (bH p_s1 none) none,.res (bP p_s2) none,.res (bT p_s3) none,cO p_w,.box 139 (.agg [.hnd 1 (aI p_w.aT p_s1.dir)]),.box 9 (.dat [(.str r0.1)])]⟩ (Qo p_b0_0 p_b0_1 p_s1 p_s2 p_s3 p_stamp p_w r0) fun r1=>
 .iB (r1) (.ret ⟨[.kill 4,.kill 5,.kill 6],[0],[],4⟩ (.inl ()))<|
 .jp Tryz.f114 4 [1,1,1,1,1,0,1] 1 [4,7,9,11,38] 8 (.normal) (fun r_=>⟨[(7,.ptr 5 0),(9,.ptr 6 0),(11,.ptr 7 0)],[.box 113 (.agg [.i_ p_b0_0,.lf (.rows 25 (p_b0_1.map ak.lf)),.mp 1,.mp 2,.mp 3]),.res (bH p_s1 none) none,.res (bP p_s2) none,.res (bT p_s3) none,.dead,.box 139 (.agg [.hnd 1 (aI p_w.aT p_s1.dir)]),.box 9 (.dat [(.str r0.1)]),MF r_]⟩) ⟨[(4,.ptr 4 0),(7,.ptr 5 0),(9,.ptr 6 0),(11,.ptr 7 0),(38,.lf (.bool (p_w.aB==2)))],[.box 113 (.agg [.i_ p_b0_0,.lf (.rows 25 (p_b0_1.map ak.lf)),.mp 1,.mp 2,.mp 3]),.res (bH p_s1 none) none,.res (bP p_s2) none,.res (bT p_s3) none,cO p_w,.box 139 (.agg [.hnd 1 (aI p_w.aT p_s1.dir)]),.box 9 (.dat [(.str r0.1)]),.box 147 (Et alh [(0,.i_ p_stamp)])]⟩ (UW p_b0_0 p_b0_1 p_s1 p_s2 p_s3 p_stamp p_w r0) (jW (by kernel_rfl)) fun r2 _=>
 .say [] (okc (wC p_s1 r0.1 (aI p_w.aT p_s1.dir)) (okc (L9 (bH p_s1 (outOf (aI p_w.aT p_s1.dir) r0.1)) 147 6 ((p_s1.row (aI p_w.aT p_s1.dir) r0.1).map aP.lf)) (ok1 (ap_ aP.aY (p_s1.row (aI p_w.aT p_s1.dir) r0.1) r2))))<|
 .grd (((p_s1.row (aI p_w.aT p_s1.dir) r0.1).length+[r2].length)*88≤140737488355328) fun h0=>
 .say [] (ok1 (cp_ aP.lf h0))<|
 .ask (aI p_w.aT p_s1.dir) fun j5471 h1=>
 .say [.eG (.q 0 (.q 1 (.q 2 (.q 3 (.q 5 (.alt 4 (.l 6 (.l 7 (.l 8 .fin))) (.l 6 (.l 4 (.l 7 (.l 8 .fin)))))))))) (some 8) [1,8,9,10] [.both [.at_ 18 4,.resv 2,.opH [1] (.own 1) [.res (bH p_s1 (outOf (aI p_w.aT p_s1.dir) r0.1)) (some 1),.row 147 6 ((p_s1.row (aI p_w.aT p_s1.dir) r0.1).map aP.lf)],.slot 8,.at_ 18 7,.gho [1,10] [.res (bH p_s1 (outOf (aI p_w.aT p_s1.dir) r0.1)) none,.row 147 6 ((p_s1.row (aI p_w.aT p_s1.dir) r0.1).map aP.lf)],.rows (((p_s1.row (aI p_w.aT p_s1.dir) r0.1)++[r2]).map aP.lf),.slot 9,.opH [1,9] (.raw undef) [.res (bH (p_s1.put j5471 r0.1 ((p_s1.row (aI p_w.aT p_s1.dir) r0.1)++[r2])) none) none,.dead]] [.at_ 18 6,.resv 2,.slot 8,.opH [1] (.own 1) [.res (bH p_s1 (outOf (aI p_w.aT p_s1.dir) r0.1)) (some 1),.row 147 6 ((p_s1.row (aI p_w.aT p_s1.dir) r0.1).map aP.lf)],.at_ 18 7,.gho [1,10] [.res (bH p_s1 (outOf (aI p_w.aT p_s1.dir) r0.1)) none,.row 147 6 ((p_s1.row (aI p_w.aT p_s1.dir) r0.1).map aP.lf)],.rows (((p_s1.row (aI p_w.aT p_s1.dir) r0.1)++[r2]).map aP.lf),.slot 9,.opH [1,9] (.raw undef) [.res (bH (p_s1.put j5471 r0.1 ((p_s1.row (aI p_w.aT p_s1.dir) r0.1)++[r2])) none) none,.dead]]] [7,9] 11 [(7,.ptr 5 0),(9,.ptr 6 0)] [.box 113 (.agg [.i_ p_b0_0,.lf (.rows 25 (p_b0_1.map ak.lf)),.mp 1,.mp 2,.mp 3]),.res (bH (p_s1.put j5471 r0.1 ((p_s1.row (aI p_w.aT p_s1.dir) r0.1)++[r2])) none) none,.res (bP p_s2) none,.res (bT p_s3) none,.dead,.box 139 (.agg [.hnd 1 (aI p_w.aT p_s1.dir)]),.box 9 (.dat [(.str r0.1)]),MF r2,.row 147 6 [(aP.lf1 r2)],.dead,.dead]] ok0<|
 .grd ((p_s1.inner j5471).length<maxLen) fun h2=>
 .say [] (okc (L8 p_s1 r0.1 _ j5471 ((p_s1.row (aI p_w.aT p_s1.dir) r0.1)++[r2]) h1 h2) (okc (rf_ ⟨[(7,.ptr 5 0),(9,.ptr 6 0)],[.box 113 (.agg [.i_ p_b0_0,.lf (.rows 25 (p_b0_1.map ak.lf)),.mp 1,.mp 2,.mp 3]),.res (bH (p_s1.put j5471 r0.1 ((p_s1.row (aI p_w.aT p_s1.dir) r0.1)++[r2])) none) none,.res (bP p_s2) none,.res (bT p_s3) none,.dead,.box 139 (.agg [.hnd 1 (aI p_w.aT p_s1.dir)]),.box 9 (.dat [(.str r0.1)]),MF r2,.row 147 6 [(aP.lf1 r2)],.dead,.dead]⟩) (okc (wC p_s1 r0.1 (aI p_w.aT p_s1.dir)) (okc (L9 (bH p_s1 (outOf (aI p_w.aT p_s1.dir) r0.1)) 147 6 ((p_s1.row (aI p_w.aT p_s1.dir) r0.1).map aP.lf)) (okc (ap_ aP.aY (p_s1.row (aI p_w.aT p_s1.dir) r0.1) r2) (okc (cp_ aP.lf h0) (okc (L8 p_s1 r0.1 _ j5471 ((p_s1.row (aI p_w.aT p_s1.dir) r0.1)++[r2]) h1 h2) (ok1 (rf_ ⟨[(7,.ptr 5 0),(9,.ptr 6 0)],[.box 113 (.agg [.i_ p_b0_0,.lf (.rows 25 (p_b0_1.map ak.lf)),.mp 1,.mp 2,.mp 3]),.res (bH (p_s1.put j5471 r0.1 ((p_s1.row (aI p_w.aT p_s1.dir) r0.1)++[r2])) none) none,.res (bP p_s2) none,.res (bT p_s3) none,.dead,.box 139 (.agg [.hnd 1 (aI p_w.aT p_s1.dir)]),.box 9 (.dat [(.str r0.1)]),MF r2,.row 147 6 [(aP.lf1 r2)],.dead,.dead]⟩)))))))))<|
 .ret ⟨[.kill 7,.kill 8],[0],[],7⟩ (.inr ((p_s1.put j5471 r0.1 ((p_s1.row (aI p_w.aT p_s1.dir) r0.1)++[r2]),r0.1)))
noncomputable def Q34(p_w:ay)(p_stamp:Int)(p_b0_0:Int)(p_b0_1:List ak)(p_s1:aZ)(p_s2:List (ByteArray×ah))(p_s3:List (ByteArray×au)):Option ((Unit)⊕(aZ×ByteArray)):=Mo.den (adi p_w p_stamp p_b0_0 p_b0_1 p_s1 p_s2 p_s3)
theorem Nh(p_w:ay)(p_stamp:Int)(p_b0_0:Int)(p_b0_1:List ak)(p_s1:aZ)(p_s2:List (ByteArray×ah))(p_s3:List (ByteArray×au)):FH (Q34 p_w p_stamp p_b0_0 p_b0_1 p_s1 p_s2 p_s3) 114 [.ptr 0 0,.dat (ay.lf1 p_w),.i_ p_stamp] [.box 113 (.agg [.i_ p_b0_0,.lf (.rows 25 (p_b0_1.map ak.lf)),.mp 1,.mp 2,.mp 3]),.res (bH p_s1 none) none,.res (bP p_s2) none,.res (bT p_s3) none] (fun r=>resV (anf p_w p_stamp p_b0_0 p_b0_1 p_s1 p_s2 p_s3 r)) (fun r=>al2 p_w p_stamp p_b0_0 p_b0_1 p_s1 p_s2 p_s3 r):=jA Tryz.func114
noncomputable def Qq(p_s:ByteArray):Mo (Bool):=
 .oV 4002 (decide ((p_s:ByteArray)=(⟨#[]⟩:ByteArray))) [0,10] 0 (decide ((32:Int)<(p_s.size:Int)))
noncomputable def Qr(p_s:ByteArray)(r0:Bool):Mo (Bool):=
 .iG 4007 (r0) (.rt [0,15] 0 (true))<|
 .ask (kG p_s 0) fun b0 h0=>
 .say [.byt b0] (ok1 (fK h0))<|
 .rt [0,15] 0 ((b0.toNat:Int)==36)
noncomputable def Js(p_s:ByteArray)(v0:Int):Mo (Bool):=
 .ask (kG p_s v0) fun b0 h0=>
 .say [.byt b0] (ok1 (fK h0))<|
 .iG 14004 (decide (((b0.toNat:Int):Int)<33)) (.rt [0,3,17,18,30] 0 (true))<|
 .ask (kG p_s v0) fun b1 h1=>
 .say [.byt b1] (ok1 (fK h1))<|
 .rt [0,3,17,18,30] 0 (decide ((126:Int)<(b1.toNat:Int)))
noncomputable def Jt(p_s:ByteArray)(r0:Bool)(v0:Int):Mo (Bool):=
 .iG 14010 (r0) (.rt [0,17,18,36] 0 (true))<|
 .ask (kG p_s v0) fun b0 h0=>
 .say [.byt b0] (ok1 (fK h0))<|
 .rt [0,17,18,36] 0 ((b0.toNat:Int)==46)
noncomputable def Ju(p_s:ByteArray):(Int)→Mo ((Int)⊕(Unit⊕Unit)):=fun(v0)=>
 .iB (decide ((v0:Int)<(p_s.size:Int))) (.sf Tryz.f153 0 [1,1,0,1,0,0,1,1,0,0,1,0] 0 10 6 [(0,.lf (.str p_s)),(3,.i_ v0),(17,.i_ (p_s.size:Int)),(18,.i_ v0)] [] 30 (Js p_s v0) fun r0=>
 .sk Tryz.f153 0 [1,1,0,1,0,0,1,1,0,0,1,0] 10 6 6 (fun r_=>⟨[(0,.lf (.str p_s)),(17,.i_ (p_s.size:Int)),(18,.i_ v0),(36,.b_ r_)],[]⟩) ⟨[(0,.lf (.str p_s)),(3,.i_ v0),(17,.i_ (p_s.size:Int)),(18,.i_ v0),(30,.b_ r0)],[]⟩ (Jt p_s r0 v0) fun r1=>
 .iB (r1) (.rt [2] 0 (.inr (.inl ())))<|
 .rt [0,17,18] 0 (.inl (IntKind.wrap .i64 (v0+1))))<|
 .rt [] 0 (.inr (.inr (())))
noncomputable def aia(p_s:ByteArray):Mo (Bool):=
 .sf Tryz.f153 0 [1,0,0] 0 7 1 [(0,.lf (.str p_s))] [] 10 (Qq p_s) fun r0=>
 .sb Tryz.f153 0 [1,0,0] 7 5 1 [(0,.lf (.str p_s))] [] 10 15 r0 (Qr p_s r0) fun r1=>
 .iB (r1) (.ret (bF 1) (false))<|
 .l2 Tryz.f153 0 [1,1,0,1,0] 0 (fun(v0)=>⟨[(0,.lf (.str p_s)),(17,.i_ (p_s.size:Int)),(18,.i_ v0)],[]⟩) .ret (fun _=>⟨[(2,.b_ false)],[]⟩) (.exit 0) (fun _=>⟨[],[]⟩) (Ju p_s) (0) (fun o0=>
 .ret (bF 1) (false)) fun o1=>
 .ret (bF 1) (true)
noncomputable def Q42(p_s:ByteArray):Option (Bool):=Mo.den (aia p_s)
theorem ajQ(p_s:ByteArray):FV (Q42 p_s) 153 [.lf (.str p_s)] .b_:=dI Tryz.func153
noncomputable def Fq(p_s:ByteArray):(Int)→Mo ((Int)⊕(Unit⊕Unit)):=fun(v0)=>
 .iB (decide ((v0:Int)<(p_s.size:Int))) (.sf Tryz.f276 0 [1,1,0,1,0,0,1,1,0,0,1,0] 0 10 6 [(0,.lf (.str p_s)),(3,.i_ v0),(18,.i_ (p_s.size:Int)),(19,.i_ v0)] [] 31 (kH p_s v0) fun r0=>
 .sk Tryz.f276 0 [1,1,0,1,0,0,1,1,0,0,1,0] 10 6 6 (fun r_=>⟨[(0,.lf (.str p_s)),(18,.i_ (p_s.size:Int)),(19,.i_ v0),(37,.b_ r_)],[]⟩) ⟨[(0,.lf (.str p_s)),(3,.i_ v0),(18,.i_ (p_s.size:Int)),(19,.i_ v0),(31,.b_ r0)],[]⟩ (kJ p_s r0 v0) fun r1=>
 .iB (r1) (.rt [2] 0 (.inr (.inl ())))<|
 .rt [0,18,19] 0 (.inl (IntKind.wrap .i64 (v0+1))))<|
 .rt [] 0 (.inr (.inr (())))
noncomputable def adk(p_s:ByteArray):Mo (Bool):=
 .sf Tryz.f276 0 [1,0,0] 0 8 1 [(0,.lf (.str p_s))] [] 11 (kS p_s) fun r0=>
 .sb Tryz.f276 0 [1,0,0] 8 5 1 [(0,.lf (.str p_s))] [] 11 16 r0 (kT p_s r0) fun r1=>
 .iB (r1) (.ret (bF 1) (false))<|
 .l2 Tryz.f276 0 [1,1,0,1,0] 0 (fun(v0)=>⟨[(0,.lf (.str p_s)),(18,.i_ (p_s.size:Int)),(19,.i_ v0)],[]⟩) .ret (fun _=>⟨[(2,.b_ false)],[]⟩) (.exit 0) (fun _=>⟨[],[]⟩) (Fq p_s) (0) (fun o0=>
 .ret (bF 1) (false)) fun o1=>
 .ret (bF 1) (true)
noncomputable def agZ(p_s:ByteArray):Option (Bool):=Mo.den (adk p_s)
theorem Xl(p_s:ByteArray):FV (agZ p_s) 276 [.lf (.str p_s)] .b_:=dI Tryz.func276
noncomputable def adl(p_v:aj):Mo (Bool):=
 .aV 8003 (p_v.aB==0) [3,4,15] 1 (p_v.dG==0)
noncomputable def adn(p_v:aj)(r0:Bool):Mo (Bool):=
 .aV 8008 (r0) [3,4,20] 1 (decide ((p_v.fText:ByteArray)=(⟨#[]⟩:ByteArray)))
noncomputable def Y5(p_v:aj)(r0:Bool):Mo (Bool):=
 .iG 8013 (r0) (.nu p_v.aX aj.lf<|
 .rt [3,4,26] 1 ((p_v.aX.length:Int)==0))<|
 .rt [3,4,26] 1 (false)
noncomputable def Y6(p_v:aj)(r0:Bool):Mo (Bool):=
 .iG 8019 (r0) (.nu p_v.bC aF.lf<|
 .ret ⟨[.kill 0],[4,32],[],1⟩ ((p_v.bC.length:Int)==0))<|
 .ret ⟨[.kill 0],[4,32],[],1⟩ (false)
noncomputable def Y7(r0:Bool):Mo (Unit):=
 .rt [4] 1 ()
noncomputable def aib(p_has:Bool)(p_v:aj):Mo (Bool):=
 .iB (p_has) (.cl (sZ p_v) fun r0 _=>
 .ret (bF 1) (r0))<|
 .sf Tryz.f277 0 [1,1,0] 0 8 3 [(3,.ptr 0 0),(4,.b_ false)] [bI p_v] 15 (adl p_v) fun r1=>
 .sb Tryz.f277 0 [1,1,0] 8 5 3 [(3,.ptr 0 0),(4,.b_ false)] [bI p_v] 15 20 r1 (adn p_v r1) fun r2=>
 .sb Tryz.f277 0 [1,1,0] 13 6 3 [(3,.ptr 0 0),(4,.b_ false)] [bI p_v] 20 26 r2 (Y5 p_v r2) fun r3=>
 .sk Tryz.f277 0 [1,1,0] 19 6 3 (fun r_=>⟨[(4,.b_ false),(32,.b_ r_)],[.dead]⟩) ⟨[(3,.ptr 0 0),(4,.b_ false),(26,.b_ r3)],[bI p_v]⟩ (Y6 p_v r3) fun r4=>
 .sk Tryz.f277 0 [1,1,0] 25 1 3 (fun r_=>⟨[(4,.b_ r4)],[.dead]⟩) ⟨[(4,.b_ false),(32,.b_ r4)],[.dead]⟩ (Y7 r4) fun r5=>
 .ret (bF 1) (r4)
noncomputable def Q70(p_has:Bool)(p_v:aj):Option (Bool):=Mo.den (aib p_has p_v)
theorem ado(p_has:Bool)(p_v:aj):FV (Q70 p_has p_v) 277 [.b_ p_has,.dat (aj.lf1 p_v)] .b_:=dI Tryz.func277
noncomputable def Qs(m5895:List (ByteArray×Bool))(p_s:aA)(v0:Int)(x0:ByteArray):Mo (Bool):=
 .cl (Xl x0) fun r0 _=>
 .iG 12003 (!r0) (.rt [1,3,5,13,14,15,26] 2 (true))<|
 .say [.row [.bool (uQ m5895 x0 false)]] (okc (rfl:Tryz.prog=Tryz.prog) (ok1 (EC _ _ _:l7 (m5895.map mvB) x0 (.bool false)=(.bool (uQ m5895 x0 false)))))<|
 .rt [1,3,5,13,14,15,26] 2 (uQ m5895 x0 false)
noncomputable def Qu(p_s:aA):(Int×(List (ByteArray×Bool)))→Mo ((Int×(List (ByteArray×Bool)))⊕(Unit⊕Unit)):=fun(v0,m5895)=>
 .iB (decide ((v0:Int)<(p_s.dJ.length:Int))) (.gx lS_ p_s.dJ v0 fun x0 _=>
 .jk Tryz.f246 0 [1,1,0,1,0,0,1,1,0,0,1,0,0] 17 (fun r_=>⟨[(1,.ptr 0 0),(3,.mp 1),(5,.lf (.str x0)),(13,.lf (.rows 1 (p_s.dJ.map lfS))),(14,.i_ (p_s.dJ.length:Int)),(15,.i_ v0),(26,.b_ r_)],[iY p_s,.map Tryz.prog 9 4 (m5895.map mvB)]⟩) ⟨[(1,.ptr 0 0),(3,.mp 1),(5,.lf (.str x0)),(13,.lf (.rows 1 (p_s.dJ.map lfS))),(14,.i_ (p_s.dJ.length:Int)),(15,.i_ v0)],[iY p_s,.map Tryz.prog 9 4 (m5895.map mvB)]⟩ (Qs m5895 p_s v0 x0) fun r0=>
 .iB (r0) (.ret ⟨[.kill 0,.kill 1],[2],[],2⟩ (.inr (.inl ())))<|
 .say [] (ok1 (rfl:Tryz.prog=Tryz.prog))<|
 .grd (m5895.length<maxLen) fun h0=>
 .say [] (ok1 (by simpa using h0:(m5895.map mvB).length<maxLen))<|
 .rt [1,3,13,14,15] 2 (.inl (IntKind.wrap .i64 (v0+1),(x0,true)::m5895)))<|
 .ret ⟨[.kill 1],[1],[],2⟩ (.inr (.inr (())))
noncomputable def Jv(m5969:List (ByteArray×Bool))(p_s:aA)(v0:Int)(x0:cu):Mo (Bool):=
 .cl (Xl x0.fName) fun r0 _=>
 .iG 28004 (!r0) (.rt [1,6,8,32,33,34,47] 4 (true))<|
 .say [.row [.bool (uQ m5969 x0.fName false)]] (okc (rfl:Tryz.prog=Tryz.prog) (ok1 (EC _ _ _:l7 (m5969.map mvB) x0.fName (.bool false)=(.bool (uQ m5969 x0.fName false)))))<|
 .rt [1,6,8,32,33,34,47] 4 (uQ m5969 x0.fName false)
noncomputable def Jw(p_s:aA):(Int×(List (ByteArray×Bool)))→Mo ((Int×(List (ByteArray×Bool)))⊕(Unit⊕Unit)):=fun(v0,m5969)=>
 .iB (decide ((v0:Int)<(p_s.dW.length:Int))) (.gx cu.aY p_s.dW v0 fun x0 _=>
 .jk Tryz.f246 0 [1,1,1,1,0,1,0,0,1,1,0,0,1,0,0] 33 (fun r_=>⟨[(1,.ptr 0 0),(6,.mp 2),(8,.ptr 3 0),(32,.lf (.rows 22 (p_s.dW.map cu.lf))),(33,.i_ (p_s.dW.length:Int)),(34,.i_ v0),(47,.b_ r_)],[iY p_s,.dead,.map Tryz.prog 9 4 (m5969.map mvB),.box 206 (.agg ((cu.lf1 x0).map AV.lf))]⟩) ⟨[(1,.ptr 0 0),(6,.mp 2),(8,.ptr 3 0),(32,.lf (.rows 22 (p_s.dW.map cu.lf))),(33,.i_ (p_s.dW.length:Int)),(34,.i_ v0)],[iY p_s,.dead,.map Tryz.prog 9 4 (m5969.map mvB),.box 206 (.agg ((cu.lf1 x0).map AV.lf))]⟩ (Jv m5969 p_s v0 x0) fun r0=>
 .iB (r0) (.ret ⟨[.kill 0,.kill 2],[2],[],3⟩ (.inr (.inl ())))<|
 .say [] (ok1 (rfl:Tryz.prog=Tryz.prog))<|
 .grd (m5969.length<maxLen) fun h0=>
 .say [] (ok1 (by simpa using h0:(m5969.map mvB).length<maxLen))<|
 .rt [1,6,32,33,34] 3 (.inl (IntKind.wrap .i64 (v0+1),(x0.fName,true)::m5969)))<|
 .ret ⟨[.kill 2],[1],[],3⟩ (.inr (.inr (())))
noncomputable def Jy(p_s:aA):Mo (Bool):=
 .oV 36004 ((gW .andNot .i64 p_s.kZ 4094) != 0) [1,60] 3 (decide ((p_s.jV:Int)<0))
noncomputable def Jz(p_s:aA)(r0:Bool):Mo (Bool):=
 .oV 36009 (r0) [1,65] 3 (decide ((p_s.kN:Int)<(-1)))
noncomputable def JA(p_s:aA)(r0:Bool):Mo (Bool):=
 .iG 36014 (r0) (.rt [1,71] 3 (true))<|
 .nu p_s.fB aA.lf<|
 .rt [1,71] 3 (decide ((1:Int)<(p_s.fB.length:Int)))
noncomputable def JB(p_s:aA):Mo (Bool):=
 .cl (ado p_s.jS p_s.lI) fun r0 _=>
 .iG 40006 (!r0) (.rt [1,85] 3 (true))<|
 .cl (ado p_s.jT p_s.lJ) fun r1 _=>
 .rt [1,85] 3 (!r1)
noncomputable def JC(p_s:aA):(Int)→Mo ((Int)⊕(Unit⊕Unit)):=fun(v0)=>
 .iB (decide ((v0:Int)<(p_s.jU.length:Int))) (.gx aj.aY p_s.jU v0 fun x0 _=>
 .cl (sZ x0) fun r0 _=>
 .iB (!r0) (.rt [2] 3 (.inr (.inl ())))<|
 .rt [87,88,89] 3 (.inl (IntKind.wrap .i64 (v0+1))))<|
 .rt [] 3 (.inr (.inr (())))
noncomputable def aic(p_s:aA):Mo (Int):=
 .nu p_s.dJ lfS<|
 .l2 Tryz.f246 0 [1,1,0,1,0] 0 (fun(v0,m5895)=>⟨[(1,.ptr 0 0),(3,.mp 1),(13,.lf (.rows 1 (p_s.dJ.map lfS))),(14,.i_ (p_s.dJ.length:Int)),(15,.i_ v0)],[iY p_s,.map Tryz.prog 9 4 (m5895.map mvB)]⟩) .ret (fun _=>⟨[(2,.i_ 9)],[.dead,.dead]⟩) (.exit 0) (fun _=>⟨[(1,.ptr 0 0)],[iY p_s,.dead]⟩) (Qu p_s) (0,([]:List (ByteArray×Bool))) (fun o0=>
 .ret (bF 1) (9)) fun o1=>
 .nu p_s.dW cu.lf<|
 .l2 Tryz.f246 0 [1,1,1,1,0,1,0] 0 (fun(v1,m5969)=>⟨[(1,.ptr 0 0),(6,.mp 2),(32,.lf (.rows 22 (p_s.dW.map cu.lf))),(33,.i_ (p_s.dW.length:Int)),(34,.i_ v1)],[iY p_s,.dead,.map Tryz.prog 9 4 (m5969.map mvB)]⟩) .ret (fun _=>⟨[(2,.i_ 9)],[.dead,.dead,.dead]⟩) (.exit 2) (fun _=>⟨[(1,.ptr 0 0)],[iY p_s,.dead,.dead]⟩) (Jw p_s) (0,([]:List (ByteArray×Bool))) (fun o2=>
 .ret (bF 1) (9)) fun o3=>
 .sf Tryz.f246 0 [1,1,1,1,1,0,0] 0 9 17 [(1,.ptr 0 0)] [iY p_s,.dead,.dead] 60 (Jy p_s) fun r0=>
 .sb Tryz.f246 0 [1,1,1,1,1,0,0] 9 5 17 [(1,.ptr 0 0)] [iY p_s,.dead,.dead] 60 65 r0 (Jz p_s r0) fun r1=>
 .sb Tryz.f246 0 [1,1,1,1,1,0,0] 14 6 17 [(1,.ptr 0 0)] [iY p_s,.dead,.dead] 65 71 r1 (JA p_s r1) fun r2=>
 .iB (r2) (.ret (bF 1) (1))<|
 .jk Tryz.f246 0 [1,1,1,1,1,1,0,0] 45 (fun r_=>⟨[(1,.ptr 0 0),(85,.b_ r_)],[iY p_s,.dead,.dead]⟩) ⟨[(1,.ptr 0 0)],[iY p_s,.dead,.dead]⟩ (JB p_s) fun r3=>
 .iB (r3) (.ret (bF 1) (8))<|
 .nu p_s.jU aj.lf<|
 .l2y [.kill 0] Tryz.f246 0 [1,1,1,1,1,1,1,0,1,0] 0 (fun(v2)=>⟨[(87,.lf (.rows 5 (p_s.jU.map aj.lf))),(88,.i_ (p_s.jU.length:Int)),(89,.i_ v2)],[.dead,.dead,.dead]⟩) .ret (fun _=>⟨[(2,.i_ 8)],[.dead,.dead,.dead]⟩) (.exit 4) (fun _=>⟨[],[.dead,.dead,.dead]⟩) (JC p_s) (0) (fun o4=>
 .ret (bF 1) (8)) fun o5=>
 .ret (bF 1) (0)
noncomputable def Q21(p_s:aA):Option (Int):=Mo.den (aic p_s)
theorem ajR(p_s:aA):FV (Q21 p_s) 246 [.dat (aA.lf1 p_s)] .i_:=dI Tryz.func246
abbrev Nj(m:aA→Int→Int→Option (Int×Int)):Prop:=∀p_s p_level p_b0,FH (m p_s p_level p_b0) 211 [.dat (aA.lf1 p_s),.i_ p_level,.ptr 0 0] [.box 3 (.dat [(.int .i64 p_b0)])] (fun r=>.i_ r.1) (fun r=>[.box 3 (.dat [(.int .i64 r.2)])])
structure Y8 where
 m1:(p_s:aA)→(p_level:Int)→(p_b0:Int)→Option (Int×Int)
 ok1:Nj m1
noncomputable def Qv(R_:Y8)(p_b0:Int)(p_level:Int)(p_s:aA):Mo (Bool):=
 .oV 4002 (decide ((16:Int)<p_level)) [1,2,3,21] 2 (p_b0==64)
noncomputable def Qw(R_:Y8)(p_level:Int)(p_s:aA):(Int×Int)→Mo ((Int×Int)⊕(Int×Int)⊕(Int)):=fun(v0,v1)=>
 .iB (decide ((v0:Int)<(p_s.dW.length:Int))) (.gx cu.aY p_s.dW v0 fun x0 _=>
 .say [.at_ 22 5,.tod 40] ok0<|
 .cH [0] (R_.ok1 x0.fV (IntKind.wrap .i64 (p_level+1)) v1) fun r0 _=>
 .iB (r0.1 != 0) (.ret ⟨[.kill 1],[6],[],2⟩ (.inr (.inl (r0.1,r0.2))))<|
 .rt [1,2,3,33,34,35] 2 (.inl (IntKind.wrap .i64 (v0+1),r0.2)))<|
 .rt [1,2,3] 2 (.inr (.inr (v1)))
noncomputable def JD(R_:Y8)(p_level:Int)(p_s:aA):(Int×Int)→Mo ((Int×Int)⊕(Int×Int)⊕(Int)):=fun(v0,v1)=>
 .iB (decide ((v0:Int)<(p_s.fB.length:Int))) (.gx aA.aY p_s.fB v0 fun x0 _=>
 .say [.at_ 36 4,.tod 56] ok0<|
 .cH [0] (R_.ok1 x0 (IntKind.wrap .i64 (p_level+1)) v1) fun r0 _=>
 .iB (r0.1 != 0) (.rt [6] 2 (.inr (.inl (r0.1,r0.2))))<|
 .rt [1,2,50,51,52] 2 (.inl (IntKind.wrap .i64 (v0+1),r0.2)))<|
 .rt [] 2 (.inr (.inr (v1)))
noncomputable def adp(R_:Y8)(p_s:aA)(p_level:Int)(p_b0:Int):Mo (Int×Int):=
 .jk Tryz.f211 1 [1,0,0] 9 (fun r_=>⟨[(1,.i_ p_level),(2,.ptr 0 0),(3,.ptr 1 0),(21,.b_ r_)],[.box 3 (.dat [(.int .i64 p_b0)]),iY p_s]⟩) ⟨[(1,.i_ p_level),(2,.ptr 0 0),(3,.ptr 1 0)],[.box 3 (.dat [(.int .i64 p_b0)]),iY p_s]⟩ (Qv R_ p_b0 p_level p_s) fun r0=>
 .iB (r0) (.ret ⟨[.kill 1],[0],[],1⟩ (2,p_b0))<|
 .cl (ajR p_s) fun r1 _=>
 .iB (r1 != 0) (.ret ⟨[.kill 1],[0],[],1⟩ (r1,IntKind.wrap .i64 (p_b0+1)))<|
 .nu p_s.dW cu.lf<|
 .l2 Tryz.f211 1 [1,1,1,1,0,1,0] 0 (fun(v0,v1)=>⟨[(1,.i_ p_level),(2,.ptr 0 0),(3,.ptr 1 0),(33,.lf (.rows 22 (p_s.dW.map cu.lf))),(34,.i_ (p_s.dW.length:Int)),(35,.i_ v0)],[.box 3 (.dat [(.int .i64 v1)]),iY p_s]⟩) .ret (fun o_=>⟨[(6,.i_ o_.1)],[.box 3 (.dat [(.int .i64 o_.2)]),.dead]⟩) (.exit 0) (fun o_=>⟨[(1,.i_ p_level),(2,.ptr 0 0),(3,.ptr 1 0)],[.box 3 (.dat [(.int .i64 o_)]),iY p_s]⟩) (Qw R_ p_level p_s) (0,(IntKind.wrap .i64 (p_b0+1))) (fun o0=>
 .rt [0] 1 (o0.1,o0.2)) fun o1=>
 .nu p_s.fB aA.lf<|
 .l2y [.kill 1] Tryz.f211 1 [1,1,1,1,1,0,1,0] 0 (fun(v2,v3)=>⟨[(1,.i_ p_level),(2,.ptr 0 0),(50,.lf (.rows 21 (p_s.fB.map aA.lf))),(51,.i_ (p_s.fB.length:Int)),(52,.i_ v2)],[.box 3 (.dat [(.int .i64 v3)]),.dead]⟩) .ret (fun o_=>⟨[(6,.i_ o_.1)],[.box 3 (.dat [(.int .i64 o_.2)]),.dead]⟩) (.exit 2) (fun o_=>⟨[],[.box 3 (.dat [(.int .i64 o_)]),.dead]⟩) (JD R_ p_level p_s) (0,o1) (fun o2=>
 .rt [0] 1 (o2.1,o2.2)) fun o3=>
 .rt [0] 1 (0,o3)
theorem ag0(R_:Y8):Nj fun p_s p_level p_b0=>Mo.den (adp R_ p_s p_level p_b0):=fun _ _ _=>jA Tryz.func211
noncomputable def tq:Nat→Y8
 |0=>{ m1:=fun p_s p_level p_b0=>none,ok1:=fun _ _ _ _ h=>(by cases h) }
 |n_+1=>{ m1:=fun p_s p_level p_b0=>Mo.den (adp (tq n_) p_s p_level p_b0),ok1:=ag0 (tq n_) }
noncomputable def Q65(p_s:aA)(p_level:Int)(p_b0:Int):Option (Int×Int):=(tq FU).m1 p_s p_level p_b0
theorem ajS:Nj Q65:=(tq FU).ok1
noncomputable def adq(p_s:aA):Mo (Int):=
 .cH [1] (ajS p_s 1 0) fun r0 _=>
 .ret (bF 1) (r0.1)
noncomputable def al3(p_s:aA):Option (Int):=Mo.den (adq p_s)
theorem ag1(p_s:aA):FV (al3 p_s) 155 [.dat (aA.lf1 p_s)] .i_:=dI Tryz.func155
noncomputable def Qx(p_d:ak):(Int)→Mo ((Int)⊕(Int)⊕Unit):=fun(v0)=>
 .iB (decide ((v0:Int)<(p_d.bn.length:Int))) (.gx aW.aY p_d.bn v0 fun x0 _=>
 .cl (UC x0) fun r0 _=>
 .iB (r0 != 0) (.ret ⟨[.kill 0],[2],[],1⟩ (.inr (.inl (r0))))<|
 .say [] (ok1 (by first|(simp[aW.aY];done)|exact sQ _ _ _:(p_d.bn.take v0.toNat).map aW.lf=((p_d.bn.map aW.lf).take v0.toNat).drop (0:Int).toNat))<|
 .grd ((0:Int)≤0∧0≤v0∧v0≤(p_d.bn.length:Int)) fun h0=>
 .say [] (ok1 (by simpa using h0:(0:Int)≤0∧0≤v0∧v0≤((p_d.bn.map aW.lf).length:Int)))<|
 .ask (Q84 (p_d.bn.take v0.toNat) x0.fName) fun r1 h1=>
 .say [.eG (.q 0 (.q 1 (.q 2 (.q 3 (.q 4 (.q 5 (.l 6 (.q 7 .fin)))))))) (some 6) [] [.rows ((p_d.bn.take v0.toNat).map aW.lf),.res (.i_ r1)] [1,15,16,17,34] 2 [(1,.ptr 0 0),(15,.lf (.rows 31 (p_d.bn.map aW.lf))),(16,.i_ (p_d.bn.length:Int)),(17,.i_ v0),(34,.lf (.bool (decide ((0:Int)≤r1))))] [lV p_d,.box 60 (.agg ((aW.lf1 x0).map AV.lf))]] (okc (UD _ _ _ h1) (ok1 (rf_ ⟨[(1,.ptr 0 0),(15,.lf (.rows 31 (p_d.bn.map aW.lf))),(16,.i_ (p_d.bn.length:Int)),(17,.i_ v0),(34,.lf (.bool (decide ((0:Int)≤r1))))],[lV p_d,.box 60 (.agg ((aW.lf1 x0).map AV.lf))]⟩)))<|
 .iB (decide ((0:Int)≤r1)) (.ret ⟨[.kill 0],[2],[],1⟩ (.inr (.inl (16))))<|
 .rt [1,15,16,17] 1 (.inl (IntKind.wrap .i64 (v0+1))))<|
 .rt [1] 1 (.inr (.inr (())))
noncomputable def Qy(p_d:ak):Mo (Bool):=
 .oV 30003 (decide ((p_d.yx:Int)<0)) [1,43] 1 (decide ((2:Int)<p_d.yx))
noncomputable def JE(p_d:ak):Mo (Bool):=
 .aV 34003 (p_d.oH != 0) [1,51] 1 (p_d.oH != 1)
noncomputable def aie(p_d:ak):Mo (Int):=
 .cl (ajQ p_d.fName) fun r0 _=>
 .iB (!r0) (.ret (bF 1) (9))<|
 .nu p_d.bn aW.lf<|
 .iB (decide ((16:Int)<(p_d.bn.length:Int))) (.ret (bF 1) (2))<|
 .nu p_d.bn aW.lf<|
 .l2 Tryz.f94 0 [1,1,1,0,1,0] 0 (fun(v0)=>⟨[(1,.ptr 0 0),(15,.lf (.rows 31 (p_d.bn.map aW.lf))),(16,.i_ (p_d.bn.length:Int)),(17,.i_ v0)],[lV p_d]⟩) .ret (fun o_=>⟨[(2,.i_ o_)],[.dead]⟩) (.exit 0) (fun _=>⟨[(1,.ptr 0 0)],[lV p_d]⟩) (Qx p_d) (0) (fun o0=>
 .ret (bF 1) (o0)) fun o1=>
 .jk Tryz.f94 0 [1,1,1,1,0,0] 35 (fun r_=>⟨[(1,.ptr 0 0),(43,.b_ r_)],[lV p_d]⟩) ⟨[(1,.ptr 0 0)],[lV p_d]⟩ (Qy p_d) fun r1=>
 .iB (r1) (.ret (bF 1) (1))<|
 .jk Tryz.f94 0 [1,1,1,1,1,0,0] 39 (fun r_=>⟨[(1,.ptr 0 0),(51,.b_ r_)],[lV p_d]⟩) ⟨[(1,.ptr 0 0)],[lV p_d]⟩ (JE p_d) fun r2=>
 .iB (r2) (.ret (bF 1) (1))<|
 .cl (ag1 p_d.fV) fun r3 _=>
 .ret (bF 1) (r3)
noncomputable def Q71(p_d:ak):Option (Int):=Mo.den (aie p_d)
theorem adr(p_d:ak):FV (Q71 p_d) 94 [.dat (ak.lf1 p_d)] .i_:=dI Tryz.func94
noncomputable def Fv(p_l:List ak):(Int×(List ak))→Mo ((Int×(List ak))⊕((List ak))):=fun(v0,l0)=>
 .iB (decide ((v0:Int)<(p_l.length:Int))) (.gx ak.aY p_l v0 fun x0 _=>
 .say [.at_ 12 2,.tod 13] ok0<|
 .ask (Q31 x0) fun r0 h0=>
 .say [.iO [] (ag_ (ak.lf1 r0) [(1,.own 0)]) [.row 60 31 (r0.bn.map aW.lf)],.at_ 12 3,.frz 2,.rows ((l0++[r0]).map ak.lf)] (okc (MQ _ _ h0) (ok1 (ap_ ak.aY l0 r0)))<|
 .grd ((l0.length+[r0].length)*368≤140737488355328) fun h1=>
 .say [] (ok1 (cp_ ak.lf h1))<|
 .ret ⟨[],[3,6,7,8],[(4,0)],1⟩ (.inl (IntKind.wrap .i64 (v0+1),l0++[r0])))<|
 .rt [3] 1 (.inr (l0))
noncomputable def ads(p_l:List ak)(v0:Int)(l0:List ak):Option (((List ak))):=dA (fun v_=>(Fv p_l v_).den) FU (v0,l0)
noncomputable def adt(p_l:List ak):Mo (List ak):=
 .say [.num p_l.length] (okc (ln_ p_l ak.lf) (ok1 (by simp[ak.aY]:(([]:List ak).map ak.lf)=[])))<|
 .l1m [.yU 3 48 25,.lQ 0 (([]:List ak).map ak.lf)] Tryz.f96 0 [1,1,0,1,0] 0 (.exit 0) (fun(v0,l0)=>⟨[(3,.own 0),(6,.lf (.rows 25 (p_l.map ak.lf))),(7,.i_ (p_l.length:Int)),(8,.i_ v0)],[.row 48 25 (l0.map ak.lf)]⟩) (fun r_=>⟨[(3,.own 0)],[.row 48 25 (r_.map ak.lf)]⟩) (ads p_l 0 ([]:List ak)) (Fv p_l) (0,([]:List ak)) fun r0=>
 .ret ⟨[.mvn 0],[0],[(1,0)],1⟩ (r0)
noncomputable def Q45(p_l:List ak):Option (List ak):=Mo.den (adt p_l)
theorem UY(p_l:List ak):FH (Q45 p_l) 96 [.lf (.rows 25 (p_l.map ak.lf))] [] (fun _=>.own 0) (fun r=>[.row 48 25 (r.map ak.lf)]):=jA Tryz.func96
end
end Go.Proofs.YtpdlghcgekojlaaGreatDoor
namespace Go.Proofs.YtpdlghcgekojlaaGreatDoor
open Go.RowKit
set_option maxRecDepth 20000
set_option maxHeartbeats 4000000
noncomputable section
noncomputable def Fz(p_d:ak)(p_l:List ak)(v0:Int):Mo (Bool):=
 .say [.order [(true,0),(true,1),(true,2),(true,3),(true,4),(true,5),(true,6),(true,7),(true,8),(true,9),(true,10),(true,11),(true,12),(true,13)] none [],.num p_l.length] (ok1 (ln_ p_l ak.lf))<|
 .iG 20004 (decide ((v0:Int)<(p_l.length:Int))) (.gx ak.aY p_l v0 fun x0 _=>
 .rt [0,3,7,34] 1 (Op.bytesLess (x0.fName:ByteArray).toList (p_d.fName:ByteArray).toList))<|
 .rt [0,3,7,34] 1 (false)
noncomputable def vg(p_d:ak)(p_l:List ak):(Int)→Mo ((Int)⊕(Int)):=fun(v0)=>
 .jk Tryz.f58 0 [1,1,1,1,1,0,0,0,0,0] 25 (fun r_=>⟨[(0,.lf (.rows 25 (p_l.map ak.lf))),(3,.ptr 0 0),(7,.i_ v0),(34,.b_ r_)],[lV p_d]⟩) ⟨[(0,.lf (.rows 25 (p_l.map ak.lf))),(3,.ptr 0 0),(7,.i_ v0)],[lV p_d]⟩ (Fz p_d p_l v0) fun r0=>
 .iB (r0) (.rt [0,3,7] 1 (.inl (IntKind.wrap .i64 (v0+1))))<|
 .rt [0,3,7] 1 (.inr (v0))
noncomputable def adu(p_d:ak)(p_l:List ak)(v0:Int):Option (Int):=dA (fun v_=>(vg p_d p_l v_).den) FU (v0)
noncomputable def adv(p_l:List ak)(p_d:ak):Mo ((List ak)×Int):=
 .cl (adr p_d) fun r0 _=>
 .iB (r0 != 0) (.ret ⟨[.nil 0 25,.tod 0],[0,1],[],0⟩ ([],r0))<|
 .cl (ER p_l p_d.fName) fun r1 _=>
 .iB (decide ((0:Int)≤r1)) (.ret ⟨[.nil 0 25,.tod 0],[0,1],[],0⟩ ([],16))<|
 .nu p_l ak.lf<|
 .iB (decide ((16:Int)≤(p_l.length:Int))) (.ret ⟨[.nil 0 25,.tod 0],[0,1],[],0⟩ ([],2))<|
 .l1m [] Tryz.f58 0 [1,1,1,1,1,0,0] 0 (.exit 0) (fun(v0)=>⟨[(0,.lf (.rows 25 (p_l.map ak.lf))),(3,.ptr 0 0),(7,.i_ v0)],[lV p_d]⟩) (fun r_=>⟨[(0,.lf (.rows 25 (p_l.map ak.lf))),(3,.ptr 0 0),(7,.i_ r_)],[lV p_d]⟩) (adu p_d p_l 0) (vg p_d p_l) (0) fun r2=>
 .ask (Q45 p_l) fun r3 h0=>
 .say [] (ok1 (UY _ _ h0))<|
 .ask (Q31 p_d) fun r4 h1=>
 .say [] (okc (MQ _ _ h1) (ok1 (by simp[ak.aY]:([r4].map ak.lf)=[(ak.lf1 r4)])))<|
 .ask (abw r2 r3 [r4]) fun r5 h2=>
 .say [.eG (.q 0 (.q 2 (.q 3 (.l 1 (.l 4 (.l 5 (.l 6 (.q 7 (.q 8 .fin))))))))) (some 6) [1,3] [.at_ 24 1,.resv 1,.iO [] (.own 0) [.row 48 25 (r3.map ak.lf)],.iO [] (ag_ (ak.lf1 r4) [(1,.own 0)]) [.row 60 31 (r4.bn.map aW.lf)],.at_ 24 5,.frz 3,.slot 1,.at_ 24 6,.lQ 1 ([r4].map ak.lf),.iO [2,1] (.own 2) [.dead,.row 48 25 ([r4].map ak.lf),.row 48 25 (r5.map ak.lf)]] [4,5] 5 [(4,.own 4),(5,.i_ 0)] [lV p_d,.row 48 25 ([r4].map ak.lf),.dead,.dead,.row 48 25 (r5.map ak.lf)],.at_ 0 0,.frz 4] (okc (agl _ _ _ _ h2) (ok1 (rf_ ⟨[(4,.own 4),(5,.i_ 0)],[lV p_d,.row 48 25 ([r4].map ak.lf),.dead,.dead,.row 48 25 (r5.map ak.lf)]⟩)))<|
 .ret (bF 2) (r5,0)
noncomputable def Q50(p_l:List ak)(p_d:ak):Option ((List ak)×Int):=Mo.den (adv p_l p_d)
theorem ajT(p_l:List ak)(p_d:ak):FV (Q50 p_l p_d) 58 [.lf (.rows 25 (p_l.map ak.lf)),.dat (ak.lf1 p_d)] (fun r=>.tup [.lf (.rows 25 (r.1.map ak.lf)),.i_ r.2]):=dI Tryz.func58
noncomputable def UZ(p_l:List ak)(p_name:ByteArray):Mo ((List ak)×Int):=
 .cl (ER p_l p_name) fun r0 _=>
 .iB (decide ((r0:Int)<0)) (.ret ⟨[.nil 0 25,.tod 0],[0,1],[],0⟩ ([],15))<|
 .say [] (ok1 (by first|(simp[ak.aY];done)|exact sQ _ _ _:(p_l.take r0.toNat).map ak.lf=((p_l.map ak.lf).take r0.toNat).drop (0:Int).toNat))<|
 .grd ((0:Int)≤0∧0≤r0∧r0≤(p_l.length:Int)) fun h0=>
 .say [] (okc (by simpa using h0:(0:Int)≤0∧0≤r0∧r0≤((p_l.map ak.lf).length:Int)) (ok1 (by first|(simp[ak.aY];done)|exact sQ _ _ _:(p_l.drop (IntKind.wrap .i64 (r0+1)).toNat).map ak.lf=((p_l.map ak.lf).take ((p_l.map ak.lf).length:Int).toNat).drop (IntKind.wrap .i64 (r0+1)).toNat)))<|
 .grd ((0:Int)≤(IntKind.wrap .i64 (r0+1))∧(IntKind.wrap .i64 (r0+1))≤(p_l.length:Int)∧(p_l.length:Int)≤(p_l.length:Int)) fun h1=>
 .say [] (ok1 (by simpa using h1:(0:Int)≤(IntKind.wrap .i64 (r0+1))∧(IntKind.wrap .i64 (r0+1))≤((p_l.map ak.lf).length:Int)∧((p_l.map ak.lf).length:Int)≤((p_l.map ak.lf).length:Int)))<|
 .ask (Q45 (p_l.take r0.toNat)) fun r1 h2=>
 .say [] (ok1 (UY _ _ h2))<|
 .ask (Q45 (p_l.drop (IntKind.wrap .i64 (r0+1)).toNat)) fun r2 h3=>
 .say [.eG (.q 0 (.q 1 (.q 2 (.q 4 (.q 5 (.q 6 (.q 7 (.l 3 (.l 8 (.l 9 (.q 10 (.q 11 .fin)))))))))))) (some 9) [] [.rows ((p_l.take r0.toNat).map ak.lf),.rows ((p_l.drop (IntKind.wrap .i64 (r0+1)).toNat).map ak.lf),.at_ 10 3,.resv 1,.iO [] (.own 0) [.row 48 25 (r1.map ak.lf)],.iO [] (.own 0) [.row 48 25 (r2.map ak.lf)],.rows ((r1++r2).map ak.lf),.slot 0] [4,5] 3 [(4,.own 0),(5,.i_ 0)] [.row 48 25 ((r1++r2).map ak.lf),.dead,.row 48 25 (r2.map ak.lf)],.at_ 0 0,.frz 0] (okc (UY _ _ h3) (ok1 (by simp[ak.aY]:(r1++r2).map ak.lf=(r1.map ak.lf)++(r2.map ak.lf))))<|
 .grd ((r1.length+r2.length)*368≤140737488355328) fun h4=>
 .say [] (okc (by simpa using h4:((r1.map ak.lf).length+(r2.map ak.lf).length)*368≤140737488355328) (ok1 (rf_ ⟨[(4,.own 0),(5,.i_ 0)],[.row 48 25 ((r1++r2).map ak.lf),.dead,.row 48 25 (r2.map ak.lf)]⟩)))<|
 .ret (bF 2) (r1++r2,0)
noncomputable def ajU(p_l:List ak)(p_name:ByteArray):Option ((List ak)×Int):=Mo.den (UZ p_l p_name)
theorem ag2(p_l:List ak)(p_name:ByteArray):FV (ajU p_l p_name) 115 [.lf (.rows 25 (p_l.map ak.lf)),.lf (.str p_name)] (fun r=>.tup [.lf (.rows 25 (r.1.map ak.lf)),.i_ r.2]):=dI Tryz.func115
noncomputable def Xm(p_b0_0:Int)(p_b0_1:List ak)(p_s1:aZ)(p_s2:List (ByteArray×ah))(p_s3:List (ByteArray×au))(p_t:Int)(p_w:ay):Mo (Bool):=
 .iB (p_w.aB==2) (.rt [2,3,4,8,18,19] 6 (p_w.aB==2))<|
 .rt [2,3,4,8,18,19] 6 (p_w.aB==3)
noncomputable def Xn(p_b0_0:Int)(p_b0_1:List ak)(p_s1:aZ)(p_s2:List (ByteArray×ah))(p_s3:List (ByteArray×au))(p_w:ay)(r0:(List ak)×Int):Mo (Bool):=
 .iG 32002 (r0.2==0) (.cH [0,1,2,3] (ahP p_w.aT 1099511627776 p_b0_0 p_b0_1 p_s1 p_s2 p_s3) fun r1 _=>
 .rt [3,4,8,9,64] 6 (r1))<|
 .rt [3,4,8,9,64] 6 (false)
noncomputable def FB(p_b0_0:Int)(p_b0_1:List ak)(p_s1:aZ)(p_s2:List (ByteArray×ah))(p_s3:List (ByteArray×au))(p_t:Int)(p_w:ay):Mo ((Int)⊕Unit⊕(aZ×ByteArray)⊕((List ak)×Int)):=
 .jk Tryz.f74 4 [1,1,1,0,1,0,0,1] 1 (fun r_=>⟨[(2,.i_ p_t),(3,.ptr 4 0),(4,.ptr 5 0),(8,.lf (.rows 25 (p_b0_1.map ak.lf))),(18,.i_ p_w.aB),(19,.b_ r_)],[.box 113 (.agg [.i_ p_b0_0,.lf (.rows 25 (p_b0_1.map ak.lf)),.mp 1,.mp 2,.mp 3]),.res (bH p_s1 none) none,.res (bP p_s2) none,.res (bT p_s3) none,.box 26 (.agg [.ptr 0 0]),cO p_w]⟩) ⟨[(2,.i_ p_t),(3,.ptr 4 0),(4,.ptr 5 0),(8,.lf (.rows 25 (p_b0_1.map ak.lf))),(18,.i_ p_w.aB),(19,.lf (.bool (p_w.aB==2)))],[.box 113 (.agg [.i_ p_b0_0,.lf (.rows 25 (p_b0_1.map ak.lf)),.mp 1,.mp 2,.mp 3]),.res (bH p_s1 none) none,.res (bP p_s2) none,.res (bT p_s3) none,.box 26 (.agg [.ptr 0 0]),cO p_w]⟩ (Xm p_b0_0 p_b0_1 p_s1 p_s2 p_s3 p_t p_w) fun r0=>
 .iB (r0) (.cH [0,1,2,3] (adf p_w p_t p_b0_0 p_b0_1 p_s1 p_s2 p_s3) fun r1 _=>
 .iB (r1 != 0) (.ret ⟨[.kill 4,.kill 5],[6,7],[],6⟩ (.inl (r1)))<|
 .jh (Q34 p_w p_t p_b0_0 p_b0_1 p_s1 p_s2 p_s3) (fun o0 h0=>
 .say [.iO [0,1,2,3] (.raw (.func (.func 177) #[] #[])) [.box 113 (.agg [.i_ p_b0_0,.lf (.rows 25 (p_b0_1.map ak.lf)),.mp 1,.mp 2,.mp 3]),.res (bH p_s1 none) none,.res (bP p_s2) none,.res (bT p_s3) none]] (ok1 (Nh _ _ _ _ _ _ _ _ h0))<|
 .ret ⟨[.kill 4,.kill 5],[6,7],[],6⟩ (.inr (.inl ()))) fun o1 h0=>
 .say [.iO [0,1,2,3] (.clo 178 [.ptr 5 0,.ptr 6 0]) [.box 113 (.agg [.i_ p_b0_0,.lf (.rows 25 (p_b0_1.map ak.lf)),.mp 1,.mp 2,.mp 3]),.res (bH o1.1 none) none,.res (bP p_s2) none,.res (bT p_s3) none,.dead,.box 139 (.agg [.hnd 1 (aI p_w.aT p_s1.dir)]),.box 9 (.dat [(.str o1.2)])]] (ok1 (Nh _ _ _ _ _ _ _ _ h0))<|
 .ret ⟨[.kill 4,.kill 5],[6,7],[],9⟩ (.inr (.inr (.inl (o1.1,o1.2)))))<|
 .iB (p_w.aB==4) (.ask (Q50 p_b0_1 p_w.gy) fun r2 h1=>
 .say [.eG (.q 0 (.q 1 (.q 2 (.q 3 (.q 4 (.q 5 (.l 6 (.q 7 (.q 8 (.q 9 (.q 10 (.q 11 .fin)))))))))))) (some 6) [] [.res (.tup [.lf (.rows 25 (r2.1.map ak.lf)),.i_ r2.2])] [3,4,8,9] 6 [(3,.ptr 4 0),(4,.ptr 5 0),(8,.lf (.rows 25 (r2.1.map ak.lf))),(9,.i_ r2.2)] [.box 113 (.agg [.i_ p_b0_0,.lf (.rows 25 (p_b0_1.map ak.lf)),.mp 1,.mp 2,.mp 3]),.res (bH p_s1 none) none,.res (bP p_s2) none,.res (bT p_s3) none,.box 26 (.agg [.ptr 0 0]),cO p_w]] (okc (ajT _ _ _ h1) (ok1 (rf_ ⟨[(3,.ptr 4 0),(4,.ptr 5 0),(8,.lf (.rows 25 (r2.1.map ak.lf))),(9,.i_ r2.2)],[.box 113 (.agg [.i_ p_b0_0,.lf (.rows 25 (p_b0_1.map ak.lf)),.mp 1,.mp 2,.mp 3]),.res (bH p_s1 none) none,.res (bP p_s2) none,.res (bT p_s3) none,.box 26 (.agg [.ptr 0 0]),cO p_w]⟩)))<|
 .rt [3,4,8,9] 6 (.inr (.inr (.inr ((r2.1,r2.2))))))<|
 .iB (p_w.aB==5) (.ask (ajU p_b0_1 p_w.aT) fun r3 h2=>
 .say [.eG (.q 0 (.q 1 (.q 2 (.q 3 (.q 4 (.q 5 (.l 6 (.q 7 (.q 8 (.q 9 (.q 10 (.q 11 .fin)))))))))))) (some 6) [] [.res (.tup [.lf (.rows 25 (r3.1.map ak.lf)),.i_ r3.2])] [3,4,8,9] 6 [(3,.ptr 4 0),(4,.ptr 5 0),(8,.lf (.rows 25 (r3.1.map ak.lf))),(9,.i_ r3.2)] [.box 113 (.agg [.i_ p_b0_0,.lf (.rows 25 (p_b0_1.map ak.lf)),.mp 1,.mp 2,.mp 3]),.res (bH p_s1 none) none,.res (bP p_s2) none,.res (bT p_s3) none,.box 26 (.agg [.ptr 0 0]),cO p_w]] (okc (ag2 _ _ _ h2) (ok1 (rf_ ⟨[(3,.ptr 4 0),(4,.ptr 5 0),(8,.lf (.rows 25 (r3.1.map ak.lf))),(9,.i_ r3.2)],[.box 113 (.agg [.i_ p_b0_0,.lf (.rows 25 (p_b0_1.map ak.lf)),.mp 1,.mp 2,.mp 3]),.res (bH p_s1 none) none,.res (bP p_s2) none,.res (bT p_s3) none,.box 26 (.agg [.ptr 0 0]),cO p_w]⟩)))<|
 .jk Tryz.f74 4 [1,1,1,0,1,0,1,1,1,1,1,0,1,0] 37 (fun r_=>⟨[(3,.ptr 4 0),(4,.ptr 5 0),(8,.lf (.rows 25 (r3.1.map ak.lf))),(9,.i_ r3.2),(64,.b_ r_)],[.box 113 (.agg [.i_ p_b0_0,.lf (.rows 25 (p_b0_1.map ak.lf)),.mp 1,.mp 2,.mp 3]),.res (bH p_s1 none) none,.res (bP p_s2) none,.res (bT p_s3) none,.box 26 (.agg [.ptr 0 0]),cO p_w]⟩) ⟨[(3,.ptr 4 0),(4,.ptr 5 0),(8,.lf (.rows 25 (r3.1.map ak.lf))),(9,.i_ r3.2)],[.box 113 (.agg [.i_ p_b0_0,.lf (.rows 25 (p_b0_1.map ak.lf)),.mp 1,.mp 2,.mp 3]),.res (bH p_s1 none) none,.res (bP p_s2) none,.res (bT p_s3) none,.box 26 (.agg [.ptr 0 0]),cO p_w]⟩ (Xn p_b0_0 p_b0_1 p_s1 p_s2 p_s3 p_w r3) fun r4=>
 .iB (r4) (.rt [3,4,8,9] 6 (.inr (.inr (.inr ((r3.1,30))))))<|
 .rt [3,4,8,9] 6 (.inr (.inr (.inr ((r3.1,r3.2))))))<|
 .iB (p_w.aB==6) (.ask (acV p_b0_1 p_w.aT p_w.eP) fun r5 h3=>
 .say [.eG (.q 0 (.q 1 (.q 2 (.q 3 (.q 4 (.q 5 (.q 6 (.q 7 (.l 8 (.q 9 (.q 10 (.q 11 (.q 12 (.q 13 .fin)))))))))))))) (some 8) [] [.res (.tup [.lf (.rows 25 (r5.1.map ak.lf)),.i_ r5.2])] [3,4,8,9] 6 [(3,.ptr 4 0),(4,.ptr 5 0),(8,.lf (.rows 25 (r5.1.map ak.lf))),(9,.i_ r5.2)] [.box 113 (.agg [.i_ p_b0_0,.lf (.rows 25 (p_b0_1.map ak.lf)),.mp 1,.mp 2,.mp 3]),.res (bH p_s1 none) none,.res (bP p_s2) none,.res (bT p_s3) none,.box 26 (.agg [.ptr 0 0]),cO p_w]] (okc (agS _ _ _ _ h3) (ok1 (rf_ ⟨[(3,.ptr 4 0),(4,.ptr 5 0),(8,.lf (.rows 25 (r5.1.map ak.lf))),(9,.i_ r5.2)],[.box 113 (.agg [.i_ p_b0_0,.lf (.rows 25 (p_b0_1.map ak.lf)),.mp 1,.mp 2,.mp 3]),.res (bH p_s1 none) none,.res (bP p_s2) none,.res (bT p_s3) none,.box 26 (.agg [.ptr 0 0]),cO p_w]⟩)))<|
 .rt [3,4,8,9] 6 (.inr (.inr (.inr ((r5.1,r5.2))))))<|
 .iB (p_w.aB==7) (.ask (acW p_b0_1 p_w.aT p_w.eP.fName) fun r6 h4=>
 .say [.eG (.q 0 (.q 1 (.q 2 (.q 3 (.q 4 (.q 5 (.q 6 (.q 7 (.q 8 (.l 9 (.q 10 (.q 11 (.q 12 (.q 13 (.q 14 .fin))))))))))))))) (some 9) [] [.res (.tup [.lf (.rows 25 (r6.1.map ak.lf)),.i_ r6.2])] [3,4,8,9] 6 [(3,.ptr 4 0),(4,.ptr 5 0),(8,.lf (.rows 25 (r6.1.map ak.lf))),(9,.i_ r6.2)] [.box 113 (.agg [.i_ p_b0_0,.lf (.rows 25 (p_b0_1.map ak.lf)),.mp 1,.mp 2,.mp 3]),.res (bH p_s1 none) none,.res (bP p_s2) none,.res (bT p_s3) none,.box 26 (.agg [.ptr 0 0]),cO p_w]] (okc (agT _ _ _ _ h4) (ok1 (rf_ ⟨[(3,.ptr 4 0),(4,.ptr 5 0),(8,.lf (.rows 25 (r6.1.map ak.lf))),(9,.i_ r6.2)],[.box 113 (.agg [.i_ p_b0_0,.lf (.rows 25 (p_b0_1.map ak.lf)),.mp 1,.mp 2,.mp 3]),.res (bH p_s1 none) none,.res (bP p_s2) none,.res (bT p_s3) none,.box 26 (.agg [.ptr 0 0]),cO p_w]⟩)))<|
 .rt [3,4,8,9] 6 (.inr (.inr (.inr ((r6.1,r6.2))))))<|
 .rt [3,4,8,9] 6 (.inr (.inr (.inr ((p_b0_1,11)))))
noncomputable def Nk(p_b0_0:Int)(p_b0_1:List ak)(p_s1:aZ)(p_s2:List (ByteArray×ah))(p_s3:List (ByteArray×au))(p_t:Int)(p_w:ay):Option ((Int)⊕Unit⊕(aZ×ByteArray)⊕((List ak)×Int)):=Mo.den (FB p_b0_0 p_b0_1 p_s1 p_s2 p_s3 p_t p_w)
noncomputable def qY(r_:(Int)⊕Unit⊕(aZ×ByteArray)⊕((List ak)×Int)):Exit:=match r_ with
 |.inl o_=>.ret
 |.inr (.inl o_)=>.ret
 |.inr (.inr (.inl o_))=>.ret
 |.inr (.inr (.inr (o_)))=>.normal
noncomputable def qZ(p_b0_0:Int)(p_b0_1:List ak)(p_s1:aZ)(p_s2:List (ByteArray×ah))(p_s3:List (ByteArray×au))(p_w:ay)(r_:(Int)⊕Unit⊕(aZ×ByteArray)⊕((List ak)×Int)):St:=match r_ with
 |.inl o_=>⟨[(6,.raw (.nilFunc)),(7,.i_ o_)],[.box 113 (.agg [.i_ p_b0_0,.lf (.rows 25 (p_b0_1.map ak.lf)),.mp 1,.mp 2,.mp 3]),.res (bH p_s1 none) none,.res (bP p_s2) none,.res (bT p_s3) none,.dead,.dead]⟩
 |.inr (.inl o_)=>⟨[(6,.raw (.func (.func 177) #[] #[])),(7,.i_ 0)],[.box 113 (.agg [.i_ p_b0_0,.lf (.rows 25 (p_b0_1.map ak.lf)),.mp 1,.mp 2,.mp 3]),.res (bH p_s1 none) none,.res (bP p_s2) none,.res (bT p_s3) none,.dead,.dead]⟩
 |.inr (.inr (.inl o_))=>⟨[(6,.clo 178 [.ptr 7 0,.ptr 8 0]),(7,.i_ 0)],[.box 113 (.agg [.i_ p_b0_0,.lf (.rows 25 (p_b0_1.map ak.lf)),.mp 1,.mp 2,.mp 3]),.res (bH o_.1 none) none,.res (bP p_s2) none,.res (bT p_s3) none,.dead,.dead,.dead,.box 139 (.agg [.hnd 1 (aI p_w.aT p_s1.dir)]),.box 9 (.dat [(.str o_.2)])]⟩
 |.inr (.inr (.inr (o_)))=>⟨[(3,.ptr 4 0),(4,.ptr 5 0),(8,.lf (.rows 25 (o_.1.map ak.lf))),(9,.i_ o_.2)],[.box 113 (.agg [.i_ p_b0_0,.lf (.rows 25 (p_b0_1.map ak.lf)),.mp 1,.mp 2,.mp 3]),.res (bH p_s1 none) none,.res (bP p_s2) none,.res (bT p_s3) none,.box 26 (.agg [.ptr 0 0]),cO p_w]⟩
theorem zZ{p_b0_0:Int}{p_b0_1:List ak}{p_s1:aZ}{p_s2:List (ByteArray×ah)}{p_s3:List (ByteArray×au)}{p_t:Int}{p_w:ay}{r_:(Int)⊕Unit⊕(aZ×ByteArray)⊕((List ak)×Int)}(h:Nk p_b0_0 p_b0_1 p_s1 p_s2 p_s3 p_t p_w=some r_):Ud Tryz.f74 4 [1,1,1,0,1] (qY r_) (qZ p_b0_0 p_b0_1 p_s1 p_s2 p_s3 p_w r_) ⟨[(2,.i_ p_t),(3,.ptr 4 0),(4,.ptr 5 0),(8,.lf (.rows 25 (p_b0_1.map ak.lf))),(18,.i_ p_w.aB)],[.box 113 (.agg [.i_ p_b0_0,.lf (.rows 25 (p_b0_1.map ak.lf)),.mp 1,.mp 2,.mp 3]),.res (bH p_s1 none) none,.res (bP p_s2) none,.res (bT p_s3) none,.box 26 (.agg [.ptr 0 0]),cO p_w]⟩:=
 uP jD (FB p_b0_0 p_b0_1 p_s1 p_s2 p_s3 p_t p_w) qY (qZ p_b0_0 p_b0_1 p_s1 p_s2 p_s3 p_w) (by kernel_rfl) h
noncomputable def ang(p_w:ay)(p_t:Int)(p_b0_0:Int)(p_b0_1:List ak)(p_s1:aZ)(p_s2:List (ByteArray×ah))(p_s3:List (ByteArray×au))(r:(Int)⊕(Unit)⊕(aZ×ByteArray)⊕(List ak)⊕(List ak)⊕(List ak)):List AV:=match r with
 |.inl o_=>[.raw (.nilFunc),.i_ o_]
 |.inr (.inl o_)=>[.raw (.func (.func 177) #[] #[]),.i_ 0]
 |.inr (.inr (.inl o_))=>[.clo 178 [.ptr 7 0,.ptr 8 0],.i_ 0]
 |.inr (.inr (.inr (.inl o_)))=>[.clo 118 [.ptr 6 0,.ptr 4 0,.ptr 5 0],.i_ 0]
 |.inr (.inr (.inr (.inr (.inl o_))))=>[.clo 119 [.ptr 6 0,.ptr 4 0,.ptr 7 0,.ptr 5 0],.i_ 0]
 |.inr (.inr (.inr (.inr (.inr (o_)))))=>[.clo 120 [.ptr 6 0,.ptr 4 0],.i_ 0]
noncomputable def anh(p_w:ay)(p_t:Int)(p_b0_0:Int)(p_b0_1:List ak)(p_s1:aZ)(p_s2:List (ByteArray×ah))(p_s3:List (ByteArray×au))(r:(Int)⊕(Unit)⊕(aZ×ByteArray)⊕(List ak)⊕(List ak)⊕(List ak)):List Slot:=match r with
 |.inl o_=>[.box 113 (.agg [.i_ p_b0_0,.lf (.rows 25 (p_b0_1.map ak.lf)),.mp 1,.mp 2,.mp 3]),.res (bH p_s1 none) none,.res (bP p_s2) none,.res (bT p_s3) none]
 |.inr (.inl o_)=>[.box 113 (.agg [.i_ p_b0_0,.lf (.rows 25 (p_b0_1.map ak.lf)),.mp 1,.mp 2,.mp 3]),.res (bH p_s1 none) none,.res (bP p_s2) none,.res (bT p_s3) none]
 |.inr (.inr (.inl o_))=>[.box 113 (.agg [.i_ p_b0_0,.lf (.rows 25 (p_b0_1.map ak.lf)),.mp 1,.mp 2,.mp 3]),.res (bH o_.1 none) none,.res (bP p_s2) none,.res (bT p_s3) none,.dead,.dead,.dead,.box 139 (.agg [.hnd 1 (aI p_w.aT p_s1.dir)]),.box 9 (.dat [(.str o_.2)])]
 |.inr (.inr (.inr (.inl o_)))=>[.box 113 (.agg [.i_ p_b0_0,.lf (.rows 25 (o_.map ak.lf)),.mp 1,.mp 2,.mp 3]),.res (bH (p_s1.make p_w.gy.fName) none) none,.res (bP p_s2) none,.res (bT p_s3) none,.box 26 (.agg [.ptr 0 0]),cO p_w,.box 28 (.dat [(.rows 25 (p_b0_1.map ak.lf))])]
 |.inr (.inr (.inr (.inr (.inl o_))))=>[.box 113 (.agg [.i_ p_b0_0,.lf (.rows 25 (o_.map ak.lf)),.mp 1,.mp 2,.mp 3]),.res (bH (p_s1.unlink p_w.aT) none) none,.res (bP p_s2) none,.res (bT p_s3) none,.box 26 (.agg [.ptr 0 0]),cO p_w,.box 28 (.dat [(.rows 25 (p_b0_1.map ak.lf))]),.box 139 (.agg [.hnd 1 (aI p_w.aT p_s1.dir)])]
 |.inr (.inr (.inr (.inr (.inr (o_)))))=>[.box 113 (.agg [.i_ p_b0_0,.lf (.rows 25 (o_.map ak.lf)),.mp 1,.mp 2,.mp 3]),.res (bH p_s1 none) none,.res (bP p_s2) none,.res (bT p_s3) none,.box 26 (.agg [.ptr 0 0]),.dead,.box 28 (.dat [(.rows 25 (p_b0_1.map ak.lf))])]
noncomputable def ajV(p_w:ay)(p_t:Int)(p_b0_0:Int)(p_b0_1:List ak)(p_s1:aZ)(p_s2:List (ByteArray×ah))(p_s3:List (ByteArray×au)):Mo ((Int)⊕(Unit)⊕(aZ×ByteArray)⊕(List ak)⊕(List ak)⊕(List ak)):=
 .Eu (Nk p_b0_0 p_b0_1 p_s1 p_s2 p_s3 p_t p_w) (fun o0 h0=>
 .say [.pt_ 6 [2,3,4,8,18] 6 (qY (.inl o0)) (qZ p_b0_0 p_b0_1 p_s1 p_s2 p_s3 p_w (.inl o0))] (ok1 (zZ h0))<|
 .rt [0,1] 4 (.inl (o0))) (fun o1 h0=>
 .say [.pt_ 6 [2,3,4,8,18] 6 (qY (.inr (.inl o1))) (qZ p_b0_0 p_b0_1 p_s1 p_s2 p_s3 p_w (.inr (.inl o1)))] (ok1 (zZ h0))<|
 .rt [0,1] 4 (.inr (.inl ()))) fun o2 h0=>
 .jh (some o2) (fun o3 h1=>
 .say [.pt_ 6 [2,3,4,8,18] 6 (qY (.inr (.inr (.inl o3)))) (qZ p_b0_0 p_b0_1 p_s1 p_s2 p_s3 p_w (.inr (.inr (.inl o3))))] (ok1 (zZ (zD h0 h1)))<|
 .rt [0,1] 9 (.inr (.inr (.inl (o3.1,o3.2))))) fun o4 h1=>
 .say [.pt_ 6 [2,3,4,8,18] 6 (qY (.inr (.inr (.inr (o4))))) (qZ p_b0_0 p_b0_1 p_s1 p_s2 p_s3 p_w (.inr (.inr (.inr (o4)))))] (ok1 (zZ (zD h0 h1)))<|
 .iB (o4.2 != 0) (.ret ⟨[.kill 4,.kill 5],[0,1],[],4⟩ (.inl (o4.2)))<|
 .iB (p_w.aB==4) (.say [.order [(true,0),(true,1),(true,2),(true,3),(true,4),(true,5),(true,6),(false,7),(false,8)] (some 8) [7],.opH [] (.mp 0) [.res aji none],.opH [1,7] (.raw undef) [.res (bH (p_s1.make p_w.gy.fName) none) none,.dead]] (ok1 afZ)<|
 .grd (p_s1.dir.length<maxLen) fun h2=>
 .say [] (ok1 (afW p_s1 p_w.gy.fName h2))<|
 .ret ⟨[.norm 6],[0,1],[],7⟩ (.inr (.inr (.inr (.inl (o4.1))))))<|
 .iB (p_w.aB==5) (.say [.eG (.q 0 (.q 1 (.q 2 (.q 3 (.q 4 (.q 5 (.alt 6 (.l 7 (.l 8 .fin)) (.l 7 (.l 6 (.l 8 .fin)))))))))) (some 8) [1,7] [.both [.at_ 62 6,.resv 1,.opH [1] (.hnd 0 (aI p_w.aT p_s1.dir)) [.res (bH p_s1 none) none],.slot 7] [.at_ 62 7,.resv 1,.slot 7,.opH [1] (.hnd 0 (aI p_w.aT p_s1.dir)) [.res (bH p_s1 none) none]]] [3,4,11,12] 8 [(3,.ptr 4 0),(4,.ptr 5 0),(11,.ptr 6 0),(12,.ptr 7 0)] [.box 113 (.agg [.i_ p_b0_0,.lf (.rows 25 (o4.1.map ak.lf)),.mp 1,.mp 2,.mp 3]),.res (bH p_s1 none) none,.res (bP p_s2) none,.res (bT p_s3) none,.box 26 (.agg [.ptr 0 0]),cO p_w,.box 28 (.dat [(.rows 25 (p_b0_1.map ak.lf))]),.box 139 (.agg [.hnd 1 (aI p_w.aT p_s1.dir)])],.order [(true,0),(true,1),(true,2),(true,3),(true,4),(true,5),(false,6)] (some 6) [],.opH [1] (.tup []) [.res (bH (p_s1.unlink p_w.aT) none) none]] (okc (L6 p_s1 p_w.aT) (okc (rf_ ⟨[(3,.ptr 4 0),(4,.ptr 5 0),(11,.ptr 6 0),(12,.ptr 7 0)],[.box 113 (.agg [.i_ p_b0_0,.lf (.rows 25 (o4.1.map ak.lf)),.mp 1,.mp 2,.mp 3]),.res (bH p_s1 none) none,.res (bP p_s2) none,.res (bT p_s3) none,.box 26 (.agg [.ptr 0 0]),cO p_w,.box 28 (.dat [(.rows 25 (p_b0_1.map ak.lf))]),.box 139 (.agg [.hnd 1 (aI p_w.aT p_s1.dir)])]⟩) (okc (L6 p_s1 p_w.aT) (okc (rf_ ⟨[(3,.ptr 4 0),(4,.ptr 5 0),(11,.ptr 6 0),(12,.ptr 7 0)],[.box 113 (.agg [.i_ p_b0_0,.lf (.rows 25 (o4.1.map ak.lf)),.mp 1,.mp 2,.mp 3]),.res (bH p_s1 none) none,.res (bP p_s2) none,.res (bT p_s3) none,.box 26 (.agg [.ptr 0 0]),cO p_w,.box 28 (.dat [(.rows 25 (p_b0_1.map ak.lf))]),.box 139 (.agg [.hnd 1 (aI p_w.aT p_s1.dir)])]⟩) (ok1 (Wy p_s1 p_w.aT))))))<|
 .ret ⟨[.norm 6],[0,1],[],8⟩ (.inr (.inr (.inr (.inr (.inl (o4.1)))))))<|
 .ret ⟨[.norm 6,.kill 5],[0,1],[],7⟩ (.inr (.inr (.inr (.inr (.inr ((o4.1)))))))
noncomputable def Q3(p_w:ay)(p_t:Int)(p_b0_0:Int)(p_b0_1:List ak)(p_s1:aZ)(p_s2:List (ByteArray×ah))(p_s3:List (ByteArray×au)):Option ((Int)⊕(Unit)⊕(aZ×ByteArray)⊕(List ak)⊕(List ak)⊕(List ak)):=Mo.den (ajV p_w p_t p_b0_0 p_b0_1 p_s1 p_s2 p_s3)
theorem tY(p_w:ay)(p_t:Int)(p_b0_0:Int)(p_b0_1:List ak)(p_s1:aZ)(p_s2:List (ByteArray×ah))(p_s3:List (ByteArray×au)):FH (Q3 p_w p_t p_b0_0 p_b0_1 p_s1 p_s2 p_s3) 74 [.ptr 0 0,.dat (ay.lf1 p_w),.i_ p_t] [.box 113 (.agg [.i_ p_b0_0,.lf (.rows 25 (p_b0_1.map ak.lf)),.mp 1,.mp 2,.mp 3]),.res (bH p_s1 none) none,.res (bP p_s2) none,.res (bT p_s3) none] (fun r=>resV (ang p_w p_t p_b0_0 p_b0_1 p_s1 p_s2 p_s3 r)) (fun r=>anh p_w p_t p_b0_0 p_b0_1 p_s1 p_s2 p_s3 r):=jA Tryz.func74
noncomputable def adw :Mo (Unit):=
 .ret (bF 0) ()
noncomputable def al4 :Option (Unit):=Mo.den (adw )
theorem ag3:FV (al4 ) 177 [] (fun _=>.tup []):=dI Tryz.func177
noncomputable def ani(p_b0:Option Nat)(p_b1:ByteArray)(p_s2:aZ)(r:aZ):List AV:=[]
noncomputable def al5(p_b0:Option Nat)(p_b1:ByteArray)(p_s2:aZ)(r:aZ):List Slot:=[.box 139 (.agg [.hnd 2 p_b0]),.box 9 (.dat [(.str p_b1)]),.res (bH r none) none]
noncomputable def Qz(p_b0:Option Nat)(p_b1:ByteArray)(p_s2:aZ):Mo (aZ):=
 .say [.opH [2] (.own 1) [.res (bH p_s2 (outOf p_b0 p_b1)) (some 1),.row 147 6 ((p_s2.row p_b0 p_b1).map aP.lf)],.num (p_s2.row p_b0 p_b1).length] (okc (wC p_s2 p_b1 p_b0) (ok1 (ln_ (p_s2.row p_b0 p_b1) aP.lf)))<|
 .iB (((p_s2.row p_b0 p_b1).length:Int)==1) (.say [.at_ 6 2,.gho [2,3] [.res (bH p_s2 none) none,.dead]] (ok1 (wE p_s2 p_b1 p_b0))<|
 .ask (p_b0) fun j6450 h0=>
 .say [.opH [2] (.tup []) [.res (bH (p_s2.del j6450 p_b1) none) none]] (ok1 (afV p_s2 p_b1 _ j6450 h0))<|
 .rt [] 3 (p_s2.del j6450 p_b1))<|
 .say [.order [(true,0),(true,1),(true,2),(true,3),(false,4),(true,5),(false,6),(false,7)] (some 7) [2,3,4],.num (p_s2.row p_b0 p_b1).length,.at_ 8 6,.gho [2,3] [.res (bH p_s2 (outOf p_b0 p_b1)) none,.row 147 6 ((p_s2.row p_b0 p_b1).map aP.lf)],.opH [3] (.own 1) [.dead,.row 147 6 (((p_s2.row p_b0 p_b1).take (IntKind.wrap .i64 (((p_s2.row p_b0 p_b1).length:Int)-1)).toNat).map aP.lf)]] (okc (ln_ (p_s2.row p_b0 p_b1) aP.lf) (ok1 (L9 (bH p_s2 (outOf p_b0 p_b1)) 147 6 ((p_s2.row p_b0 p_b1).map aP.lf))))<|
 .grd ((0:Int)≤(IntKind.wrap .i64 (((p_s2.row p_b0 p_b1).length:Int)-1))∧(IntKind.wrap .i64 (((p_s2.row p_b0 p_b1).length:Int)-1))≤(p_s2.row p_b0 p_b1).length) fun h1=>
 .say [] (ok1 (af7 (p_s2.row p_b0 p_b1) (IntKind.wrap .i64 (((p_s2.row p_b0 p_b1).length:Int)-1)) h1.1 h1.2))<|
 .ask (p_b0) fun j6453 h2=>
 .say [.opH [2,4] (.raw undef) [.res (bH (p_s2.put j6453 p_b1 ((p_s2.row p_b0 p_b1).take (IntKind.wrap .i64 (((p_s2.row p_b0 p_b1).length:Int)-1)).toNat)) none) none,.dead]] ok0<|
 .grd ((p_s2.inner j6453).length<maxLen) fun h3=>
 .say [] (ok1 (L8 p_s2 p_b1 _ j6453 ((p_s2.row p_b0 p_b1).take (IntKind.wrap .i64 (((p_s2.row p_b0 p_b1).length:Int)-1)).toNat) h2 h3))<|
 .rt [] 3 (p_s2.put j6453 p_b1 ((p_s2.row p_b0 p_b1).take (IntKind.wrap .i64 (((p_s2.row p_b0 p_b1).length:Int)-1)).toNat))
noncomputable def Q62(p_b0:Option Nat)(p_b1:ByteArray)(p_s2:aZ):Option (aZ):=Mo.den (Qz p_b0 p_b1 p_s2)
theorem ajW(p_b0:Option Nat)(p_b1:ByteArray)(p_s2:aZ):FH (Q62 p_b0 p_b1 p_s2) 178 [.ptr 0 0,.ptr 1 0] [.box 139 (.agg [.hnd 2 p_b0]),.box 9 (.dat [(.str p_b1)]),.res (bH p_s2 none) none] (fun r=>resV (ani p_b0 p_b1 p_s2 r)) (fun r=>al5 p_b0 p_b1 p_s2 r):=jA Tryz.func178
noncomputable def anj(p_b0:List ak)(p_b2:ay)(p_b3_0:Int)(p_b3_1:List ak)(p_s4:aZ)(p_s5:List (ByteArray×ah))(p_s6:List (ByteArray×au))(r:Unit):List AV:=[]
noncomputable def al6(p_b0:List ak)(p_b2:ay)(p_b3_0:Int)(p_b3_1:List ak)(p_s4:aZ)(p_s5:List (ByteArray×ah))(p_s6:List (ByteArray×au))(r:Unit):List Slot:=[.box 28 (.dat [(.rows 25 (p_b0.map ak.lf))]),.box 26 (.agg [.ptr 3 0]),cO p_b2,.box 113 (.agg [.i_ p_b3_0,.lf (.rows 25 (p_b0.map ak.lf)),.mp 4,.mp 5,.mp 6]),.res (bH (p_s4.unlink p_b2.gy.fName) none) none,.res (bP p_s5) none,.res (bT p_s6) none]
noncomputable def al7(p_b0:List ak)(p_b2:ay)(p_b3_0:Int)(p_b3_1:List ak)(p_s4:aZ)(p_s5:List (ByteArray×ah))(p_s6:List (ByteArray×au)):Mo (Unit):=
 .say [.order [(true,0),(true,1),(true,2),(true,3),(true,4),(true,5),(true,6),(false,7)] (some 7) [],.opH [4] (.tup []) [.res (bH (p_s4.unlink p_b2.gy.fName) none) none]] (ok1 (Wy p_s4 p_b2.gy.fName))<|
 .ret ⟨[.norm 0],[],[],7⟩ ()
noncomputable def Q91(p_b0:List ak)(p_b2:ay)(p_b3_0:Int)(p_b3_1:List ak)(p_s4:aZ)(p_s5:List (ByteArray×ah))(p_s6:List (ByteArray×au)):Option (Unit):=Mo.den (al7 p_b0 p_b2 p_b3_0 p_b3_1 p_s4 p_s5 p_s6)
theorem ajX(p_b0:List ak)(p_b2:ay)(p_b3_0:Int)(p_b3_1:List ak)(p_s4:aZ)(p_s5:List (ByteArray×ah))(p_s6:List (ByteArray×au)):FH (Q91 p_b0 p_b2 p_b3_0 p_b3_1 p_s4 p_s5 p_s6) 118 [.ptr 0 0,.ptr 1 0,.ptr 2 0] [.box 28 (.dat [(.rows 25 (p_b0.map ak.lf))]),.box 26 (.agg [.ptr 3 0]),cO p_b2,.box 113 (.agg [.i_ p_b3_0,.lf (.rows 25 (p_b3_1.map ak.lf)),.mp 4,.mp 5,.mp 6]),.res (bH p_s4 none) none,.res (bP p_s5) none,.res (bT p_s6) none] (fun r=>resV (anj p_b0 p_b2 p_b3_0 p_b3_1 p_s4 p_s5 p_s6 r)) (fun r=>al6 p_b0 p_b2 p_b3_0 p_b3_1 p_s4 p_s5 p_s6 r):=jA Tryz.func118
noncomputable def ank(p_b0:List ak)(p_b2:Option Nat)(p_b3:ay)(p_b4_0:Int)(p_b4_1:List ak)(p_s5:aZ)(p_s6:List (ByteArray×ah))(p_s7:List (ByteArray×au))(r:aZ):List AV:=[]
noncomputable def al8(p_b0:List ak)(p_b2:Option Nat)(p_b3:ay)(p_b4_0:Int)(p_b4_1:List ak)(p_s5:aZ)(p_s6:List (ByteArray×ah))(p_s7:List (ByteArray×au))(r:aZ):List Slot:=[.box 28 (.dat [(.rows 25 (p_b0.map ak.lf))]),.box 26 (.agg [.ptr 4 0]),.box 139 (.agg [.hnd 5 p_b2]),cO p_b3,.box 113 (.agg [.i_ p_b4_0,.lf (.rows 25 (p_b0.map ak.lf)),.mp 5,.mp 6,.mp 7]),.res (bH r none) none,.res (bP p_s6) none,.res (bT p_s7) none]
noncomputable def aif(p_b0:List ak)(p_b2:Option Nat)(p_b3:ay)(p_b4_0:Int)(p_b4_1:List ak)(p_s5:aZ)(p_s6:List (ByteArray×ah))(p_s7:List (ByteArray×au)):Mo (aZ):=
 .say [.order [(true,0),(true,1),(true,2),(true,3),(true,4),(true,5),(true,6),(false,7)] (some 7) []] ok0<|
 .ask (p_b2) fun j6456 h0=>
 .say [.opH [5] (.raw undef) [.res (bH (p_s5.link p_b3.aT j6456) none) none]] ok0<|
 .grd (p_s5.dir.length<maxLen) fun h1=>
 .say [] (ok1 (afX p_s5 p_b3.aT _ j6456 h0 h1))<|
 .ret ⟨[.norm 0],[],[],8⟩ (p_s5.link p_b3.aT j6456)
noncomputable def Q77(p_b0:List ak)(p_b2:Option Nat)(p_b3:ay)(p_b4_0:Int)(p_b4_1:List ak)(p_s5:aZ)(p_s6:List (ByteArray×ah))(p_s7:List (ByteArray×au)):Option (aZ):=Mo.den (aif p_b0 p_b2 p_b3 p_b4_0 p_b4_1 p_s5 p_s6 p_s7)
theorem ajY(p_b0:List ak)(p_b2:Option Nat)(p_b3:ay)(p_b4_0:Int)(p_b4_1:List ak)(p_s5:aZ)(p_s6:List (ByteArray×ah))(p_s7:List (ByteArray×au)):FH (Q77 p_b0 p_b2 p_b3 p_b4_0 p_b4_1 p_s5 p_s6 p_s7) 119 [.ptr 0 0,.ptr 1 0,.ptr 2 0,.ptr 3 0] [.box 28 (.dat [(.rows 25 (p_b0.map ak.lf))]),.box 26 (.agg [.ptr 4 0]),.box 139 (.agg [.hnd 5 p_b2]),cO p_b3,.box 113 (.agg [.i_ p_b4_0,.lf (.rows 25 (p_b4_1.map ak.lf)),.mp 5,.mp 6,.mp 7]),.res (bH p_s5 none) none,.res (bP p_s6) none,.res (bT p_s7) none] (fun r=>resV (ank p_b0 p_b2 p_b3 p_b4_0 p_b4_1 p_s5 p_s6 p_s7 r)) (fun r=>al8 p_b0 p_b2 p_b3 p_b4_0 p_b4_1 p_s5 p_s6 p_s7 r):=jA Tryz.func119
noncomputable def anl(p_b0:List ak)(p_b2_0:Int)(p_b2_1:List ak)(p_s3:aZ)(p_s4:List (ByteArray×ah))(p_s5:List (ByteArray×au))(r:Unit):List AV:=[]
noncomputable def al9(p_b0:List ak)(p_b2_0:Int)(p_b2_1:List ak)(p_s3:aZ)(p_s4:List (ByteArray×ah))(p_s5:List (ByteArray×au))(r:Unit):List Slot:=[.box 28 (.dat [(.rows 25 (p_b0.map ak.lf))]),.box 26 (.agg [.ptr 2 0]),.box 113 (.agg [.i_ p_b2_0,.lf (.rows 25 (p_b0.map ak.lf)),.mp 3,.mp 4,.mp 5]),.res (bH p_s3 none) none,.res (bP p_s4) none,.res (bT p_s5) none]
noncomputable def ama(p_b0:List ak)(p_b2_0:Int)(p_b2_1:List ak)(p_s3:aZ)(p_s4:List (ByteArray×ah))(p_s5:List (ByteArray×au)):Mo (Unit):=
 .ret ⟨[.norm 0],[],[],6⟩ ()
noncomputable def Q92(p_b0:List ak)(p_b2_0:Int)(p_b2_1:List ak)(p_s3:aZ)(p_s4:List (ByteArray×ah))(p_s5:List (ByteArray×au)):Option (Unit):=Mo.den (ama p_b0 p_b2_0 p_b2_1 p_s3 p_s4 p_s5)
theorem ajZ(p_b0:List ak)(p_b2_0:Int)(p_b2_1:List ak)(p_s3:aZ)(p_s4:List (ByteArray×ah))(p_s5:List (ByteArray×au)):FH (Q92 p_b0 p_b2_0 p_b2_1 p_s3 p_s4 p_s5) 120 [.ptr 0 0,.ptr 1 0] [.box 28 (.dat [(.rows 25 (p_b0.map ak.lf))]),.box 26 (.agg [.ptr 2 0]),.box 113 (.agg [.i_ p_b2_0,.lf (.rows 25 (p_b2_1.map ak.lf)),.mp 3,.mp 4,.mp 5]),.res (bH p_s3 none) none,.res (bP p_s4) none,.res (bT p_s5) none] (fun r=>resV (anl p_b0 p_b2_0 p_b2_1 p_s3 p_s4 p_s5 r)) (fun r=>al9 p_b0 p_b2_0 p_b2_1 p_s3 p_s4 p_s5 r):=jA Tryz.func120
end
end Go.Proofs.YtpdlghcgekojlaaGreatDoor
namespace Go.Proofs.YtpdlghcgekojlaaGreatDoor
open Go.RowKit
set_option maxRecDepth 20000 in
set_option maxHeartbeats 4000000 in
noncomputable def FC(p_a:Int)(p_d:aZ)(p_j:Int)(p_l:List ay)(p_q:List ak)(p_t:Int)(p_v:Value)(p_x:List (ByteArray×ah))(p_z:List (ByteArray×au)):Mo ((ay)):=
 .ask (jf p_l p_j) fun x8901 h8902=>
 .say [.row (ay.lf1 x8901)] (okc (eu ay.aY h8902:(0:Int)≤p_j∧(p_l.map ay.lf)[p_j.toNat]?=some (ay.lf1 x8901)) ok0)<|
 .ret ⟨[.norm 4],[0,2,7,9,13,14,15],[],5⟩ (x8901)
noncomputable def U0(p_a:Int)(p_d:aZ)(p_j:Int)(p_l:List ay)(p_q:List ak)(p_t:Int)(p_v:Value)(p_x:List (ByteArray×ah))(p_z:List (ByteArray×au)):Option ((ay)):=Mo.den (FC p_a p_d p_j p_l p_q p_t p_v p_x p_z)
noncomputable def QA(r_:(ay)):Exit:=.normal
noncomputable def QB(p_a:Int)(p_d:aZ)(p_j:Int)(p_l:List ay)(p_q:List ak)(p_t:Int)(p_v:Value)(p_x:List (ByteArray×ah))(p_z:List (ByteArray×au))(r_:(ay)):St:=⟨[(0,.ptr 0 0),(2,.lf (.int .i64 p_t)),(7,.raw p_v),(9,.ptr 4 0),(13,.lf (.rows 78 (p_l.map ay.lf))),(14,.lf (.int .i64 (p_l.length:Int))),(15,.lf (.int .i64 p_j))],[.box 113 (.agg [.lf (.int .i64 p_a),.lf (.rows 25 (p_q.map ak.lf)),.mp 1,.mp 2,.mp 3]),.res (bH p_d none) none,.res (bP p_x) none,.res (bT p_z) none,.box 64 (.dat (ay.lf1 r_))]⟩
set_option maxRecDepth 20000 in
set_option maxHeartbeats 4000000 in
theorem adx{p_a:Int}{p_d:aZ}{p_j:Int}{p_l:List ay}{p_q:List ak}{p_t:Int}{p_v:Value}{p_x:List (ByteArray×ah)}{p_z:List (ByteArray×au)}{r_:(ay)}(h:U0 p_a p_d p_j p_l p_q p_t p_v p_x p_z=some r_):AWa Tryz.prog GI TTc Tryz.f71.ntmps 4 (Code.sub (bodyC Tryz.f71) [1,1,0,1,0,0,1,1,0,0,0]) (QA r_) (QB p_a p_d p_j p_l p_q p_t p_v p_x p_z r_) ⟨[(0,.ptr 0 0),(2,.lf (.int .i64 p_t)),(7,.raw p_v),(13,.lf (.rows 78 (p_l.map ay.lf))),(14,.lf (.int .i64 (p_l.length:Int))),(15,.lf (.int .i64 p_j))],[.box 113 (.agg [.lf (.int .i64 p_a),.lf (.rows 25 (p_q.map ak.lf)),.mp 1,.mp 2,.mp 3]),.res (bH p_d none) none,.res (bP p_x) none,.res (bT p_z) none]⟩:=
 uP jD (FC p_a p_d p_j p_l p_q p_t p_v p_x p_z) QA (QB p_a p_d p_j p_l p_q p_t p_v p_x p_z) (by kernel_rfl) h
set_option maxRecDepth 20000 in
set_option maxHeartbeats 4000000 in
noncomputable def FD(p_a:Int)(p_d:aZ)(p_j:Int)(p_l:List ay)(p_q:List ak)(p_t:Int)(p_v:Value)(p_w:ay)(p_x:List (ByteArray×ah))(p_z:List (ByteArray×au)):Mo ((Int)⊕Unit⊕(aZ×ByteArray)⊕((List ak))⊕((List ak))⊕((List ak))):=
 .Eu (Q3 p_w p_t p_a p_q p_d p_x p_z) (fun o8908 h8907=>
  .say [.iO [0,1,2,3] (.tup [.raw (.nilFunc),.lf (.int .i64 o8908)]) [.box 113 (.agg [.lf (.int .i64 p_a),.lf (.rows 25 (p_q.map ak.lf)),.mp 1,.mp 2,.mp 3]),.res (bH p_d none) none,.res (bP p_x) none,.res (bT p_z) none]] (okc (tY _ _ _ _ _ _ _ _ h8907) ok0)<|
  .ret ⟨[.kill 4],[0,2,7,10,11,13,14,15],[],5⟩ (.inl (o8908))) (fun o8909 h8907=>
  .say [.iO [0,1,2,3] (.tup [.raw (.func (.func 177) #[] #[]),.lf (.int .i64 0)]) [.box 113 (.agg [.lf (.int .i64 p_a),.lf (.rows 25 (p_q.map ak.lf)),.mp 1,.mp 2,.mp 3]),.res (bH p_d none) none,.res (bP p_x) none,.res (bT p_z) none]] (okc (tY _ _ _ _ _ _ _ _ h8907) ok0)<|
  .ret ⟨[.kill 4],[0,2,7,10,11,13,14,15],[],5⟩ (.inr (.inl ()))) fun o8910 h8907=>
 .Eu (some o8910) (fun o8912 h8911=>
  .say [.iO [0,1,2,3] (.tup [.clo 178 [.ptr 7 0,.ptr 8 0],.lf (.int .i64 0)]) [.box 113 (.agg [.lf (.int .i64 p_a),.lf (.rows 25 (p_q.map ak.lf)),.mp 1,.mp 2,.mp 3]),.res (bH o8912.1 none) none,.res (bP p_x) none,.res (bT p_z) none,.dead,.dead,.dead,.box 139 (.agg [.hnd 1 (aI p_w.aT p_d.dir)]),.box 9 (.dat [(.str o8912.2)])]] (okc (tY _ _ _ _ _ _ _ _ (zD h8907 h8911)) ok0)<|
  .ret ⟨[.kill 4],[0,2,7,10,11,13,14,15],[],10⟩ (.inr (.inr (.inl (o8912.1,o8912.2))))) (fun o8913 h8911=>
  .say [.iO [0,1,2,3] (.tup [.clo 118 [.ptr 6 0,.ptr 4 0,.ptr 5 0],.lf (.int .i64 0)]) [.box 113 (.agg [.lf (.int .i64 p_a),.lf (.rows 25 (o8913.map ak.lf)),.mp 1,.mp 2,.mp 3]),.res (bH (p_d.make p_w.gy.fName) none) none,.res (bP p_x) none,.res (bT p_z) none,.box 26 (.agg [.ptr 0 0]),.box 64 (.dat (ay.lf1 p_w)),.box 28 (.dat [(.rows 25 (p_q.map ak.lf))])]] (okc (tY _ _ _ _ _ _ _ _ (zD h8907 h8911)) ok0)<|
  .ret ⟨[.kill 4],[0,2,7,10,11,13,14,15],[],8⟩ (.inr (.inr (.inr (.inl (o8913)))))) fun o8914 h8911=>
 .jh (some o8914) (fun o8916 h8915=>
  .say [.iO [0,1,2,3] (.tup [.clo 119 [.ptr 6 0,.ptr 4 0,.ptr 7 0,.ptr 5 0],.lf (.int .i64 0)]) [.box 113 (.agg [.lf (.int .i64 p_a),.lf (.rows 25 (o8916.map ak.lf)),.mp 1,.mp 2,.mp 3]),.res (bH (p_d.unlink p_w.aT) none) none,.res (bP p_x) none,.res (bT p_z) none,.box 26 (.agg [.ptr 0 0]),.box 64 (.dat (ay.lf1 p_w)),.box 28 (.dat [(.rows 25 (p_q.map ak.lf))]),.box 139 (.agg [.hnd 1 (aI p_w.aT p_d.dir)])]] (okc (tY _ _ _ _ _ _ _ _ (zD h8907 (zD h8911 h8915))) ok0)<|
  .ret ⟨[.kill 4],[0,2,7,10,11,13,14,15],[],9⟩ (.inr (.inr (.inr (.inr (.inl (o8916))))))) fun o8917 h8915=>
 .say [.iO [0,1,2,3] (.tup [.clo 120 [.ptr 6 0,.ptr 4 0],.lf (.int .i64 0)]) [.box 113 (.agg [.lf (.int .i64 p_a),.lf (.rows 25 (o8917.map ak.lf)),.mp 1,.mp 2,.mp 3]),.res (bH p_d none) none,.res (bP p_x) none,.res (bT p_z) none,.box 26 (.agg [.ptr 0 0]),.dead,.box 28 (.dat [(.rows 25 (p_q.map ak.lf))])]] (okc (tY _ _ _ _ _ _ _ _ (zD h8907 (zD h8911 h8915))) ok0)<|
 .ret ⟨[.kill 4],[0,2,7,10,11,13,14,15],[],8⟩ (.inr (.inr (.inr (.inr (.inr ((o8917)))))))
noncomputable def U1(p_a:Int)(p_d:aZ)(p_j:Int)(p_l:List ay)(p_q:List ak)(p_t:Int)(p_v:Value)(p_w:ay)(p_x:List (ByteArray×ah))(p_z:List (ByteArray×au)):Option ((Int)⊕Unit⊕(aZ×ByteArray)⊕((List ak))⊕((List ak))⊕((List ak))):=Mo.den (FD p_a p_d p_j p_l p_q p_t p_v p_w p_x p_z)
noncomputable def QC(r_:(Int)⊕Unit⊕(aZ×ByteArray)⊕((List ak))⊕((List ak))⊕((List ak))):Exit:=match r_ with
 |.inl o_=>.normal
 |.inr (.inl o_)=>.normal
 |.inr (.inr (.inl o_))=>.normal
 |.inr (.inr (.inr (.inl o_)))=>.normal
 |.inr (.inr (.inr (.inr (.inl o_))))=>.normal
 |.inr (.inr (.inr (.inr (.inr (o_)))))=>.normal
noncomputable def anJ(p_a:Int)(p_d:aZ)(p_j:Int)(p_l:List ay)(p_q:List ak)(p_t:Int)(p_v:Value)(p_w:ay)(p_x:List (ByteArray×ah))(p_z:List (ByteArray×au))(r_:(Int)⊕Unit⊕(aZ×ByteArray)⊕((List ak))⊕((List ak))⊕((List ak))):St:=match r_ with
 |.inl o_=>⟨[(0,.ptr 0 0),(2,.lf (.int .i64 p_t)),(7,.raw p_v),(10,.raw (.nilFunc)),(11,.lf (.int .i64 o_)),(13,.lf (.rows 78 (p_l.map ay.lf))),(14,.lf (.int .i64 (p_l.length:Int))),(15,.lf (.int .i64 p_j))],[.box 113 (.agg [.lf (.int .i64 p_a),.lf (.rows 25 (p_q.map ak.lf)),.mp 1,.mp 2,.mp 3]),.res (bH p_d none) none,.res (bP p_x) none,.res (bT p_z) none,.dead]⟩
 |.inr (.inl o_)=>⟨[(0,.ptr 0 0),(2,.lf (.int .i64 p_t)),(7,.raw p_v),(10,.raw (.func (.func 177) #[] #[])),(11,.lf (.int .i64 0)),(13,.lf (.rows 78 (p_l.map ay.lf))),(14,.lf (.int .i64 (p_l.length:Int))),(15,.lf (.int .i64 p_j))],[.box 113 (.agg [.lf (.int .i64 p_a),.lf (.rows 25 (p_q.map ak.lf)),.mp 1,.mp 2,.mp 3]),.res (bH p_d none) none,.res (bP p_x) none,.res (bT p_z) none,.dead]⟩
 |.inr (.inr (.inl o_))=>⟨[(0,.ptr 0 0),(2,.lf (.int .i64 p_t)),(7,.raw p_v),(10,.clo 178 [.ptr 8 0,.ptr 9 0]),(11,.lf (.int .i64 0)),(13,.lf (.rows 78 (p_l.map ay.lf))),(14,.lf (.int .i64 (p_l.length:Int))),(15,.lf (.int .i64 p_j))],[.box 113 (.agg [.lf (.int .i64 p_a),.lf (.rows 25 (p_q.map ak.lf)),.mp 1,.mp 2,.mp 3]),.res (bH o_.1 none) none,.res (bP p_x) none,.res (bT p_z) none,.dead,.dead,.dead,.dead,.box 139 (.agg [.hnd 1 (aI p_w.aT p_d.dir)]),.box 9 (.dat [(.str o_.2)])]⟩
 |.inr (.inr (.inr (.inl o_)))=>⟨[(0,.ptr 0 0),(2,.lf (.int .i64 p_t)),(7,.raw p_v),(10,.clo 118 [.ptr 7 0,.ptr 5 0,.ptr 6 0]),(11,.lf (.int .i64 0)),(13,.lf (.rows 78 (p_l.map ay.lf))),(14,.lf (.int .i64 (p_l.length:Int))),(15,.lf (.int .i64 p_j))],[.box 113 (.agg [.lf (.int .i64 p_a),.lf (.rows 25 (o_.map ak.lf)),.mp 1,.mp 2,.mp 3]),.res (bH (p_d.make p_w.gy.fName) none) none,.res (bP p_x) none,.res (bT p_z) none,.dead,.box 26 (.agg [.ptr 0 0]),.box 64 (.dat (ay.lf1 p_w)),.box 28 (.dat [(.rows 25 (p_q.map ak.lf))])]⟩
 |.inr (.inr (.inr (.inr (.inl o_))))=>⟨[(0,.ptr 0 0),(2,.lf (.int .i64 p_t)),(7,.raw p_v),(10,.clo 119 [.ptr 7 0,.ptr 5 0,.ptr 8 0,.ptr 6 0]),(11,.lf (.int .i64 0)),(13,.lf (.rows 78 (p_l.map ay.lf))),(14,.lf (.int .i64 (p_l.length:Int))),(15,.lf (.int .i64 p_j))],[.box 113 (.agg [.lf (.int .i64 p_a),.lf (.rows 25 (o_.map ak.lf)),.mp 1,.mp 2,.mp 3]),.res (bH (p_d.unlink p_w.aT) none) none,.res (bP p_x) none,.res (bT p_z) none,.dead,.box 26 (.agg [.ptr 0 0]),.box 64 (.dat (ay.lf1 p_w)),.box 28 (.dat [(.rows 25 (p_q.map ak.lf))]),.box 139 (.agg [.hnd 1 (aI p_w.aT p_d.dir)])]⟩
 |.inr (.inr (.inr (.inr (.inr (o_)))))=>⟨[(0,.ptr 0 0),(2,.lf (.int .i64 p_t)),(7,.raw p_v),(10,.clo 120 [.ptr 7 0,.ptr 5 0]),(11,.lf (.int .i64 0)),(13,.lf (.rows 78 (p_l.map ay.lf))),(14,.lf (.int .i64 (p_l.length:Int))),(15,.lf (.int .i64 p_j))],[.box 113 (.agg [.lf (.int .i64 p_a),.lf (.rows 25 (o_.map ak.lf)),.mp 1,.mp 2,.mp 3]),.res (bH p_d none) none,.res (bP p_x) none,.res (bT p_z) none,.dead,.box 26 (.agg [.ptr 0 0]),.dead,.box 28 (.dat [(.rows 25 (p_q.map ak.lf))])]⟩
set_option maxRecDepth 20000 in
set_option maxHeartbeats 4000000 in
theorem ady{p_a:Int}{p_d:aZ}{p_j:Int}{p_l:List ay}{p_q:List ak}{p_t:Int}{p_v:Value}{p_w:ay}{p_x:List (ByteArray×ah)}{p_z:List (ByteArray×au)}{r_:(Int)⊕Unit⊕(aZ×ByteArray)⊕((List ak))⊕((List ak))⊕((List ak))}(h:U1 p_a p_d p_j p_l p_q p_t p_v p_w p_x p_z=some r_):AWa Tryz.prog GI TTc Tryz.f71.ntmps 4 (Code.sub (bodyC Tryz.f71) [1,1,0,1,0,0,1,1,0,0,1,0]) (QC r_) (anJ p_a p_d p_j p_l p_q p_t p_v p_w p_x p_z r_) ⟨[(0,.ptr 0 0),(2,.lf (.int .i64 p_t)),(7,.raw p_v),(9,.ptr 4 0),(13,.lf (.rows 78 (p_l.map ay.lf))),(14,.lf (.int .i64 (p_l.length:Int))),(15,.lf (.int .i64 p_j))],[.box 113 (.agg [.lf (.int .i64 p_a),.lf (.rows 25 (p_q.map ak.lf)),.mp 1,.mp 2,.mp 3]),.res (bH p_d none) none,.res (bP p_x) none,.res (bT p_z) none,.box 64 (.dat (ay.lf1 p_w))]⟩:=
 uP jD (FD p_a p_d p_j p_l p_q p_t p_v p_w p_x p_z) QC (anJ p_a p_d p_j p_l p_q p_t p_v p_w p_x p_z) (by kernel_rfl) h
theorem D5{c:Ctx}(hc:c.Ok){e:Env}{C:Nat→List Value}{H:List Slot}{w:World}(hM:Mem c e C H w){f:FuncId}{bs:List Nat}{ds:List AV}{r:AV}{Hl:List Slot}(hF:FnH c.P c.G f (kX (posB bs) ds) (kY bs H) r Hl)
 (hnd:nodupB bs=true) (hsl:slB bs H=true) (hlen:Nat.ble bs.length Hl.length=true) (hnf:Hl.all Slot.jv=true) (hin:oO bs ds=true) {vs:List Value} (hvs:VRs e ds vs):
 Calls c.P f vs.toArray w fun en w'=>∃e' C' v,en=.returned v∧Mem c e' C' (newH bs H Hl) w'∧e.le e'∧VR e' (r.ren (jw bs H.length)) v:=by
 obtain⟨el,Cl,elI,hML,hren,hback⟩:=hM.via hc hnd hsl hlen hnf
 refine(hF.2 el Cl w vs (by rw[elI];exact hM.g) hML (hren ds vs hin hvs)).mono ?_
 rintro en w' ⟨e2,C2,v,rfl,g,hM2,hv⟩
 obtain⟨e',C',hMem,hK,hb,_⟩:=hback e2 C2 w' g hM2
 exact⟨e',C',v,rfl,hMem,hK.le,hb r v hv⟩
theorem Aa{bs:List Nat}{H H' Hl:List Slot}(hl:H'.length=H.length)(hd:Hl.length≤bs.length)(h1:∀b,bs.contains b=true→H'[b]?=(H[b]?).map fun _=>(Hl.getD (posB bs b) .dead).ren (jw bs H.length))(h2:∀b,bs.contains b=false→H'[b]?=H[b]?):newH bs H Hl=H':=by
 unfold newH
 rw[List.drop_eq_nil_of_le hd,List.map_nil,List.append_nil]
 apply List.ext_getElem?
 intro b
 rw[DU,Nat.zero_add]
 grind
theorem fU{a b:Nat}(h:a≠b):Nat.beq a b=false:=by
 cases hb:Nat.beq a b with
 |false=>rfl
 |true=>simp_all
def H4(a:Int)(q:List ak)(d:aZ)(x:List (ByteArray×ah))(z:List (ByteArray×au)):List Slot:=[.box 113 (.agg [.lf (.int .i64 a),.lf (.rows 25 (q.map ak.lf)),.mp 1,.mp 2,.mp 3]),.res (bH d none) none,.res (bP x) none,.res (bT z) none]
theorem gY{a:Int}{q:List ak}{d:aZ}{x:List (ByteArray×ah)}{z:List (ByteArray×au)}{R:List Slot}{b:Nat}(hb:4≤b):(H4 a q d x z++R)[b]?=R[b-4]?:=by
 rw[List.getElem?_append_right (by simpa[H4] using hb)]
 rfl
theorem adz{a:Int}{q:List ak}{d:aZ}{x:List (ByteArray×ah)}{z:List (ByteArray×au)}:(H4 a q d x z).length=4:=rfl
set_option maxRecDepth 20000 in
theorem adA{c:Ctx}(hc:c.Ok)(hP:c.P=Tryz.prog)(hG:c.G=GI){e:Env}{C:Nat→List Value}{w:World}{a:Int}{q:List ak}{d d':aZ}{x:List (ByteArray×ah)}{z:List (ByteArray×au)}{R:List Slot}(hM:Mem c e C (H4 a q d x z++R) w){i j:Nat}{o:Option Nat}{s:ByteArray}
 (hi:4≤i) (hj:4≤j) (hij:i≠j) (h1:R[i-4]?=some (.box 139 (.agg [.hnd 1 o]))) (h2:R[j-4]?=some (.box 9 (.dat [.str s]))) {vs:List Value} (hv:VRs e [.ptr i 0,.ptr j 0] vs) (h:Q62 o s d=some d'):
 Calls c.P 178 vs.toArray w fun en w'=>∃e' C',en=.returned (.tuple #[])∧Mem c e' C' (H4 a q d' x z++R) w'∧e.le e':=by
 have e1:(H4 a q d x z++R)[i]?=some (.box 139 (.agg [.hnd 1 o])):=by rw[gY hi];exact h1
 have e2:(H4 a q d x z++R)[j]?=some (.box 9 (.dat [.str s])):=by rw[gY hj];exact h2
 have e3:(H4 a q d x z++R)[1]?=some (.res (bH d none) none):=rfl
 have b1:Nat.beq i j=false:=fU hij
 have b2:Nat.beq i 1=false:=fU (by omega)
 have b3:Nat.beq j 1=false:=fU (by omega)
 have b4:Nat.beq j i=false:=fU hij.symm
 have ii:Nat.beq i i=true:=Nat.beq_refl i
 have jj:Nat.beq j j=true:=Nat.beq_refl j
 have hloc:kY [i,j,1] (H4 a q d x z++R)=[.box 139 (.agg [.hnd 2 o]),.box 9 (.dat [.str s]),.res (bH d none) none]:=by
  simp only[kY,List.map_cons,List.map_nil,List.getD_eq_getElem?_getD,e1,e2,e3,Option.getD_some,Slot.ren,AV.ren,kX,posB,b2,b3,Option.map_none]
 have hF:FnH c.P c.G 178 (kX (posB [i,j,1]) [.ptr i 0,.ptr j 0]) (kY [i,j,1] (H4 a q d x z++R)) (.tup []) [.box 139 (.agg [.hnd 2 o]),.box 9 (.dat [.str s]),.res (bH d' none) none]:=by
  rw[hP,hG,hloc]
  have:=ajW o s d d' h
  simp only[kX,AV.ren,posB,b1,ii,jj]
  exact this
 refine(D5 hc hM hF ?_ ?_ rfl rfl ?_ hv).mono ?_
 ·simp[nodupB,hij];omega
 ·simp only[slB,List.all_cons,List.all_nil,e1,e2,e3,Slot.jv,Slot.inB,AV.inB,oO,Bool.and_true,Bool.true_and]
  simp
 ·simp[oO,AV.inB]
 rintro en w' ⟨e',C',v,rfl,hM',hle,hv'⟩
 obtain⟨cs,rfl,hcs⟩:=VR.tup.1 hv'
 obtain rfl:=VRs.xk hcs
 refine⟨e',C',rfl,?_,hle⟩
 rw[Aa (H':=H4 a q d' x z++R) (by simp[H4]) (Nat.le_refl _)] at hM'
 ·exact hM'
 ·intro b hb
  have hb:b=i∨b=j∨b=1:=by simpa using hb
  rcases hb with rfl|rfl|rfl
  ·rw[e1,gY hi,h1]
   simp only[posB,ii,Option.map_some,List.getD_eq_getElem?_getD,List.getElem?_cons_zero,Option.getD_some,Slot.ren,AV.ren,kX]
   rfl
  ·rw[e2,gY hj,h2]
   simp only[posB,b1,jj,Option.map_some,List.getD_eq_getElem?_getD]
   rfl
  rw[e3]
  simp only[posB,b2,b3,Option.map_some,List.getD_eq_getElem?_getD]
  rfl
 intro b hb
 have hb:b≠i∧b≠j∧b≠1:=by simpa using hb
 rcases Nat.lt_or_ge b 4 with h4|h4
 ·have:b=0∨b=2∨b=3:=by omega
  rcases this with rfl|rfl|rfl<;>rfl
 rw[gY h4,gY h4]
set_option maxRecDepth 20000 in
set_option maxHeartbeats 1000000 in
theorem QD{c:Ctx}(hc:c.Ok)(hP:c.P=Tryz.prog)(hG:c.G=GI){e:Env}{C:Nat→List Value}{w:World}{a:Int}{q q0:List ak}{d:aZ}{x:List (ByteArray×ah)}{z:List (ByteArray×au)}{R:List Slot}(hM:Mem c e C (H4 a q d x z++R) w){i j k:Nat}{w0:ay}{u:Unit}
 (hi:4≤i) (hj:4≤j) (hk:4≤k) (hij:i≠j) (hik:i≠k) (hjk:j≠k) (ei:R[i-4]?=some (.box 28 (.dat [.rows 25 (q0.map ak.lf)]))) (ej:R[j-4]?=some (.box 26 (.agg [.ptr 0 0]))) (ek:R[k-4]?=some (.box 64 (.dat (ay.lf1 w0)))) {vs:List Value} (hv:VRs e [.ptr i 0,.ptr j 0,.ptr k 0] vs) (h:Q91 q0 w0 a q d x z=some u):
 Calls c.P 118 vs.toArray w fun en w'=>∃e' C',en=.returned (.tuple #[])∧Mem c e' C' (H4 a q0 (d.unlink w0.gy.fName) x z++R) w'∧e.le e':=by
 have gi:(H4 a q d x z++R)[i]?=some (.box 28 (.dat [.rows 25 (q0.map ak.lf)])):=by rw[gY hi];exact ei
 have gj:(H4 a q d x z++R)[j]?=some (.box 26 (.agg [.ptr 0 0])):=by rw[gY hj];exact ej
 have gk:(H4 a q d x z++R)[k]?=some (.box 64 (.dat (ay.lf1 w0))):=by rw[gY hk];exact ek
 have g0:(H4 a q d x z++R)[0]?=some (.box 113 (.agg [.lf (.int .i64 a),.lf (.rows 25 (q.map ak.lf)),.mp 1,.mp 2,.mp 3])):=rfl
 have g1:(H4 a q d x z++R)[1]?=some (.res (bH d none) none):=rfl
 have g2:(H4 a q d x z++R)[2]?=some (.res (bP x) none):=rfl
 have g3:(H4 a q d x z++R)[3]?=some (.res (bT z) none):=rfl
 have fij:Nat.beq i j=false:=fU hij
 have fji:Nat.beq j i=false:=fU hij.symm
 have fik:Nat.beq i k=false:=fU hik
 have fki:Nat.beq k i=false:=fU hik.symm
 have fjk:Nat.beq j k=false:=fU hjk
 have fkj:Nat.beq k j=false:=fU hjk.symm
 have fi0:Nat.beq i 0=false:=fU (by omega)
 have fi1:Nat.beq i 1=false:=fU (by omega)
 have fi2:Nat.beq i 2=false:=fU (by omega)
 have fi3:Nat.beq i 3=false:=fU (by omega)
 have fii:Nat.beq i i=true:=Nat.beq_refl i
 have fj0:Nat.beq j 0=false:=fU (by omega)
 have fj1:Nat.beq j 1=false:=fU (by omega)
 have fj2:Nat.beq j 2=false:=fU (by omega)
 have fj3:Nat.beq j 3=false:=fU (by omega)
 have fjj:Nat.beq j j=true:=Nat.beq_refl j
 have fk0:Nat.beq k 0=false:=fU (by omega)
 have fk1:Nat.beq k 1=false:=fU (by omega)
 have fk2:Nat.beq k 2=false:=fU (by omega)
 have fk3:Nat.beq k 3=false:=fU (by omega)
 have fkk:Nat.beq k k=true:=Nat.beq_refl k
 have n00:Nat.beq 0 0=true:=rfl
 have n01:Nat.beq 0 1=false:=rfl
 have n02:Nat.beq 0 2=false:=rfl
 have n03:Nat.beq 0 3=false:=rfl
 have n10:Nat.beq 1 0=false:=rfl
 have n11:Nat.beq 1 1=true:=rfl
 have n12:Nat.beq 1 2=false:=rfl
 have n13:Nat.beq 1 3=false:=rfl
 have n20:Nat.beq 2 0=false:=rfl
 have n21:Nat.beq 2 1=false:=rfl
 have n22:Nat.beq 2 2=true:=rfl
 have n23:Nat.beq 2 3=false:=rfl
 have n30:Nat.beq 3 0=false:=rfl
 have n31:Nat.beq 3 1=false:=rfl
 have n32:Nat.beq 3 2=false:=rfl
 have n33:Nat.beq 3 3=true:=rfl
 have hloc:kY [i,j,k,0,1,2,3] (H4 a q d x z++R)=[.box 28 (.dat [.rows 25 (q0.map ak.lf)]),.box 26 (.agg [.ptr 3 0]),.box 64 (.dat (ay.lf1 w0)),.box 113 (.agg [.lf (.int .i64 a),.lf (.rows 25 (q.map ak.lf)),.mp 4,.mp 5,.mp 6]),.res (bH d none) none,.res (bP x) none,.res (bT z) none]:=by
  simp only[kY,List.map_cons,List.map_nil,List.getD_eq_getElem?_getD,gi,gj,gk,g0,g1,g2,g3,Option.getD_some,Slot.ren,AV.ren,kX,posB,fij,fji,fik,fki,fjk,fkj,fi0,fi1,fi2,fi3,fii,fj0,fj1,fj2,fj3,fjj,fk0,fk1,fk2,fk3,fkk,n00,n01,n02,n03,n10,n11,n12,n13,n20,n21,n22,n23,n30,n31,n32,n33,Option.map_none]
 have hF:FnH c.P c.G 118 (kX (posB [i,j,k,0,1,2,3]) [.ptr i 0,.ptr j 0,.ptr k 0]) (kY [i,j,k,0,1,2,3] (H4 a q d x z++R)) (.tup []) [.box 28 (.dat [.rows 25 (q0.map ak.lf)]),.box 26 (.agg [.ptr 3 0]),.box 64 (.dat (ay.lf1 w0)),.box 113 (.agg [.lf (.int .i64 a),.lf (.rows 25 (q0.map ak.lf)),.mp 4,.mp 5,.mp 6]),.res (bH (d.unlink w0.gy.fName) none) none,.res (bP x) none,.res (bT z) none]:=by
  rw[hP,hG,hloc]
  have:=ajX q0 w0 a q d x z _ h
  simp only[kX,AV.ren,posB,fij,fji,fik,fki,fjk,fkj,fi0,fi1,fi2,fi3,fii,fj0,fj1,fj2,fj3,fjj,fk0,fk1,fk2,fk3,fkk,n00,n01,n02,n03,n10,n11,n12,n13,n20,n21,n22,n23,n30,n31,n32,n33]
  exact this
 refine(D5 hc hM hF ?_ ?_ rfl rfl ?_ hv).mono ?_
 ·simp[nodupB,hij,hik,hjk];omega
 ·simp only[slB,List.all_cons,List.all_nil,gi,gj,gk,g0,g1,g2,g3,Slot.jv,Slot.inB,AV.inB,oO,Bool.and_true,Bool.true_and]
  simp
 ·simp[oO,AV.inB]
 rintro en w' ⟨e',C',v,rfl,hM',hle,hv'⟩
 obtain⟨cs,rfl,hcs⟩:=VR.tup.1 hv'
 obtain rfl:=VRs.xk hcs
 refine⟨e',C',rfl,?_,hle⟩
 rw[Aa (H':=H4 a q0 (d.unlink w0.gy.fName) x z++R) (by simp[H4]) (Nat.le_refl _)] at hM'
 ·exact hM'
 ·intro b hb
  have hb:b=i∨b=j∨b=k∨b=0∨b=1∨b=2∨b=3:=by simpa using hb
  rcases hb with rfl|rfl|rfl|rfl|rfl|rfl|rfl
  ·rw[gi,gY hi,ei]
   simp only[posB,fij,fji,fik,fki,fjk,fkj,fi0,fi1,fi2,fi3,fii,fj0,fj1,fj2,fj3,fjj,fk0,fk1,fk2,fk3,fkk,n00,n01,n02,n03,n10,n11,n12,n13,n20,n21,n22,n23,n30,n31,n32,n33,Option.map_some,List.getD_eq_getElem?_getD]
   rfl
  ·rw[gj,gY hj,ej]
   simp only[posB,fij,fji,fik,fki,fjk,fkj,fi0,fi1,fi2,fi3,fii,fj0,fj1,fj2,fj3,fjj,fk0,fk1,fk2,fk3,fkk,n00,n01,n02,n03,n10,n11,n12,n13,n20,n21,n22,n23,n30,n31,n32,n33,Option.map_some,List.getD_eq_getElem?_getD]
   rfl
  ·rw[gk,gY hk,ek]
   simp only[posB,fij,fji,fik,fki,fjk,fkj,fi0,fi1,fi2,fi3,fii,fj0,fj1,fj2,fj3,fjj,fk0,fk1,fk2,fk3,fkk,n00,n01,n02,n03,n10,n11,n12,n13,n20,n21,n22,n23,n30,n31,n32,n33,Option.map_some,List.getD_eq_getElem?_getD]
   rfl
  ·rw[g0]
   simp only[posB,fij,fji,fik,fki,fjk,fkj,fi0,fi1,fi2,fi3,fii,fj0,fj1,fj2,fj3,fjj,fk0,fk1,fk2,fk3,fkk,n00,n01,n02,n03,n10,n11,n12,n13,n20,n21,n22,n23,n30,n31,n32,n33,Option.map_some,List.getD_eq_getElem?_getD]
   rfl
  ·rw[g1]
   simp only[posB,fij,fji,fik,fki,fjk,fkj,fi0,fi1,fi2,fi3,fii,fj0,fj1,fj2,fj3,fjj,fk0,fk1,fk2,fk3,fkk,n00,n01,n02,n03,n10,n11,n12,n13,n20,n21,n22,n23,n30,n31,n32,n33,Option.map_some,List.getD_eq_getElem?_getD]
   rfl
  ·rw[g2]
   simp only[posB,fij,fji,fik,fki,fjk,fkj,fi0,fi1,fi2,fi3,fii,fj0,fj1,fj2,fj3,fjj,fk0,fk1,fk2,fk3,fkk,n00,n01,n02,n03,n10,n11,n12,n13,n20,n21,n22,n23,n30,n31,n32,n33,Option.map_some,List.getD_eq_getElem?_getD]
   rfl
  rw[g3]
  simp only[posB,fij,fji,fik,fki,fjk,fkj,fi0,fi1,fi2,fi3,fii,fj0,fj1,fj2,fj3,fjj,fk0,fk1,fk2,fk3,fkk,n00,n01,n02,n03,n10,n11,n12,n13,n20,n21,n22,n23,n30,n31,n32,n33,Option.map_some,List.getD_eq_getElem?_getD]
  rfl
 intro b hb
 have hb:b≠i∧b≠j∧b≠k∧b≠0∧b≠1∧b≠2∧b≠3:=by simpa using hb
 rw[gY (by omega),gY (by omega)]
set_option maxRecDepth 20000 in
set_option maxHeartbeats 1000000 in
theorem Y9{c:Ctx}(hc:c.Ok)(hP:c.P=Tryz.prog)(hG:c.G=GI){e:Env}{C:Nat→List Value}{w:World}{a:Int}{q q0:List ak}{d d':aZ}{x:List (ByteArray×ah)}{z:List (ByteArray×au)}{R:List Slot}(hM:Mem c e C (H4 a q d x z++R) w){i j k m:Nat}{w0:ay}{o:Option Nat}
 (hi:4≤i) (hj:4≤j) (hk:4≤k) (hm:4≤m) (hij:i≠j) (hik:i≠k) (him:i≠m) (hjk:j≠k) (hjm:j≠m) (hkm:k≠m) (ei:R[i-4]?=some (.box 28 (.dat [.rows 25 (q0.map ak.lf)]))) (ej:R[j-4]?=some (.box 26 (.agg [.ptr 0 0]))) (ek:R[k-4]?=some (.box 139 (.agg [.hnd 1 o]))) (em:R[m-4]?=some (.box 64 (.dat (ay.lf1 w0)))) {vs:List Value} (hv:VRs e [.ptr i 0,.ptr j 0,.ptr k 0,.ptr m 0] vs) (h:Q77 q0 o w0 a q d x z=some d'):
 Calls c.P 119 vs.toArray w fun en w'=>∃e' C',en=.returned (.tuple #[])∧Mem c e' C' (H4 a q0 d' x z++R) w'∧e.le e':=by
 have gi:(H4 a q d x z++R)[i]?=some (.box 28 (.dat [.rows 25 (q0.map ak.lf)])):=by rw[gY hi];exact ei
 have gj:(H4 a q d x z++R)[j]?=some (.box 26 (.agg [.ptr 0 0])):=by rw[gY hj];exact ej
 have gk:(H4 a q d x z++R)[k]?=some (.box 139 (.agg [.hnd 1 o])):=by rw[gY hk];exact ek
 have gm:(H4 a q d x z++R)[m]?=some (.box 64 (.dat (ay.lf1 w0))):=by rw[gY hm];exact em
 have g0:(H4 a q d x z++R)[0]?=some (.box 113 (.agg [.lf (.int .i64 a),.lf (.rows 25 (q.map ak.lf)),.mp 1,.mp 2,.mp 3])):=rfl
 have g1:(H4 a q d x z++R)[1]?=some (.res (bH d none) none):=rfl
 have g2:(H4 a q d x z++R)[2]?=some (.res (bP x) none):=rfl
 have g3:(H4 a q d x z++R)[3]?=some (.res (bT z) none):=rfl
 have fij:Nat.beq i j=false:=fU hij
 have fji:Nat.beq j i=false:=fU hij.symm
 have fik:Nat.beq i k=false:=fU hik
 have fki:Nat.beq k i=false:=fU hik.symm
 have fim:Nat.beq i m=false:=fU him
 have fmi:Nat.beq m i=false:=fU him.symm
 have fjk:Nat.beq j k=false:=fU hjk
 have fkj:Nat.beq k j=false:=fU hjk.symm
 have fjm:Nat.beq j m=false:=fU hjm
 have fmj:Nat.beq m j=false:=fU hjm.symm
 have fkm:Nat.beq k m=false:=fU hkm
 have fmk:Nat.beq m k=false:=fU hkm.symm
 have fi0:Nat.beq i 0=false:=fU (by omega)
 have fi1:Nat.beq i 1=false:=fU (by omega)
 have fi2:Nat.beq i 2=false:=fU (by omega)
 have fi3:Nat.beq i 3=false:=fU (by omega)
 have fii:Nat.beq i i=true:=Nat.beq_refl i
 have fj0:Nat.beq j 0=false:=fU (by omega)
 have fj1:Nat.beq j 1=false:=fU (by omega)
 have fj2:Nat.beq j 2=false:=fU (by omega)
 have fj3:Nat.beq j 3=false:=fU (by omega)
 have fjj:Nat.beq j j=true:=Nat.beq_refl j
 have fk0:Nat.beq k 0=false:=fU (by omega)
 have fk1:Nat.beq k 1=false:=fU (by omega)
 have fk2:Nat.beq k 2=false:=fU (by omega)
 have fk3:Nat.beq k 3=false:=fU (by omega)
 have fkk:Nat.beq k k=true:=Nat.beq_refl k
 have fm0:Nat.beq m 0=false:=fU (by omega)
 have fm1:Nat.beq m 1=false:=fU (by omega)
 have fm2:Nat.beq m 2=false:=fU (by omega)
 have fm3:Nat.beq m 3=false:=fU (by omega)
 have fmm:Nat.beq m m=true:=Nat.beq_refl m
 have n00:Nat.beq 0 0=true:=rfl
 have n01:Nat.beq 0 1=false:=rfl
 have n02:Nat.beq 0 2=false:=rfl
 have n03:Nat.beq 0 3=false:=rfl
 have n10:Nat.beq 1 0=false:=rfl
 have n11:Nat.beq 1 1=true:=rfl
 have n12:Nat.beq 1 2=false:=rfl
 have n13:Nat.beq 1 3=false:=rfl
 have n20:Nat.beq 2 0=false:=rfl
 have n21:Nat.beq 2 1=false:=rfl
 have n22:Nat.beq 2 2=true:=rfl
 have n23:Nat.beq 2 3=false:=rfl
 have n30:Nat.beq 3 0=false:=rfl
 have n31:Nat.beq 3 1=false:=rfl
 have n32:Nat.beq 3 2=false:=rfl
 have n33:Nat.beq 3 3=true:=rfl
 have hloc:kY [i,j,k,m,0,1,2,3] (H4 a q d x z++R)=[.box 28 (.dat [.rows 25 (q0.map ak.lf)]),.box 26 (.agg [.ptr 4 0]),.box 139 (.agg [.hnd 5 o]),.box 64 (.dat (ay.lf1 w0)),.box 113 (.agg [.lf (.int .i64 a),.lf (.rows 25 (q.map ak.lf)),.mp 5,.mp 6,.mp 7]),.res (bH d none) none,.res (bP x) none,.res (bT z) none]:=by
  simp only[kY,List.map_cons,List.map_nil,List.getD_eq_getElem?_getD,gi,gj,gk,gm,g0,g1,g2,g3,Option.getD_some,Slot.ren,AV.ren,kX,posB,fij,fji,fik,fki,fim,fmi,fjk,fkj,fjm,fmj,fkm,fmk,fi0,fi1,fi2,fi3,fii,fj0,fj1,fj2,fj3,fjj,fk0,fk1,fk2,fk3,fkk,fm0,fm1,fm2,fm3,fmm,n00,n01,n02,n03,n10,n11,n12,n13,n20,n21,n22,n23,n30,n31,n32,n33,Option.map_none]
 have hF:FnH c.P c.G 119 (kX (posB [i,j,k,m,0,1,2,3]) [.ptr i 0,.ptr j 0,.ptr k 0,.ptr m 0]) (kY [i,j,k,m,0,1,2,3] (H4 a q d x z++R)) (.tup []) [.box 28 (.dat [.rows 25 (q0.map ak.lf)]),.box 26 (.agg [.ptr 4 0]),.box 139 (.agg [.hnd 5 o]),.box 64 (.dat (ay.lf1 w0)),.box 113 (.agg [.lf (.int .i64 a),.lf (.rows 25 (q0.map ak.lf)),.mp 5,.mp 6,.mp 7]),.res (bH d' none) none,.res (bP x) none,.res (bT z) none]:=by
  rw[hP,hG,hloc]
  have:=ajY q0 o w0 a q d x z _ h
  simp only[kX,AV.ren,posB,fij,fji,fik,fki,fim,fmi,fjk,fkj,fjm,fmj,fkm,fmk,fi0,fi1,fi2,fi3,fii,fj0,fj1,fj2,fj3,fjj,fk0,fk1,fk2,fk3,fkk,fm0,fm1,fm2,fm3,fmm,n00,n01,n02,n03,n10,n11,n12,n13,n20,n21,n22,n23,n30,n31,n32,n33]
  exact this
 refine(D5 hc hM hF ?_ ?_ rfl rfl ?_ hv).mono ?_
 ·simp[nodupB,hij,hik,him,hjk,hjm,hkm];omega
 ·simp only[slB,List.all_cons,List.all_nil,gi,gj,gk,gm,g0,g1,g2,g3,Slot.jv,Slot.inB,AV.inB,oO,Bool.and_true,Bool.true_and]
  simp
 ·simp[oO,AV.inB]
 rintro en w' ⟨e',C',v,rfl,hM',hle,hv'⟩
 obtain⟨cs,rfl,hcs⟩:=VR.tup.1 hv'
 obtain rfl:=VRs.xk hcs
 refine⟨e',C',rfl,?_,hle⟩
 rw[Aa (H':=H4 a q0 d' x z++R) (by simp[H4]) (Nat.le_refl _)] at hM'
 ·exact hM'
 ·intro b hb
  have hb:b=i∨b=j∨b=k∨b=m∨b=0∨b=1∨b=2∨b=3:=by simpa using hb
  rcases hb with rfl|rfl|rfl|rfl|rfl|rfl|rfl|rfl
  ·rw[gi,gY hi,ei]
   simp only[posB,fij,fji,fik,fki,fim,fmi,fjk,fkj,fjm,fmj,fkm,fmk,fi0,fi1,fi2,fi3,fii,fj0,fj1,fj2,fj3,fjj,fk0,fk1,fk2,fk3,fkk,fm0,fm1,fm2,fm3,fmm,n00,n01,n02,n03,n10,n11,n12,n13,n20,n21,n22,n23,n30,n31,n32,n33,Option.map_some,List.getD_eq_getElem?_getD]
   rfl
  ·rw[gj,gY hj,ej]
   simp only[posB,fij,fji,fik,fki,fim,fmi,fjk,fkj,fjm,fmj,fkm,fmk,fi0,fi1,fi2,fi3,fii,fj0,fj1,fj2,fj3,fjj,fk0,fk1,fk2,fk3,fkk,fm0,fm1,fm2,fm3,fmm,n00,n01,n02,n03,n10,n11,n12,n13,n20,n21,n22,n23,n30,n31,n32,n33,Option.map_some,List.getD_eq_getElem?_getD]
   rfl
  ·rw[gk,gY hk,ek]
   simp only[posB,fij,fji,fik,fki,fim,fmi,fjk,fkj,fjm,fmj,fkm,fmk,fi0,fi1,fi2,fi3,fii,fj0,fj1,fj2,fj3,fjj,fk0,fk1,fk2,fk3,fkk,fm0,fm1,fm2,fm3,fmm,n00,n01,n02,n03,n10,n11,n12,n13,n20,n21,n22,n23,n30,n31,n32,n33,Option.map_some,List.getD_eq_getElem?_getD]
   rfl
  ·rw[gm,gY hm,em]
   simp only[posB,fij,fji,fik,fki,fim,fmi,fjk,fkj,fjm,fmj,fkm,fmk,fi0,fi1,fi2,fi3,fii,fj0,fj1,fj2,fj3,fjj,fk0,fk1,fk2,fk3,fkk,fm0,fm1,fm2,fm3,fmm,n00,n01,n02,n03,n10,n11,n12,n13,n20,n21,n22,n23,n30,n31,n32,n33,Option.map_some,List.getD_eq_getElem?_getD]
   rfl
  ·rw[g0]
   simp only[posB,fij,fji,fik,fki,fim,fmi,fjk,fkj,fjm,fmj,fkm,fmk,fi0,fi1,fi2,fi3,fii,fj0,fj1,fj2,fj3,fjj,fk0,fk1,fk2,fk3,fkk,fm0,fm1,fm2,fm3,fmm,n00,n01,n02,n03,n10,n11,n12,n13,n20,n21,n22,n23,n30,n31,n32,n33,Option.map_some,List.getD_eq_getElem?_getD]
   rfl
  ·rw[g1]
   simp only[posB,fij,fji,fik,fki,fim,fmi,fjk,fkj,fjm,fmj,fkm,fmk,fi0,fi1,fi2,fi3,fii,fj0,fj1,fj2,fj3,fjj,fk0,fk1,fk2,fk3,fkk,fm0,fm1,fm2,fm3,fmm,n00,n01,n02,n03,n10,n11,n12,n13,n20,n21,n22,n23,n30,n31,n32,n33,Option.map_some,List.getD_eq_getElem?_getD]
   rfl
  ·rw[g2]
   simp only[posB,fij,fji,fik,fki,fim,fmi,fjk,fkj,fjm,fmj,fkm,fmk,fi0,fi1,fi2,fi3,fii,fj0,fj1,fj2,fj3,fjj,fk0,fk1,fk2,fk3,fkk,fm0,fm1,fm2,fm3,fmm,n00,n01,n02,n03,n10,n11,n12,n13,n20,n21,n22,n23,n30,n31,n32,n33,Option.map_some,List.getD_eq_getElem?_getD]
   rfl
  rw[g3]
  simp only[posB,fij,fji,fik,fki,fim,fmi,fjk,fkj,fjm,fmj,fkm,fmk,fi0,fi1,fi2,fi3,fii,fj0,fj1,fj2,fj3,fjj,fk0,fk1,fk2,fk3,fkk,fm0,fm1,fm2,fm3,fmm,n00,n01,n02,n03,n10,n11,n12,n13,n20,n21,n22,n23,n30,n31,n32,n33,Option.map_some,List.getD_eq_getElem?_getD]
  rfl
 intro b hb
 have hb:b≠i∧b≠j∧b≠k∧b≠m∧b≠0∧b≠1∧b≠2∧b≠3:=by simpa using hb
 rw[gY (by omega),gY (by omega)]
set_option maxRecDepth 20000 in
set_option maxHeartbeats 1000000 in
theorem adB{c:Ctx}(hc:c.Ok)(hP:c.P=Tryz.prog)(hG:c.G=GI){e:Env}{C:Nat→List Value}{w:World}{a:Int}{q q0:List ak}{d:aZ}{x:List (ByteArray×ah)}{z:List (ByteArray×au)}{R:List Slot}(hM:Mem c e C (H4 a q d x z++R) w){i j:Nat}{u:Unit}
 (hi:4≤i) (hj:4≤j) (hij:i≠j) (ei:R[i-4]?=some (.box 28 (.dat [.rows 25 (q0.map ak.lf)]))) (ej:R[j-4]?=some (.box 26 (.agg [.ptr 0 0]))) {vs:List Value} (hv:VRs e [.ptr i 0,.ptr j 0] vs) (h:Q92 q0 a q d x z=some u):
 Calls c.P 120 vs.toArray w fun en w'=>∃e' C',en=.returned (.tuple #[])∧Mem c e' C' (H4 a q0 d x z++R) w'∧e.le e':=by
 have gi:(H4 a q d x z++R)[i]?=some (.box 28 (.dat [.rows 25 (q0.map ak.lf)])):=by rw[gY hi];exact ei
 have gj:(H4 a q d x z++R)[j]?=some (.box 26 (.agg [.ptr 0 0])):=by rw[gY hj];exact ej
 have g0:(H4 a q d x z++R)[0]?=some (.box 113 (.agg [.lf (.int .i64 a),.lf (.rows 25 (q.map ak.lf)),.mp 1,.mp 2,.mp 3])):=rfl
 have g1:(H4 a q d x z++R)[1]?=some (.res (bH d none) none):=rfl
 have g2:(H4 a q d x z++R)[2]?=some (.res (bP x) none):=rfl
 have g3:(H4 a q d x z++R)[3]?=some (.res (bT z) none):=rfl
 have fij:Nat.beq i j=false:=fU hij
 have fji:Nat.beq j i=false:=fU hij.symm
 have fi0:Nat.beq i 0=false:=fU (by omega)
 have fi1:Nat.beq i 1=false:=fU (by omega)
 have fi2:Nat.beq i 2=false:=fU (by omega)
 have fi3:Nat.beq i 3=false:=fU (by omega)
 have fii:Nat.beq i i=true:=Nat.beq_refl i
 have fj0:Nat.beq j 0=false:=fU (by omega)
 have fj1:Nat.beq j 1=false:=fU (by omega)
 have fj2:Nat.beq j 2=false:=fU (by omega)
 have fj3:Nat.beq j 3=false:=fU (by omega)
 have fjj:Nat.beq j j=true:=Nat.beq_refl j
 have n00:Nat.beq 0 0=true:=rfl
 have n01:Nat.beq 0 1=false:=rfl
 have n02:Nat.beq 0 2=false:=rfl
 have n03:Nat.beq 0 3=false:=rfl
 have n10:Nat.beq 1 0=false:=rfl
 have n11:Nat.beq 1 1=true:=rfl
 have n12:Nat.beq 1 2=false:=rfl
 have n13:Nat.beq 1 3=false:=rfl
 have n20:Nat.beq 2 0=false:=rfl
 have n21:Nat.beq 2 1=false:=rfl
 have n22:Nat.beq 2 2=true:=rfl
 have n23:Nat.beq 2 3=false:=rfl
 have n30:Nat.beq 3 0=false:=rfl
 have n31:Nat.beq 3 1=false:=rfl
 have n32:Nat.beq 3 2=false:=rfl
 have n33:Nat.beq 3 3=true:=rfl
 have hloc:kY [i,j,0,1,2,3] (H4 a q d x z++R)=[.box 28 (.dat [.rows 25 (q0.map ak.lf)]),.box 26 (.agg [.ptr 2 0]),.box 113 (.agg [.lf (.int .i64 a),.lf (.rows 25 (q.map ak.lf)),.mp 3,.mp 4,.mp 5]),.res (bH d none) none,.res (bP x) none,.res (bT z) none]:=by
  simp only[kY,List.map_cons,List.map_nil,List.getD_eq_getElem?_getD,gi,gj,g0,g1,g2,g3,Option.getD_some,Slot.ren,AV.ren,kX,posB,fij,fji,fi0,fi1,fi2,fi3,fii,fj0,fj1,fj2,fj3,fjj,n00,n01,n02,n03,n10,n11,n12,n13,n20,n21,n22,n23,n30,n31,n32,n33,Option.map_none]
 have hF:FnH c.P c.G 120 (kX (posB [i,j,0,1,2,3]) [.ptr i 0,.ptr j 0]) (kY [i,j,0,1,2,3] (H4 a q d x z++R)) (.tup []) [.box 28 (.dat [.rows 25 (q0.map ak.lf)]),.box 26 (.agg [.ptr 2 0]),.box 113 (.agg [.lf (.int .i64 a),.lf (.rows 25 (q0.map ak.lf)),.mp 3,.mp 4,.mp 5]),.res (bH d none) none,.res (bP x) none,.res (bT z) none]:=by
  rw[hP,hG,hloc]
  have:=ajZ q0 a q d x z _ h
  simp only[kX,AV.ren,posB,fij,fji,fi0,fi1,fi2,fi3,fii,fj0,fj1,fj2,fj3,fjj,n00,n01,n02,n03,n10,n11,n12,n13,n20,n21,n22,n23,n30,n31,n32,n33]
  exact this
 refine(D5 hc hM hF ?_ ?_ rfl rfl ?_ hv).mono ?_
 ·simp[nodupB,hij];omega
 ·simp only[slB,List.all_cons,List.all_nil,gi,gj,g0,g1,g2,g3,Slot.jv,Slot.inB,AV.inB,oO,Bool.and_true,Bool.true_and]
  simp
 ·simp[oO,AV.inB]
 rintro en w' ⟨e',C',v,rfl,hM',hle,hv'⟩
 obtain⟨cs,rfl,hcs⟩:=VR.tup.1 hv'
 obtain rfl:=VRs.xk hcs
 refine⟨e',C',rfl,?_,hle⟩
 rw[Aa (H':=H4 a q0 d x z++R) (by simp[H4]) (Nat.le_refl _)] at hM'
 ·exact hM'
 ·intro b hb
  have hb:b=i∨b=j∨b=0∨b=1∨b=2∨b=3:=by simpa using hb
  rcases hb with rfl|rfl|rfl|rfl|rfl|rfl
  ·rw[gi,gY hi,ei]
   simp only[posB,fij,fji,fi0,fi1,fi2,fi3,fii,fj0,fj1,fj2,fj3,fjj,n00,n01,n02,n03,n10,n11,n12,n13,n20,n21,n22,n23,n30,n31,n32,n33,Option.map_some,List.getD_eq_getElem?_getD]
   rfl
  ·rw[gj,gY hj,ej]
   simp only[posB,fij,fji,fi0,fi1,fi2,fi3,fii,fj0,fj1,fj2,fj3,fjj,n00,n01,n02,n03,n10,n11,n12,n13,n20,n21,n22,n23,n30,n31,n32,n33,Option.map_some,List.getD_eq_getElem?_getD]
   rfl
  ·rw[g0]
   simp only[posB,fij,fji,fi0,fi1,fi2,fi3,fii,fj0,fj1,fj2,fj3,fjj,n00,n01,n02,n03,n10,n11,n12,n13,n20,n21,n22,n23,n30,n31,n32,n33,Option.map_some,List.getD_eq_getElem?_getD]
   rfl
  ·rw[g1]
   simp only[posB,fij,fji,fi0,fi1,fi2,fi3,fii,fj0,fj1,fj2,fj3,fjj,n00,n01,n02,n03,n10,n11,n12,n13,n20,n21,n22,n23,n30,n31,n32,n33,Option.map_some,List.getD_eq_getElem?_getD]
   rfl
  ·rw[g2]
   simp only[posB,fij,fji,fi0,fi1,fi2,fi3,fii,fj0,fj1,fj2,fj3,fjj,n00,n01,n02,n03,n10,n11,n12,n13,n20,n21,n22,n23,n30,n31,n32,n33,Option.map_some,List.getD_eq_getElem?_getD]
   rfl
  rw[g3]
  simp only[posB,fij,fji,fi0,fi1,fi2,fi3,fii,fj0,fj1,fj2,fj3,fjj,n00,n01,n02,n03,n10,n11,n12,n13,n20,n21,n22,n23,n30,n31,n32,n33,Option.map_some,List.getD_eq_getElem?_getD]
  rfl
 intro b hb
 have hb:b≠i∧b≠j∧b≠0∧b≠1∧b≠2∧b≠3:=by simpa using hb
 rw[gY (by omega),gY (by omega)]
inductive Und where
 |noop
 |doc (o:Option Nat) (s:ByteArray)
 |create (q:List ak) (w:ay)
 |drop (q:List ak) (o:Option Nat) (w:ay)
 |idx (q:List ak)
def UAt(R:List Slot):Und→AV→Prop
 |.noop,av=>av=.clo 177 []
 |.doc o s,av=>∃i j,4≤i∧4≤j∧i≠j∧av=.clo 178 [.ptr i 0,.ptr j 0]∧R[i-4]?=some (.box 139 (.agg [.hnd 1 o]))∧R[j-4]?=some (.box 9 (.dat [.str s]))
 |.create q w,av=>∃i j k,4≤i∧4≤j∧4≤k∧i≠j∧i≠k∧j≠k∧av=.clo 118 [.ptr i 0,.ptr j 0,.ptr k 0]∧R[i-4]?=some (.box 28 (.dat [.rows 25 (q.map ak.lf)]))∧R[j-4]?=some (.box 26 (.agg [.ptr 0 0]))∧R[k-4]?=some (.box 64 (.dat (ay.lf1 w)))
 |.drop q o w,av=>∃i j k m,4≤i∧4≤j∧4≤k∧4≤m∧i≠j∧i≠k∧i≠m∧j≠k∧j≠m∧k≠m∧av=.clo 119 [.ptr i 0,.ptr j 0,.ptr k 0,.ptr m 0]∧R[i-4]?=some (.box 28 (.dat [.rows 25 (q.map ak.lf)]))∧R[j-4]?=some (.box 26 (.agg [.ptr 0 0]))∧R[k-4]?=some (.box 139 (.agg [.hnd 1 o]))∧R[m-4]?=some (.box 64 (.dat (ay.lf1 w)))
 |.idx q,av=>∃i j,4≤i∧4≤j∧i≠j∧av=.clo 120 [.ptr i 0,.ptr j 0]∧R[i-4]?=some (.box 28 (.dat [.rows 25 (q.map ak.lf)]))∧R[j-4]?=some (.box 26 (.agg [.ptr 0 0]))
theorem UAt.app{R R2:List Slot}{u:Und}{av:AV}(h:UAt R u av):UAt (R++R2) u av:=by
 have k:∀i s,R[i]?=some s→(R++R2)[i]?=some s:=fun i s h=>by
  rw[List.getElem?_append_left (List.getElem?_eq_some_iff.1 h).1];exact h
 cases u with
 |noop=>exact h
 |doc o s=>obtain⟨i,j,a1,a2,a3,a4,a5,a6⟩:=h;exact⟨i,j,a1,a2,a3,a4,k _ _ a5,k _ _ a6⟩
 |create q w=>obtain⟨i,j,m,a1,a2,a3,a4,a5,a6,a7,a8,a9,b1⟩:=h;exact⟨i,j,m,a1,a2,a3,a4,a5,a6,a7,k _ _ a8,k _ _ a9,k _ _ b1⟩
 |drop q o w=>obtain⟨i,j,m,n,a1,a2,a3,a4,a5,a6,a7,a8,a9,b1,b2,b3,b4,b5,b6⟩:=h;exact⟨i,j,m,n,a1,a2,a3,a4,a5,a6,a7,a8,a9,b1,b2,k _ _ b3,k _ _ b4,k _ _ b5,k _ _ b6⟩
 |idx q=>obtain⟨i,j,a1,a2,a3,a4,a5,a6⟩:=h;exact⟨i,j,a1,a2,a3,a4,k _ _ a5,k _ _ a6⟩
noncomputable def QE(a:Int)(x:List (ByteArray×ah))(z:List (ByteArray×au)):Und→List ak→aZ→Option (List ak×aZ)
 |.noop,q,d=>some (q,d)
 |.doc o s,q,d=>(Q62 o s d).map fun d'=>(q,d')
 |.create q0 w,q,d=>(Q91 q0 w a q d x z).map fun _=>(q0,d.unlink w.gy.fName)
 |.drop q0 o w,q,d=>(Q77 q0 o w a q d x z).map fun d'=>(q0,d')
 |.idx q0,q,d=>(Q92 q0 a q d x z).map fun _=>(q0,d)
theorem Za{c:Ctx}(hc:c.Ok)(hP:c.P=Tryz.prog)(hG:c.G=GI){e:Env}{C:Nat→List Value}{w:World}{a:Int}{q q':List ak}{d d':aZ}{x:List (ByteArray×ah)}{z:List (ByteArray×au)}{R:List Slot}(hM:Mem c e C (H4 a q d x z++R) w){u:Und}{av:AV}{v:Value}
 (hu:UAt R u av) (hv:VR e av v) (h:QE a x z u q d=some (q',d')):∃f cs,v=.func (.func f) #[] cs∧nN Tryz.prog f=true∧Calls c.P f cs w fun en w'=>∃e' C',en=.returned (.tuple #[])∧Mem c e' C' (H4 a q' d' x z++R) w'∧e.le e':=by
 cases u with
 |noop=>
  obtain rfl:av=.clo 177 []:=hu
  obtain⟨cs,rfl,hcs⟩:=VR.clo.1 hv
  obtain rfl:=VRs.xk hcs
  injection h with h;injection h with h1 h2;subst h1 h2
  refine⟨177,_,rfl,by kernel_rfl,?_⟩
  have hF:=(ag3 () (by unfold al4 adw;rfl)).2 e.I w [] (by rw[←hG];exact hM.g) hM.inv VRs.nil
  rw[hP]
  refine Calls.mono hF ?_
  rintro en w' ⟨I',v,rfl,hg,hv'⟩
  obtain⟨cs,rfl,hcs⟩:=VR.tup.1 hv'
  obtain rfl:=VRs.xk hcs
  obtain⟨k1,k2⟩:=hM.grow hc hg
  grind
 |doc o s=>
  obtain⟨i,j,h1,h2,h3,rfl,h4,h5⟩:=hu
  obtain⟨cs,rfl,hcs⟩:=VR.clo.1 hv
  obtain⟨d2,hd,he⟩:=Option.map_eq_some_iff.1 h
  injection he with e1 e2;subst e1 e2
  exact⟨178,_,rfl,by kernel_rfl,adA hc hP hG hM h1 h2 h3 h4 h5 hcs hd⟩
 |create q0 w0=>
  obtain⟨i,j,k,h1,h2,h3,h4,h5,h6,rfl,h7,h8,h9⟩:=hu
  obtain⟨cs,rfl,hcs⟩:=VR.clo.1 hv
  have h:(Q91 q0 w0 a q d x z).map (fun _=>(q0,d.unlink w0.gy.fName))=some (q',d'):=h
  obtain⟨d2,hd,he⟩:=Option.map_eq_some_iff.1 h
  injection he with e1 e2;subst e1 e2
  exact⟨118,_,rfl,by kernel_rfl,QD hc hP hG hM h1 h2 h3 h4 h5 h6 h7 h8 h9 hcs hd⟩
 |drop q0 o w0=>
  obtain⟨i,j,k,m,h1,h2,h3,h4,h5,h6,h7,h8,h9,g1,rfl,g2,g3,g4,g5⟩:=hu
  obtain⟨cs,rfl,hcs⟩:=VR.clo.1 hv
  obtain⟨d2,hd,he⟩:=Option.map_eq_some_iff.1 h
  injection he with e1 e2;subst e1 e2
  exact⟨119,_,rfl,by kernel_rfl,Y9 hc hP hG hM h1 h2 h3 h4 h5 h6 h7 h8 h9 g1 g2 g3 g4 g5 hcs hd⟩
 |idx q0=>
  obtain⟨i,j,h1,h2,h3,rfl,h4,h5⟩:=hu
  obtain⟨cs,rfl,hcs⟩:=VR.clo.1 hv
  have h:(Q92 q0 a q d x z).map (fun _=>(q0,d))=some (q',d'):=h
  obtain⟨d2,hd,he⟩:=Option.map_eq_some_iff.1 h
  injection he with e1 e2;subst e1 e2
  exact⟨120,_,rfl,by kernel_rfl,adB hc hP hG hM h1 h2 h3 h4 h5 hcs hd⟩
theorem vk(l:List Value)(h:l.length=46):∃x0 x1 x2 x3 x4 x5 x6 x7 x8 x9 x10 x11 x12 x13 x14 x15 x16 x17 x18 x19 x20 x21 x22 x23 x24 x25 x26 x27 x28 x29 x30 x31 x32 x33 x34 x35 x36 x37 x38 x39 x40 x41 x42 x43 x44 x45:Value,l=[x0,x1,x2,x3,x4,x5,x6,x7,x8,x9,x10,x11,x12,x13,x14,x15,x16,x17,x18,x19,x20,x21,x22,x23,x24,x25,x26,x27,x28,x29,x30,x31,x32,x33,x34,x35,x36,x37,x38,x39,x40,x41,x42,x43,x44,x45]:=by
 rcases l with _|⟨x0,l⟩
 ·simp at h
 rcases l with _|⟨x1,l⟩
 ·simp at h
 rcases l with _|⟨x2,l⟩
 ·simp at h
 rcases l with _|⟨x3,l⟩
 ·simp at h
 rcases l with _|⟨x4,l⟩
 ·simp at h
 rcases l with _|⟨x5,l⟩
 ·simp at h
 rcases l with _|⟨x6,l⟩
 ·simp at h
 rcases l with _|⟨x7,l⟩
 ·simp at h
 rcases l with _|⟨x8,l⟩
 ·simp at h
 rcases l with _|⟨x9,l⟩
 ·simp at h
 rcases l with _|⟨x10,l⟩
 ·simp at h
 rcases l with _|⟨x11,l⟩
 ·simp at h
 rcases l with _|⟨x12,l⟩
 ·simp at h
 rcases l with _|⟨x13,l⟩
 ·simp at h
 rcases l with _|⟨x14,l⟩
 ·simp at h
 rcases l with _|⟨x15,l⟩
 ·simp at h
 rcases l with _|⟨x16,l⟩
 ·simp at h
 rcases l with _|⟨x17,l⟩
 ·simp at h
 rcases l with _|⟨x18,l⟩
 ·simp at h
 rcases l with _|⟨x19,l⟩
 ·simp at h
 rcases l with _|⟨x20,l⟩
 ·simp at h
 rcases l with _|⟨x21,l⟩
 ·simp at h
 rcases l with _|⟨x22,l⟩
 ·simp at h
 rcases l with _|⟨x23,l⟩
 ·simp at h
 rcases l with _|⟨x24,l⟩
 ·simp at h
 rcases l with _|⟨x25,l⟩
 ·simp at h
 rcases l with _|⟨x26,l⟩
 ·simp at h
 rcases l with _|⟨x27,l⟩
 ·simp at h
 rcases l with _|⟨x28,l⟩
 ·simp at h
 rcases l with _|⟨x29,l⟩
 ·simp at h
 rcases l with _|⟨x30,l⟩
 ·simp at h
 rcases l with _|⟨x31,l⟩
 ·simp at h
 rcases l with _|⟨x32,l⟩
 ·simp at h
 rcases l with _|⟨x33,l⟩
 ·simp at h
 rcases l with _|⟨x34,l⟩
 ·simp at h
 rcases l with _|⟨x35,l⟩
 ·simp at h
 rcases l with _|⟨x36,l⟩
 ·simp at h
 rcases l with _|⟨x37,l⟩
 ·simp at h
 rcases l with _|⟨x38,l⟩
 ·simp at h
 rcases l with _|⟨x39,l⟩
 ·simp at h
 rcases l with _|⟨x40,l⟩
 ·simp at h
 rcases l with _|⟨x41,l⟩
 ·simp at h
 rcases l with _|⟨x42,l⟩
 ·simp at h
 rcases l with _|⟨x43,l⟩
 ·simp at h
 rcases l with _|⟨x44,l⟩
 ·simp at h
 rcases l with _|⟨x45,l⟩
 ·simp at h
 obtain rfl:l=[]:=List.eq_nil_of_length_eq_zero (by simpa using h)
 grind
theorem QF{P:Program}{f:FuncId}(hb:nN P f=true)(args:Array Value)(w:World):(callFunc f args).run P w=.ok (.enter f args) w:=by
 unfold nN at hb
 split at hb
 ·rename_i fn hfn
  simp only[Bool.and_eq_true,Bool.not_eq_true'] at hb
  cases hbd:fn.body with
  |none=>grind
  |some bd=>exact enters_of hfn hb.1 hbd args w
 cases hb
def qJ(vals:List Value)(hdr:Value):Rsc where
 At:=fun _ w _ _ F _=>w.ownsRow 0 1 1 hdr vals.length vals∧∀x,F x↔hdr.ownBlock=some x
 mono:=fun⟨h1,h2⟩ _ k=>⟨lu h1 fun g hg=>k g ((h2 g).2 hg),h2⟩
 lt:=fun⟨h1,h2⟩ x hx=>(World.ownsRow.lt h1 x ((h2 x).1 hx)).2
noncomputable def pq(a:Int)(x:List (ByteArray×ah))(z:List (ByteArray×au)):List Und→List ak→aZ→Option (List ak×aZ)
 |[],q,d=>some (q,d)
 |u::r,q,d=>match QE a x z u q d with
  |none=>none
  |some y=>pq a x z r y.1 y.2
set_option maxRecDepth 100000 in
set_option maxHeartbeats 4000000 in
theorem adC{c:Ctx}(hc:c.Ok)(hP:c.P=Tryz.prog)(hG:c.G=GI)(a:Int)(x:List (ByteArray×ah))(z:List (ByteArray×au))(R:List Slot)(us:List Und)(vals:List Value)(hdr:Value)(hR0:R[0]?=some (.res (qJ vals hdr) none))(hlen:us.length=vals.length)(err:Int)(Q:Exit→Act→World→Prop):
 ∀(k:Nat),k≤us.length→∀(q:List ak) (d:aZ) (e:Env) (C:Nat→List Value) (w:World) (ac:Act),ac.tmps.size=46→ac.defers=[]→ac.tmps[7]?=some hdr→ac.tmps[12]?=some (.int .i64 ((k:Int)-1))→ac.tmps[11]?=some (.int .i64 err)→Mem c e C (H4 a q d x z++R) w→
  (∀(m:Nat) (u:Und),us[m]?=some u→∃av v,UAt R u av∧VR e av v∧vals[m]?=some v)→∀(q':List ak) (d':aZ),pq a x z (us.take k).reverse q d=some (q',d')→
  (∀ac' w' e' C',ac'.tmps.size=46→ac'.defers=[]→ac'.tmps[11]?=some (.int .i64 err)→Mem c e' C' (H4 a q' d' x z++R) w'→Q (.exit 2) ac' w')→
  LoopIn Tryz.prog (Code.sub (bodyC Tryz.f71) [1,1,0,1,0,0,1,1,0,0,1,1,0,1,0,0,1,0,0]) Q ac w:=by
 intro k
 induction k with
 |zero=>
  intro _ q d e C w ac hsz hdf h7 h12 h11 hM _ q' d' hu hQ
  obtain⟨⟨tm⟩,df⟩:=ac
  obtain⟨x0,x1,x2,x3,x4,x5,x6,x7,x8,x9,x10,x11,x12,x13,x14,x15,x16,x17,x18,x19,x20,x21,x22,x23,x24,x25,x26,x27,x28,x29,x30,x31,x32,x33,x34,x35,x36,x37,x38,x39,x40,x41,x42,x43,x44,x45,rfl⟩:=vk tm (by simpa using hsz)
  obtain rfl:df=[]:=hdf
  obtain rfl:x7=hdr:=by simpa using h7
  obtain rfl:x12=.int .i64 (-1):=by simpa using h12
  obtain rfl:x11=.int .i64 err:=by simpa using h11
  injection hu with hu;injection hu with h1 h2;subst h1 h2
  clear h7 h12 h11 hsz
  refine LoopIn.step ?_
  change Code.wp _ (Code.seq _ _) _ _ _
  go_wp2
  exact hQ _ _ e C rfl rfl rfl hM
 |succ k ih=>
  intro hk q d e C w ac hsz hdf h7 h12 h11 hM hU q' d' hu hQ
  obtain⟨⟨tm⟩,df⟩:=ac
  obtain⟨x0,x1,x2,x3,x4,x5,x6,x7,x8,x9,x10,x11,x12,x13,x14,x15,x16,x17,x18,x19,x20,x21,x22,x23,x24,x25,x26,x27,x28,x29,x30,x31,x32,x33,x34,x35,x36,x37,x38,x39,x40,x41,x42,x43,x44,x45,rfl⟩:=vk tm (by simpa using hsz)
  obtain rfl:df=[]:=hdf
  obtain rfl:x7=hdr:=by simpa using h7
  obtain rfl:x12=.int .i64 (k:Int):=by
   have h:=h12
   rw[show((k+1:Nat):Int)-1=(k:Int) by omega] at h
   simpa using h
  obtain rfl:x11=.int .i64 err:=by simpa using h11
  have hku:k<us.length:=hk
  have hkv:k<vals.length:=by omega
  have htk:(us.take (k+1)).reverse=us[k]::(us.take k).reverse:=by
   rw[List.take_succ_eq_append_getElem hku,List.reverse_append];rfl
  rw[htk] at hu
  obtain⟨av,v,hat,hv,hvk⟩:=hU k us[k] (List.getElem?_eq_getElem hku)
  cases hy:QE a x z us[k] q d with
  |none=>unfold pq at hu;rw[hy] at hu;cases hu
  |some y=>
   obtain⟨q1,d1⟩:=y
   unfold pq at hu
   rw[hy] at hu
   obtain⟨f,cs,rfl,hcb,hcall⟩:=Za hc hP hG hM hat hv hy
   rw[hP] at hcall
   obtain⟨u0,⟨hrow,hF⟩,_⟩:=hM.hw 4 (.res (qJ vals x7) none) (by rw[gY (Nat.le_refl 4)];exact hR0)
   rcases hrow.2 with⟨_,h0⟩|⟨g,cap,cur,hx7,_,hg,hnc,hcm,hcs,hct⟩
   ·omega
   have hcell:w.cell? ⟨g,k,none⟩=some (.func (.func f) #[] cs):=jg hg (by
    have h1:(cur.toList.take (vals.length*1))[k]?=some (.func (.func f) #[] cs):=by rw[hct];exact hvk
    rw[List.getElem?_take] at h1
    split at h1
    ·exact h1
    cases h1)
   have hkl:(k:Int)<(vals.length:Int):=by omega
   have hw1:IntKind.i64.wrap ((k:Int)-1)=(k:Int)-1:=by unfold maxLen at hcm;rw[IntKind.wrap_i64];omega
   subst hx7
   have HIH:=Go.Lib.hid ih
   have HU:=Go.Lib.hid hU
   have Hu:=Go.Lib.hid hu
   have Hhat:=Go.Lib.hid hat
   clear h7 h12 h11 hsz ih hU hu hat hv hvk hct hrow hF hy htk
   refine LoopIn.step ?_
   change Code.wp _ (Code.seq _ _) _ _ _
   have hcf:=QF hcb cs w
   go_wp2
   refine Calls.mono hcall ?_
   rintro en w' ⟨e',C',rfl,hM',hle⟩
   go_wp2
   have hM2:Mem c e' C' (H4 a q1 d1 x z++R) w':=hM'
   refine HIH.out (by omega) q1 d1 e' C' w' _ rfl rfl rfl rfl rfl hM2 (fun m u hm=>?_) q' d' Hu.out hQ
   obtain⟨av2,v2,p1,p2,p3⟩:=HU.out m u hm
   exact⟨av2,v2,p1,VR.mono hle _ _ p2,p3⟩
end Go.Proofs.YtpdlghcgekojlaaGreatDoor
namespace Go.Proofs.YtpdlghcgekojlaaGreatDoor
open Go.RowKit
section
variable {nt:Nat} {el:Env} {Cl:Nat→List Value} {H:List Slot} {w:World} {k0:Nat} {hk:∀b,el.ok b→b<k0}
theorem aii(hM:mY el Cl H w)(hG:GI el.I):Mem (mkC Tryz.prog GI TTc nt (k0:=k0) ⟨w,el.I,blks el H,el,hk,[]⟩) el Cl H w where
 hv:=hM.hv
 hw:=hM.hw
 bound:=hM.bound
 inj:=hM.inj
 av:=hM.av
 mine:=fun b s g hs hg=>.inr ⟨b,s,hs,hg⟩
 inv:=hM.inv
 le:=Le.refl _
 fresh:=fun b o v m1 m2=>by
  have m2:el.I b o=none:=m2
  grind
 ch:=Only.refl _ w
 g:=hG
 bse:=fun b hb=>⟨hb,rfl,rfl,fun _ _ h=>h⟩
theorem amb{e':Env}{C':Nat→List Value}{H':List Slot}{w':World}(hM:Mem (mkC Tryz.prog GI TTc nt (k0:=k0) ⟨w,el.I,blks el H,el,hk,[]⟩) e' C' H' w'):GrH el H e' H' w w'∧mY e' C' H' w':=
 ⟨⟨⟨fun b hb=>(hM.bse b hb).1,fun b hb=>(hM.bse b hb).2.1,fun b hb=>(hM.bse b hb).2.2.1,hM.le,fun b hb j v h=>(hM.bse b hb).2.2.2 j v h⟩,hM.ch,hM.fresh,fun g ⟨b,s,hs,hg⟩=>hM.mine b s g hs hg⟩,
  ⟨hM.hv,hM.hw,hM.bound,hM.inj,hM.av,hM.inv⟩⟩
end
theorem amc{nt:Nat}{c:Ctx}(hc:c.Ok)(hG:c.G=GI){e:Env}{C:Nat→List Value}{w:World}{a:Int}{q:List ak}{d:aZ}{x:List (ByteArray×ah)}{z:List (ByteArray×au)}{R:List Slot}(hM:Mem c e C (H4 a q d x z++R) w){Hl:List Slot}(hlen:Nat.ble 4 Hl.length=true)(hnf:Hl.all Slot.jv=true):
 ∃(el:Env) (Cl:Nat→List Value) (hk:∀b,el.ok b→b<4),el.I=e.I∧(∀ds vs,oO [0,1,2,3] ds=true→VRs e ds vs→VRs el (kX (posB [0,1,2,3]) ds) vs)∧Mem (mkC Tryz.prog GI TTc nt (k0:=4) ⟨w,el.I,blks el (H4 a q d x z),el,hk,[]⟩) el Cl (H4 a q d x z) w∧
  ∀e2 C2 w',Mem (mkC Tryz.prog GI TTc nt (k0:=4) ⟨w,el.I,blks el (H4 a q d x z),el,hk,[]⟩) e2 C2 Hl w'→∃e' C',Mem c e' C' (newH [0,1,2,3] (H4 a q d x z++R) Hl) w'∧e.le e'∧∀r v,VR e2 r v→VR e' (r.ren (jw [0,1,2,3] (4+R.length))) v:=by
 have hl:kY [0,1,2,3] (H4 a q d x z++R)=H4 a q d x z:=rfl
 obtain⟨el,Cl,elI,hML,hren,hback⟩:=hM.via hc (bs:=[0,1,2,3]) (Hl:=Hl) rfl rfl hlen hnf
 rw[hl] at hML hback
 have hk:∀b,el.ok b→b<4:=fun b hb=>hML.bound b hb
 refine⟨el,Cl,hk,elI,hren,aii hML (by rw[elI,←hG];exact hM.g),fun e2 C2 w' h2=>?_⟩
 obtain⟨g,hM2⟩:=amb h2
 obtain⟨e',C',hMem,hK,hb,_⟩:=hback e2 C2 w' g hM2
 exact⟨e',C',hMem,hK.le,fun r v h=>by
  have:=hb r v h
  rw[List.length_append,adz] at this
  exact this⟩
theorem Xo{a:Int}{q:List ak}{d:aZ}{x:List (ByteArray×ah)}{z:List (ByteArray×au)}{R:List Slot}{q':List ak}{d':aZ}{N:List Slot}:
 newH [0,1,2,3] (H4 a q d x z++R) (H4 a q' d' x z++N)=H4 a q' d' x z++(R++N.map (·.ren (jw [0,1,2,3] (4+R.length)))):=by
 have h0:∀(k:Nat) (l:List Slot),4≤k→oldH [0,1,2,3] (4+R.length) (H4 a q' d' x z++N) k l=l:=by
  intro k l
  induction l generalizing k with
  |nil=>intro _;rfl
  |cons s r ih=>
   intro hk
   unfold oldH
   grind
 unfold newH
 have hlen:(H4 a q d x z++R).length=4+R.length:=by rw[List.length_append,adz]
 rw[hlen]
 show _::_::_::_::oldH [0,1,2,3] (4+R.length) (H4 a q' d' x z++N) 4 R++_=_
 rw[h0 4 R (Nat.le_refl 4)]
 rfl
end Go.Proofs.YtpdlghcgekojlaaGreatDoor
namespace Go.Proofs.YtpdlghcgekojlaaGreatDoor
open Go.RowKit
abbrev Alt:=Unit⊕(aZ×ByteArray)⊕List ak⊕List ak⊕List ak
noncomputable def pz(w:ay)(q:List ak)(d:aZ):Alt→Und×List ak×aZ
 |.inl _=>(.noop,q,d)
 |.inr (.inl y)=>(.doc (aI w.aT d.dir) y.2,q,y.1)
 |.inr (.inr (.inl q'))=>(.create q w,q',d.make w.gy.fName)
 |.inr (.inr (.inr (.inl q')))=>(.drop q (aI w.aT d.dir) w,q',d.unlink w.aT)
 |.inr (.inr (.inr (.inr q')))=>(.idx q,q',d)
theorem aj0(a:Int)(d:aZ)(j:Int)(l:List ay)(q:List ak)(t:Int)(v:Value)(w:ay)(x:List (ByteArray×ah))(z:List (ByteArray×au)){r:Int⊕Alt}(h:Q3 w t a q d x z=some r):U1 a d j l q t v w x z=some r:=by
 unfold U1 FD
 simp only[Mo.den]
 generalize Q3 w t a q d x z=m at h
 subst h
 rcases r with r|r|r|r|r|r<;>rfl
theorem kK(R:Nat)(i:Nat):jw [0,1,2,3] (4+R) (4+i)=4+R+i:=by
 unfold jw
 simp
theorem pF{R N:List Slot}{ρ:Nat→Nat}{i:Nat}{s:Slot}(h:N[i]?=some s):(R++N.map (·.ren ρ))[4+R.length+i-4]?=some (s.ren ρ):=by
 grind
set_option maxHeartbeats 1000000 in
theorem aj1(a:Int)(d:aZ)(j:Int)(l:List ay)(q:List ak)(t:Int)(v:Value)(w:ay)(x:List (ByteArray×ah))(z:List (ByteArray×au))(alt:Alt):
 ∃av N,anJ a d j l q t v w x z (.inr alt)=⟨[(0,.ptr 0 0),(2,.lf (.int .i64 t)),(7,.raw v),(10,av),(11,.lf (.int .i64 0)),(13,.lf (.rows 78 (l.map ay.lf))),(14,.lf (.int .i64 (l.length:Int))),(15,.lf (.int .i64 j))],H4 a (pz w q d alt).2.1 (pz w q d alt).2.2 x z++N⟩∧N.all Slot.jv=true∧
  ∀(R:List Slot) (e:Env) (u:Value),VR e (av.ren (jw [0,1,2,3] (4+R.length))) u→∃av',UAt (R++N.map (·.ren (jw [0,1,2,3] (4+R.length)))) (pz w q d alt).1 av'∧VR e av' u:=by
 rcases alt with o|o|o|o|o
 ·refine⟨_,[.dead],rfl,rfl,fun R e u hu=>⟨_,rfl,?_⟩⟩
  have hu:VR e (.raw (.func (.func 177) #[] #[])) u:=hu
  unfold VR at hu
  exact VR.clo.2 ⟨[],hu,VRs.nil⟩
 ·refine⟨_, _, rfl, rfl, fun R e u hu=>⟨_, ⟨4+R.length+4, 4+R.length+5, by omega, by omega, by omega, rfl, pF (i:=4) (s:=.box 139 (.agg [.hnd 1 (aI w.aT d.dir)])) rfl, pF (i:=5) (s:=.box 9 (.dat [.str o.2])) rfl⟩, ?_⟩⟩
  rw[←kK R.length 4,←kK R.length 5]
  exact hu
 ·refine⟨_, _, rfl, rfl, fun R e u hu=>⟨_, ⟨4+R.length+3, 4+R.length+1, 4+R.length+2, by omega, by omega, by omega, by omega, by omega, by omega, rfl, pF (i:=3) (s:=.box 28 (.dat [.rows 25 (q.map ak.lf)])) rfl, pF (i:=1) (s:=.box 26 (.agg [.ptr 0 0])) rfl, pF (i:=2) (s:=.box 64 (.dat (ay.lf1 w))) rfl⟩, ?_⟩⟩
  rw[←kK R.length 3,←kK R.length 1,←kK R.length 2]
  exact hu
 ·refine⟨_, _, rfl, rfl, fun R e u hu=>⟨_, ⟨4+R.length+3, 4+R.length+1, 4+R.length+4, 4+R.length+2, by omega, by omega, by omega, by omega, by omega, by omega, by omega, by omega, by omega, by omega, rfl, pF (i:=3) (s:=.box 28 (.dat [.rows 25 (q.map ak.lf)])) rfl, pF (i:=1) (s:=.box 26 (.agg [.ptr 0 0])) rfl, pF (i:=4) (s:=.box 139 (.agg [.hnd 1 (aI w.aT d.dir)])) rfl, pF (i:=2) (s:=.box 64 (.dat (ay.lf1 w))) rfl⟩, ?_⟩⟩
  rw[←kK R.length 3,←kK R.length 1,←kK R.length 4,←kK R.length 2]
  exact hu
 refine⟨_, _, rfl, rfl, fun R e u hu=>⟨_, ⟨4+R.length+3, 4+R.length+1, by omega, by omega, by omega, rfl, pF (i:=3) (s:=.box 28 (.dat [.rows 25 (q.map ak.lf)])) rfl, pF (i:=1) (s:=.box 26 (.agg [.ptr 0 0])) rfl⟩, ?_⟩⟩
 rw[←kK R.length 3,←kK R.length 1]
 exact hu
theorem ag4{R R':Rsc}{el:Env}{Cl:Nat→List Value}{w w':World}(hM:mY el Cl [.res R none] w){im':Nat→Option Nat}{F':Nat→Prop}{v1:Value}(hA:R'.At el.I w' (el.m 0) im' F' v1)(him:∀j x,el.im 0 j=some x→im' j=some x)(hO:Only (el.fp 0) w w')(hF:∀x,F' x→w.heap.size≤x∨el.fp 0 x):
 ∃e2,GrH el [.res R none] e2 [.res R' none] w w'∧mY e2 Cl [.res R' none] w':=by
 have h0:el.ok 0:=hM.hv 0 _ rfl
 have hav:∀x,el.fp 0 x→Av el.I x:=fun x hx=>hM.av 0 _ x rfl hx
 have hFb:blks el [.res R none]=el.fp 0:=by
  funext x;apply propext
  constructor
  ·rintro⟨b,s,hb,hx⟩
   obtain⟨rfl,rfl⟩:=jH hb
   exact hx
  exact fun hx=>⟨0,_,rfl,hx⟩
 refine⟨{ el with im:=fun b=>if b=0 then im' else el.im b,fp:=fun b=>if b=0 then F' else el.fp b },⟨⟨fun _ h=>h,fun _ _=>rfl,fun _ _=>rfl,Le.refl _,fun b _ j x hx=>?_⟩,by rw[hFb];exact hO,fun b o u m1 m2=>(by rw[m2] at m1;cases m1),fun x hx=>?_⟩,⟨fun b s hs=>?_,fun b s hs=>?_,fun b hb=>hM.bound b hb,fun b b' s s' g h1 h2 _ _=>?_,fun b s x hs hx=>?_,hM.inv.O6 hO hav⟩⟩
 ·grind
 ·rw[hFb]
  obtain⟨b,s,hb,hx⟩:=hx
  obtain⟨rfl,rfl⟩:=jH hb
  exact hF x hx
 ·obtain⟨rfl,rfl⟩:=jH hs
  exact h0
 ·obtain⟨rfl,rfl⟩:=jH hs
  exact⟨v1,hA,fun _ h=>by cases h⟩
 ·grind
 obtain⟨rfl,rfl⟩:=jH hs
 rcases hF x hx with h1|h1
 ·exact hM.inv.av h1
 grind
theorem ag5{c:Ctx}(hc:c.Ok){e:Env}{C:Nat→List Value}{w w':World}{a:Int}{q:List ak}{d:aZ}{x:List (ByteArray×ah)}{z:List (ByteArray×au)}{R:List Slot}{vals vals':List Value}{hdr hdr':Value}(hM:Mem c e C (H4 a q d x z++.res (qJ vals hdr) none::R) w)
 (hg:w.grownBy w' hdr.ownBlock) (ho:w'.ownsRow 0 1 1 hdr' vals'.length vals') (hb:∀g,hdr'.ownBlock=some g→hdr.ownBlock=some g∨w.heap.size≤g):
 ∃e' C',Mem c e' C' (H4 a q d x z++.res (qJ vals' hdr') none::R) w'∧e.le e':=by
 obtain⟨el,Cl,elI,hML,hren,hback⟩:=hM.via hc (bs:=[4]) (Hl:=[.res (qJ vals' hdr') none]) rfl rfl rfl rfl
 have hl:kY [4] (H4 a q d x z++.res (qJ vals hdr) none::R)=[.res (qJ vals hdr) none]:=rfl
 rw[hl] at hML hback
 obtain⟨v0,⟨hrow,hF⟩,_⟩:=hML.hw 0 (.res (qJ vals hdr) none) rfl
 obtain⟨e2,g1,g2⟩:=ag4 (R':=qJ vals' hdr') hML (w':=w') (im':=el.im 0) (F':=fun y=>hdr'.ownBlock=some y) (v1:=undef) ⟨ho,fun _=>Iff.rfl⟩ (fun _ _ h=>h)
  ⟨hg.os,hg.tape,hg.output,hg.size,fun i hi hn=>hg.block i hi fun he=>hn ((hF i).2 he.symm)⟩ (fun y hy=>by
   rcases hb y hy with h|h
   ·exact .inr ((hF y).2 h)
   exact .inl h)
 obtain⟨e',C',hMem,hK,_,_⟩:=hback e2 Cl w' g1 g2
 refine⟨e',C',?_,hK.le⟩
 rw[Aa (H':=H4 a q d x z++.res (qJ vals' hdr') none::R) (by simp[H4]) (Nat.le_refl _)] at hMem
 ·exact hMem
 ·intro b hb
  have hb:b=4:=by simpa using hb
  subst hb
  rfl
 intro b hb
 have hb:b≠4:=by simpa using hb
 rcases Nat.lt_or_ge b 4 with h4|h4
 ·have:b=0∨b=1∨b=2∨b=3:=by omega
  rcases this with rfl|rfl|rfl|rfl<;>rfl
 rw[gY h4,gY h4]
 obtain⟨k,hk⟩:∃k,b-4=k+1:=⟨b-5,by omega⟩
 rw[hk];rfl
theorem UAt.clo{R:List Slot}{u:Und}{av:AV}(h:UAt R u av):∃f cs,av=.clo f cs:=by
 cases u with
 |noop=>exact⟨_,_,h⟩
 |doc o s=>obtain⟨i,j,_,_,_,h,_⟩:=h;exact⟨_,_,h⟩
 |create q w=>obtain⟨i,j,k,_,_,_,_,_,_,h,_⟩:=h;exact⟨_,_,h⟩
 |drop q o w=>obtain⟨i,j,k,m,_,_,_,_,_,_,_,_,_,_,h,_⟩:=h;exact⟨_,_,h⟩
 |idx q=>obtain⟨i,j,_,_,_,h,_⟩:=h;exact⟨_,_,h⟩
theorem Xp{vals vals':List Value}{h h':Value}{R:List Slot}{u:Und}{av:AV}(k:UAt (.res (qJ vals h) none::R) u av):UAt (.res (qJ vals' h') none::R) u av:=by
 have q:∀(i:Nat) (s:Slot),(∀R lk,s≠.res R lk)→(.res (qJ vals h) none::R:List Slot)[i]?=some s→(.res (qJ vals' h') none::R:List Slot)[i]?=some s:=fun i s hs e=>by
  cases i with
  |zero=>grind
  |succ i=>exact e
 have nb:∀ty cs,∀R lk,(.box ty cs:Slot)≠.res R lk:=fun _ _ _ _ e=>by cases e
 cases u with
 |noop=>exact k
 |doc o s=>obtain⟨i,j,a1,a2,a3,a4,a5,a6⟩:=k;exact⟨i,j,a1,a2,a3,a4,q _ _ (nb _ _) a5,q _ _ (nb _ _) a6⟩
 |create qq w=>obtain⟨i,j,m,a1,a2,a3,a4,a5,a6,a7,a8,a9,b1⟩:=k;exact⟨i,j,m,a1,a2,a3,a4,a5,a6,a7,q _ _ (nb _ _) a8,q _ _ (nb _ _) a9,q _ _ (nb _ _) b1⟩
 |drop qq o w=>obtain⟨i,j,m,n,a1,a2,a3,a4,a5,a6,a7,a8,a9,b1,b2,b3,b4,b5,b6⟩:=k;exact⟨i,j,m,n,a1,a2,a3,a4,a5,a6,a7,a8,a9,b1,b2,q _ _ (nb _ _) b3,q _ _ (nb _ _) b4,q _ _ (nb _ _) b5,q _ _ (nb _ _) b6⟩
 |idx qq=>obtain⟨i,j,a1,a2,a3,a4,a5,a6⟩:=k;exact⟨i,j,a1,a2,a3,a4,q _ _ (nb _ _) a5,q _ _ (nb _ _) a6⟩
theorem adD{n m:Nat}(hn:n≤maxLen)(h:m≤n):(Lit.int .i64 (m:Int)).wf=true:=Tt (Nat.le_trans h hn)
noncomputable def yF(a:Int)(x:List (ByteArray×ah))(z:List (ByteArray×au))(t:Int):List ay→List Und→List ak→aZ→Option (Int×List ak×aZ)
 |[],_,q,d=>some (0,q,d)
 |w::r,us,q,d=>match Q3 w t a q d x z with
  |none=>none
  |some (.inl err)=>bif err==0 then none else(pq a x z us.reverse q d).map fun y=>(err,y.1,y.2)
  |some (.inr alt)=>yF a x z t r (us++[(pz w q d alt).1]) (pz w q d alt).2.1 (pz w q d alt).2.2
set_option maxRecDepth 100000 in
set_option maxHeartbeats 4000000 in
theorem Zb{c:Ctx}(hc:c.Ok)(hP:c.P=Tryz.prog)(hG:c.G=GI)(a:Int)(x:List (ByteArray×ah))(z:List (ByteArray×au))(t:Int)(ht:(Lit.int .i64 t).wf=true)(l:List ay)(hll:l.length≤maxLen)(hbig:(l.length+1)*8≤140737488355328)(err:Int)(q':List ak)(d':aZ)(Q:Exit→Act→World→Prop)
 (hE:err=0→∀ac' w' e' C' R',ac'.tmps.size=46→ac'.defers=[]→Mem c e' C' (H4 a q' d' x z++R') w'→Q (.exit 0) ac' w')
 (hR:∀ac' w' e' C' R',(Lit.int .i64 err).wf=true→ac'.defers=[]→ac'.tmps[6]?=some (.int .i64 err)→Mem c e' C' (H4 a q' d' x z++R') w'→Q .ret ac' w'):
 ∀(n j:Nat),j+n=l.length→∀(R:List Slot) (us:List Und) (vals:List Value) (hdr:Value) (q:List ak) (d:aZ) (e:Env) (C:Nat→List Value) (w:World) (ac:Act),ac.tmps.size=46→ac.defers=[]→(∃v0,ac.tmps[0]?=some v0∧VR e (.ptr 0 0) v0)→ac.tmps[2]?=some (.int .i64 t)→ac.tmps[7]?=some hdr→
  (∃v,ac.tmps[13]?=some v∧VR e (.lf (.rows 78 (l.map ay.lf))) v)→ac.tmps[14]?=some (.int .i64 (l.length:Int))→ac.tmps[15]?=some (.int .i64 (j:Int))→Mem c e C (H4 a q d x z++.res (qJ vals hdr) none::R) w→us.length=vals.length→us.length=j→
  (∀(m:Nat) (u:Und),us[m]?=some u→∃av v,UAt (.res (qJ vals hdr) none::R) u av∧VR e av v∧vals[m]?=some v)→yF a x z t (l.drop j) us q d=some (err,q',d')→
  LoopIn Tryz.prog (Code.sub (bodyC Tryz.f71) [1,1,0,1,0,0]) Q ac w:=by
 intro n
 induction n with
 |zero=>
  intro j hj R us vals hdr q d e C w ac hsz hdf h0 h2 h7 h13 h14 h15 hM hl1 hl2 hU hb
  obtain⟨⟨tm⟩,df⟩:=ac
  obtain⟨x0,x1,x2,x3,x4,x5,x6,x7,x8,x9,x10,x11,x12,x13,x14,x15,x16,x17,x18,x19,x20,x21,x22,x23,x24,x25,x26,x27,x28,x29,x30,x31,x32,x33,x34,x35,x36,x37,x38,x39,x40,x41,x42,x43,x44,x45,rfl⟩:=vk tm (by simpa using hsz)
  obtain rfl:df=[]:=hdf
  obtain rfl:x14=.int .i64 (l.length:Int):=by simpa using h14
  obtain rfl:x15=.int .i64 (j:Int):=by simpa using h15
  rw[List.drop_eq_nil_of_le (by omega)] at hb
  injection hb with hb;injection hb with h1 h2;injection h2 with h2 h3;subst h1 h2 h3
  have hlt:¬((j:Int)<(l.length:Int)):=by omega
  clear h0 h2 h7 h13 h14 h15 hsz hU
  refine LoopIn.step ?_
  change Code.wp _ (Code.seq _ _) _ _ _
  go_wp2
  exact hE (by trivial) _ _ e C _ rfl rfl hM
 |succ n ih=>
  intro j hj R us vals hdr q d e C w ac hsz hdf h0 h2 h7 h13 h14 h15 hM hl1 hl2 hU hb
  obtain⟨⟨tm⟩,df⟩:=ac
  obtain⟨x0,x1,x2,x3,x4,x5,x6,x7,x8,x9,x10,x11,x12,x13,x14,x15,x16,x17,x18,x19,x20,x21,x22,x23,x24,x25,x26,x27,x28,x29,x30,x31,x32,x33,x34,x35,x36,x37,x38,x39,x40,x41,x42,x43,x44,x45,rfl⟩:=vk tm (by simpa using hsz)
  obtain rfl:df=[]:=hdf
  obtain rfl:x2=.int .i64 t:=by simpa using h2
  obtain rfl:x7=hdr:=by simpa using h7
  obtain rfl:x14=.int .i64 (l.length:Int):=by simpa using h14
  obtain rfl:x15=.int .i64 (j:Int):=by simpa using h15
  have hjl:j<l.length:=by omega
  have hlt:(j:Int)<(l.length:Int):=by omega
  rw[List.drop_eq_getElem_cons hjl] at hb
  obtain⟨w0,hw0⟩:∃w0,w0=l[j]:=⟨_,rfl⟩
  rw[←hw0] at hb
  unfold yF at hb
  cases hs:Q3 w0 t a q d x z with
  |none=>rw[hs] at hb;cases hb
  |some r=>
  rw[hs] at hb
  have hJ0:U0 a d j l q t x7 x z=some w0:=by
   unfold U0 FC
   simp only[Mo.den]
   have hg:jf l (j:Int)=some w0:=by rw[hw0];unfold jf;simp[hjl]
   generalize jf l (j:Int)=m at hg
   subst hg;rfl
  have hJ5:=aj0 a d j l q t x7 w0 x z hs
  have hlen:Nat.ble 4 (anJ a d j l q t x7 w0 x z r).H.length=true:=by rcases r with r|r|r|r|r|r<;>rfl
  have hnf:(anJ a d j l q t x7 w0 x z r).H.all Slot.jv=true:=by rcases r with r|r|r|r|r|r<;>rfl
  obtain⟨el,Cl,hk,elI,hren,hm4,hback⟩:=amc (nt:=Tryz.f71.ntmps) hc hG hM hlen hnf
  obtain⟨v0,h0a,h0b⟩:=h0
  obtain⟨v13,h13a,h13b⟩:=h13
  obtain rfl:x0=v0:=by simpa using h0a
  obtain rfl:x13=v13:=by simpa using h13a
  have hv0:=VRs.mP (hren [.ptr 0 0] [x0] rfl (VRs.one h0b))
  have hv13:=VRs.mP (hren [.lf (.rows 78 (l.map ay.lf))] [x13] rfl (VRs.one h13b))
  obtain⟨c0,r0,e0,k0,hq0⟩:=hv0
  obtain rfl:=VRs.xk hq0
  obtain rfl:x0=c0:=by injection e0
  obtain⟨c13,r13,e13,k13,hq13⟩:=hv13
  obtain rfl:=VRs.xk hq13
  obtain rfl:x13=c13:=by injection e13
  clear e0 e13 hq0 hq13
  obtain⟨r4,hr4⟩:∃r4,r4=Code.sub (bodyC Tryz.f71) [1,1,0,1,0,0,1,1,0,0,0]:=⟨_,rfl⟩
  obtain⟨r5,hr5⟩:∃r5,r5=Code.sub (bodyC Tryz.f71) [1,1,0,1,0,0,1,1,0,0,1,0]:=⟨_,rfl⟩
  obtain⟨r6,hr6⟩:∃r6,r6=Code.sub (bodyC Tryz.f71) [1,1,0,1,0,0,1,1,0,0,1,1]:=⟨_,rfl⟩
  have hbody : Code.sub (bodyC Tryz.f71) [1, 1, 0, 1, 0, 0] = .seq (Code.region 3 #[{ dst := some 16, op := Op.binOp BinOp.lss 3 (Operand.tmp 15) (Operand.tmp 14) 3, type := 0, pos := "write.go:34", after := #[], guard := none }] false) (.seq (Code.cond (Operand.tmp 16) Code.skip (Code.exit 0)) (.seq (Code.block 1 (.seq r4 (.seq r5 r6)))
   (Code.region 13 #[{ dst := some 45, op := Op.binOp BinOp.add 3 (Operand.tmp 15) (Operand.const (Value.int IntKind.i64 1)) 3, type := 3, pos := "write.go:34", after := #[], guard := none }, { dst := some 15, op := Op.move (Operand.tmp 45), type := 3, pos := "write.go:34", after := #[{ on := 0, ground := Ground.data }], guard := none }] false))) := by subst hr4 hr5 hr6; kernel_rfl
  have HR4:=Go.Lib.hid hr4
  have HR5:=Go.Lib.hid hr5
  have HR6:=Go.Lib.hid hr6
  have HBD:=Go.Lib.hid hbody
  have HB:=Go.Lib.hid hb
  have HU:=Go.Lib.hid hU
  have HIH:=Go.Lib.hid ih
  have HK:=Go.Lib.hid hback
  have HS:=Go.Lib.hid hs
  have HM4:=Go.Lib.hid hm4
  have HREN:=Go.Lib.hid hren
  have HN:=Go.Lib.hid hnf
  have HJ0:=Go.Lib.hid hJ0
  have HJ5:=Go.Lib.hid hJ5
  refine LoopIn.step ?_
  rw[hbody]
  clear hbody hr4 hr5 hr6 hb hU ih h0a h13a h2 h7 h14 h15 hsz hback hs hm4 hren hnf hlen hJ0 hJ5
  go_wp2
  rw[HR4.out]
  refine Code.wp_mono ?_ (adx HJ0.out ⟨w,el.I,blks el (H4 a q d x z),el,hk,[]⟩ el Cl _ w
   {
    tmp:=fun i v h=>(by
     simp only[lk] at h
     split at h
     ·rename_i hi;obtain rfl:=Nat.eq_of_beq_eq_true hi;injection h with h;subst h;exact⟨_,rfl,k0⟩
     split at h
     ·rename_i hi;obtain rfl:=Nat.eq_of_beq_eq_true hi;injection h with h;subst h;exact⟨_,rfl,VR.lf.2 (by unfold LRp;exact⟨rfl,ht⟩)⟩
     split at h
     ·rename_i hi;obtain rfl:=Nat.eq_of_beq_eq_true hi;injection h with h;subst h;exact⟨_,rfl,by unfold VR;rfl⟩
     split at h
     ·rename_i hi;obtain rfl:=Nat.eq_of_beq_eq_true hi;injection h with h;subst h;exact⟨_,rfl,k13⟩
     split at h
     ·rename_i hi;obtain rfl:=Nat.eq_of_beq_eq_true hi;injection h with h;subst h;exact⟨_,rfl,VR.lf.2 (by unfold LRp;exact⟨rfl,adD hll (Nat.le_refl _)⟩)⟩
     split at h
     ·rename_i hi;obtain rfl:=Nat.eq_of_beq_eq_true hi;injection h with h;subst h;exact⟨_,rfl,VR.lf.2 (by unfold LRp;exact⟨rfl,adD hll (Nat.le_of_lt hjl)⟩)⟩
     cases h)
    size:=(by
     have h:Tryz.f71.ntmps=46:=by kernel_rfl
     show _=Tryz.f71.ntmps
     rw[h]
     simp)
    defers:=rfl
    mem:=HM4.out })
  rintro x' a1 w1 ⟨rfl,e1,C1,hR1⟩
  go_wp2
  rw[HR5.out]
  refine Code.wp_mono ?_ (ady HJ5.out ⟨w,el.I,blks el (H4 a q d x z),el,hk,[]⟩ e1 C1 _ _ hR1)
  rintro x' a2 w2 ⟨hx',e2,C2,hR2⟩
  have hx':x'=.normal:=by rw[hx'];rcases r with r|r|r|r|r|r<;>rfl
  subst hx'
  obtain⟨e3,C3,hM3,hle3,hval3⟩:=HK.out e2 C2 _ hR2.mem
  go_wp2
  cases r with
  |inl er=>
   have hHl:(anJ a d j l q t x7 w0 x z (.inl er)).H=H4 a q d x z++[.dead]:=rfl
   rw[hHl,Xo] at hM3
   have hsz2:a2.tmps.size=46:=by
    have h:Tryz.f71.ntmps=46:=by kernel_rfl
    rw[←h];exact hR2.size
   have hdf2:a2.defers=[]:=hR2.defers
   obtain⟨u7,t7,k7⟩:=hR2.tmp 7 _ rfl
   obtain⟨u11,t11,k11⟩:=hR2.tmp 11 _ rfl
   obtain⟨rfl,hwf⟩:=k11.int
   obtain rfl:u7=x7:=by unfold VR at k7;exact k7
   obtain⟨⟨tm⟩,df⟩:=a2
   obtain⟨y0,y1,y2,y3,y4,y5,y6,y7,y8,y9,y10,y11,y12,y13,y14,y15,y16,y17,y18,y19,y20,y21,y22,y23,y24,y25,y26,y27,y28,y29,y30,y31,y32,y33,y34,y35,y36,y37,y38,y39,y40,y41,y42,y43,y44,y45,rfl⟩:=vk tm (by simpa using hsz2)
   obtain rfl:df=[]:=hdf2
   obtain rfl:y7=u7:=by simpa using t7
   obtain rfl:y11=.int .i64 er:=by simpa using t11
   have hb:(bif er==0 then none else(pq a x z us.reverse q d).map fun y=>(er,y.1,y.2))=some (err,q',d'):=HB.out
   cases her:er==0 with
   |true=>rw[her] at hb;cases hb
   |false=>
   rw[her] at hb
   have hne:¬(er=0):=by simpa using her
   obtain⟨yy,hy,he⟩:=Option.map_eq_some_iff.1 (show(pq a x z us.reverse q d).map (fun y=>(er,y.1,y.2))=some (err,q',d') from hb)
   injection he with he1 he2
   injection he2 with he2 he3
   subst he1 he2 he3
   obtain⟨_,⟨hrow,_⟩,_⟩:=hM3.hw 4 (.res (qJ vals y7) none) (by rw[gY (Nat.le_refl 4)];rfl)
   have hw1:IntKind.i64.wrap ((vals.length:Int)-1)=(vals.length:Int)-1:=by unfold maxLen at hll;rw[IntKind.wrap_i64];omega
   have HM3:=Go.Lib.hid hM3
   have HY:=Go.Lib.hid hy
   have HWF:=Go.Lib.hid hwf
   have hlv:∃ad cap,y7=.slice ad vals.length cap:=by
    rcases hrow.2 with⟨h1,h2⟩|⟨g,cap,cur,h1,_⟩
    ·exact⟨none,0,by rw[h2];exact h1⟩
    exact⟨_,_,h1⟩
   obtain⟨ad,cap,hlv⟩:=hlv
   subst hlv
   clear hM3 hy hb t7 t11 hsz2 hR2 hHl hrow k7 hwf
   rw[HR6.out]
   change Code.wp _ (Code.seq (Code.seq _ _) _) _ _ _
   go_wp2
   refine LoopIn.loop ?_
   refine adC hc hP hG a x z _ us vals _ rfl hl1 er _ us.length (Nat.le_refl _) q d e3 C3 w2 _ rfl rfl rfl (by rw[hl1];rfl) rfl HM3.out (fun m u hm=>?_) _ _ (by rw[List.take_length];exact HY.out) ?_
   ·obtain⟨av2,v2,p1,p2,p3⟩:=HU.out m u hm
    exact⟨av2,v2,p1.app,VR.mono hle3 _ _ p2,p3⟩
   intro a5 w5 e5 C5 q1 q2 q3 q4
   obtain⟨⟨tm⟩,df⟩:=a5
   obtain⟨z0,z1,z2,z3,z4,z5,z6,z7,z8,z9,z10,z11,z12,z13,z14,z15,z16,z17,z18,z19,z20,z21,z22,z23,z24,z25,z26,z27,z28,z29,z30,z31,z32,z33,z34,z35,z36,z37,z38,z39,z40,z41,z42,z43,z44,z45,rfl⟩:=vk tm (by simpa using q1)
   obtain rfl:df=[]:=q2
   obtain rfl:z11=.int .i64 er:=by simpa using q3
   simp only[Exit.inBlock,Exit.then]
   go_wp2
   exact hR _ _ e5 C5 _ HWF.out rfl rfl q4
  |inr alt=>
   obtain⟨av,N,hS,hN,hUn⟩:=aj1 a d j l q t x7 w0 x z alt
   rw[hS] at hR2
   have hHl:(anJ a d j l q t x7 w0 x z (.inr alt)).H=H4 a (pz w0 q d alt).2.1 (pz w0 q d alt).2.2 x z++N:=by rw[hS]
   rw[hHl,Xo] at hM3
   have hsz2:a2.tmps.size=46:=by
    have h:Tryz.f71.ntmps=46:=by kernel_rfl
    rw[←h];exact hR2.size
   have hdf2:a2.defers=[]:=hR2.defers
   obtain⟨u0,t0,k0⟩:=hR2.tmp 0 _ rfl
   obtain⟨u2,t2,k2⟩:=hR2.tmp 2 _ rfl
   obtain⟨u7,t7,k7⟩:=hR2.tmp 7 _ rfl
   obtain⟨u10,t10,k10⟩:=hR2.tmp 10 _ rfl
   obtain⟨u11,t11,k11⟩:=hR2.tmp 11 _ rfl
   obtain⟨u13,t13,k13⟩:=hR2.tmp 13 _ rfl
   obtain⟨u14,t14,k14⟩:=hR2.tmp 14 _ rfl
   obtain⟨u15,t15,k15⟩:=hR2.tmp 15 _ rfl
   obtain⟨rfl,_⟩:=k2.int
   obtain⟨rfl,_⟩:=k11.int
   obtain⟨rfl,_⟩:=k14.int
   obtain⟨rfl,_⟩:=k15.int
   obtain rfl:u7=x7:=by unfold VR at k7;exact k7
   have k10':=hval3 _ _ k10
   have k0':VR e3 (.ptr 0 0) u0:=hval3 (.ptr 0 0) _ k0
   have k13':VR e3 (.lf (.rows 78 (l.map ay.lf))) u13:=hval3 (.lf (.rows 78 (l.map ay.lf))) _ k13
   obtain⟨⟨tm⟩,df⟩:=a2
   obtain⟨y0,y1,y2,y3,y4,y5,y6,y7,y8,y9,y10,y11,y12,y13,y14,y15,y16,y17,y18,y19,y20,y21,y22,y23,y24,y25,y26,y27,y28,y29,y30,y31,y32,y33,y34,y35,y36,y37,y38,y39,y40,y41,y42,y43,y44,y45,rfl⟩:=vk tm (by simpa using hsz2)
   obtain rfl:df=[]:=hdf2
   obtain rfl:y0=u0:=by simpa using t0
   obtain rfl:y2=.int .i64 t:=by simpa using t2
   obtain rfl:y7=u7:=by simpa using t7
   obtain rfl:y10=u10:=by simpa using t10
   obtain rfl:y11=.int .i64 0:=by simpa using t11
   obtain rfl:y13=u13:=by simpa using t13
   obtain rfl:y14=.int .i64 (l.length:Int):=by simpa using t14
   obtain rfl:y15=.int .i64 (j:Int):=by simpa using t15
   clear t0 t2 t7 t10 t11 t13 t14 t15 hsz2 hR2 hHl hS
   obtain⟨av',hat,hav'⟩:=hUn (.res (qJ vals y7) none::R) e3 y10 k10'
   obtain⟨f,cps,hcl⟩:=hat.clo
   subst hcl
   obtain⟨cs,hy10,_⟩:=VR.clo.1 hav'
   subst hy10
   obtain⟨_,⟨hrow,_⟩,_⟩:=hM3.hw 4 (.res (qJ vals y7) none) (by rw[gY (Nat.le_refl 4)];rfl)
   have hts:Tryz.prog.underlying 192=some (.slice 1):=by kernel_rfl
   obtain⟨i0,hi0,hz0,hzs,hzb⟩:=info_parts (by kernel_rfl:(Tryz.prog.info? 1).map (fun i=>(i.zero,i.size,i.bytes))=some (some .nilFunc,1,8))
   have hvl:vals.length<l.length:=by omega
   have hnews:∀(m:Nat) (u:Value),[Value.func (.func f) #[] cs.toArray][m]?=some u→(w2.alloc (.cells #[Value.func (.func f) #[] cs.toArray] 1)).cell? ((⟨w2.heap.size,0,none⟩:Addr).add m)=some u:=fun m u hm=>by
    cases m with
    |zero=>
     injection hm with hm;subst hm
     rw[Addr.add_lit]
     exact jg (cur:=#[Value.func (.func f) #[] cs.toArray]) (t:=1) (by show(w2.heap.push _)[w2.heap.size]?=_;exact Array.getElem?_push_size) rfl
    |succ m=>simp at hm
   obtain⟨v',w3,hr,hown,hgr,hbk⟩:=rY (P:=Tryz.prog) (w2.alloc (.cells #[Value.func (.func f) #[] cs.toArray] 1)) 192 192 1 i0 _ 1 8 hts hi0 hz0 hzs hzb rfl (by decide) y7 vals.length vals (hrow.alloc _) (some ⟨w2.heap.size,0,none⟩) 1 1 [Value.func (.func f) #[] cs.toArray] rfl (fun h=>by cases h) (fun ad had=>by injection had with had;subst had;exact hnews) (by intro u hu;simp at hu;subst hu;rfl) (by omega) (by omega)
   have hg3:w2.grownBy w3 y7.ownBlock:=World.grownBy.andThen (World.grownBy_alloc w2 _ _) hgr fun k hk=>.inr hk
   have hM4:=ag5 (vals':=vals++[Value.func (.func f) #[] cs.toArray]) (hdr':=v') (w':=w3) hc hM3 hg3 (by rw[List.length_append];exact hown) (fun g hg=>by
    rcases hbk g hg with h|h
    ·exact .inl h
    exact .inr (by rw[h];show w2.heap.size≤(w2.heap.push _).size;rw[Array.size_push];omega))
   obtain⟨e4,C4,hM4,hle4⟩:=hM4
   have HM4b:=Go.Lib.hid hM4
   have HAT:=Go.Lib.hid hat
   have HAV:=Go.Lib.hid hav'
   have HR:=Go.Lib.hid hr
   have HK0:=Go.Lib.hid k0'
   have HK13:=Go.Lib.hid k13'
   have hw1:IntKind.i64.wrap ((j:Int)+1)=((j+1:Nat):Int):=by unfold maxLen at hll;rw[IntKind.wrap_i64];omega
   clear hM3 hM4 hat hav' k10' k10 k0' k13' k0 k13 k7 hown hgr hbk hg3 hr
   rw[HR6.out]
   change Code.wp _ (Code.seq (Code.seq _ _) _) _ _ _
   go_wp2_with (at_builtin;refine Lib.wpList_append_run _ rfl _ _ _ _ rfl _ _ rfl rfl _ _ HR.out ?_)
   rw[←HBD.out]
   refine HIH.out (j+1) (by omega) _ (us++[(pz w0 q d alt).1]) (vals++[Value.func (.func f) #[] cs.toArray]) v' _ _ e4 C4 w3 _ rfl rfl ⟨y0,rfl,VR.mono hle4 _ _ HK0.out⟩ rfl rfl ⟨y13,rfl,VR.mono hle4 _ _ HK13.out⟩ rfl rfl HM4b.out (by simp[hl1]) (by simp[hl2]) (fun m u hm=>?_) HB.out
   rw[List.getElem?_append] at hm
   split at hm
   ·obtain⟨av2,v2,p1,p2,p3⟩:=HU.out m u hm
    exact⟨av2,v2,(Xp p1).app,VR.mono hle4 _ _ (VR.mono hle3 _ _ p2),by rw[List.getElem?_append_left (by omega)];exact p3⟩
   have hm0:m=us.length:=by
    rename_i hlt2
    rcases Nat.eq_or_lt_of_not_lt hlt2 with h|h
    ·exact h
    rw[List.getElem?_eq_none (by simp;omega)] at hm;cases hm
   subst hm0
   rw[Nat.sub_self] at hm
   injection hm with hm;subst hm
   exact⟨_,_,Xp HAT.out,VR.mono hle4 _ _ HAV.out,by rw[hl1,List.getElem?_append_right (Nat.le_refl _),Nat.sub_self];rfl⟩
end Go.Proofs.YtpdlghcgekojlaaGreatDoor
