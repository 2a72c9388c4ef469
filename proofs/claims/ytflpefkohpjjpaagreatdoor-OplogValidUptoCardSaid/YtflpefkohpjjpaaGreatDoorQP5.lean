/- codec.Read, Decode. -/
import Derived.Test.YtflpefkohpjjpaaGreatDoorQPRdRead
import Derived.Test.YtflpefkohpjjpaaGreatDoorQP4
import Derived.Laws.Externs
set_option linter.unusedSimpArgs false
set_option linter.unusedVariables false
namespace Go.Proofs.YtflpefkohpjjpaaGreatDoor
open Go.RowKit
theorem amV(s:ByteArray)(x:Int)(w:World)(hs:s.size≤1000000000000000)(hT:Tabs w):Calls Tryz.prog 144 #[.string s,.int .i64 x] w (Jw w (Xo s x)):=by
 unfold Xo
 by_cases h:x<0∨(s.size:Int)<x
 ·rw[if_pos h];exact aib s x w h hs
 ·rw[if_neg h]
  obtain⟨p,rfl⟩:=Int.eq_ofNat_of_zero_le (show 0≤x by omega)
  exact amU s p w (by omega) hs hT
end Go.Proofs.YtflpefkohpjjpaaGreatDoor
set_option linter.unusedSimpArgs false
set_option linter.unusedVariables false
namespace Go.Proofs.YtflpefkohpjjpaaGreatDoor
open Go.RowKit
noncomputable def aud(s:ByteArray):Option Bool:=some (qg s)
theorem amW(s:ByteArray)(r:Bool)(h:aud s=some r):Fn Tryz.prog GI 276 [.lf (.str s)] (.lf (.bool r)):=by
 injection h with h;subst h
 refine Fn.of (by kernel_rfl) fun I w vs hG hi hvs=>?_
 obtain⟨v,q,rfl,h1,h2⟩:=VRs.Jj hvs
 obtain rfl:=VRs.ahT h2
 obtain⟨rfl,hs⟩:=(VR.lf.1 h1).str
 refine(qE s w hs (hG w hi)).mono ?_
 rintro e w' ⟨rfl,he⟩
 exact⟨I,_,rfl,Gr.Et hi he,VR.lf.2 (by unfold LRp;rfl)⟩
def aaO:List UInt8→List UInt8→Int:=Lib.compareBytes
set_option maxRecDepth 20000 in
set_option maxHeartbeats 4000000 in
theorem amX(a b:ByteArray)(w:World):Calls Tryz.prog 330 #[.string a,.string b] w fun e w'=>e=.returned (.int .i64 (aaO a.data.toList b.data.toList))∧w=w':=by
 go_enter Tryz.func330,Tryz.ntmps330
 go_wp2_with fail
 rw[run_callFunc_extern Tryz.func338 (by kernel_rfl) (by kernel_rfl) (by kernel_rfl) (e:=Extern.BytealgCompare.compare) (by kernel_rfl),Lib.run_compareString]
 simp only[Result.andThen]
 rw[Oper.upon_value]
 go_wp2_with fail
 go_ret
 exact⟨rfl,rfl⟩
set_option maxRecDepth 20000 in
set_option maxHeartbeats 4000000 in
theorem amY(a b:ByteArray)(w:World):Calls Tryz.prog 299 #[.string a,.string b] w fun e w'=>e=.returned (.int .i64 (aaO a.data.toList b.data.toList))∧w=w':=by
 go_enter Tryz.func299,Tryz.ntmps299
 go_wp2_with fail
 refine(amX _ _ _).mono ?_
 rintro e w3 ⟨rfl,rfl⟩
 go_wp2_with fail
 go_ret
 exact⟨rfl,rfl⟩
def AO(a b:ByteArray):Int:=aaO a.data.toList b.data.toList
theorem amZ(a b:ByteArray):(Lit.int .i64 (AO a b)).wf=true:=by
 have h:AO a b = -1∨AO a b=0∨AO a b=1:=by
  unfold AO aaO
  generalize a.data.toList=x
  generalize b.data.toList=y
  induction x generalizing y with
  |nil=>cases y<;>simp[Lib.compareBytes]
  |cons p r ih=>
   cases y with
   |nil=>simp[Lib.compareBytes]
   |cons q s=>
    simp only[Lib.compareBytes]
    have:=ih s
    split<;>(try split)<;>simp_all
 rcases h with h|h|h<;>rw[h]<;>rfl
noncomputable def aqU(a b:ByteArray):Option Int:=some (AO a b)
theorem adG(a b:ByteArray)(r:Int)(h:aqU a b=some r):Fn Tryz.prog GI 299 [.lf (.str a),.lf (.str b)] (.lf (.int .i64 r)):=by
 injection h with h;subst h
 refine Fn.of (by kernel_rfl) fun I w vs hG hi hvs=>?_
 obtain⟨v,q,rfl,h1,h2⟩:=VRs.Jj hvs
 obtain⟨v',q,rfl,h3,h4⟩:=VRs.Jj h2
 obtain rfl:=VRs.ahT h4
 obtain⟨rfl,_⟩:=(VR.lf.1 h1).str
 obtain⟨rfl,_⟩:=(VR.lf.1 h3).str
 refine(amY a b w).mono ?_
 rintro e w' ⟨rfl,rfl⟩
 exact⟨I,_,rfl,Gr.Et hi (Ext.refl w),VR.lf.2 (by unfold LRp;exact⟨rfl,amZ a b⟩)⟩
def aic(s:ByteArray)(x:Int):ah×Int×Int:=((Xo s x).1.gv,(Xo s x).2.1,(Xo s x).2.2)
def okI(n:Int):Bool:=decide (-9223372036854775808≤n)&&decide (n≤9223372036854775807)
theorem aie{n:Int}(h:okI n=true):(Lit.int .i64 n).wf=true:=by
 unfold okI at h
 rw[Bool.and_eq_true,decide_eq_true_iff,decide_eq_true_iff] at h
 exact aaG ⟨h.1,by omega⟩
noncomputable def aqV(s:ByteArray)(x:Int):Option (ah×Int×Int):=bif Nat.ble s.size 1000000000000000&&(okI (aic s x).2.1&&okI (aic s x).2.2) then some (aic s x) else none
theorem adH(s:ByteArray)(x:Int)(r:ah×Int×Int)(h:aqV s x=some r):Fn Tryz.prog GI 144 [.lf (.str s),.lf (.int .i64 x)] (.tup [.dat (ah.lf1 r.1),.lf (.int .i64 r.2.1),.lf (.int .i64 r.2.2)]):=by
 unfold aqV at h
 obtain⟨hg,h⟩:=(afE h).resolve_right (fun k=>by cases k.2)
 obtain⟨hg1,hg2⟩:=Bool.and_eq_true_iff.1 hg
 obtain⟨hg2,hg3⟩:=Bool.and_eq_true_iff.1 hg2
 injection h with h;subst h
 refine Fn.of (by kernel_rfl) fun I w vs hG hi hvs=>?_
 obtain⟨v,q,rfl,h1,h2⟩:=VRs.Jj hvs
 obtain⟨v',q,rfl,h3,h4⟩:=VRs.Jj h2
 obtain rfl:=VRs.ahT h4
 obtain⟨rfl,hs⟩:=(VR.lf.1 h1).str
 obtain⟨rfl,_⟩:=(VR.lf.1 h3).int
 refine(amV s x w (Nat.le_of_ble_eq_true hg1) (hG w hi)).mono ?_
 rintro e w' ⟨v,rfl,hv,he⟩
 obtain⟨cs,rfl,hc⟩:=hv.ghost
 refine⟨newG I w.heap.size w',_,rfl,amx hi he,VR.tup.2 ⟨[.agg cs.toArray,.int .i64 _,.int .i64 _],rfl,VRs.cons (VR.dat.2 ⟨cs,rfl,?_⟩) (VRs.cons (VR.lf.2 ?_) (VRs.one (VR.lf.2 ?_)))⟩⟩
 ·rw[←ah.bf];exact hc
 ·unfold LRp;exact⟨rfl,aie hg2⟩
 ·unfold LRp;exact⟨rfl,aie hg3⟩
def numsOf(s:ByteArray):List Int:=s.data.toList.map fun b=>(b.toNat:Int)
theorem jH(s:ByteArray):(numsOf s).map (lfK .u8)=zF s:=by
 unfold numsOf zF
 rw[List.map_map];rfl
end Go.Proofs.YtflpefkohpjjpaaGreatDoor
set_option linter.unusedSimpArgs false
set_option linter.unusedVariables false
namespace Go.Proofs.YtflpefkohpjjpaaGreatDoor
open Go.RowKit
set_option maxRecDepth 20000
set_option maxHeartbeats 4000000
noncomputable section
abbrev aX(p:ah):Slot:=.box 25 (.dat (ah.lf1 p))
abbrev fP(p:aI):Slot:=.box 31 (.dat (aI.lf1 p))
abbrev nH(p:bU):Slot:=.box 33 (.dat (bU.lf1 p))
abbrev wB(p:dQ):Slot:=.box 37 (.dat (dQ.lf1 p))
abbrev dL(p:aP):Slot:=.box 40 (.dat (aP.lf1 p))
abbrev dw(p:aO):Slot:=.box 43 (.dat (aO.lf1 p))
abbrev mF(p:aQ):Slot:=.box 45 (.dat (aQ.lf1 p))
abbrev dO(p:aG):Slot:=.box 49 (.dat (aG.lf1 p))
abbrev jI(p:bY):Slot:=.box 51 (.dat (bY.lf1 p))
abbrev fD(p:aN):Slot:=.box 80 (.dat (aN.lf1 p))
abbrev bP(p:aj):Slot:=.box 84 (.dat (aj.lf1 p))
def aqW(p_n:Int):Mo (ah):=
 .ret (aS 1) (ah.mk 3 p_n ⟨#[]⟩ [] [])
def aue(p_n:Int):Option (ah):=Mo.den (aqW p_n)
theorem TV(p_n:Int):FV (aue p_n) 74 [.i_ p_n] (fun r=>.dat (ah.lf1 r)):=dA Tryz.func74
def aqX(p_stamp:Int)(p_key:Int)(p_id:Int):Mo (bY):=
 .cl (TV p_id) fun r4 _=>
 .ask (aue p_key) fun r6 h7=>
 .say [.iY (.q 0 (.q 1 (.q 2 (.alt 3 (.l 4 (.q 5 (.q 6 (.l 7 .fin)))) (.l 4 (.l 3 (.q 5 (.q 6 (.l 7 .fin))))))))) (some 7) [] [.both [.res (.dat (ah.lf1 r6))] [.res (.dat (ah.lf1 r6))]] [6] 3 [(6,.ptr 0 0)] [.box 51 (afC Z51 [(0,.i_ 1),(1,.i_ p_stamp),(4,.i_ 2),(5,.lf (.str ⟨#[115]⟩)),(6,.i_ r6.aF),(7,.i_ r6.fA),(8,.lf (.str r6.fText)),(9,.lf (.rows 5 (r6.aW.map ah.lf))),(10,.lf (.rows 6 (r6.aU.map aJ.lf))),(11,.i_ 5),(15,.own 1)]),.row 115 6 [(aJ.lf1 (aJ.mk ⟨#[95,105,100]⟩ r4))],.box 25 (.agg [.i_ 5,.i_ 0,.lf (.str ⟨#[]⟩),.cZ 5,.own 1])],.at_ 0 0,.MK 1 ([aJ.mk ⟨#[95,105,100]⟩ r4].map aJ.lf)] (okc (TV _ _ h7) (okc (rf_ ⟨[(6,.ptr 0 0)],[.box 51 (afC Z51 [(0,.i_ 1),(1,.i_ p_stamp),(4,.i_ 2),(5,.lf (.str ⟨#[115]⟩)),(6,.i_ r6.aF),(7,.i_ r6.fA),(8,.lf (.str r6.fText)),(9,.lf (.rows 5 (r6.aW.map ah.lf))),(10,.lf (.rows 6 (r6.aU.map aJ.lf))),(11,.i_ 5),(15,.own 1)]),.row 115 6 [(aJ.lf1 (aJ.mk ⟨#[95,105,100]⟩ r4))],.box 25 (.agg [.i_ 5,.i_ 0,.lf (.str ⟨#[]⟩),.cZ 5,.own 1])]⟩) (okc (TV _ _ h7) (okc (rf_ ⟨[(6,.ptr 0 0)],[.box 51 (afC Z51 [(0,.i_ 1),(1,.i_ p_stamp),(4,.i_ 2),(5,.lf (.str ⟨#[115]⟩)),(6,.i_ r6.aF),(7,.i_ r6.fA),(8,.lf (.str r6.fText)),(9,.lf (.rows 5 (r6.aW.map ah.lf))),(10,.lf (.rows 6 (r6.aU.map aJ.lf))),(11,.i_ 5),(15,.own 1)]),.row 115 6 [(aJ.lf1 (aJ.mk ⟨#[95,105,100]⟩ r4))],.box 25 (.agg [.i_ 5,.i_ 0,.lf (.str ⟨#[]⟩),.cZ 5,.own 1])]⟩) (ok1 (by simp[aJ.bf]:[aJ.mk ⟨#[95,105,100]⟩ r4].map aJ.lf=[(aJ.lf1 (aJ.mk ⟨#[95,105,100]⟩ r4))]))))))<|
 .ret (aS 1) (bY.mk 1 p_stamp ⟨#[]⟩ 0 (aG.aml (aG.amk (aG.Tf (aG.GL aG.z 2) ⟨#[115]⟩) r6) (ah.mk 5 0 ⟨#[]⟩ [] [aJ.mk ⟨#[95,105,100]⟩ r4])))
def au9(p_stamp:Int)(p_key:Int)(p_id:Int):Option (bY):=Mo.den (aqX p_stamp p_key p_id)
theorem TW(p_stamp:Int)(p_key:Int)(p_id:Int):FV (au9 p_stamp p_key p_id) 33 [.i_ p_stamp,.i_ p_key,.i_ p_id] (fun r=>.dat (bY.lf1 r)):=dA Tryz.func33
def kC(p_s:ByteArray):Mo (Bool):=
 .oV 4003 (decide (((p_s.size:Int):Int)<1)) [0,11] 0 (decide ((32:Int)<(p_s.size:Int)))
def kD(p_s:ByteArray)(r0:Bool):Mo (Bool):=
 .iG 4008 (r0) (.rt [0,16] 0 (true))<|
 .ask (kN p_s 0) fun b0 h0=>
 .say [.byt b0] (ok1 (fQ h0))<|
 .rt [0,16] 0 ((b0.toNat:Int)==36)
def kE(p_s:ByteArray)(v0:Int):Mo (Bool):=
 .ask (kN p_s v0) fun b0 h0=>
 .say [.byt b0] (ok1 (fQ h0))<|
 .iG 14004 (decide (((b0.toNat:Int):Int)<33)) (.rt [0,3,18,19,31] 0 (true))<|
 .ask (kN p_s v0) fun b1 h1=>
 .say [.byt b1] (ok1 (fQ h1))<|
 .rt [0,3,18,19,31] 0 (decide ((126:Int)<(b1.toNat:Int)))
def kF(p_s:ByteArray)(r0:Bool)(v0:Int):Mo (Bool):=
 .iG 14010 (r0) (.rt [0,18,19,37] 0 (true))<|
 .ask (kN p_s v0) fun b0 h0=>
 .say [.byt b0] (ok1 (fQ h0))<|
 .rt [0,18,19,37] 0 ((b0.toNat:Int)==46)
def NY(p_s:ByteArray):(Int)→Mo ((Int)⊕(Unit⊕Unit)):=fun(v0)=>
 .iB (decide ((v0:Int)<(p_s.size:Int))) (.sf Tryz.f29 0 [1,1,0,1,0,0,1,1,0,0,1,0] 0 10 6 [(0,.lf (.str p_s)),(3,.i_ v0),(18,.i_ (p_s.size:Int)),(19,.i_ v0)] [] 31 (kE p_s v0) fun r0=>
 .sk Tryz.f29 0 [1,1,0,1,0,0,1,1,0,0,1,0] 10 6 6 (fun r_=>⟨[(0,.lf (.str p_s)),(18,.i_ (p_s.size:Int)),(19,.i_ v0),(37,.b_ r_)],[]⟩) ⟨[(0,.lf (.str p_s)),(3,.i_ v0),(18,.i_ (p_s.size:Int)),(19,.i_ v0),(31,.b_ r0)],[]⟩ (kF p_s r0 v0) fun r1=>
 .iB (r1) (.rt [2] 0 (.inr (.inl ())))<|
 .rt [0,18,19] 0 (.inl (IntKind.wrap .i64 (v0+1))))<|
 .rt [] 0 (.inr (.inr (())))
def apw(p_s:ByteArray):Mo (Bool):=
 .sf Tryz.f29 0 [1,0,0] 0 8 1 [(0,.lf (.str p_s))] [] 11 (kC p_s) fun r0=>
 .sb Tryz.f29 0 [1,0,0] 8 5 1 [(0,.lf (.str p_s))] [] 11 16 r0 (kD p_s r0) fun r1=>
 .iB (r1) (.ret (aS 1) (false))<|
 .l2 Tryz.f29 0 [1,1,0,1,0] 0 (fun(v0)=>⟨[(0,.lf (.str p_s)),(18,.i_ (p_s.size:Int)),(19,.i_ v0)],[]⟩) .ret (fun _=>⟨[(2,.b_ false)],[]⟩) (.exit 0) (fun _=>⟨[],[]⟩) (NY p_s) (0) (fun o0=>
 .ret (aS 1) (false)) fun o1=>
 .ret (aS 1) (true)
def Q12(p_s:ByteArray):Option (Bool):=Mo.den (apw p_s)
theorem TY(p_s:ByteArray):FV (Q12 p_s) 29 [.lf (.str p_s)] .b_:=dA Tryz.func29
def Jy(p_kind:Int):Mo (aK):=
 .iB (p_kind==2) (.ret (aS 1) (aK.ahK (aK.afB (aK.uS aK.z true) true) true))<|
 .iB (p_kind==3) (.ret (aS 1) (aK.afB (aK.uS aK.z true) true))<|
 .iB (p_kind==4) (.ret (aS 1) (aK.ahL aK.z true))<|
 .iB (p_kind==5) (.ret (aS 1) (aK.uS aK.z true))<|
 .iB (p_kind==6) (.ret (aS 1) (aK.I9 (aK.uS aK.z true) true))<|
 .iB (p_kind==7) (.ret (aS 1) (aK.qC (aK.uS aK.z true) true))<|
 .iB (p_kind==8) (.ret (aS 1) (aK.yx aK.z true))<|
 .iB (p_kind==9) (.ret (aS 1) (aK.yx (aK.WZ aK.z true) true))<|
 .iB (p_kind==10) (.ret (aS 1) (aK.EH (aK.WZ aK.z true) true))<|
 .iB (p_kind==11) (.ret (aS 1) (aK.WZ aK.z true))<|
 .iB (p_kind==12) (.ret (aS 1) (aK.BZ (aK.EH (aK.WZ aK.z true) true) true))<|
 .ret (aS 1) (aK.z)
def aif(p_kind:Int):Option (aK):=Mo.den (Jy p_kind)
theorem adI(p_kind:Int):FV (aif p_kind) 56 [.i_ p_kind] (fun r=>.dat (aK.lf1 r)):=dA Tryz.func56
def o7(p_v:ah):Mo (Bool):=
 .aV 4003 (p_v.aF==0) [1,2,10] 1 (p_v.fA==0)
def o8(p_v:ah)(r0:Bool):Mo (Bool):=
 .aV 4008 (r0) [1,2,15] 1 (decide ((p_v.fText:ByteArray)=(⟨#[]⟩:ByteArray)))
def mV(p_v:ah)(r0:Bool):Mo (Bool):=
 .iG 4013 (r0) (.nu p_v.aW ah.lf<|
 .rt [1,2,21] 1 ((p_v.aW.length:Int)==0))<|
 .rt [1,2,21] 1 (false)
def mW(p_v:ah)(r0:Bool):Mo (Bool):=
 .iG 4019 (r0) (.nu p_v.aU aJ.lf<|
 .ret ⟨[.kill 0],[2,27],[],1⟩ ((p_v.aU.length:Int)==0))<|
 .ret ⟨[.kill 0],[2,27],[],1⟩ (false)
def dR(r0:Bool):Mo (Unit):=
 .rt [2] 1 ()
def aqY(p_v:ah):Mo (Bool):=
 .sf Tryz.f112 0 [1,0] 0 8 1 [(1,.ptr 0 0),(2,.b_ false)] [aX p_v] 10 (o7 p_v) fun r0=>
 .sb Tryz.f112 0 [1,0] 8 5 1 [(1,.ptr 0 0),(2,.b_ false)] [aX p_v] 10 15 r0 (o8 p_v r0) fun r1=>
 .sb Tryz.f112 0 [1,0] 13 6 1 [(1,.ptr 0 0),(2,.b_ false)] [aX p_v] 15 21 r1 (mV p_v r1) fun r2=>
 .sk Tryz.f112 0 [1,0] 19 6 1 (fun r_=>⟨[(2,.b_ false),(27,.b_ r_)],[.dead]⟩) ⟨[(1,.ptr 0 0),(2,.b_ false),(21,.b_ r2)],[aX p_v]⟩ (mW p_v r2) fun r3=>
 .sk Tryz.f112 0 [1,0] 25 1 1 (fun r_=>⟨[(2,.b_ r3)],[.dead]⟩) ⟨[(2,.b_ false),(27,.b_ r3)],[.dead]⟩ (dR r3) fun r4=>
 .ret (aS 1) (r3)
def Q0(p_v:ah):Option (Bool):=Mo.den (aqY p_v)
theorem Cm(p_v:ah):FV (Q0 p_v) 112 [.dat (ah.lf1 p_v)] .b_:=dA Tryz.func112
def Xp(p_s:aI):Mo (Bool):=
 .aV 4003 (p_s.iZ==0) [1,2,10] 1 (!p_s.jE)
def Xq(p_s:aI)(r0:Bool):Mo (Bool):=
 .aC 4008 (r0) [1,2,15] 1 (Cm p_s.kT)
def NZ(p_s:aI)(r0:Bool):Mo (Bool):=
 .aV 4013 (r0) [1,2,20] 1 (!p_s.jF)
def N7(p_s:aI)(r0:Bool):Mo (Bool):=
 .aC 4018 (r0) [1,2,25] 1 (Cm p_s.kU)
def N8(p_s:aI)(r0:Bool):Mo (Bool):=
 .iG 4023 (r0) (.nu p_s.iV ah.lf<|
 .rt [1,2,31] 1 ((p_s.iV.length:Int)==0))<|
 .rt [1,2,31] 1 (false)
def N9(p_s:aI)(r0:Bool):Mo (Bool):=
 .aV 4029 (r0) [1,2,36] 1 (p_s.jQ==0)
def Oa(p_s:aI)(r0:Bool):Mo (Bool):=
 .aV 4034 (r0) [1,2,41] 1 (p_s.jR==0)
def Oc(p_s:aI)(r0:Bool):Mo (Bool):=
 .iG 4039 (r0) (.nu p_s.dZ lfS<|
 .rt [1,2,47] 1 ((p_s.dZ.length:Int)==0))<|
 .rt [1,2,47] 1 (false)
def Oe(p_s:aI)(r0:Bool):Mo (Bool):=
 .iG 4045 (r0) (.nu p_s.dD bH.lf<|
 .rt [1,2,53] 1 ((p_s.dD.length:Int)==0))<|
 .rt [1,2,53] 1 (false)
def Og(p_s:aI)(r0:Bool):Mo (Bool):=
 .aV 4051 (r0) [1,2,58] 1 (!p_s.lX)
def Oh(p_s:aI)(r0:Bool):Mo (Bool):=
 .iG 4056 (r0) (.nu p_s.eU aI.lf<|
 .rt [1,2,64] 1 ((p_s.eU.length:Int)==0))<|
 .rt [1,2,64] 1 (false)
def Oi(p_s:aI)(r0:Bool):Mo (Bool):=
 .iG 4062 (r0) (.ret ⟨[.kill 0],[2,69],[],1⟩ (!p_s.gB))<|
 .ret ⟨[.kill 0],[2,69],[],1⟩ (false)
def aii(p_s:aI):Mo (Bool):=
 .sf Tryz.f252 0 [1,0] 0 8 1 [(1,.ptr 0 0),(2,.b_ false)] [fP p_s] 10 (Xp p_s) fun r0=>
 .sb Tryz.f252 0 [1,0] 8 5 1 [(1,.ptr 0 0),(2,.b_ false)] [fP p_s] 10 15 r0 (Xq p_s r0) fun r1=>
 .sb Tryz.f252 0 [1,0] 13 5 1 [(1,.ptr 0 0),(2,.b_ false)] [fP p_s] 15 20 r1 (NZ p_s r1) fun r2=>
 .sb Tryz.f252 0 [1,0] 18 5 1 [(1,.ptr 0 0),(2,.b_ false)] [fP p_s] 20 25 r2 (N7 p_s r2) fun r3=>
 .sb Tryz.f252 0 [1,0] 23 6 1 [(1,.ptr 0 0),(2,.b_ false)] [fP p_s] 25 31 r3 (N8 p_s r3) fun r4=>
 .sb Tryz.f252 0 [1,0] 29 5 1 [(1,.ptr 0 0),(2,.b_ false)] [fP p_s] 31 36 r4 (N9 p_s r4) fun r5=>
 .sb Tryz.f252 0 [1,0] 34 5 1 [(1,.ptr 0 0),(2,.b_ false)] [fP p_s] 36 41 r5 (Oa p_s r5) fun r6=>
 .sb Tryz.f252 0 [1,0] 39 6 1 [(1,.ptr 0 0),(2,.b_ false)] [fP p_s] 41 47 r6 (Oc p_s r6) fun r7=>
 .sb Tryz.f252 0 [1,0] 45 6 1 [(1,.ptr 0 0),(2,.b_ false)] [fP p_s] 47 53 r7 (Oe p_s r7) fun r8=>
 .sb Tryz.f252 0 [1,0] 51 5 1 [(1,.ptr 0 0),(2,.b_ false)] [fP p_s] 53 58 r8 (Og p_s r8) fun r9=>
 .sb Tryz.f252 0 [1,0] 56 6 1 [(1,.ptr 0 0),(2,.b_ false)] [fP p_s] 58 64 r9 (Oh p_s r9) fun r10=>
 .sk Tryz.f252 0 [1,0] 62 5 1 (fun r_=>⟨[(2,.b_ false),(69,.b_ r_)],[.dead]⟩) ⟨[(1,.ptr 0 0),(2,.b_ false),(64,.b_ r10)],[fP p_s]⟩ (Oi p_s r10) fun r11=>
 .sk Tryz.f252 0 [1,0] 67 1 1 (fun r_=>⟨[(2,.b_ r11)],[.dead]⟩) ⟨[(2,.b_ false),(69,.b_ r11)],[.dead]⟩ (dR r11) fun r12=>
 .ret (aS 1) (r11)
def Q19(p_s:aI):Option (Bool):=Mo.den (aii p_s)
theorem aqZ(p_s:aI):FV (Q19 p_s) 252 [.dat (aI.lf1 p_s)] .b_:=dA Tryz.func252
def Xr(p_d:bU):Mo (Bool):=
 .iG 4003 (decide ((p_d.fName:ByteArray)=(⟨#[]⟩:ByteArray))) (.nu p_d.bM aQ.lf<|
 .rt [1,2,11] 1 ((p_d.bM.length:Int)==0))<|
 .rt [1,2,11] 1 (false)
def Xt(p_d:bU)(r0:Bool):Mo (Bool):=
 .aC 4009 (r0) [1,2,16] 1 (aqZ p_d.aZ)
def Oj(p_d:bU)(r0:Bool):Mo (Bool):=
 .aV 4014 (r0) [1,2,21] 1 (p_d.lg==0)
def Ol(p_d:bU)(r0:Bool):Mo (Bool):=
 .iG 4019 (r0) (.ret ⟨[.kill 0],[2,26],[],1⟩ (p_d.jo==0))<|
 .ret ⟨[.kill 0],[2,26],[],1⟩ (false)
def aij(p_d:bU):Mo (Bool):=
 .sf Tryz.f176 0 [1,0] 0 9 1 [(1,.ptr 0 0),(2,.b_ false)] [nH p_d] 11 (Xr p_d) fun r0=>
 .sb Tryz.f176 0 [1,0] 9 5 1 [(1,.ptr 0 0),(2,.b_ false)] [nH p_d] 11 16 r0 (Xt p_d r0) fun r1=>
 .sb Tryz.f176 0 [1,0] 14 5 1 [(1,.ptr 0 0),(2,.b_ false)] [nH p_d] 16 21 r1 (Oj p_d r1) fun r2=>
 .sk Tryz.f176 0 [1,0] 19 5 1 (fun r_=>⟨[(2,.b_ false),(26,.b_ r_)],[.dead]⟩) ⟨[(1,.ptr 0 0),(2,.b_ false),(21,.b_ r2)],[nH p_d]⟩ (Ol p_d r2) fun r3=>
 .sk Tryz.f176 0 [1,0] 24 1 1 (fun r_=>⟨[(2,.b_ r3)],[.dead]⟩) ⟨[(2,.b_ false),(26,.b_ r3)],[.dead]⟩ (dR r3) fun r4=>
 .ret (aS 1) (r3)
def Q79(p_d:bU):Option (Bool):=Mo.den (aij p_d)
theorem aq0(p_d:bU):FV (Q79 p_d) 176 [.dat (bU.lf1 p_d)] .b_:=dA Tryz.func176
def qw(p_e:aP):Mo (Bool):=
 .iG 4003 (p_e.fOp==0) (.nu p_e.cO lfS<|
 .rt [1,2,11] 1 ((p_e.cO.length:Int)==0))<|
 .rt [1,2,11] 1 (false)
def qx(p_e:aP)(r0:Bool):Mo (Bool):=
 .aV 4009 (r0) [1,2,16] 1 (decide ((p_e.fName:ByteArray)=(⟨#[]⟩:ByteArray)))
def nU(p_e:aP)(r0:Bool):Mo (Bool):=
 .iG 4014 (r0) (.nu p_e.eP lfS<|
 .rt [1,2,22] 1 ((p_e.eP.length:Int)==0))<|
 .rt [1,2,22] 1 (false)
def Xu(p_e:aP)(r0:Bool):Mo (Bool):=
 .aC 4020 (r0) [1,2,27] 1 (Cm p_e.fArg)
def nV(p_e:aP)(r0:Bool):Mo (Bool):=
 .aV 4025 (r0) [1,2,32] 1 (p_e.fN==0)
def nX(p_e:aP)(r0:Bool):Mo (Bool):=
 .iG 4030 (r0) (.nu p_e.bC aP.lf<|
 .ret ⟨[.kill 0],[2,38],[],1⟩ ((p_e.bC.length:Int)==0))<|
 .ret ⟨[.kill 0],[2,38],[],1⟩ (false)
def aq1(p_e:aP):Mo (Bool):=
 .sf Tryz.f297 0 [1,0] 0 9 1 [(1,.ptr 0 0),(2,.b_ false)] [dL p_e] 11 (qw p_e) fun r0=>
 .sb Tryz.f297 0 [1,0] 9 5 1 [(1,.ptr 0 0),(2,.b_ false)] [dL p_e] 11 16 r0 (qx p_e r0) fun r1=>
 .sb Tryz.f297 0 [1,0] 14 6 1 [(1,.ptr 0 0),(2,.b_ false)] [dL p_e] 16 22 r1 (nU p_e r1) fun r2=>
 .sb Tryz.f297 0 [1,0] 20 5 1 [(1,.ptr 0 0),(2,.b_ false)] [dL p_e] 22 27 r2 (Xu p_e r2) fun r3=>
 .sb Tryz.f297 0 [1,0] 25 5 1 [(1,.ptr 0 0),(2,.b_ false)] [dL p_e] 27 32 r3 (nV p_e r3) fun r4=>
 .sk Tryz.f297 0 [1,0] 30 6 1 (fun r_=>⟨[(2,.b_ false),(38,.b_ r_)],[.dead]⟩) ⟨[(1,.ptr 0 0),(2,.b_ false),(32,.b_ r4)],[dL p_e]⟩ (nX p_e r4) fun r5=>
 .sk Tryz.f297 0 [1,0] 36 1 1 (fun r_=>⟨[(2,.b_ r5)],[.dead]⟩) ⟨[(2,.b_ false),(38,.b_ r5)],[.dead]⟩ (dR r5) fun r6=>
 .ret (aS 1) (r5)
def Q9(p_e:aP):Option (Bool):=Mo.den (aq1 p_e)
theorem auf(p_e:aP):FV (Q9 p_e) 297 [.dat (aP.lf1 p_e)] .b_:=dA Tryz.func297
def tC(p_p:aO):Mo (Bool):=
 .iG 4003 (p_p.fOp==0) (.nu p_p.cO lfS<|
 .rt [1,2,11] 1 ((p_p.cO.length:Int)==0))<|
 .rt [1,2,11] 1 (false)
def Xv(p_p:aO)(r0:Bool):Mo (Bool):=
 .aC 4009 (r0) [1,2,16] 1 (Cm p_p.fArg)
def yB(p_p:aO)(r0:Bool):Mo (Bool):=
 .iG 4014 (r0) (.nu p_p.fArgs ah.lf<|
 .rt [1,2,22] 1 ((p_p.fArgs.length:Int)==0))<|
 .rt [1,2,22] 1 (false)
def yC(p_p:aO)(r0:Bool):Mo (Bool):=
 .aV 4020 (r0) [1,2,27] 1 (p_p.fN==0)
def yD(p_p:aO)(r0:Bool):Mo (Bool):=
 .aV 4025 (r0) [1,2,32] 1 (p_p.fM==0)
def yE(p_p:aO)(r0:Bool):Mo (Bool):=
 .aV 4030 (r0) [1,2,38] 1 (p_p.dY.aF==0)
def yF(p_p:aO)(r0:Bool):Mo (Bool):=
 .iG 4036 (r0) (.nu p_p.dY.bF cu.lf<|
 .rt [1,2,45] 1 ((p_p.dY.bF.length:Int)==0))<|
 .rt [1,2,45] 1 (false)
def yG(p_p:aO)(r0:Bool):Mo (Bool):=
 .aV 4043 (r0) [1,2,51] 1 (p_p.dY.fR==0)
def Om(p_p:aO)(r0:Bool):Mo (Bool):=
 .aC 4049 (r0) [1,2,56] 1 (auf p_p.fExpr)
def yH(p_p:aO)(r0:Bool):Mo (Bool):=
 .iG 4054 (r0) (.nu p_p.bC aO.lf<|
 .ret ⟨[.kill 0],[2,62],[],1⟩ ((p_p.bC.length:Int)==0))<|
 .ret ⟨[.kill 0],[2,62],[],1⟩ (false)
def aik(p_p:aO):Mo (Bool):=
 .sf Tryz.f253 0 [1,0] 0 9 1 [(1,.ptr 0 0),(2,.b_ false)] [dw p_p] 11 (tC p_p) fun r0=>
 .sb Tryz.f253 0 [1,0] 9 5 1 [(1,.ptr 0 0),(2,.b_ false)] [dw p_p] 11 16 r0 (Xv p_p r0) fun r1=>
 .sb Tryz.f253 0 [1,0] 14 6 1 [(1,.ptr 0 0),(2,.b_ false)] [dw p_p] 16 22 r1 (yB p_p r1) fun r2=>
 .sb Tryz.f253 0 [1,0] 20 5 1 [(1,.ptr 0 0),(2,.b_ false)] [dw p_p] 22 27 r2 (yC p_p r2) fun r3=>
 .sb Tryz.f253 0 [1,0] 25 5 1 [(1,.ptr 0 0),(2,.b_ false)] [dw p_p] 27 32 r3 (yD p_p r3) fun r4=>
 .sb Tryz.f253 0 [1,0] 30 6 1 [(1,.ptr 0 0),(2,.b_ false)] [dw p_p] 32 38 r4 (yE p_p r4) fun r5=>
 .sb Tryz.f253 0 [1,0] 36 7 1 [(1,.ptr 0 0),(2,.b_ false)] [dw p_p] 38 45 r5 (yF p_p r5) fun r6=>
 .sb Tryz.f253 0 [1,0] 43 6 1 [(1,.ptr 0 0),(2,.b_ false)] [dw p_p] 45 51 r6 (yG p_p r6) fun r7=>
 .sb Tryz.f253 0 [1,0] 49 5 1 [(1,.ptr 0 0),(2,.b_ false)] [dw p_p] 51 56 r7 (Om p_p r7) fun r8=>
 .sk Tryz.f253 0 [1,0] 54 6 1 (fun r_=>⟨[(2,.b_ false),(62,.b_ r_)],[.dead]⟩) ⟨[(1,.ptr 0 0),(2,.b_ false),(56,.b_ r8)],[dw p_p]⟩ (yH p_p r8) fun r9=>
 .sk Tryz.f253 0 [1,0] 60 1 1 (fun r_=>⟨[(2,.b_ r9)],[.dead]⟩) ⟨[(2,.b_ false),(62,.b_ r9)],[.dead]⟩ (dR r9) fun r10=>
 .ret (aS 1) (r9)
def Q17(p_p:aO):Option (Bool):=Mo.den (aik p_p)
theorem aq2(p_p:aO):FV (Q17 p_p) 253 [.dat (aO.lf1 p_p)] .b_:=dA Tryz.func253
def Xw(p_x:aQ):Mo (Bool):=
 .aV 4003 (decide ((p_x.fName:ByteArray)=(⟨#[]⟩:ByteArray))) [1,2,10] 1 (p_x.aF==0)
def Xx(p_x:aQ)(r0:Bool):Mo (Bool):=
 .iG 4008 (r0) (.nu p_x.gq bn.lf<|
 .rt [1,2,16] 1 ((p_x.gq.length:Int)==0))<|
 .rt [1,2,16] 1 (false)
def Oo(p_x:aQ)(r0:Bool):Mo (Bool):=
 .aV 4014 (r0) [1,2,21] 1 (!p_x.gB)
def Oq(p_x:aQ)(r0:Bool):Mo (Bool):=
 .aV 4019 (r0) [1,2,26] 1 (!p_x.lF)
def Ot(p_x:aQ)(r0:Bool):Mo (Bool):=
 .aV 4024 (r0) [1,2,31] 1 (!p_x.jr)
def Ou(p_x:aQ)(r0:Bool):Mo (Bool):=
 .iG 4029 (r0) (.cl (aq2 p_x.bG) fun r1 _=>
 .ret ⟨[.kill 0],[2,36],[],1⟩ (r1))<|
 .ret ⟨[.kill 0],[2,36],[],1⟩ (false)
def ail(p_x:aQ):Mo (Bool):=
 .sf Tryz.f177 0 [1,0] 0 8 1 [(1,.ptr 0 0),(2,.b_ false)] [mF p_x] 10 (Xw p_x) fun r0=>
 .sb Tryz.f177 0 [1,0] 8 6 1 [(1,.ptr 0 0),(2,.b_ false)] [mF p_x] 10 16 r0 (Xx p_x r0) fun r1=>
 .sb Tryz.f177 0 [1,0] 14 5 1 [(1,.ptr 0 0),(2,.b_ false)] [mF p_x] 16 21 r1 (Oo p_x r1) fun r2=>
 .sb Tryz.f177 0 [1,0] 19 5 1 [(1,.ptr 0 0),(2,.b_ false)] [mF p_x] 21 26 r2 (Oq p_x r2) fun r3=>
 .sb Tryz.f177 0 [1,0] 24 5 1 [(1,.ptr 0 0),(2,.b_ false)] [mF p_x] 26 31 r3 (Ot p_x r3) fun r4=>
 .sk Tryz.f177 0 [1,0] 29 5 1 (fun r_=>⟨[(2,.b_ false),(36,.b_ r_)],[.dead]⟩) ⟨[(1,.ptr 0 0),(2,.b_ false),(31,.b_ r4)],[mF p_x]⟩ (Ou p_x r4) fun r5=>
 .sk Tryz.f177 0 [1,0] 34 1 1 (fun r_=>⟨[(2,.b_ r5)],[.dead]⟩) ⟨[(2,.b_ false),(36,.b_ r5)],[.dead]⟩ (dR r5) fun r6=>
 .ret (aS 1) (r5)
def Q52(p_x:aQ):Option (Bool):=Mo.den (ail p_x)
theorem aq3(p_x:aQ):FV (Q52 p_x) 177 [.dat (aQ.lf1 p_x)] .b_:=dA Tryz.func177
def Xy(p_w:aG):Mo (Bool):=
 .aV 4003 (p_w.aF==0) [1,2,10] 1 (decide ((p_w.gu:ByteArray)=(⟨#[]⟩:ByteArray)))
def Xz(p_w:aG)(r0:Bool):Mo (Bool):=
 .aC 4008 (r0) [1,2,15] 1 (Cm p_w.fU)
def Ov(p_w:aG)(r0:Bool):Mo (Bool):=
 .aC 4013 (r0) [1,2,20] 1 (Cm p_w.aU)
def Ox(p_w:aG)(r0:Bool):Mo (Bool):=
 .aC 4018 (r0) [1,2,25] 1 (Cm p_w.dK)
def Oy(p_w:aG)(r0:Bool):Mo (Bool):=
 .aC 4023 (r0) [1,2,30] 1 (aq0 p_w.dS)
def Oz(p_w:aG)(r0:Bool):Mo (Bool):=
 .aC 4028 (r0) [1,2,35] 1 (aq3 p_w.aY)
def OA(p_w:aG)(r0:Bool):Mo (Bool):=
 .aV 4033 (r0) [1,2,40] 1 (decide ((p_w.mM:ByteArray)=(⟨#[]⟩:ByteArray)))
def OB(p_w:aG)(r0:Bool):Mo (Bool):=
 .aV 4038 (r0) [1,2,45] 1 (p_w.eu==0)
def OC(p_w:aG)(r0:Bool):Mo (Bool):=
 .iG 4043 (r0) (.nu p_w.bQ aG.lf<|
 .rt [1,2,51] 1 ((p_w.bQ.length:Int)==0))<|
 .rt [1,2,51] 1 (false)
def OD(p_w:aG)(r0:Bool):Mo (Bool):=
 .iG 4049 (r0) (.nu p_w.eG lfI<|
 .rt [1,2,57] 1 ((p_w.eG.length:Int)==0))<|
 .rt [1,2,57] 1 (false)
def OE(p_w:aG)(r0:Bool):Mo (Bool):=
 .iG 4055 (r0) (.ret ⟨[.kill 0],[2,62],[],1⟩ (!p_w.gQ))<|
 .ret ⟨[.kill 0],[2,62],[],1⟩ (false)
def ain(p_w:aG):Mo (Bool):=
 .sf Tryz.f109 0 [1,0] 0 8 1 [(1,.ptr 0 0),(2,.b_ false)] [dO p_w] 10 (Xy p_w) fun r0=>
 .sb Tryz.f109 0 [1,0] 8 5 1 [(1,.ptr 0 0),(2,.b_ false)] [dO p_w] 10 15 r0 (Xz p_w r0) fun r1=>
 .sb Tryz.f109 0 [1,0] 13 5 1 [(1,.ptr 0 0),(2,.b_ false)] [dO p_w] 15 20 r1 (Ov p_w r1) fun r2=>
 .sb Tryz.f109 0 [1,0] 18 5 1 [(1,.ptr 0 0),(2,.b_ false)] [dO p_w] 20 25 r2 (Ox p_w r2) fun r3=>
 .sb Tryz.f109 0 [1,0] 23 5 1 [(1,.ptr 0 0),(2,.b_ false)] [dO p_w] 25 30 r3 (Oy p_w r3) fun r4=>
 .sb Tryz.f109 0 [1,0] 28 5 1 [(1,.ptr 0 0),(2,.b_ false)] [dO p_w] 30 35 r4 (Oz p_w r4) fun r5=>
 .sb Tryz.f109 0 [1,0] 33 5 1 [(1,.ptr 0 0),(2,.b_ false)] [dO p_w] 35 40 r5 (OA p_w r5) fun r6=>
 .sb Tryz.f109 0 [1,0] 38 5 1 [(1,.ptr 0 0),(2,.b_ false)] [dO p_w] 40 45 r6 (OB p_w r6) fun r7=>
 .sb Tryz.f109 0 [1,0] 43 6 1 [(1,.ptr 0 0),(2,.b_ false)] [dO p_w] 45 51 r7 (OC p_w r7) fun r8=>
 .sb Tryz.f109 0 [1,0] 49 6 1 [(1,.ptr 0 0),(2,.b_ false)] [dO p_w] 51 57 r8 (OD p_w r8) fun r9=>
 .sk Tryz.f109 0 [1,0] 55 5 1 (fun r_=>⟨[(2,.b_ false),(62,.b_ r_)],[.dead]⟩) ⟨[(1,.ptr 0 0),(2,.b_ false),(57,.b_ r9)],[dO p_w]⟩ (OE p_w r9) fun r10=>
 .sk Tryz.f109 0 [1,0] 60 1 1 (fun r_=>⟨[(2,.b_ r10)],[.dead]⟩) ⟨[(2,.b_ false),(62,.b_ r10)],[.dead]⟩ (dR r10) fun r11=>
 .ret (aS 1) (r10)
def Q25(p_w:aG):Option (Bool):=Mo.den (ain p_w)
theorem aq4(p_w:aG):FV (Q25 p_w) 109 [.dat (aG.lf1 p_w)] .b_:=dA Tryz.func109
def Jz(p_w:aG)(r0:aK):Mo (aG):=
 .iB (r0.oD) (.rt [1,3] 2 (aG.Tf (aG.GL p_w 0) ⟨#[]⟩))<|
 .rt [1,3] 2 (aG.GL p_w 0)
def JA(r0:aK)(r1:aG):Mo (aG):=
 .iB (r0.BU) (.ret ⟨[.norm 0],[1,3],[],2⟩ (aG.Tt (aG.Ti (aG.amk r1 (ah.mk 0 0 ⟨#[]⟩ [] [])) (ah.mk 0 0 ⟨#[]⟩ [] [])) false))<|
 .rt [1,3] 2 (r1)
def ES(r0:aK)(r1:aG):Mo (aG):=
 .iB (r0.He) (.ret ⟨[.norm 0],[1,3],[],2⟩ (aG.aml r1 (ah.mk 0 0 ⟨#[]⟩ [] [])))<|
 .rt [1,3] 2 (r1)
def ET(r0:aK)(r1:aG):Mo (aG):=
 .iB (r0.Hf) (.ret ⟨[.norm 0],[1,3],[],2⟩ (aG.aqw r1 (bU.mk ⟨#[]⟩ [] aI.z 0 0)))<|
 .rt [1,3] 2 (r1)
def EU(r0:aK)(r1:aG):Mo (aG):=
 .iB (r0.pV) (.ret ⟨[.norm 0],[1,3],[],2⟩ (aG.Tj r1 aQ.z))<|
 .rt [1,3] 2 (r1)
def EW(r0:aK)(r1:aG):Mo (aG):=
 .iB (r0.jh) (.rt [1,3] 2 (aG.Tj r1 (aQ.NJ r1.aY ⟨#[]⟩)))<|
 .rt [1,3] 2 (r1)
def EX(r0:aK)(r1:aG):Mo (aG):=
 .iB (r0.EG) (.rt [1,3] 2 (aG.aqx r1 ⟨#[]⟩))<|
 .rt [1,3] 2 (r1)
def EY(r0:aK)(r1:aG):Mo (aG):=
 .iB (r0.oG) (.rt [1,3] 2 (aG.aat r1 0))<|
 .rt [1,3] 2 (r1)
def EZ(r0:aK)(r1:aG):Mo (aG):=
 .iB (r0.lY) (.ret ⟨[.norm 0],[1,3],[],2⟩ (aG.Tn r1 []))<|
 .rt [1,3] 2 (r1)
def E5(r0:aK)(r1:aG):Mo (aG):=
 .iB (r0.lZ) (.ret ⟨[.norm 0],[1],[],2⟩ (aG.Tq r1 []))<|
 .rt [1] 2 (r1)
def aio(p_w:aG):Mo (Bool):=
 .cl (adI p_w.aF) fun r0 _=>
 .jk Tryz.f57 0 [1,1,1,0,1] 1 (fun r_=>⟨[(1,.ptr 0 0),(3,.ptr 1 0)],[dO r_,.box 104 (.agg ((aK.lf1 r0).map AV.lf))]⟩) ⟨[(1,.ptr 0 0),(3,.ptr 1 0),(9,.b_ r0.oD)],[.box 49 (.dat (aG.lf1 (aG.GL p_w 0))),.box 104 (.agg ((aK.lf1 r0).map AV.lf))]⟩ (Jz p_w r0) fun r1=>
 .jk Tryz.f57 0 [1,1,1,1,0,1] 1 (fun r_=>⟨[(1,.ptr 0 0),(3,.ptr 1 0)],[dO r_,.box 104 (.agg ((aK.lf1 r0).map AV.lf))]⟩) ⟨[(1,.ptr 0 0),(3,.ptr 1 0),(12,.b_ r0.BU)],[dO r1,.box 104 (.agg ((aK.lf1 r0).map AV.lf))]⟩ (JA r0 r1) fun r2=>
 .jk Tryz.f57 0 [1,1,1,1,1,0,1] 1 (fun r_=>⟨[(1,.ptr 0 0),(3,.ptr 1 0)],[dO r_,.box 104 (.agg ((aK.lf1 r0).map AV.lf))]⟩) ⟨[(1,.ptr 0 0),(3,.ptr 1 0),(19,.b_ r0.He)],[dO r2,.box 104 (.agg ((aK.lf1 r0).map AV.lf))]⟩ (ES r0 r2) fun r3=>
 .jk Tryz.f57 0 [1,1,1,1,1,1,0,1] 1 (fun r_=>⟨[(1,.ptr 0 0),(3,.ptr 1 0)],[dO r_,.box 104 (.agg ((aK.lf1 r0).map AV.lf))]⟩) ⟨[(1,.ptr 0 0),(3,.ptr 1 0),(23,.b_ r0.Hf)],[dO r3,.box 104 (.agg ((aK.lf1 r0).map AV.lf))]⟩ (ET r0 r3) fun r4=>
 .jk Tryz.f57 0 [1,1,1,1,1,1,1,0,1] 1 (fun r_=>⟨[(1,.ptr 0 0),(3,.ptr 1 0)],[dO r_,.box 104 (.agg ((aK.lf1 r0).map AV.lf))]⟩) ⟨[(1,.ptr 0 0),(3,.ptr 1 0),(27,.b_ r0.pV)],[dO r4,.box 104 (.agg ((aK.lf1 r0).map AV.lf))]⟩ (EU r0 r4) fun r5=>
 .jk Tryz.f57 0 [1,1,1,1,1,1,1,1,0,1] 1 (fun r_=>⟨[(1,.ptr 0 0),(3,.ptr 1 0)],[dO r_,.box 104 (.agg ((aK.lf1 r0).map AV.lf))]⟩) ⟨[(1,.ptr 0 0),(3,.ptr 1 0),(31,.b_ r0.jh)],[dO r5,.box 104 (.agg ((aK.lf1 r0).map AV.lf))]⟩ (EW r0 r5) fun r6=>
 .jk Tryz.f57 0 [1,1,1,1,1,1,1,1,1,0,1] 1 (fun r_=>⟨[(1,.ptr 0 0),(3,.ptr 1 0)],[dO r_,.box 104 (.agg ((aK.lf1 r0).map AV.lf))]⟩) ⟨[(1,.ptr 0 0),(3,.ptr 1 0),(35,.b_ r0.EG)],[dO r6,.box 104 (.agg ((aK.lf1 r0).map AV.lf))]⟩ (EX r0 r6) fun r7=>
 .jk Tryz.f57 0 [1,1,1,1,1,1,1,1,1,1,0,1] 1 (fun r_=>⟨[(1,.ptr 0 0),(3,.ptr 1 0)],[dO r_,.box 104 (.agg ((aK.lf1 r0).map AV.lf))]⟩) ⟨[(1,.ptr 0 0),(3,.ptr 1 0),(38,.b_ r0.oG)],[dO r7,.box 104 (.agg ((aK.lf1 r0).map AV.lf))]⟩ (EY r0 r7) fun r8=>
 .jk Tryz.f57 0 [1,1,1,1,1,1,1,1,1,1,1,0,1] 1 (fun r_=>⟨[(1,.ptr 0 0),(3,.ptr 1 0)],[dO r_,.box 104 (.agg ((aK.lf1 r0).map AV.lf))]⟩) ⟨[(1,.ptr 0 0),(3,.ptr 1 0),(41,.b_ r0.lY)],[dO r8,.box 104 (.agg ((aK.lf1 r0).map AV.lf))]⟩ (EZ r0 r8) fun r9=>
 .jy [.kill 1] Tryz.f57 0 [1,1,1,1,1,1,1,1,1,1,1,1,0,1] 1 (.normal) (fun r_=>⟨[(1,.ptr 0 0)],[dO r_,.dead]⟩) ⟨[(1,.ptr 0 0),(44,.b_ r0.lZ)],[dO r9,.dead]⟩ (E5 r0 r9) fun r10=>
 .cl (aq4 r10) fun r11 _=>
 .ret (aS 1) (r11)
def Q21(p_w:aG):Option (Bool):=Mo.den (aio p_w)
theorem aq5(p_w:aG):FV (Q21 p_w) 57 [.dat (aG.lf1 p_w)] .b_:=dA Tryz.func57
def OG(p_w:aG):Mo (Int):=
 .iB (p_w.aF==12) (.rt [1,3] 1 (0))<|
 .rt [1,3] 1 (1)
def aaP(p_w:aG):Mo (Bool):=
 .jk Tryz.f58 0 [1,1,0,1] 1 (fun r_=>⟨[(1,.ptr 0 0),(3,.i_ r_)],[dO p_w]⟩) ⟨[(1,.ptr 0 0),(3,.i_ 1),(6,.lf (.bool (p_w.aF==12)))],[dO p_w]⟩ (OG p_w) fun r0=>
 .iG 10004 (decide ((r0:Int)≤p_w.eu)) (.ret (aS 1) (decide ((p_w.eu:Int)≤1099511627776)))<|
 .ret (aS 1) (false)
def aq6(p_w:aG):Option (Bool):=Mo.den (aaP p_w)
theorem am0(p_w:aG):FV (aq6 p_w) 58 [.dat (aG.lf1 p_w)] .b_:=dA Tryz.func58
def JB(p_l:List Int)(v0:Int)(x0:Int):Mo (Bool):=
 .oV 10002 (decide ((x0:Int)<0)) [0,3,4,5,6,7,17] 0 (decide ((8:Int)≤x0))
def JC(p_l:List Int)(r0:Bool)(v0:Int)(x0:Int):Mo (Bool):=
 .iG 10006 (r0) (.rt [0,5,6,7,30] 0 (true))<|
 .iG 10009 (decide ((0:Int)<v0)) (.gx lI_ p_l (IntKind.wrap .i64 (v0-1)) fun x1 _=>
 .rt [0,5,6,7,30] 0 (decide ((x0:Int)≤x1)))<|
 .rt [0,5,6,7,30] 0 (false)
def tH(p_l:List Int):(Int)→Mo ((Int)⊕(Unit⊕Unit)):=fun(v0)=>
 .iB (decide ((v0:Int)<(p_l.length:Int))) (.gx lI_ p_l v0 fun x0 _=>
 .sf Tryz.f59 0 [1,0,1,0,0,1,1,0,0,1,0] 0 6 4 [(0,.lf (.rows 1 (p_l.map lfI))),(3,.i_ v0),(4,.i_ x0),(5,.lf (.rows 1 (p_l.map lfI))),(6,.i_ (p_l.length:Int)),(7,.i_ v0)] [] 17 (JB p_l v0 x0) fun r0=>
 .sk Tryz.f59 0 [1,0,1,0,0,1,1,0,0,1,0] 6 13 4 (fun r_=>⟨[(0,.lf (.rows 1 (p_l.map lfI))),(5,.lf (.rows 1 (p_l.map lfI))),(6,.i_ (p_l.length:Int)),(7,.i_ v0),(30,.b_ r_)],[]⟩) ⟨[(0,.lf (.rows 1 (p_l.map lfI))),(3,.i_ v0),(4,.i_ x0),(5,.lf (.rows 1 (p_l.map lfI))),(6,.i_ (p_l.length:Int)),(7,.i_ v0),(17,.b_ r0)],[]⟩ (JC p_l r0 v0 x0) fun r1=>
 .iB (r1) (.rt [2] 0 (.inr (.inl ())))<|
 .rt [0,5,6,7] 0 (.inl (IntKind.wrap .i64 (v0+1))))<|
 .rt [0] 0 (.inr (.inr (())))
def Ua(p_l:List Int)(v0:Int):Option (Unit⊕Unit):=bW (fun v_=>(tH p_l v_).den) FU (v0)
def aip(p_l:List Int):Mo (Bool):=
 .nu p_l lfI<|
 .l2m [] Tryz.f59 0 [1,0,1,0] 0 (fun(v0)=>⟨[(0,.lf (.rows 1 (p_l.map lfI))),(5,.lf (.rows 1 (p_l.map lfI))),(6,.i_ (p_l.length:Int)),(7,.i_ v0)],[]⟩) .ret (fun _=>⟨[(2,.b_ false)],[]⟩) (.exit 0) (fun _=>⟨[(0,.lf (.rows 1 (p_l.map lfI)))],[]⟩) (Ua p_l 0) (tH p_l) (0) (fun o0=>
 .ret (aS 1) (false)) fun o1=>
 .nu p_l lfI<|
 .ret (aS 1) (decide ((0:Int)<(p_l.length:Int)))
def Q45(p_l:List Int):Option (Bool):=Mo.den (aip p_l)
theorem aq7(p_l:List Int):FV (Q45 p_l) 59 [.lf (.rows 1 (p_l.map lfI))] .b_:=dA Tryz.func59
abbrev aaQ(m:ah→Int→Option (Int)):Prop:=∀p_v p_most,FV (m p_v p_most) 274 [.dat (ah.lf1 p_v),.i_ p_most] .i_
abbrev aiq(m:ah→Int→Int→Option (Int×Int)):Prop:=∀p_v p_b0 p_b1,FH (m p_v p_b0 p_b1) 323 [.dat (ah.lf1 p_v),.clo 324 [.ptr 0 0,.ptr 1 0]] [.box 3 (.dat [(.int .i64 p_b0)]),.box 3 (.dat [(.int .i64 p_b1)])] (fun _=>.tup []) (fun r=>[.box 3 (.dat [(.int .i64 r.1)]),.box 3 (.dat [(.int .i64 r.2)])])
abbrev air(m:ah→Int→Int→Option (Bool×Int×Int)):Prop:=∀p_p p_b0 p_b1,FH (m p_p p_b0 p_b1) 324 [.dat (ah.lf1 p_p),.ptr 0 0,.ptr 1 0] [.box 3 (.dat [(.int .i64 p_b0)]),.box 3 (.dat [(.int .i64 p_b1)])] (fun r=>.b_ r.1) (fun r=>[.box 3 (.dat [(.int .i64 r.2.1)]),.box 3 (.dat [(.int .i64 r.2.2)])])
structure RB2 where
 m1:(p_v:ah)→(p_most:Int)→Option (Int)
 ok1:aaQ m1
 m2:(p_v:ah)→(p_b0:Int)→(p_b1:Int)→Option (Int×Int)
 ok2:aiq m2
 m3:(p_p:ah)→(p_b0:Int)→(p_b1:Int)→Option (Bool×Int×Int)
 ok3:air m3
def Ub(R_:RB2)(p_v:ah)(p_most:Int):Mo (Int):=
 .iB (1==p_most) (.ret (aS 1) (1))<|
 .cH [2,1] (R_.ok2 p_v 1 p_most) fun r0 _=>
 .ret (aS 1) (r0.1)
theorem ais(R_:RB2):aaQ fun p_v p_most=>Mo.den (Ub R_ p_v p_most):=fun _ _=>dA Tryz.func274
def yI(R_:RB2)(p_v:ah):(Int×Int×Int)→Mo ((Int×Int×Int)⊕(Int×Int)⊕(Int×Int)):=fun(v0,v1,v2)=>
 .iB (decide ((v0:Int)<(p_v.aW.length:Int))) (.gx ah.bf p_v.aW v0 fun x0 _=>
 .say [.at_ 14 2,.tod 20] ok0<|
 .cH [0,1] (R_.ok3 x0 v1 v2) fun r0 _=>
 .iB (!r0.1) (.rt [] 3 (.inr (.inl (r0.2.1,r0.2.2))))<|
 .rt [1,13,14,15] 3 (.inl (IntKind.wrap .i64 (v0+1),r0.2.1,r0.2.2)))<|
 .rt [] 3 (.inr (.inr ((v1,v2))))
def adJ(R_:RB2)(p_v:ah)(v0:Int)(v1:Int)(v2:Int):Option ((Int×Int)⊕(Int×Int)):=bW (fun v_=>(yI R_ p_v v_).den) FU (v0,v1,v2)
def yJ(R_:RB2)(p_v:ah):(Int×Int×Int)→Mo ((Int×Int×Int)⊕(Int×Int)⊕(Int×Int)):=fun(v0,v1,v2)=>
 .iB (decide ((v0:Int)<(p_v.aU.length:Int))) (.gx aJ.bf p_v.aU v0 fun x0 _=>
 .say [.at_ 26 3,.tod 35] ok0<|
 .cH [0,1] (R_.ok3 x0.fValue v1 v2) fun r0 _=>
 .iB (!r0.1) (.rt [] 3 (.inr (.inl (r0.2.1,r0.2.2))))<|
 .rt [1,27,28,29] 3 (.inl (IntKind.wrap .i64 (v0+1),r0.2.1,r0.2.2)))<|
 .rt [] 3 (.inr (.inr ((v1,v2))))
def adK(R_:RB2)(p_v:ah)(v0:Int)(v1:Int)(v2:Int):Option ((Int×Int)⊕(Int×Int)):=bW (fun v_=>(yJ R_ p_v v_).den) FU (v0,v1,v2)
def JD(R_:RB2)(p_v:ah)(p_b0:Int)(p_b1:Int):Mo (Int×Int):=
 .iB (p_v.aF==6) (.nu p_v.aW ah.lf<|
 .l2m [.kill 2] Tryz.f323 2 [1,1,0,1,0,1,0] 0 (fun(v0,v1,v2)=>⟨[(1,.clo 324 [.ptr 0 0,.ptr 1 0]),(13,.lf (.rows 5 (p_v.aW.map ah.lf))),(14,.i_ (p_v.aW.length:Int)),(15,.i_ v0)],[.box 3 (.dat [(.int .i64 v1)]),.box 3 (.dat [(.int .i64 v2)]),.dead]⟩) .ret (fun o_=>⟨[],[.box 3 (.dat [(.int .i64 o_.1)]),.box 3 (.dat [(.int .i64 o_.2)]),.dead]⟩) (.exit 1) (fun o_=>⟨[],[.box 3 (.dat [(.int .i64 o_.1)]),.box 3 (.dat [(.int .i64 o_.2)]),.dead]⟩) (adJ R_ p_v 0 p_b0 p_b1) (yI R_ p_v) (0,p_b0,p_b1) (fun o0=>
 .rt [] 2 (o0.1,o0.2)) fun o1=>
 .rt [] 2 (o1.1,o1.2))<|
 .iB (p_v.aF==5) (.nu p_v.aU aJ.lf<|
 .l2m [.kill 2] Tryz.f323 2 [1,1,0,1,1,1,0,1,0] 0 (fun(v3,v4,v5)=>⟨[(1,.clo 324 [.ptr 0 0,.ptr 1 0]),(27,.lf (.rows 6 (p_v.aU.map aJ.lf))),(28,.i_ (p_v.aU.length:Int)),(29,.i_ v3)],[.box 3 (.dat [(.int .i64 v4)]),.box 3 (.dat [(.int .i64 v5)]),.dead]⟩) .ret (fun o_=>⟨[],[.box 3 (.dat [(.int .i64 o_.1)]),.box 3 (.dat [(.int .i64 o_.2)]),.dead]⟩) (.exit 3) (fun o_=>⟨[],[.box 3 (.dat [(.int .i64 o_.1)]),.box 3 (.dat [(.int .i64 o_.2)]),.dead]⟩) (adK R_ p_v 0 p_b0 p_b1) (yJ R_ p_v) (0,p_b0,p_b1) (fun o2=>
 .rt [] 2 (o2.1,o2.2)) fun o3=>
 .rt [] 2 (o3.1,o3.2))<|
 .ret ⟨[.kill 2],[],[],2⟩ (p_b0,p_b1)
theorem ait(R_:RB2):aiq fun p_v p_b0 p_b1=>Mo.den (JD R_ p_v p_b0 p_b1):=fun _ _ _=>fH Tryz.func323
def Uc(R_:RB2)(p_p:ah)(p_b0:Int)(p_b1:Int):Mo (Bool×Int×Int):=
 .say [.order [(true,0),(true,1),(true,2),(true,3),(true,4),(false,5),(true,6),(false,7)] (some 7) []] ok0<|
 .cl (R_.ok1 p_p (IntKind.wrap .i64 (p_b1-p_b0))) fun r0 _=>
 .ret ⟨[.kill 2],[0],[],2⟩ (decide ((IntKind.wrap .i64 (p_b0+r0):Int)<p_b1),IntKind.wrap .i64 (p_b0+r0),p_b1)
theorem aiu(R_:RB2):air fun p_p p_b0 p_b1=>Mo.den (Uc R_ p_p p_b0 p_b1):=fun _ _ _=>fH Tryz.func324
def ru:Nat→RB2
 |0=>{ m1:=fun p_v p_most=>none,ok1:=fun _ _ _ h=>(by cases h),m2:=fun p_v p_b0 p_b1=>none,ok2:=fun _ _ _ _ h=>(by cases h),m3:=fun p_p p_b0 p_b1=>none,ok3:=fun _ _ _ _ h=>(by cases h) }
 |n_+1=>{ m1:=fun p_v p_most=>Mo.den (Ub (ru n_) p_v p_most),ok1:=ais (ru n_),m2:=fun p_v p_b0 p_b1=>Mo.den (JD (ru n_) p_v p_b0 p_b1),ok2:=ait (ru n_),m3:=fun p_p p_b0 p_b1=>Mo.den (Uc (ru n_) p_p p_b0 p_b1),ok3:=aiu (ru n_) }
def aug(p_v:ah)(p_most:Int):Option (Int):=(ru FU).m1 p_v p_most
theorem am1:aaQ aug:=(ru FU).ok1
def aiv(p_v:ah):Mo (Int):=
 .cl (am1 p_v 1025) fun r0 _=>
 .ret (aS 1) (r0)
def aq8(p_v:ah):Option (Int):=Mo.den (aiv p_v)
theorem am2(p_v:ah):FV (aq8 p_v) 203 [.dat (ah.lf1 p_v)] .i_:=dA Tryz.func203
abbrev aaR(m:ah→Int→Option (Int)):Prop:=∀p_v p_most,FV (m p_v p_most) 275 [.dat (ah.lf1 p_v),.i_ p_most] .i_
abbrev aiw(m:ah→Int→Int→Option (Int×Int)):Prop:=∀p_v p_b0 p_b1,FH (m p_v p_b0 p_b1) 323 [.dat (ah.lf1 p_v),.clo 325 [.ptr 0 0,.ptr 1 0]] [.box 3 (.dat [(.int .i64 p_b0)]),.box 3 (.dat [(.int .i64 p_b1)])] (fun _=>.tup []) (fun r=>[.box 3 (.dat [(.int .i64 r.1)]),.box 3 (.dat [(.int .i64 r.2)])])
abbrev aix(m:ah→Int→Int→Option (Bool×Int×Int)):Prop:=∀p_p p_b0 p_b1,FH (m p_p p_b0 p_b1) 325 [.dat (ah.lf1 p_p),.ptr 0 0,.ptr 1 0] [.box 3 (.dat [(.int .i64 p_b0)]),.box 3 (.dat [(.int .i64 p_b1)])] (fun r=>.b_ r.1) (fun r=>[.box 3 (.dat [(.int .i64 r.2.1)]),.box 3 (.dat [(.int .i64 r.2.2)])])
structure RB3 where
 m1:(p_v:ah)→(p_most:Int)→Option (Int)
 ok1:aaR m1
 m2:(p_v:ah)→(p_b0:Int)→(p_b1:Int)→Option (Int×Int)
 ok2:aiw m2
 m3:(p_p:ah)→(p_b0:Int)→(p_b1:Int)→Option (Bool×Int×Int)
 ok3:aix m3
def Ud(R_:RB3)(p_v:ah)(p_most:Int):Mo (Int):=
 .iB (p_most==1) (.ret (aS 1) (1))<|
 .cH [2,1] (R_.ok2 p_v 0 p_most) fun r0 _=>
 .ret (aS 1) (IntKind.wrap .i64 (1+r0.1))
theorem aiy(R_:RB3):aaR fun p_v p_most=>Mo.den (Ud R_ p_v p_most):=fun _ _=>dA Tryz.func275
def CB(R_:RB3)(p_v:ah):(Int×Int×Int)→Mo ((Int×Int×Int)⊕(Int×Int)⊕(Int×Int)):=fun(v0,v1,v2)=>
 .iB (decide ((v0:Int)<(p_v.aW.length:Int))) (.gx ah.bf p_v.aW v0 fun x0 _=>
 .say [.at_ 14 2,.tod 20] ok0<|
 .cH [0,1] (R_.ok3 x0 v1 v2) fun r0 _=>
 .iB (!r0.1) (.rt [] 3 (.inr (.inl (r0.2.1,r0.2.2))))<|
 .rt [1,13,14,15] 3 (.inl (IntKind.wrap .i64 (v0+1),r0.2.1,r0.2.2)))<|
 .rt [] 3 (.inr (.inr ((v1,v2))))
def aiz(R_:RB3)(p_v:ah)(v0:Int)(v1:Int)(v2:Int):Option ((Int×Int)⊕(Int×Int)):=bW (fun v_=>(CB R_ p_v v_).den) FU (v0,v1,v2)
def CG(R_:RB3)(p_v:ah):(Int×Int×Int)→Mo ((Int×Int×Int)⊕(Int×Int)⊕(Int×Int)):=fun(v0,v1,v2)=>
 .iB (decide ((v0:Int)<(p_v.aU.length:Int))) (.gx aJ.bf p_v.aU v0 fun x0 _=>
 .say [.at_ 26 3,.tod 35] ok0<|
 .cH [0,1] (R_.ok3 x0.fValue v1 v2) fun r0 _=>
 .iB (!r0.1) (.rt [] 3 (.inr (.inl (r0.2.1,r0.2.2))))<|
 .rt [1,27,28,29] 3 (.inl (IntKind.wrap .i64 (v0+1),r0.2.1,r0.2.2)))<|
 .rt [] 3 (.inr (.inr ((v1,v2))))
def aiA(R_:RB3)(p_v:ah)(v0:Int)(v1:Int)(v2:Int):Option ((Int×Int)⊕(Int×Int)):=bW (fun v_=>(CG R_ p_v v_).den) FU (v0,v1,v2)
def XA(R_:RB3)(p_v:ah)(p_b0:Int)(p_b1:Int):Mo (Int×Int):=
 .iB (p_v.aF==6) (.nu p_v.aW ah.lf<|
 .l2m [.kill 2] Tryz.f323 2 [1,1,0,1,0,1,0] 0 (fun(v0,v1,v2)=>⟨[(1,.clo 325 [.ptr 0 0,.ptr 1 0]),(13,.lf (.rows 5 (p_v.aW.map ah.lf))),(14,.i_ (p_v.aW.length:Int)),(15,.i_ v0)],[.box 3 (.dat [(.int .i64 v1)]),.box 3 (.dat [(.int .i64 v2)]),.dead]⟩) .ret (fun o_=>⟨[],[.box 3 (.dat [(.int .i64 o_.1)]),.box 3 (.dat [(.int .i64 o_.2)]),.dead]⟩) (.exit 1) (fun o_=>⟨[],[.box 3 (.dat [(.int .i64 o_.1)]),.box 3 (.dat [(.int .i64 o_.2)]),.dead]⟩) (aiz R_ p_v 0 p_b0 p_b1) (CB R_ p_v) (0,p_b0,p_b1) (fun o0=>
 .rt [] 2 (o0.1,o0.2)) fun o1=>
 .rt [] 2 (o1.1,o1.2))<|
 .iB (p_v.aF==5) (.nu p_v.aU aJ.lf<|
 .l2m [.kill 2] Tryz.f323 2 [1,1,0,1,1,1,0,1,0] 0 (fun(v3,v4,v5)=>⟨[(1,.clo 325 [.ptr 0 0,.ptr 1 0]),(27,.lf (.rows 6 (p_v.aU.map aJ.lf))),(28,.i_ (p_v.aU.length:Int)),(29,.i_ v3)],[.box 3 (.dat [(.int .i64 v4)]),.box 3 (.dat [(.int .i64 v5)]),.dead]⟩) .ret (fun o_=>⟨[],[.box 3 (.dat [(.int .i64 o_.1)]),.box 3 (.dat [(.int .i64 o_.2)]),.dead]⟩) (.exit 3) (fun o_=>⟨[],[.box 3 (.dat [(.int .i64 o_.1)]),.box 3 (.dat [(.int .i64 o_.2)]),.dead]⟩) (aiA R_ p_v 0 p_b0 p_b1) (CG R_ p_v) (0,p_b0,p_b1) (fun o2=>
 .rt [] 2 (o2.1,o2.2)) fun o3=>
 .rt [] 2 (o3.1,o3.2))<|
 .ret ⟨[.kill 2],[],[],2⟩ (p_b0,p_b1)
theorem am3(R_:RB3):aiw fun p_v p_b0 p_b1=>Mo.den (XA R_ p_v p_b0 p_b1):=fun _ _ _=>fH Tryz.func323
def Ue(R_:RB3)(p_p:ah)(p_b0:Int)(p_b1:Int):Mo (Bool×Int×Int):=
 .say [.order [(true,0),(true,1),(true,2),(true,3),(false,4),(true,5),(false,6)] (some 6) []] ok0<|
 .cl (R_.ok1 p_p (IntKind.wrap .i64 (p_b1-1))) fun r0 _=>
 .ret ⟨[.kill 2],[0],[],2⟩ (decide (((if r0 > p_b0 then r0 else p_b0):Int)<(IntKind.wrap .i64 (p_b1-1))),(if r0 > p_b0 then r0 else p_b0),p_b1)
theorem aiB(R_:RB3):aix fun p_p p_b0 p_b1=>Mo.den (Ue R_ p_p p_b0 p_b1):=fun _ _ _=>fH Tryz.func325
def rC:Nat→RB3
 |0=>{ m1:=fun p_v p_most=>none,ok1:=fun _ _ _ h=>(by cases h),m2:=fun p_v p_b0 p_b1=>none,ok2:=fun _ _ _ _ h=>(by cases h),m3:=fun p_p p_b0 p_b1=>none,ok3:=fun _ _ _ _ h=>(by cases h) }
 |n_+1=>{ m1:=fun p_v p_most=>Mo.den (Ud (rC n_) p_v p_most),ok1:=aiy (rC n_),m2:=fun p_v p_b0 p_b1=>Mo.den (XA (rC n_) p_v p_b0 p_b1),ok2:=am3 (rC n_),m3:=fun p_p p_b0 p_b1=>Mo.den (Ue (rC n_) p_p p_b0 p_b1),ok3:=aiB (rC n_) }
def auh(p_v:ah)(p_most:Int):Option (Int):=(rC FU).m1 p_v p_most
theorem am4:aaR auh:=(rC FU).ok1
def aiC(p_v:ah):Mo (Int):=
 .cl (am4 p_v 17) fun r0 _=>
 .ret (aS 1) (r0)
def aq9(p_v:ah):Option (Int):=Mo.den (aiC p_v)
theorem am5(p_v:ah):FV (aq9 p_v) 204 [.dat (ah.lf1 p_v)] .i_:=dA Tryz.func204
def oI(p_s:ByteArray):(Int)→Mo ((Int)⊕(Unit⊕Unit)):=fun(v0)=>
 .iB (decide ((v0:Int)<(p_s.size:Int))) (.sf Tryz.f327 0 [1,1,0,1,0,0,1,1,0,0,1,0] 0 10 6 [(0,.lf (.str p_s)),(3,.i_ v0),(18,.i_ (p_s.size:Int)),(19,.i_ v0)] [] 31 (kE p_s v0) fun r0=>
 .sk Tryz.f327 0 [1,1,0,1,0,0,1,1,0,0,1,0] 10 6 6 (fun r_=>⟨[(0,.lf (.str p_s)),(18,.i_ (p_s.size:Int)),(19,.i_ v0),(37,.b_ r_)],[]⟩) ⟨[(0,.lf (.str p_s)),(3,.i_ v0),(18,.i_ (p_s.size:Int)),(19,.i_ v0),(31,.b_ r0)],[]⟩ (kF p_s r0 v0) fun r1=>
 .iB (r1) (.rt [2] 0 (.inr (.inl ())))<|
 .rt [0,18,19] 0 (.inl (IntKind.wrap .i64 (v0+1))))<|
 .rt [] 0 (.inr (.inr (())))
def CJ(p_s:ByteArray)(v0:Int):Option (Unit⊕Unit):=bW (fun v_=>(oI p_s v_).den) FU (v0)
def XB(p_s:ByteArray):Mo (Bool):=
 .sf Tryz.f327 0 [1,0,0] 0 8 1 [(0,.lf (.str p_s))] [] 11 (kC p_s) fun r0=>
 .sb Tryz.f327 0 [1,0,0] 8 5 1 [(0,.lf (.str p_s))] [] 11 16 r0 (kD p_s r0) fun r1=>
 .iB (r1) (.ret (aS 1) (false))<|
 .l2m [] Tryz.f327 0 [1,1,0,1,0] 0 (fun(v0)=>⟨[(0,.lf (.str p_s)),(18,.i_ (p_s.size:Int)),(19,.i_ v0)],[]⟩) .ret (fun _=>⟨[(2,.b_ false)],[]⟩) (.exit 0) (fun _=>⟨[],[]⟩) (CJ p_s 0) (oI p_s) (0) (fun o0=>
 .ret (aS 1) (false)) fun o1=>
 .ret (aS 1) (true)
def Q71(p_s:ByteArray):Option (Bool):=Mo.den (XB p_s)
theorem ara(p_s:ByteArray):FV (Q71 p_s) 327 [.lf (.str p_s)] .b_:=dA Tryz.func327
abbrev aaS(m:ah→Option (Bool)):Prop:=∀p_v,FV (m p_v) 205 [.dat (ah.lf1 p_v)] .b_
abbrev aiD(m:(List aJ)→Option (Bool)):Prop:=∀p_l,FV (m p_l) 277 [.lf (.rows 6 (p_l.map aJ.lf))] .b_
structure RB4 where
 m1:(p_v:ah)→Option (Bool)
 ok1:aaS m1
 m2:(p_l:List aJ)→Option (Bool)
 ok2:aiD m2
def XC(R_:RB4)(p_v:ah):Mo (Bool):=
 .oV 4003 (p_v.aF==3) [1,14] 1 (p_v.aF==9)
def XD(R_:RB4)(p_v:ah)(r0:Bool):Mo (Bool):=
 .oV 4008 (r0) [1,19] 1 (p_v.aF==10)
def OH(R_:RB4)(p_v:ah)(r0:Bool):Mo (Unit):=
 .rt [1,3] 1 ()
def OI(R_:RB4)(p_v:ah)(r0:Bool):Mo (Bool):=
 .oV 6003 (p_v.aF==4) [1,3,27] 1 (p_v.aF==7)
def OJ(R_:RB4)(p_v:ah)(r0:Bool)(r1:Bool):Mo (Bool):=
 .oV 6008 (r0) [1,3,32] 1 (p_v.aF==8)
def OL(R_:RB4)(p_v:ah)(r0:Bool)(r1:Bool):Mo (Unit):=
 .rt [1,3,4] 1 ()
def OM(R_:RB4)(p_v:ah)(r0:Bool)(r1:Bool):Mo (Bool):=
 .aV 8002 (!r1) [1,4,39] 1 (p_v.fA != 0)
def OO(R_:RB4)(p_v:ah)(r0:Bool)(r1:Bool):Mo (Bool):=
 .iG 8007 (r1) (.rt [1,48] 1 (true))<|
 .aV 8010 (!r0) [1,48] 1 (!decide ((p_v.fText:ByteArray)=(⟨#[]⟩:ByteArray)))
def OQ(R_:RB4)(p_v:ah):Mo (Bool):=
 .iG 12003 (p_v.aF != 6) (.nu p_v.aW ah.lf<|
 .rt [1,57] 1 (decide ((0:Int)<(p_v.aW.length:Int))))<|
 .rt [1,57] 1 (false)
def OT(R_:RB4)(p_v:ah)(r0:Bool):Mo (Bool):=
 .iG 12009 (r0) (.rt [1,68] 1 (true))<|
 .iG 12013 (p_v.aF != 5) (.nu p_v.aU aJ.lf<|
 .rt [1,68] 1 (decide ((0:Int)<(p_v.aU.length:Int))))<|
 .rt [1,68] 1 (false)
def OU(R_:RB4)(p_v:ah):Mo (Bool):=
 .iB (p_v.aF==1) (.rt [1,70,71] 1 (p_v.aF==1))<|
 .iB (p_v.aF==2) (.rt [1,70,71] 1 (p_v.aF==2))<|
 .iB (p_v.aF==11) (.rt [1,70,71] 1 (p_v.aF==11))<|
 .rt [1,70,71] 1 (p_v.aF==3)
def OV(R_:RB4)(p_v:ah):Mo (Bool):=
 .iG 30003 (p_v.fA==0) (.ret ⟨[.kill 0],[2],[],1⟩ (true))<|
 .ret ⟨[.kill 0],[2],[],1⟩ (p_v.fA==1)
def OW(R_:RB4)(p_v:ah):Mo (Bool):=
 .iG 38004 (decide (((p_v.fText.size:Int):Int)≤4096)) (.cl (amW p_v.fText) fun r0 _=>
 .ret ⟨[.kill 0],[2],[],1⟩ (r0))<|
 .ret ⟨[.kill 0],[2],[],1⟩ (false)
def yK(R_:RB4)(p_v:ah):(Int)→Mo ((Int)⊕(Unit⊕Unit)):=fun(v0)=>
 .iB (decide ((v0:Int)<(p_v.aW.length:Int))) (.gx ah.bf p_v.aW v0 fun x0 _=>
 .cl (R_.ok1 x0) fun r0 _=>
 .iB (!r0) (.rt [2] 1 (.inr (.inl ())))<|
 .rt [117,118,119] 1 (.inl (IntKind.wrap .i64 (v0+1))))<|
 .rt [] 1 (.inr (.inr (())))
def adL(R_:RB4)(p_v:ah)(v0:Int):Option (Unit⊕Unit):=bW (fun v_=>(yK R_ p_v v_).den) FU (v0)
def adM(R_:RB4)(p_v:ah):Mo (Bool):=
 .sf Tryz.f205 0 [1,0] 0 8 1 [(1,.ptr 0 0)] [aX p_v] 14 (XC R_ p_v) fun r0=>
 .sb Tryz.f205 0 [1,0] 8 5 1 [(1,.ptr 0 0)] [aX p_v] 14 19 r0 (XD R_ p_v r0) fun r1=>
 .sk Tryz.f205 0 [1,0] 13 1 1 (fun r_=>⟨[(1,.ptr 0 0),(3,.b_ r1)],[aX p_v]⟩) ⟨[(1,.ptr 0 0),(19,.b_ r1)],[aX p_v]⟩ (OH R_ p_v r1) fun r2=>
 .sf Tryz.f205 0 [1,1,0] 0 8 2 [(1,.ptr 0 0),(3,.b_ r1)] [aX p_v] 27 (OI R_ p_v r1) fun r3=>
 .sb Tryz.f205 0 [1,1,0] 8 5 2 [(1,.ptr 0 0),(3,.b_ r1)] [aX p_v] 27 32 r3 (OJ R_ p_v r3 r1) fun r4=>
 .sk Tryz.f205 0 [1,1,0] 13 1 2 (fun r_=>⟨[(1,.ptr 0 0),(3,.b_ r1),(4,.b_ r4)],[aX p_v]⟩) ⟨[(1,.ptr 0 0),(3,.b_ r1),(32,.b_ r4)],[aX p_v]⟩ (OL R_ p_v r4 r1) fun r5=>
 .sk Tryz.f205 0 [1,1,1,0,0] 0 7 3 (fun r_=>⟨[(1,.ptr 0 0),(4,.b_ r4),(39,.b_ r_)],[aX p_v]⟩) ⟨[(1,.ptr 0 0),(3,.b_ r1),(4,.b_ r4)],[aX p_v]⟩ (OM R_ p_v r4 r1) fun r6=>
 .sk Tryz.f205 0 [1,1,1,0,0] 7 9 3 (fun r_=>⟨[(1,.ptr 0 0),(48,.b_ r_)],[aX p_v]⟩) ⟨[(1,.ptr 0 0),(4,.b_ r4),(39,.b_ r6)],[aX p_v]⟩ (OO R_ p_v r4 r6) fun r7=>
 .iB (r7) (.ret (aS 1) (false))<|
 .sf Tryz.f205 0 [1,1,1,1,0,0] 0 9 5 [(1,.ptr 0 0)] [aX p_v] 57 (OQ R_ p_v) fun r8=>
 .sb Tryz.f205 0 [1,1,1,1,0,0] 9 11 5 [(1,.ptr 0 0)] [aX p_v] 57 68 r8 (OT R_ p_v r8) fun r9=>
 .iB (r9) (.ret (aS 1) (false))<|
 .jk Tryz.f205 0 [1,1,1,1,1,0,1,0,0,1] 1 (fun r_=>⟨[(1,.ptr 0 0),(70,.i_ p_v.aF),(71,.b_ r_)],[aX p_v]⟩) ⟨[(1,.ptr 0 0),(70,.i_ p_v.aF),(71,.lf (.bool (p_v.aF==1)))],[aX p_v]⟩ (OU R_ p_v) fun r10=>
 .iB (r10) (.ret (aS 1) (true))<|
 .iB (p_v.aF==9) (.jk Tryz.f205 0 [1,1,1,1,1,0,1,0,1,1,1,0,0] 35 (fun r_=>⟨[(2,.b_ r_)],[.dead]⟩) ⟨[(1,.ptr 0 0)],[aX p_v]⟩ (OV R_ p_v) fun r11=>
 .ret (aS 1) (r11))<|
 .iB (p_v.aF==10) (.ret (aS 1) (decide ((0:Int)≤p_v.fA)))<|
 .iB (p_v.aF==4) (.jk Tryz.f205 0 [1,1,1,1,1,0,1,0,1,1,1,1,1,1,1,0,0] 43 (fun r_=>⟨[(2,.b_ r_)],[.dead]⟩) ⟨[(1,.ptr 0 0)],[aX p_v]⟩ (OW R_ p_v) fun r12=>
 .ret (aS 1) (r12))<|
 .iB (p_v.aF==7) (.ret (aS 1) (decide (((p_v.fText.size:Int):Int)≤4096)))<|
 .iB (p_v.aF==8) (.ret (aS 1) ((p_v.fText.size:Int)==12))<|
 .iB (p_v.aF==6) (.nu p_v.aW ah.lf<|
 .l2m [.kill 0] Tryz.f205 0 [1,1,1,1,1,0,1,0,1,1,1,1,1,1,1,1,1,1,1,1,1,0,0,1,0] 0 (fun(v0)=>⟨[(117,.lf (.rows 5 (p_v.aW.map ah.lf))),(118,.i_ (p_v.aW.length:Int)),(119,.i_ v0)],[.dead]⟩) .ret (fun _=>⟨[(2,.b_ false)],[.dead]⟩) (.exit 1) (fun _=>⟨[],[.dead]⟩) (adL R_ p_v 0) (yK R_ p_v) (0) (fun o0=>
 .ret (aS 1) (false)) fun o1=>
 .ret (aS 1) (true))<|
 .iB (p_v.aF==5) (.cl (R_.ok2 p_v.aU) fun r13 _=>
 .ret (aS 1) (r13))<|
 .ret (aS 1) (false)
theorem am6(R_:RB4):aaS fun p_v=>Mo.den (adM R_ p_v):=fun _=>dA Tryz.func205
def XE(R_:RB4)(m1575:List (ByteArray×Bool))(p_l:List aJ)(v0:Int)(x0:aJ):Mo (Bool):=
 .cl (ara x0.fName) fun r0 _=>
 .iG 12004 (!r0) (.rt [3,5,7,8,9,22] 2 (true))<|
 .say [.row [.bool (wO m1575 x0.fName false)]] (okc (rfl:Tryz.prog=Tryz.prog) (ok1 (Jc _ _ _:nR (m1575.map mvB) x0.fName (.bool false)=(.bool (wO m1575 x0.fName false)))))<|
 .rt [3,5,7,8,9,22] 2 (wO m1575 x0.fName false)
def XF(R_:RB4)(m1575:List (ByteArray×Bool))(p_l:List aJ)(r0:Bool)(v0:Int)(x0:aJ):Mo (Bool):=
 .iG 12010 (r0) (.rt [3,5,7,8,9,28] 2 (true))<|
 .cl (R_.ok1 x0.fValue) fun r1 _=>
 .rt [3,5,7,8,9,28] 2 (!r1)
def yL(R_:RB4)(p_l:List aJ):(Int×(List (ByteArray×Bool)))→Mo ((Int×(List (ByteArray×Bool)))⊕(Unit⊕Unit)):=fun(v0,m1575)=>
 .iB (decide ((v0:Int)<(p_l.length:Int))) (.gx aJ.bf p_l v0 fun x0 _=>
 .sf Tryz.f277 0 [1,1,0,1,0,0,1,1,0,0,1,0,0] 0 10 5 [(3,.mp 0),(5,.ptr 1 0),(7,.lf (.rows 6 (p_l.map aJ.lf))),(8,.i_ (p_l.length:Int)),(9,.i_ v0)] [.map Tryz.prog 9 4 (m1575.map mvB),.box 115 (.agg ((aJ.lf1 x0).map AV.lf))] 22 (XE R_ m1575 p_l v0 x0) fun r0=>
 .sb Tryz.f277 0 [1,1,0,1,0,0,1,1,0,0,1,0,0] 10 6 5 [(3,.mp 0),(5,.ptr 1 0),(7,.lf (.rows 6 (p_l.map aJ.lf))),(8,.i_ (p_l.length:Int)),(9,.i_ v0)] [.map Tryz.prog 9 4 (m1575.map mvB),.box 115 (.agg ((aJ.lf1 x0).map AV.lf))] 22 28 r0 (XF R_ m1575 p_l r0 v0 x0) fun r1=>
 .iB (r1) (.ret ⟨[.kill 0],[2],[],1⟩ (.inr (.inl ())))<|
 .say [] (ok1 (rfl:Tryz.prog=Tryz.prog))<|
 .grd (m1575.length<maxLen) fun h0=>
 .say [] (ok1 (by simpa using h0:(m1575.map mvB).length<maxLen))<|
 .rt [3,7,8,9] 1 (.inl (IntKind.wrap .i64 (v0+1),(x0.fName,true)::m1575)))<|
 .ret ⟨[.kill 0],[],[],1⟩ (.inr (.inr (())))
def adN(R_:RB4)(p_l:List aJ)(v0:Int)(m1575:List (ByteArray×Bool)):Option (Unit⊕Unit):=bW (fun v_=>(yL R_ p_l v_).den) FU (v0,m1575)
def adO(R_:RB4)(p_l:List aJ):Mo (Bool):=
 .nu p_l aJ.lf<|
 .l2m [] Tryz.f277 0 [1,1,0,1,0] 0 (fun(v0,m1575)=>⟨[(3,.mp 0),(7,.lf (.rows 6 (p_l.map aJ.lf))),(8,.i_ (p_l.length:Int)),(9,.i_ v0)],[.map Tryz.prog 9 4 (m1575.map mvB)]⟩) .ret (fun _=>⟨[(2,.b_ false)],[.dead]⟩) (.exit 0) (fun _=>⟨[],[.dead]⟩) (adN R_ p_l 0 ([]:List (ByteArray×Bool))) (yL R_ p_l) (0,([]:List (ByteArray×Bool))) (fun o0=>
 .ret (aS 1) (false)) fun o1=>
 .ret (aS 1) (true)
theorem am7(R_:RB4):aiD fun p_l=>Mo.den (adO R_ p_l):=fun _=>dA Tryz.func277
def wS:Nat→RB4
 |0=>{ m1:=fun p_v=>none,ok1:=fun _ _ h=>(by cases h),m2:=fun p_l=>none,ok2:=fun _ _ h=>(by cases h) }
 |n_+1=>{ m1:=fun p_v=>Mo.den (adM (wS n_) p_v),ok1:=am6 (wS n_),m2:=fun p_l=>Mo.den (adO (wS n_) p_l),ok2:=am7 (wS n_) }
def Q22(p_v:ah):Option (Bool):=(wS FU).m1 p_v
theorem arb:aaS Q22:=(wS FU).ok1
def aiE(p_v:ah):Mo (Bool):=
 .cl (am2 p_v) fun r0 _=>
 .iG 4003 (decide ((r0:Int)≤1024)) (.cl (am5 p_v) fun r1 _=>
 .iG 4008 (decide ((r1:Int)≤16)) (.cl (arb p_v) fun r2 _=>
 .ret (aS 1) (r2))<|
 .ret (aS 1) (false))<|
 .ret (aS 1) (false)
def am8(p_v:ah):Option (Bool):=Mo.den (aiE p_v)
theorem nY(p_v:ah):FV (am8 p_v) 132 [.dat (ah.lf1 p_v)] .b_:=dA Tryz.func132
def XG(p_v:ah):Mo (Bool):=
 .aV 4003 (p_v.aF != 6) [1,2,10] 1 (p_v.aF != 1)
def XH(p_v:ah)(r0:Bool):Mo (Bool):=
 .aV 4008 (r0) [1,2,15] 1 (p_v.aF != 11)
def OX(p_v:ah)(r0:Bool):Mo (Bool):=
 .iG 4013 (r0) (.cl (nY p_v) fun r1 _=>
 .ret ⟨[.kill 0],[2,19],[],1⟩ (r1))<|
 .ret ⟨[.kill 0],[2,19],[],1⟩ (false)
def aiF(p_v:ah):Mo (Bool):=
 .sf Tryz.f110 0 [1,0] 0 8 1 [(1,.ptr 0 0),(2,.b_ false)] [aX p_v] 10 (XG p_v) fun r0=>
 .sb Tryz.f110 0 [1,0] 8 5 1 [(1,.ptr 0 0),(2,.b_ false)] [aX p_v] 10 15 r0 (XH p_v r0) fun r1=>
 .sk Tryz.f110 0 [1,0] 13 4 1 (fun r_=>⟨[(2,.b_ false),(19,.b_ r_)],[.dead]⟩) ⟨[(1,.ptr 0 0),(2,.b_ false),(15,.b_ r1)],[aX p_v]⟩ (OX p_v r1) fun r2=>
 .sk Tryz.f110 0 [1,0] 17 1 1 (fun r_=>⟨[(2,.b_ r2)],[.dead]⟩) ⟨[(2,.b_ false),(19,.b_ r2)],[.dead]⟩ (dR r2) fun r3=>
 .ret (aS 1) (r2)
def Q83(p_v:ah):Option (Bool):=Mo.den (aiF p_v)
theorem ard(p_v:ah):FV (Q83 p_v) 110 [.dat (ah.lf1 p_v)] .b_:=dA Tryz.func110
def aaT(p_x:Int):Mo (Bool):=
 .ret (aS 1) (p_x != p_x)
def arf(p_x:Int):Option (Bool):=Mo.den (aaT p_x)
theorem adP(p_x:Int):FV (arf p_x) 329 [.i_ p_x] .b_:=dA Tryz.func329
def aaU(p_x:Int)(p_y:Int):Mo (Int):=
 .cl (adP p_x) fun r0 _=>
 .cl (adP p_y) fun r1 _=>
 .iB (r0) (.iB (r1) (.ret (aS 1) (0))<|
 .ret (aS 1) ((-1)))<|
 .iB (r1) (.ret (aS 1) (1))<|
 .iB (decide ((p_x:Int)<p_y)) (.ret (aS 1) ((-1)))<|
 .iB (decide ((p_y:Int)<p_x)) (.ret (aS 1) (1))<|
 .ret (aS 1) (0)
def am9(p_x:Int)(p_y:Int):Option (Int):=Mo.den (aaU p_x p_y)
theorem Io(p_x:Int)(p_y:Int):FV (am9 p_x p_y) 298 [.i_ p_x,.i_ p_y] .i_:=dA Tryz.func298
abbrev aaV(m:ah→ah→Option (Int)):Prop:=∀p_a p_b,FV (m p_a p_b) 254 [.dat (ah.lf1 p_a),.dat (ah.lf1 p_b)] .i_
structure RB5 where
 m1:(p_a:ah)→(p_b:ah)→Option (Int)
 ok1:aaV m1
def JE(R_:RB5)(p_a:ah)(p_b:ah):Mo (Bool):=
 .iB (p_a.aF==3) (.rt [2,3,21,22] 2 (p_a.aF==3))<|
 .iB (p_a.aF==9) (.rt [2,3,21,22] 2 (p_a.aF==9))<|
 .rt [2,3,21,22] 2 (p_a.aF==10)
def JF(R_:RB5)(p_a:ah)(p_b:ah):Mo (Bool):=
 .iB (p_a.aF==4) (.rt [2,3,21,31] 2 (p_a.aF==4))<|
 .iB (p_a.aF==7) (.rt [2,3,21,31] 2 (p_a.aF==7))<|
 .rt [2,3,21,31] 2 (p_a.aF==8)
def tJ(R_:RB5)(p_a:ah)(p_b:ah):(Int)→Mo ((Int)⊕(Int)⊕Unit):=fun(v0)=>
 .iB (decide ((v0:Int)<(if(p_b.aW.length:Int)<(p_a.aW.length:Int) then(p_b.aW.length:Int) else(p_a.aW.length:Int)))) (.ask (lG p_a.aW v0) fun x0 h0=>
 .say [] (ok1 (gZ ah.bf h0))<|
 .ask (lG p_b.aW v0) fun x1 h1=>
 .say [] (ok1 (gZ ah.bf h1))<|
 .ask (R_.m1 x0 x1) fun r0 h2=>
 .say [.iY (.q 0 (.q 1 (.q 2 (.q 3 (.q 4 (.q 5 (.q 6 (.q 7 (.q 8 (.q 9 (.l 10 (.q 11 .fin)))))))))))) (some 10) [] [.row (ah.lf1 x0),.row (ah.lf1 x1),.res (.i_ r0)] [2,3,6,48,49] 2 [(2,.ptr 0 0),(3,.ptr 1 0),(6,.i_ r0),(48,.i_ (if(p_b.aW.length:Int)<(p_a.aW.length:Int) then(p_b.aW.length:Int) else(p_a.aW.length:Int))),(49,.i_ v0)] [aX p_a,aX p_b]] (okc (R_.ok1 _ _ _ h2) (ok1 (rf_ ⟨[(2,.ptr 0 0),(3,.ptr 1 0),(6,.i_ r0),(48,.i_ (if(p_b.aW.length:Int)<(p_a.aW.length:Int) then(p_b.aW.length:Int) else(p_a.aW.length:Int))),(49,.i_ v0)],[aX p_a,aX p_b]⟩)))<|
 .iB (r0 != 0) (.ret ⟨[.kill 0,.kill 1],[4],[],2⟩ (.inr (.inl (r0))))<|
 .rt [2,3,48,49] 2 (.inl (IntKind.wrap .i64 (v0+1))))<|
 .rt [2,3] 2 (.inr (.inr (())))
def Uf(R_:RB5)(p_a:ah)(p_b:ah)(v0:Int):Option ((Int)⊕Unit):=bW (fun v_=>(tJ R_ p_a p_b v_).den) FU (v0)
def tK(R_:RB5)(p_a:ah)(p_b:ah):(Int)→Mo ((Int)⊕(Int)⊕Unit):=fun(v0)=>
 .iB (decide ((v0:Int)<(if(p_b.aU.length:Int)<(p_a.aU.length:Int) then(p_b.aU.length:Int) else(p_a.aU.length:Int)))) (.ask (lG p_a.aU v0) fun x0 h0=>
 .say [] (ok1 (gZ aJ.bf h0))<|
 .ask (lG p_b.aU v0) fun x1 h1=>
 .say [] (ok1 (gZ aJ.bf h1))<|
 .ask (aqU x0.fName x1.fName) fun r0 h2=>
 .say [.iY (.q 0 (.q 1 (.q 2 (.q 3 (.q 4 (.q 5 (.q 6 (.q 7 (.q 8 (.q 9 (.q 10 (.q 11 (.l 12 (.q 13 .fin)))))))))))))) (some 12) [] [.row (aJ.lf1 x0),.row (aJ.lf1 x1),.res (.i_ r0)] [2,3,7,8,82,83] 2 [(2,.ptr 0 0),(3,.ptr 1 0),(7,.i_ v0),(8,.i_ r0),(82,.i_ (if(p_b.aU.length:Int)<(p_a.aU.length:Int) then(p_b.aU.length:Int) else(p_a.aU.length:Int))),(83,.i_ v0)] [aX p_a,aX p_b]] (okc (adG _ _ _ h2) (ok1 (rf_ ⟨[(2,.ptr 0 0),(3,.ptr 1 0),(7,.i_ v0),(8,.i_ r0),(82,.i_ (if(p_b.aU.length:Int)<(p_a.aU.length:Int) then(p_b.aU.length:Int) else(p_a.aU.length:Int))),(83,.i_ v0)],[aX p_a,aX p_b]⟩)))<|
 .iB (r0 != 0) (.ret ⟨[.kill 0,.kill 1],[4],[],2⟩ (.inr (.inl (r0))))<|
 .ask (lG p_a.aU v0) fun x2 h3=>
 .say [] (ok1 (gZ aJ.bf h3))<|
 .ask (lG p_b.aU v0) fun x3 h4=>
 .say [] (ok1 (gZ aJ.bf h4))<|
 .ask (R_.m1 x2.fValue x3.fValue) fun r1 h5=>
 .say [.iY (.q 0 (.q 1 (.q 2 (.q 3 (.q 4 (.q 5 (.q 6 (.q 7 (.q 8 (.q 9 (.q 10 (.q 11 (.l 12 (.q 13 .fin)))))))))))))) (some 12) [] [.row (aJ.lf1 x2),.row (aJ.lf1 x3),.res (.i_ r1)] [2,3,9,82,83] 2 [(2,.ptr 0 0),(3,.ptr 1 0),(9,.i_ r1),(82,.i_ (if(p_b.aU.length:Int)<(p_a.aU.length:Int) then(p_b.aU.length:Int) else(p_a.aU.length:Int))),(83,.i_ v0)] [aX p_a,aX p_b]] (okc (R_.ok1 _ _ _ h5) (ok1 (rf_ ⟨[(2,.ptr 0 0),(3,.ptr 1 0),(9,.i_ r1),(82,.i_ (if(p_b.aU.length:Int)<(p_a.aU.length:Int) then(p_b.aU.length:Int) else(p_a.aU.length:Int))),(83,.i_ v0)],[aX p_a,aX p_b]⟩)))<|
 .iB (r1 != 0) (.ret ⟨[.kill 0,.kill 1],[4],[],2⟩ (.inr (.inl (r1))))<|
 .rt [2,3,82,83] 2 (.inl (IntKind.wrap .i64 (v0+1))))<|
 .rt [2,3] 2 (.inr (.inr (())))
def Ug(R_:RB5)(p_a:ah)(p_b:ah)(v0:Int):Option ((Int)⊕Unit):=bW (fun v_=>(tK R_ p_a p_b v_).den) FU (v0)
def JG(R_:RB5)(p_a:ah)(p_b:ah):Mo (Int):=
 .iB (p_a.aF != p_b.aF) (.cl (Io p_a.aF p_b.aF) fun r0 _=>
 .ret (aS 1) (r0))<|
 .jk Tryz.f254 0 [1,1,0,1,0,0,1] 1 (fun r_=>⟨[(2,.ptr 0 0),(3,.ptr 1 0),(21,.i_ p_a.aF),(22,.b_ r_)],[aX p_a,aX p_b]⟩) ⟨[(2,.ptr 0 0),(3,.ptr 1 0),(21,.i_ p_a.aF),(22,.lf (.bool (p_a.aF==3)))],[aX p_a,aX p_b]⟩ (JE R_ p_a p_b) fun r1=>
 .iB (r1) (.cl (Io p_a.fA p_b.fA) fun r2 _=>
 .ret (aS 1) (r2))<|
 .jk Tryz.f254 0 [1,1,0,1,0,1,1,0,1] 1 (fun r_=>⟨[(2,.ptr 0 0),(3,.ptr 1 0),(21,.i_ p_a.aF),(31,.b_ r_)],[aX p_a,aX p_b]⟩) ⟨[(2,.ptr 0 0),(3,.ptr 1 0),(21,.i_ p_a.aF),(31,.lf (.bool (p_a.aF==4)))],[aX p_a,aX p_b]⟩ (JF R_ p_a p_b) fun r3=>
 .iB (r3) (.cl (adG p_a.fText p_b.fText) fun r4 _=>
 .ret (aS 1) (r4))<|
 .iB (p_a.aF==6) (.nu p_a.aW ah.lf<|
 .nu p_b.aW ah.lf<|
 .l2m [] Tryz.f254 0 [1,1,0,1,0,1,1,1,1,1,0,0,1,0] 0 (fun(v0)=>⟨[(2,.ptr 0 0),(3,.ptr 1 0),(48,.i_ (if(p_b.aW.length:Int)<(p_a.aW.length:Int) then(p_b.aW.length:Int) else(p_a.aW.length:Int))),(49,.i_ v0)],[aX p_a,aX p_b]⟩) .ret (fun o_=>⟨[(4,.i_ o_)],[.dead,.dead]⟩) (.exit 1) (fun _=>⟨[(2,.ptr 0 0),(3,.ptr 1 0)],[aX p_a,aX p_b]⟩) (Uf R_ p_a p_b 0) (tJ R_ p_a p_b) (0) (fun o0=>
 .ret (aS 1) (o0)) fun o1=>
 .nu p_a.aW ah.lf<|
 .nu p_b.aW ah.lf<|
 .cl (Io (p_a.aW.length:Int) (p_b.aW.length:Int)) fun r5 _=>
 .ret (aS 1) (r5))<|
 .iB (p_a.aF==5) (.nu p_a.aU aJ.lf<|
 .nu p_b.aU aJ.lf<|
 .l2m [] Tryz.f254 0 [1,1,0,1,0,1,1,1,1,1,1,1,0,0,1,0] 0 (fun(v1)=>⟨[(2,.ptr 0 0),(3,.ptr 1 0),(82,.i_ (if(p_b.aU.length:Int)<(p_a.aU.length:Int) then(p_b.aU.length:Int) else(p_a.aU.length:Int))),(83,.i_ v1)],[aX p_a,aX p_b]⟩) .ret (fun o_=>⟨[(4,.i_ o_)],[.dead,.dead]⟩) (.exit 3) (fun _=>⟨[(2,.ptr 0 0),(3,.ptr 1 0)],[aX p_a,aX p_b]⟩) (Ug R_ p_a p_b 0) (tK R_ p_a p_b) (0) (fun o2=>
 .ret (aS 1) (o2)) fun o3=>
 .nu p_a.aU aJ.lf<|
 .nu p_b.aU aJ.lf<|
 .cl (Io (p_a.aU.length:Int) (p_b.aU.length:Int)) fun r6 _=>
 .ret (aS 1) (r6))<|
 .ret (aS 1) (0)
theorem ana(R_:RB5):aaV fun p_a p_b=>Mo.den (JG R_ p_a p_b):=fun _ _=>dA Tryz.func254
def kV:Nat→RB5
 |0=>{ m1:=fun p_a p_b=>none,ok1:=fun _ _ _ h=>(by cases h) }
 |n_+1=>{ m1:=fun p_a p_b=>Mo.den (JG (kV n_) p_a p_b),ok1:=ana (kV n_) }
def Q33(p_a:ah)(p_b:ah):Option (Int):=(kV FU).m1 p_a p_b
theorem arh:aaV Q33:=(kV FU).ok1
def aaW(p_a:ah)(p_b:ah):Mo (Bool):=
 .cl (arh p_a p_b) fun r0 _=>
 .ret (aS 1) (r0==0)
def anb(p_a:ah)(p_b:ah):Option (Bool):=Mo.den (aaW p_a p_b)
theorem anc(p_a:ah)(p_b:ah):FV (anb p_a p_b) 178 [.dat (ah.lf1 p_a),.dat (ah.lf1 p_b)] .b_:=dA Tryz.func178
def aaX(p_n:Int):Mo (Int):=
 .say [] (okc (by decide:(0:Int)≤1) (ok1 (by decide:(0:Int)≤63)))<|
 .ret (aS 1) (gX .xor .u64 (ML .u64 (IntKind.wrap .u64 p_n) 1) (IntKind.wrap .u64 (Ah .i64 p_n 63)))
def afR(p_n:Int):Option (Int):=Mo.den (aaX p_n)
theorem Uh(p_n:Int):FV (afR p_n) 202 [.i_ p_n] (fun r=>.lf (.int .u64 r)):=dA Tryz.func202
def qH :(Int×Int)→Mo ((Int×Int)⊕(Int)):=fun(v0,v1)=>
 .iB (decide ((128:Int)≤v1)) (.say [] (ok1 (by decide:(0:Int)≤7))<|
 .rt [3,4] 0 (.inl (IntKind.wrap .i64 (v0+1),Ah .u64 v1 7)))<|
 .rt [3] 0 (.inr (v0))
def aiG(v0:Int)(v1:Int):Option (Int):=bW (fun v_=>(qH  v_).den) FU (v0,v1)
def aiH(p_n:Int):Mo (Int):=
 .cl (Uh p_n) fun r0 _=>
 .l1m [] Tryz.f300 0 [1,1,0,1,0] 0 (.exit 0) (fun(v0,v1)=>⟨[(3,.i_ v0),(4,.lf (.int .u64 v1))],[]⟩) (fun r_=>⟨[(3,.i_ r_)],[]⟩) (aiG 1 r0) (qH ) (1,r0) fun r1=>
 .ret (aS 1) (r1)
def Q58(p_n:Int):Option (Int):=Mo.den (aiH p_n)
theorem JH(p_n:Int):FV (Q58 p_n) 300 [.i_ p_n] .i_:=dA Tryz.func300
end
end Go.Proofs.YtflpefkohpjjpaaGreatDoor
set_option linter.unusedSimpArgs false
set_option linter.unusedVariables false
namespace Go.Proofs.YtflpefkohpjjpaaGreatDoor
open Go.RowKit
set_option maxRecDepth 20000
set_option maxHeartbeats 4000000
noncomputable section
abbrev aaY(m:ah→Option (Int)):Prop:=∀p_v,FV (m p_v) 255 [.dat (ah.lf1 p_v)] .i_
structure RB6 where
 m1:(p_v:ah)→Option (Int)
 ok1:aaY m1
def JI(R_:RB6)(p_v:ah):Mo (Bool):=
 .iB (p_v.aF==3) (.rt [1,3,9,10] 1 (p_v.aF==3))<|
 .rt [1,3,9,10] 1 (p_v.aF==10)
def JJ(R_:RB6)(p_v:ah):Mo (Bool):=
 .iB (p_v.aF==4) (.rt [1,3,9,22] 1 (p_v.aF==4))<|
 .rt [1,3,9,22] 1 (p_v.aF==7)
def tN(R_:RB6)(p_v:ah):(Int×Int)→Mo ((Int×Int)⊕(Int)):=fun(v0,v1)=>
 .iB (decide ((v1:Int)<(p_v.aW.length:Int))) (.gx ah.bf p_v.aW v1 fun x0 _=>
 .cl (R_.ok1 x0) fun r0 _=>
 .rt [3,51,52,53] 1 (.inl (IntKind.wrap .i64 (v0+r0),IntKind.wrap .i64 (v1+1))))<|
 .rt [3] 1 (.inr (v0))
def adQ(R_:RB6)(p_v:ah)(v0:Int)(v1:Int):Option (Int):=bW (fun v_=>(tN R_ p_v v_).den) FU (v0,v1)
def tV(R_:RB6)(p_v:ah):(Int×Int)→Mo ((Int×Int)⊕(Int)):=fun(v0,v1)=>
 .iB (decide ((v1:Int)<(p_v.aU.length:Int))) (.gx aJ.bf p_v.aU v1 fun x0 _=>
 .say [.order [(true,0),(true,1),(true,2),(true,3),(true,5),(true,6),(true,7),(true,9),(true,10),(false,4),(true,8),(false,11),(true,12),(true,13),(true,14)] none []] ok0<|
 .cl (JH (x0.fName.size:Int)) fun r0 _=>
 .cl (R_.ok1 x0.fValue) fun r1 _=>
 .rt [3,71,72,73] 1 (.inl (IntKind.wrap .i64 (v0+(IntKind.wrap .i64 ((IntKind.wrap .i64 (r0+(x0.fName.size:Int)))+r1))),IntKind.wrap .i64 (v1+1))))<|
 .rt [3] 1 (.inr (v0))
def adR(R_:RB6)(p_v:ah)(v0:Int)(v1:Int):Option (Int):=bW (fun v_=>(tV R_ p_v v_).den) FU (v0,v1)
def E8(R_:RB6)(p_v:ah):Mo (Int):=
 .jk Tryz.f255 0 [1,1,0,1,0,0,1] 1 (fun r_=>⟨[(1,.ptr 0 0),(3,.i_ 1),(9,.i_ p_v.aF),(10,.b_ r_)],[aX p_v]⟩) ⟨[(1,.ptr 0 0),(3,.i_ 1),(9,.i_ p_v.aF),(10,.lf (.bool (p_v.aF==3)))],[aX p_v]⟩ (JI R_ p_v) fun r0=>
 .iB (r0) (.cl (JH p_v.fA) fun r1 _=>
 .ret ⟨[.kill 0],[3],[],1⟩ (IntKind.wrap .i64 (1+r1)))<|
 .iB (p_v.aF==9) (.ret ⟨[.kill 0],[3],[],1⟩ (IntKind.wrap .i64 (1+1)))<|
 .jk Tryz.f255 0 [1,1,0,1,0,1,1,1,1,0,1] 1 (fun r_=>⟨[(1,.ptr 0 0),(3,.i_ 1),(9,.i_ p_v.aF),(22,.b_ r_)],[aX p_v]⟩) ⟨[(1,.ptr 0 0),(3,.i_ 1),(9,.i_ p_v.aF),(22,.lf (.bool (p_v.aF==4)))],[aX p_v]⟩ (JJ R_ p_v) fun r2=>
 .iB (r2) (.say [.order [(true,0),(true,1),(true,2),(true,3),(true,5),(true,6),(true,7),(false,4),(true,8),(true,9),(true,10)] none []] ok0<|
 .cl (JH (p_v.fText.size:Int)) fun r3 _=>
 .ret ⟨[.kill 0],[3],[],1⟩ (IntKind.wrap .i64 (1+(IntKind.wrap .i64 (r3+(p_v.fText.size:Int))))))<|
 .iB (p_v.aF==8) (.ret ⟨[.kill 0],[3],[],1⟩ (IntKind.wrap .i64 (1+(p_v.fText.size:Int))))<|
 .iB (p_v.aF==6) (.nu p_v.aW ah.lf<|
 .ask (Q58 (p_v.aW.length:Int)) fun r4 h0=>
 .say [.res (.i_ r4),.num p_v.aW.length] (okc (JH _ _ h0) (ok1 (ln_ p_v.aW ah.lf)))<|
 .l1m [.kill 0] Tryz.f255 0 [1,1,0,1,0,1,1,1,1,1,1,1,1,1,0,1,1,0] 0 (.exit 1) (fun(v0,v1)=>⟨[(3,.i_ v0),(51,.lf (.rows 5 (p_v.aW.map ah.lf))),(52,.i_ (p_v.aW.length:Int)),(53,.i_ v1)],[.dead]⟩) (fun r_=>⟨[(3,.i_ r_)],[.dead]⟩) (adQ R_ p_v (IntKind.wrap .i64 (1+r4)) 0) (tN R_ p_v) ((IntKind.wrap .i64 (1+r4)),0) fun r5=>
 .rt [3] 1 (r5))<|
 .iB (p_v.aF==5) (.nu p_v.aU aJ.lf<|
 .ask (Q58 (p_v.aU.length:Int)) fun r6 h1=>
 .say [.res (.i_ r6),.num p_v.aU.length] (okc (JH _ _ h1) (ok1 (ln_ p_v.aU aJ.lf)))<|
 .l1m [.kill 0] Tryz.f255 0 [1,1,0,1,0,1,1,1,1,1,1,1,1,1,1,1,0,1,1,0] 0 (.exit 3) (fun(v2,v3)=>⟨[(3,.i_ v2),(71,.lf (.rows 6 (p_v.aU.map aJ.lf))),(72,.i_ (p_v.aU.length:Int)),(73,.i_ v3)],[.dead]⟩) (fun r_=>⟨[(3,.i_ r_)],[.dead]⟩) (adR R_ p_v (IntKind.wrap .i64 (1+r6)) 0) (tV R_ p_v) ((IntKind.wrap .i64 (1+r6)),0) fun r7=>
 .rt [3] 1 (r7))<|
 .ret ⟨[.kill 0],[3],[],1⟩ (1)
def Ui(R_:RB6)(p_v:ah):Option (Int):=Mo.den (E8 R_ p_v)
def XI(R_:RB6)(p_v:ah):Mo (Int):=
 .jp Tryz.f255 0 [1,1,0,1] 6 [1,3,9] 1 (.normal) (fun r_=>⟨[(3,.i_ r_)],[.dead]⟩) ⟨[(1,.ptr 0 0),(3,.i_ 1),(9,.i_ p_v.aF)],[aX p_v]⟩ (Ui R_ p_v) (jW (by kernel_rfl)) fun r0 _=>
 .ret (aS 1) (r0)
theorem ane(R_:RB6):aaY fun p_v=>Mo.den (XI R_ p_v):=fun _=>dA Tryz.func255
def qj:Nat→RB6
 |0=>{ m1:=fun p_v=>none,ok1:=fun _ _ h=>(by cases h) }
 |n_+1=>{ m1:=fun p_v=>Mo.den (XI (qj n_) p_v),ok1:=ane (qj n_) }
def Q30(p_v:ah):Option (Int):=(qj FU).m1 p_v
theorem ari:aaY Q30:=(qj FU).ok1
def aaZ(p_v:ah):Mo (Int×Int):=
 .cl (nY p_v) fun r0 _=>
 .iB (!r0) (.ret (aS 2) (0,8))<|
 .cl (ari p_v) fun r1 _=>
 .ret (aS 2) (r1,0)
def aiI(p_v:ah):Option (Int×Int):=Mo.den (aaZ p_v)
theorem anf(p_v:ah):FV (aiI p_v) 179 [.dat (ah.lf1 p_v)] (fun r=>.tup [.i_ r.1,.i_ r.2]):=dA Tryz.func179
def JK(p_doc:ah)(p_key:ah):Mo (Bool):=
 .iG 4003 (p_doc.aF != 5) (.rt [2,3,14] 2 (true))<|
 .cl (nY p_doc) fun r0 _=>
 .rt [2,3,14] 2 (!r0)
def JL(p_doc:ah)(p_key:ah)(r0:Bool):Mo (Bool):=
 .iG 4008 (r0) (.rt [2,3,20] 2 (true))<|
 .nu p_doc.aU aJ.lf<|
 .rt [2,3,20] 2 ((p_doc.aU.length:Int)==0)
def Fa(p_doc:ah)(p_key:ah):Mo (Bool):=
 .ask (lG p_doc.aU 0) fun x0 h0=>
 .say [] (ok1 (gZ aJ.bf h0))<|
 .ite (!decide ((x0.fName:ByteArray)=(⟨#[95,105,100]⟩:ByteArray))) (fun c0=>
 .say [.iY (.q 0 (.q 1 (.q 2 (.q 3 (.q 4 (.q 5 (.q 6 (.q 7 (.q 8 (.q 9 (.q 10 (.q 11 (.q 12 (.l 13 (.q 14 (.q 15 .fin)))))))))))))))) (some 13) [] [.row (aJ.lf1 x0),.gd 8006 true] [2,36] 2 [(2,.ptr 0 0),(36,.b_ true)] [aX p_doc,aX p_key]] (okc c0 (ok1 (rf_ ⟨[(2,.ptr 0 0),(36,.b_ true)],[aX p_doc,aX p_key]⟩)))<|
 .ret ⟨[.kill 1],[2,36],[],2⟩ (true)) fun c0=>
 .say [] (ok1 c0)<|
 .ask (lG p_doc.aU 0) fun x1 h1=>
 .say [] (ok1 (gZ aJ.bf h1))<|
 .ask (anb x1.fValue p_key) fun r0 h2=>
 .say [.iY (.q 0 (.q 1 (.q 2 (.q 3 (.q 4 (.q 5 (.q 6 (.q 7 (.q 8 (.q 9 (.q 10 (.q 11 (.q 12 (.l 13 (.q 14 (.q 15 .fin)))))))))))))))) (some 13) [] [.row (aJ.lf1 x0),.gd 8006 false,.row (aJ.lf1 x1),.res (.b_ r0)] [2,36] 2 [(2,.ptr 0 0),(36,.lf (.bool (!r0)))] [aX p_doc,aX p_key]] (okc (anc _ _ _ h2) (ok1 (rf_ ⟨[(2,.ptr 0 0),(36,.lf (.bool (!r0)))],[aX p_doc,aX p_key]⟩)))<|
 .ret ⟨[.kill 1],[2,36],[],2⟩ (!r0)
def aiJ(p_doc:ah)(p_key:ah):Mo (Int):=
 .sf Tryz.f111 0 [1,0,0] 0 8 1 [(2,.ptr 0 0),(3,.ptr 1 0)] [aX p_doc,aX p_key] 14 (JK p_doc p_key) fun r0=>
 .sb Tryz.f111 0 [1,0,0] 8 6 1 [(2,.ptr 0 0),(3,.ptr 1 0)] [aX p_doc,aX p_key] 14 20 r0 (JL p_doc p_key r0) fun r1=>
 .iB (r1) (.ret (aS 1) (8))<|
 .jk Tryz.f111 0 [1,1,0,0] 13 (fun r_=>⟨[(2,.ptr 0 0),(36,.b_ r_)],[aX p_doc,.dead]⟩) ⟨[(2,.ptr 0 0),(3,.ptr 1 0)],[aX p_doc,aX p_key]⟩ (Fa p_doc p_key) fun r2=>
 .iB (r2) (.ret (aS 1) (8))<|
 .cl (anf p_doc) fun r3 _=>
 .iB (r3.2 != 0) (.ret (aS 1) (r3.2))<|
 .iB (decide ((16384:Int)<r3.1)) (.ret (aS 1) (2))<|
 .ret (aS 1) (0)
def Q74(p_doc:ah)(p_key:ah):Option (Int):=Mo.den (aiJ p_doc p_key)
theorem aiK(p_doc:ah)(p_key:ah):FV (Q74 p_doc p_key) 111 [.dat (ah.lf1 p_doc),.dat (ah.lf1 p_key)] .i_:=dA Tryz.func111
def OY(p_w:aG):Mo ((Int)⊕Unit):=
 .iB (p_w.aF==2) (.cl (aiK p_w.aU p_w.fU) fun r0 _=>
 .iB (r0 != 0) (.ret ⟨[.kill 0],[2],[],1⟩ (.inl (r0)))<|
 .rt [1] 1 (.inr (())))<|
 .rt [1] 1 (.inr (()))
def aa0(p_w:aG):Mo (Int):=
 .cl (ard p_w.fU) fun r0 _=>
 .iB (!r0) (.ret (aS 1) (8))<|
 .j2 [] Tryz.f60 0 [1,1,0,1] 1 .ret (fun o_=>⟨[(2,.i_ o_)],[.dead]⟩) .normal (fun _=>⟨[(1,.ptr 0 0)],[dO p_w]⟩) ⟨[(1,.ptr 0 0),(10,.lf (.bool (p_w.aF==2)))],[dO p_w]⟩ (OY p_w) (fun o0=>
 .ret (aS 1) (o0)) fun o1=>
 .cl (Cm p_w.dK) fun r1 _=>
 .iB (r1) (.ret (aS 1) (0))<|
 .cl (aiK p_w.dK p_w.fU) fun r2 _=>
 .ret (aS 1) (r2)
def arj(p_w:aG):Option (Int):=Mo.den (aa0 p_w)
theorem ang(p_w:aG):FV (arj p_w) 60 [.dat (aG.lf1 p_w)] .i_:=dA Tryz.func60
def XJ(p_s:ByteArray):Mo (Bool):=
 .oV 4002 (decide ((p_s:ByteArray)=(⟨#[]⟩:ByteArray))) [0,10] 0 (decide ((32:Int)<(p_s.size:Int)))
def XK(p_s:ByteArray)(r0:Bool):Mo (Bool):=
 .iG 4007 (r0) (.rt [0,15] 0 (true))<|
 .ask (kN p_s 0) fun b0 h0=>
 .say [.byt b0] (ok1 (fQ h0))<|
 .rt [0,15] 0 ((b0.toNat:Int)==36)
def OZ(p_s:ByteArray)(v0:Int):Mo (Bool):=
 .ask (kN p_s v0) fun b0 h0=>
 .say [.byt b0] (ok1 (fQ h0))<|
 .iG 14004 (decide (((b0.toNat:Int):Int)<33)) (.rt [0,3,17,18,30] 0 (true))<|
 .ask (kN p_s v0) fun b1 h1=>
 .say [.byt b1] (ok1 (fQ h1))<|
 .rt [0,3,17,18,30] 0 (decide ((126:Int)<(b1.toNat:Int)))
def O1(p_s:ByteArray)(r0:Bool)(v0:Int):Mo (Bool):=
 .iG 14010 (r0) (.rt [0,17,18,36] 0 (true))<|
 .ask (kN p_s v0) fun b0 h0=>
 .say [.byt b0] (ok1 (fQ h0))<|
 .rt [0,17,18,36] 0 ((b0.toNat:Int)==46)
def O4(p_s:ByteArray):(Int)→Mo ((Int)⊕(Unit⊕Unit)):=fun(v0)=>
 .iB (decide ((v0:Int)<(p_s.size:Int))) (.sf Tryz.f113 0 [1,1,0,1,0,0,1,1,0,0,1,0] 0 10 6 [(0,.lf (.str p_s)),(3,.i_ v0),(17,.i_ (p_s.size:Int)),(18,.i_ v0)] [] 30 (OZ p_s v0) fun r0=>
 .sk Tryz.f113 0 [1,1,0,1,0,0,1,1,0,0,1,0] 10 6 6 (fun r_=>⟨[(0,.lf (.str p_s)),(17,.i_ (p_s.size:Int)),(18,.i_ v0),(36,.b_ r_)],[]⟩) ⟨[(0,.lf (.str p_s)),(3,.i_ v0),(17,.i_ (p_s.size:Int)),(18,.i_ v0),(30,.b_ r0)],[]⟩ (O1 p_s r0 v0) fun r1=>
 .iB (r1) (.rt [2] 0 (.inr (.inl ())))<|
 .rt [0,17,18] 0 (.inl (IntKind.wrap .i64 (v0+1))))<|
 .rt [] 0 (.inr (.inr (())))
def apx(p_s:ByteArray):Mo (Bool):=
 .sf Tryz.f113 0 [1,0,0] 0 7 1 [(0,.lf (.str p_s))] [] 10 (XJ p_s) fun r0=>
 .sb Tryz.f113 0 [1,0,0] 7 5 1 [(0,.lf (.str p_s))] [] 10 15 r0 (XK p_s r0) fun r1=>
 .iB (r1) (.ret (aS 1) (false))<|
 .l2 Tryz.f113 0 [1,1,0,1,0] 0 (fun(v0)=>⟨[(0,.lf (.str p_s)),(17,.i_ (p_s.size:Int)),(18,.i_ v0)],[]⟩) .ret (fun _=>⟨[(2,.b_ false)],[]⟩) (.exit 0) (fun _=>⟨[],[]⟩) (O4 p_s) (0) (fun o0=>
 .ret (aS 1) (false)) fun o1=>
 .ret (aS 1) (true)
def Q78(p_s:ByteArray):Option (Bool):=Mo.den (apx p_s)
theorem ark(p_s:ByteArray):FV (Q78 p_s) 113 [.lf (.str p_s)] .b_:=dA Tryz.func113
def uY(p_s:ByteArray):(Int)→Mo ((Int)⊕(Unit⊕Unit)):=fun(v0)=>
 .iB (decide ((v0:Int)<(p_s.size:Int))) (.sf Tryz.f184 0 [1,1,0,1,0,0,1,1,0,0,1,0] 0 10 6 [(0,.lf (.str p_s)),(3,.i_ v0),(18,.i_ (p_s.size:Int)),(19,.i_ v0)] [] 31 (kE p_s v0) fun r0=>
 .sk Tryz.f184 0 [1,1,0,1,0,0,1,1,0,0,1,0] 10 6 6 (fun r_=>⟨[(0,.lf (.str p_s)),(18,.i_ (p_s.size:Int)),(19,.i_ v0),(37,.b_ r_)],[]⟩) ⟨[(0,.lf (.str p_s)),(3,.i_ v0),(18,.i_ (p_s.size:Int)),(19,.i_ v0),(31,.b_ r0)],[]⟩ (kF p_s r0 v0) fun r1=>
 .iB (r1) (.rt [2] 0 (.inr (.inl ())))<|
 .rt [0,18,19] 0 (.inl (IntKind.wrap .i64 (v0+1))))<|
 .rt [] 0 (.inr (.inr (())))
def XL(p_s:ByteArray)(v0:Int):Option (Unit⊕Unit):=bW (fun v_=>(uY p_s v_).den) FU (v0)
def aiL(p_s:ByteArray):Mo (Bool):=
 .sf Tryz.f184 0 [1,0,0] 0 8 1 [(0,.lf (.str p_s))] [] 11 (kC p_s) fun r0=>
 .sb Tryz.f184 0 [1,0,0] 8 5 1 [(0,.lf (.str p_s))] [] 11 16 r0 (kD p_s r0) fun r1=>
 .iB (r1) (.ret (aS 1) (true))<|
 .l2m [] Tryz.f184 0 [1,1,0,1,0] 0 (fun(v0)=>⟨[(0,.lf (.str p_s)),(18,.i_ (p_s.size:Int)),(19,.i_ v0)],[]⟩) .ret (fun _=>⟨[(2,.b_ true)],[]⟩) (.exit 0) (fun _=>⟨[],[]⟩) (XL p_s 0) (uY p_s) (0) (fun o0=>
 .ret (aS 1) (true)) fun o1=>
 .ret (aS 1) (false)
def arl(p_s:ByteArray):Option (Bool):=Mo.den (aiL p_s)
theorem anh(p_s:ByteArray):FV (arl p_s) 184 [.lf (.str p_s)] .b_:=dA Tryz.func184
def CO(p_s:List ByteArray):(Int)→Mo ((Int)⊕(Int)⊕Unit):=fun(v0)=>
 .iB (decide ((v0:Int)<(p_s.length:Int))) (.gx lS_ p_s v0 fun x0 _=>
 .cl (anh x0) fun r0 _=>
 .iB (r0) (.rt [4] 0 (.inr (.inl (v0))))<|
 .rt [0,1,7,8] 0 (.inl (IntKind.wrap .i64 (v0+1))))<|
 .rt [] 0 (.inr (.inr (())))
def aiM(p_s:List ByteArray)(v0:Int):Option ((Int)⊕Unit):=bW (fun v_=>(CO p_s v_).den) FU (v0)
def apy(p_s:List ByteArray):Mo (Int):=
 .nu p_s lfS<|
 .l2m [] Tryz.f257 0 [1,0,1,0] 0 (fun(v0)=>⟨[(0,.lf (.rows 1 (p_s.map lfS))),(1,.raw (.func (.func 184) #[] #[])),(7,.i_ (p_s.length:Int)),(8,.i_ v0)],[]⟩) .ret (fun o_=>⟨[(4,.i_ o_)],[]⟩) (.exit 0) (fun _=>⟨[],[]⟩) (aiM p_s 0) (CO p_s) (0) (fun o0=>
 .rt [0] 0 (o0)) fun o1=>
 .rt [0] 0 ((-1))
def Q88(p_s:List ByteArray):Option (Int):=Mo.den (apy p_s)
theorem arn(p_s:List ByteArray):FH (Q88 p_s) 257 [.lf (.rows 1 (p_s.map lfS)),.raw (.func (.func 184) #[] #[])] [] .i_ (fun _=>[]):=fH Tryz.func257
def aiN(p_s:List ByteArray):Mo (Bool):=
 .cH [] (arn p_s) fun r0 _=>
 .rt [0] 0 (decide ((0:Int)≤r0))
def aro(p_s:List ByteArray):Option (Bool):=Mo.den (aiN p_s)
theorem ani(p_s:List ByteArray):FH (aro p_s) 183 [.lf (.rows 1 (p_s.map lfS)),.raw (.func (.func 184) #[] #[])] [] .b_ (fun _=>[]):=fH Tryz.func183
def O5(p_p:List ByteArray):Mo (Bool):=
 .nu p_p lfS<|
 .iG 4003 (decide ((1:Int)≤(p_p.length:Int))) (.nu p_p lfS<|
 .rt [0,2,10] 0 (decide (((p_p.length:Int):Int)≤16)))<|
 .rt [0,2,10] 0 (false)
def O6(p_p:List ByteArray)(r0:Bool):Mo (Bool):=
 .iG 4008 (r0) (.cH [] (ani p_p) fun r1 _=>
 .rt [2,15] 0 (!r1))<|
 .rt [2,15] 0 (false)
def uZ(r0:Bool):Mo (Unit):=
 .rt [2] 0 ()
def aiO(p_p:List ByteArray):Mo (Bool):=
 .sf Tryz.f116 0 [1,0] 0 8 1 [(0,.lf (.rows 1 (p_p.map lfS))),(2,.b_ false)] [] 10 (O5 p_p) fun r0=>
 .sk Tryz.f116 0 [1,0] 8 5 1 (fun r_=>⟨[(2,.b_ false),(15,.b_ r_)],[]⟩) ⟨[(0,.lf (.rows 1 (p_p.map lfS))),(2,.b_ false),(10,.b_ r0)],[]⟩ (O6 p_p r0) fun r1=>
 .sk Tryz.f116 0 [1,0] 13 1 1 (fun r_=>⟨[(2,.b_ r1)],[]⟩) ⟨[(2,.b_ false),(15,.b_ r1)],[]⟩ (uZ r1) fun r2=>
 .ret (aS 1) (r1)
def anj(p_p:List ByteArray):Option (Bool):=Mo.den (aiO p_p)
theorem CP(p_p:List ByteArray):FV (anj p_p) 116 [.lf (.rows 1 (p_p.map lfS))] .b_:=dA Tryz.func116
def wU(p_s1:List ByteArray)(p_s2:List ByteArray):(Int)→Mo ((Int)⊕(Unit⊕Unit)):=fun(v0)=>
 .iB (decide ((v0:Int)<(p_s1.length:Int))) (.say [.order [(true,0),(true,1),(true,2),(true,3),(true,4),(true,5),(true,6),(true,7),(true,8)] none []] ok0<|
 .gx lS_ p_s1 v0 fun x0 _=>
 .gx lS_ p_s2 v0 fun x1 _=>
 .iB (!decide ((x0:ByteArray)=(x1:ByteArray))) (.rt [4] 0 (.inr (.inl ())))<|
 .rt [0,1,12,13] 0 (.inl (IntKind.wrap .i64 (v0+1))))<|
 .rt [] 0 (.inr (.inr (())))
def arp(p_s1:List ByteArray)(p_s2:List ByteArray)(v0:Int):Option (Unit⊕Unit):=bW (fun v_=>(wU p_s1 p_s2 v_).den) FU (v0)
def aiP(p_s1:List ByteArray)(p_s2:List ByteArray):Mo (Bool):=
 .nu p_s1 lfS<|
 .nu p_s2 lfS<|
 .iB ((p_s1.length:Int) != (p_s2.length:Int)) (.ret (aS 1) (false))<|
 .nu p_s1 lfS<|
 .l2 Tryz.f23 0 [1,1,0,1,0] 0 (fun(v0)=>⟨[(0,.lf (.rows 1 (p_s1.map lfS))),(1,.lf (.rows 1 (p_s2.map lfS))),(12,.i_ (p_s1.length:Int)),(13,.i_ v0)],[]⟩) .ret (fun _=>⟨[(4,.b_ false)],[]⟩) (.exit 0) (fun _=>⟨[],[]⟩) (wU p_s1 p_s2) (0) (fun o0=>
 .ret (aS 1) (false)) fun o1=>
 .ret (aS 1) (true)
def Q87(p_s1:List ByteArray)(p_s2:List ByteArray):Option (Bool):=Mo.den (aiP p_s1 p_s2)
theorem arq(p_s1:List ByteArray)(p_s2:List ByteArray):FV (Q87 p_s1 p_s2) 23 [.lf (.rows 1 (p_s1.map lfS)),.lf (.rows 1 (p_s2.map lfS))] .b_:=dA Tryz.func23
def wV(p_l:List bn)(v0:Int)(x0:bn):(Int)→Mo ((Int)⊕(Unit⊕Unit)):=fun(v1)=>
 .iB (decide ((v1:Int)<((p_l.take v0.toNat).length:Int))) (.gx bn.bf (p_l.take v0.toNat) v1 fun x1 _=>
 .cl (arq x1.cO x0.cO) fun r0 _=>
 .iB (r0) (.ret ⟨[.kill 0],[2],[],1⟩ (.inr (.inl ())))<|
 .rt [0,4,10,11,12,23,24,25] 1 (.inl (IntKind.wrap .i64 (v1+1))))<|
 .ret ⟨[.kill 0],[0,10,11,12],[],1⟩ (.inr (.inr (())))
def aa1(p_l:List bn)(v0:Int)(x0:bn)(v1:Int):Option (Unit⊕Unit):=bW (fun v_=>(wV p_l v0 x0 v_).den) FU (v1)
def wW(p_l:List bn):(Int)→Mo ((Int)⊕(Int)⊕Unit):=fun(v0)=>
 .iB (decide ((v0:Int)<(p_l.length:Int))) (.gx bn.bf p_l v0 fun x0 _=>
 .cl (CP x0.cO) fun r0 _=>
 .iB (!r0) (.rt [2] 0 (.inr (.inl (10))))<|
 .say [.rows ((p_l.take v0.toNat).map bn.lf),.num (p_l.take v0.toNat).length] (ok1 (by first|(simp[bn.bf];done)|exact Jd _ _ _:(p_l.take v0.toNat).map bn.lf=((p_l.map bn.lf).take v0.toNat).drop (0:Int).toNat))<|
 .grd ((0:Int)≤0∧0≤v0∧v0≤(p_l.length:Int)) fun h0=>
 .say [] (okc (by simpa using h0:(0:Int)≤0∧0≤v0∧v0≤((p_l.map bn.lf).length:Int)) (ok1 (ln_ (p_l.take v0.toNat) bn.lf)))<|
 .l2m [] Tryz.f117 0 [1,1,0,1,0,0,1,1,0,0,1,1,1,0] 0 (fun(v1)=>⟨[(0,.lf (.rows 2 (p_l.map bn.lf))),(4,.ptr 0 0),(10,.lf (.rows 2 (p_l.map bn.lf))),(11,.i_ (p_l.length:Int)),(12,.i_ v0),(23,.lf (.rows 2 ((p_l.take v0.toNat).map bn.lf))),(24,.i_ ((p_l.take v0.toNat).length:Int)),(25,.i_ v1)],[.box 149 (.agg [.lf (.rows 1 (x0.cO.map lfS)),.b_ x0.NI])]⟩) .ret (fun _=>⟨[(2,.i_ 12)],[.dead]⟩) (.exit 2) (fun _=>⟨[(0,.lf (.rows 2 (p_l.map bn.lf))),(10,.lf (.rows 2 (p_l.map bn.lf))),(11,.i_ (p_l.length:Int)),(12,.i_ v0)],[.dead]⟩) (aa1 p_l v0 x0 0) (wV p_l v0 x0) (0) (fun o0=>
 .rt [2] 0 (.inr (.inl (12)))) fun o1=>
 .rt [0,10,11,12] 0 (.inl (IntKind.wrap .i64 (v0+1))))<|
 .rt [] 0 (.inr (.inr (())))
def ars(p_l:List bn)(v0:Int):Option ((Int)⊕Unit):=bW (fun v_=>(wW p_l v_).den) FU (v0)
def aiQ(p_l:List bn):Mo (Int):=
 .nu p_l bn.lf<|
 .iB (decide ((8:Int)<(p_l.length:Int))) (.ret (aS 1) (2))<|
 .nu p_l bn.lf<|
 .l2 Tryz.f117 0 [1,1,0,1,0] 0 (fun(v0)=>⟨[(0,.lf (.rows 2 (p_l.map bn.lf))),(10,.lf (.rows 2 (p_l.map bn.lf))),(11,.i_ (p_l.length:Int)),(12,.i_ v0)],[]⟩) .ret (fun o_=>⟨[(2,.i_ o_)],[]⟩) (.exit 0) (fun _=>⟨[],[]⟩) (wW p_l) (0) (fun o0=>
 .ret (aS 1) (o0)) fun o1=>
 .ret (aS 1) (0)
def Q81(p_l:List bn):Option (Int):=Mo.den (aiQ p_l)
theorem aru(p_l:List bn):FV (Q81 p_l) 117 [.lf (.rows 2 (p_l.map bn.lf))] .i_:=dA Tryz.func117
abbrev aa2(m:aO→Int→Int→Option (Bool×Int)):Prop:=∀p_p p_level p_b0,FH (m p_p p_level p_b0) 185 [.dat (aO.lf1 p_p),.i_ p_level,.ptr 0 0] [.box 3 (.dat [(.int .i64 p_b0)])] (fun r=>.b_ r.1) (fun r=>[.box 3 (.dat [(.int .i64 r.2)])])
structure RB7 where
 m1:(p_p:aO)→(p_level:Int)→(p_b0:Int)→Option (Bool×Int)
 ok1:aa2 m1
def CQ(R_:RB7)(p_b0:Int)(p_level:Int)(p_p:aO):Mo (Bool):=
 .oV 4002 (decide ((16:Int)<p_level)) [1,2,3,16] 2 (p_b0==256)
def wX(R_:RB7)(p_level:Int)(p_p:aO):(Int×Int)→Mo ((Int×Int)⊕(Int)⊕(Int)):=fun(v0,v1)=>
 .iB (decide ((v0:Int)<(p_p.bC.length:Int))) (.gx aO.bf p_p.bC v0 fun x0 _=>
 .say [.at_ 16 4,.tod 29] ok0<|
 .cH [0] (R_.ok1 x0 (IntKind.wrap .i64 (p_level+1)) v1) fun r0 _=>
 .iB (!r0.1) (.rt [6] 2 (.inr (.inl (r0.2))))<|
 .rt [1,2,23,24,25] 2 (.inl (IntKind.wrap .i64 (v0+1),r0.2)))<|
 .rt [] 2 (.inr (.inr (v1)))
def arv(R_:RB7)(p_level:Int)(p_p:aO)(v0:Int)(v1:Int):Option ((Int)⊕(Int)):=bW (fun v_=>(wX R_ p_level p_p v_).den) FU (v0,v1)
def JM(R_:RB7)(p_p:aO)(p_level:Int)(p_b0:Int):Mo (Bool×Int):=
 .jk Tryz.f185 1 [1,0,0] 9 (fun r_=>⟨[(1,.i_ p_level),(2,.ptr 0 0),(3,.ptr 1 0),(16,.b_ r_)],[.box 3 (.dat [(.int .i64 p_b0)]),dw p_p]⟩) ⟨[(1,.i_ p_level),(2,.ptr 0 0),(3,.ptr 1 0)],[.box 3 (.dat [(.int .i64 p_b0)]),dw p_p]⟩ (CQ R_ p_b0 p_level p_p) fun r0=>
 .iB (r0) (.ret ⟨[.kill 1],[0],[],1⟩ (false,p_b0))<|
 .nu p_p.bC aO.lf<|
 .l2y [.kill 1] Tryz.f185 1 [1,1,1,0,1,0] 0 (fun(v0,v1)=>⟨[(1,.i_ p_level),(2,.ptr 0 0),(23,.lf (.rows 25 (p_p.bC.map aO.lf))),(24,.i_ (p_p.bC.length:Int)),(25,.i_ v0)],[.box 3 (.dat [(.int .i64 v1)]),.dead]⟩) .ret (fun o_=>⟨[(6,.b_ false)],[.box 3 (.dat [(.int .i64 o_)]),.dead]⟩) (.exit 0) (fun o_=>⟨[],[.box 3 (.dat [(.int .i64 o_)]),.dead]⟩) (wX R_ p_level p_p) (0,(IntKind.wrap .i64 (p_b0+1))) (fun o0=>
 .rt [0] 1 (false,o0)) fun o1=>
 .rt [0] 1 (true,o1)
theorem ank(R_:RB7):aa2 fun p_p p_level p_b0=>Mo.den (JM R_ p_p p_level p_b0):=fun _ _ _=>fH Tryz.func185
def wY:Nat→RB7
 |0=>{ m1:=fun p_p p_level p_b0=>none,ok1:=fun _ _ _ _ h=>(by cases h) }
 |n_+1=>{ m1:=fun p_p p_level p_b0=>Mo.den (JM (wY n_) p_p p_level p_b0),ok1:=ank (wY n_) }
def Q62(p_p:aO)(p_level:Int)(p_b0:Int):Option (Bool×Int):=(wY FU).m1 p_p p_level p_b0
theorem arw:aa2 Q62:=(wY FU).ok1
def O7(p_n:Int)(p_op:Int):Mo (Bool):=
 .iB (p_op==15) (.rt [1,5,6] 0 (p_op==15))<|
 .rt [1,5,6] 0 (p_op==23)
def O8(p_n:Int)(p_op:Int):Mo (Bool):=
 .iB (p_op==20) (.rt [1,11] 0 (p_op==20))<|
 .iB (p_op==21) (.rt [1,11] 0 (p_op==21))<|
 .rt [1,11] 0 (p_op==22)
def aa3(p_op:Int)(p_n:Int):Mo (Bool):=
 .jk Tryz.f303 0 [1,0,1,0,0,1] 1 (fun r_=>⟨[(1,.i_ p_n),(5,.i_ p_op),(6,.b_ r_)],[]⟩) ⟨[(1,.i_ p_n),(5,.i_ p_op),(6,.lf (.bool (p_op==15)))],[]⟩ (O7 p_n p_op) fun r0=>
 .iB (r0) (.ret (aS 1) (p_n==1))<|
 .jk Tryz.f303 0 [1,0,1,0,1,1,0,1] 1 (fun r_=>⟨[(1,.i_ p_n),(11,.b_ r_)],[]⟩) ⟨[(1,.i_ p_n),(5,.i_ p_op),(11,.lf (.bool (p_op==20)))],[]⟩ (O8 p_n p_op) fun r1=>
 .iB (r1) (.ret (aS 1) (decide ((1:Int)≤p_n)))<|
 .ret (aS 1) (p_n==0)
def aiR(p_op:Int)(p_n:Int):Option (Bool):=Mo.den (aa3 p_op p_n)
theorem anl(p_op:Int)(p_n:Int):FV (aiR p_op p_n) 303 [.i_ p_op,.i_ p_n] .b_:=dA Tryz.func303
def adS(p_op:Int):Mo (Bool):=
 .iG 4002 (p_op==8) (.ret (aS 1) (true))<|
 .iG 4006 (p_op==9) (.ret (aS 1) (true))<|
 .ret (aS 1) (p_op==14)
def Q90(p_op:Int):Option (Bool):=Mo.den (adS p_op)
theorem aa4(p_op:Int):FV (Q90 p_op) 304 [.i_ p_op] .b_:=dA Tryz.func304
def CS(p_p:aO):Mo (Bool):=
 .iG 8003 (p_p.fN==0) (.ret ⟨[.kill 0],[2],[],1⟩ (true))<|
 .ret ⟨[.kill 0],[2],[],1⟩ (p_p.fN==1)
def CU(p_p:aO):Mo (Bool):=
 .iG 12003 (decide ((1:Int)≤p_p.fN)) (.ret ⟨[.kill 0],[2],[],1⟩ (decide ((p_p.fN:Int)≤11)))<|
 .ret ⟨[.kill 0],[2],[],1⟩ (false)
def yM(p_p:aO):Mo (Bool):=
 .aV 16003 (decide ((1:Int)≤p_p.fN)) [1,2,34] 1 (decide ((0:Int)≤p_p.fM))
def yN(p_p:aO)(r0:Bool):Mo (Bool):=
 .iG 16008 (r0) (.ret ⟨[.kill 0],[2,41],[],1⟩ (decide ((p_p.fM:Int)<p_p.fN)))<|
 .ret ⟨[.kill 0],[2,41],[],1⟩ (false)
def aiS(p_p:aO):Mo (Bool):=
 .iB (p_p.fOp==10) (.jk Tryz.f305 0 [1,0,1,0,1,0,0] 13 (fun r_=>⟨[(2,.b_ r_)],[.dead]⟩) ⟨[(1,.ptr 0 0)],[dw p_p]⟩ (CS p_p) fun r0=>
 .ret (aS 1) (r0))<|
 .iB (p_p.fOp==11) (.jk Tryz.f305 0 [1,0,1,0,1,1,1,0,0] 17 (fun r_=>⟨[(2,.b_ r_)],[.dead]⟩) ⟨[(1,.ptr 0 0)],[dw p_p]⟩ (CU p_p) fun r1=>
 .ret (aS 1) (r1))<|
 .iB (p_p.fOp==12) (.sf Tryz.f305 0 [1,0,1,0,1,1,1,1,1,0,0] 0 8 7 [(1,.ptr 0 0),(2,.b_ false)] [dw p_p] 34 (yM p_p) fun r2=>
 .sk Tryz.f305 0 [1,0,1,0,1,1,1,1,1,0,0] 8 7 7 (fun r_=>⟨[(2,.b_ false),(41,.b_ r_)],[.dead]⟩) ⟨[(1,.ptr 0 0),(2,.b_ false),(34,.b_ r2)],[dw p_p]⟩ (yN p_p r2) fun r3=>
 .sk Tryz.f305 0 [1,0,1,0,1,1,1,1,1,0,0] 15 1 7 (fun r_=>⟨[(2,.b_ r3)],[.dead]⟩) ⟨[(2,.b_ false),(41,.b_ r3)],[.dead]⟩ (dR r3) fun r4=>
 .ret (aS 1) (r3))<|
 .iB (p_p.fOp==13) (.ret (aS 1) (decide ((0:Int)≤p_p.fN)))<|
 .ret (aS 1) (true)
def Q41(p_p:aO):Option (Bool):=Mo.den (aiS p_p)
theorem arx(p_p:aO):FV (Q41 p_p) 305 [.dat (aO.lf1 p_p)] .b_:=dA Tryz.func305
def Uj(p_op:Int):Mo (Bool):=
 .iG 4002 (decide ((2:Int)≤p_op)) (.ret (aS 1) (decide ((p_op:Int)≤19)))<|
 .ret (aS 1) (false)
def Nc(p_op:Int):Option (Bool):=Mo.den (Uj p_op)
theorem adT(p_op:Int):FV (Nc p_op) 306 [.i_ p_op] .b_:=dA Tryz.func306
def Uk(p_op:Int):Mo (Bool):=
 .iG 4002 (p_op==16) (.ret (aS 1) (true))<|
 .iG 4006 (p_op==17) (.ret (aS 1) (true))<|
 .ret (aS 1) (p_op==19)
def XM(p_op:Int):Option (Bool):=Mo.den (Uk p_op)
theorem Ul(p_op:Int):FV (XM p_op) 308 [.i_ p_op] .b_:=dA Tryz.func308
def Um(p_op:Int):Mo (Bool):=
 .iG 4002 (decide ((2:Int)≤p_op)) (.iG 4006 (decide ((p_op:Int)≤7)) (.ret (aS 1) (true))<|
 .cl (Ul p_op) fun r0 _=>
 .ret (aS 1) (r0))<|
 .cl (Ul p_op) fun r1 _=>
 .ret (aS 1) (r1)
def XO(p_op:Int):Option (Bool):=Mo.den (Um p_op)
theorem adU(p_op:Int):FV (XO p_op) 307 [.i_ p_op] .b_:=dA Tryz.func307
def JO(p_n:Int):Mo (Bool):=
 .iG 4002 (decide ((0:Int)≤p_n)) (.ret (aS 1) (decide ((p_n:Int)<65536)))<|
 .ret (aS 1) (false)
def Un(p_n:Int):Option (Bool):=Mo.den (JO p_n)
theorem Uo(p_n:Int):FV (Un p_n) 331 [.i_ p_n] .b_:=dA Tryz.func331
def Ur(p_p:cu):Mo (Bool):=
 .cl (Uo p_p.fX) fun r0 _=>
 .iG 4003 (r0) (.cl (Uo p_p.fY) fun r1 _=>
 .ret (aS 1) (r1))<|
 .ret (aS 1) (false)
def afS(p_p:cu):Option (Bool):=Mo.den (Ur p_p)
theorem anm(p_p:cu):FV (afS p_p) 332 [.dat (cu.lf1 p_p)] .b_:=dA Tryz.func332
def JQ(p_s:dQ):Mo (Bool):=
 .iB (p_s.aF==1) (.aV 12002 ((p_s.bF.length:Int)==2) [1,4] 1 (p_s.fR==0))<|
 .iB (p_s.aF==2) (.aC 16002 ((p_s.bF.length:Int)==1) [1,4] 1 (Uo p_s.fR))<|
 .iB (p_s.aF==3) (.iG 20002 (decide ((3:Int)≤(p_s.bF.length:Int))) (.aV 20006 (decide (((p_s.bF.length:Int):Int)≤64)) [1,4] 1 (p_s.fR==0))<|
 .rt [1,4] 1 (false))<|
 .rt [1,4] 1 (false)
def aa5(p_s:dQ):Option (Bool):=Mo.den (JQ p_s)
def wZ(p_s:dQ):(Int)→Mo ((Int)⊕(Unit⊕Unit)):=fun(v0)=>
 .iB (decide ((v0:Int)<(p_s.bF.length:Int))) (.gx cu.bf p_s.bF v0 fun x0 _=>
 .cl (anm x0) fun r0 _=>
 .iB (!r0) (.rt [2] 1 (.inr (.inl ())))<|
 .rt [46,47,48] 1 (.inl (IntKind.wrap .i64 (v0+1))))<|
 .rt [] 1 (.inr (.inr (())))
def aa6(p_s:dQ)(v0:Int):Option (Unit⊕Unit):=bW (fun v_=>(wZ p_s v_).den) FU (v0)
def aiT(p_s:dQ):Mo (Int):=
 .nu p_s.bF cu.lf<|
 .jp Tryz.f309 0 [1,1,1,0,1] 6 [1,3,4,11] 1 (.normal) (fun r_=>⟨[(1,.ptr 0 0),(4,.b_ r_)],[wB p_s]⟩) ⟨[(1,.ptr 0 0),(3,.i_ (p_s.bF.length:Int)),(4,.b_ false),(11,.i_ p_s.aF)],[wB p_s]⟩ (aa5 p_s) (jW (by kernel_rfl)) fun r0 _=>
 .iB (!r0) (.ret (aS 1) (18))<|
 .nu p_s.bF cu.lf<|
 .l2m [.kill 0] Tryz.f309 0 [1,1,1,1,1,0,1,0] 0 (fun(v0)=>⟨[(46,.lf (.rows 2 (p_s.bF.map cu.lf))),(47,.i_ (p_s.bF.length:Int)),(48,.i_ v0)],[.dead]⟩) .ret (fun _=>⟨[(2,.i_ 18)],[.dead]⟩) (.exit 1) (fun _=>⟨[],[.dead]⟩) (aa6 p_s 0) (wZ p_s) (0) (fun o0=>
 .ret (aS 1) (18)) fun o1=>
 .ret (aS 1) (0)
def Q95(p_s:dQ):Option (Int):=Mo.den (aiT p_s)
theorem arz(p_s:dQ):FV (Q95 p_s) 309 [.dat (dQ.lf1 p_s)] .i_:=dA Tryz.func309
def aa7(p_v:ah):Mo (Bool):=
 .sf Tryz.f333 0 [1,0] 0 8 1 [(1,.ptr 0 0),(2,.b_ false)] [aX p_v] 10 (o7 p_v) fun r0=>
 .sb Tryz.f333 0 [1,0] 8 5 1 [(1,.ptr 0 0),(2,.b_ false)] [aX p_v] 10 15 r0 (o8 p_v r0) fun r1=>
 .sb Tryz.f333 0 [1,0] 13 6 1 [(1,.ptr 0 0),(2,.b_ false)] [aX p_v] 15 21 r1 (mV p_v r1) fun r2=>
 .sk Tryz.f333 0 [1,0] 19 6 1 (fun r_=>⟨[(2,.b_ false),(27,.b_ r_)],[.dead]⟩) ⟨[(1,.ptr 0 0),(2,.b_ false),(21,.b_ r2)],[aX p_v]⟩ (mW p_v r2) fun r3=>
 .sk Tryz.f333 0 [1,0] 25 1 1 (fun r_=>⟨[(2,.b_ r3)],[.dead]⟩) ⟨[(2,.b_ false),(27,.b_ r3)],[.dead]⟩ (dR r3) fun r4=>
 .ret (aS 1) (r3)
def ano(p_v:ah):Option (Bool):=Mo.den (aa7 p_v)
theorem adV(p_v:ah):FV (ano p_v) 333 [.dat (ah.lf1 p_v)] .b_:=dA Tryz.func333
def O9(p_op:Int):Mo (Bool):=
 .oV 4002 (p_op==10) [0,2,8] 0 (p_op==11)
def Pe(p_op:Int)(r0:Bool):Mo (Bool):=
 .oV 4006 (r0) [0,2,12] 0 (p_op==12)
def JR(p_op:Int)(r0:Bool):Mo (Bool):=
 .oV 4010 (r0) [2,16] 0 (p_op==13)
def aa8(p_op:Int):Mo (Bool):=
 .sf Tryz.f334 0 [1,0] 0 6 1 [(0,.i_ p_op),(2,.b_ false)] [] 8 (O9 p_op) fun r0=>
 .sb Tryz.f334 0 [1,0] 6 4 1 [(0,.i_ p_op),(2,.b_ false)] [] 8 12 r0 (Pe p_op r0) fun r1=>
 .sk Tryz.f334 0 [1,0] 10 4 1 (fun r_=>⟨[(2,.b_ false),(16,.b_ r_)],[]⟩) ⟨[(0,.i_ p_op),(2,.b_ false),(12,.b_ r1)],[]⟩ (JR p_op r1) fun r2=>
 .sk Tryz.f334 0 [1,0] 14 1 1 (fun r_=>⟨[(2,.b_ r2)],[]⟩) ⟨[(2,.b_ false),(16,.b_ r2)],[]⟩ (uZ r2) fun r3=>
 .ret (aS 1) (r2)
def arA(p_op:Int):Option (Bool):=Mo.den (aa8 p_op)
theorem anp(p_op:Int):FV (arA p_op) 334 [.i_ p_op] .b_:=dA Tryz.func334
def Fb(p_e:aP)(r0:Bool):Mo (Bool):=
 .aC 4020 (r0) [1,2,27] 1 (adV p_e.fArg)
def adW(p_e:aP):Mo (Bool):=
 .sf Tryz.f335 0 [1,0] 0 9 1 [(1,.ptr 0 0),(2,.b_ false)] [dL p_e] 11 (qw p_e) fun r0=>
 .sb Tryz.f335 0 [1,0] 9 5 1 [(1,.ptr 0 0),(2,.b_ false)] [dL p_e] 11 16 r0 (qx p_e r0) fun r1=>
 .sb Tryz.f335 0 [1,0] 14 6 1 [(1,.ptr 0 0),(2,.b_ false)] [dL p_e] 16 22 r1 (nU p_e r1) fun r2=>
 .sb Tryz.f335 0 [1,0] 20 5 1 [(1,.ptr 0 0),(2,.b_ false)] [dL p_e] 22 27 r2 (Fb p_e r2) fun r3=>
 .sb Tryz.f335 0 [1,0] 25 5 1 [(1,.ptr 0 0),(2,.b_ false)] [dL p_e] 27 32 r3 (nV p_e r3) fun r4=>
 .sk Tryz.f335 0 [1,0] 30 6 1 (fun r_=>⟨[(2,.b_ false),(38,.b_ r_)],[.dead]⟩) ⟨[(1,.ptr 0 0),(2,.b_ false),(32,.b_ r4)],[dL p_e]⟩ (nX p_e r4) fun r5=>
 .sk Tryz.f335 0 [1,0] 36 1 1 (fun r_=>⟨[(2,.b_ r5)],[.dead]⟩) ⟨[(2,.b_ false),(38,.b_ r5)],[.dead]⟩ (dR r5) fun r6=>
 .ret (aS 1) (r5)
def Q93(p_e:aP):Option (Bool):=Mo.den (adW p_e)
theorem arB(p_e:aP):FV (Q93 p_e) 335 [.dat (aP.lf1 p_e)] .b_:=dA Tryz.func335
def XP(p_p:aO):Mo (Bool):=
 .cl (adT p_p.fOp) fun r0 _=>
 .iG 6004 (!r0) (.nu p_p.cO lfS<|
 .rt [1,3] 1 (decide ((0:Int)<(p_p.cO.length:Int))))<|
 .rt [1,3] 1 (false)
def XQ(p_p:aO):Mo (Bool):=
 .cl (adU p_p.fOp) fun r0 _=>
 .iG 8004 (!r0) (.cl (adV p_p.fArg) fun r1 _=>
 .rt [1,14] 1 (!r1))<|
 .rt [1,14] 1 (false)
def Pg(p_p:aO):Mo (Bool):=
 .cl (aa4 p_p.fOp) fun r0 _=>
 .iG 10004 (!r0) (.nu p_p.fArgs ah.lf<|
 .rt [1,25] 1 (decide ((0:Int)<(p_p.fArgs.length:Int))))<|
 .rt [1,25] 1 (false)
def Ph(p_p:aO):Mo (Bool):=
 .cl (anp p_p.fOp) fun r0 _=>
 .aV 12004 (!r0) [1,36] 1 (p_p.fN != 0)
def Pj(p_p:aO):Mo (Bool):=
 .aV 14003 (p_p.fOp != 12) [1,46] 1 (p_p.fM != 0)
def Pm(p_p:aO):Mo (Bool):=
 .iG 16003 (p_p.fOp != 18) (.iG 16008 (p_p.dY.aF != 0) (.rt [1,77] 1 (true))<|
 .nu p_p.dY.bF cu.lf<|
 .oV 16015 (decide ((0:Int)<(p_p.dY.bF.length:Int))) [1,77] 1 (p_p.dY.fR != 0))<|
 .rt [1,77] 1 (false)
def Po(p_p:aO)(r0:Bool):Mo (Unit):=
 .rt [1,55] 1 ()
def Pq(p_p:aO):Mo (Bool):=
 .iG 18003 (p_p.fOp != 24) (.cl (arB p_p.fExpr) fun r0 _=>
 .ret ⟨[.kill 0],[78],[],1⟩ (!r0))<|
 .ret ⟨[.kill 0],[78],[],1⟩ (false)
def Fe(p_p:aO):Mo (Unit⊕Unit):=
 .jk Tryz.f310 0 [1,0,0,0] 11 (fun r_=>⟨[(1,.ptr 0 0),(3,.b_ r_)],[dw p_p]⟩) ⟨[(1,.ptr 0 0)],[dw p_p]⟩ (XP p_p) fun r0=>
 .iB (r0) (.ret ⟨[.kill 0],[],[],1⟩ (.inl ()))<|
 .jk Tryz.f310 0 [1,0,0,1,1,0] 13 (fun r_=>⟨[(1,.ptr 0 0),(14,.b_ r_)],[dw p_p]⟩) ⟨[(1,.ptr 0 0)],[dw p_p]⟩ (XQ p_p) fun r1=>
 .iB (r1) (.ret ⟨[.kill 0],[],[],1⟩ (.inl ()))<|
 .jk Tryz.f310 0 [1,0,0,1,1,1,1,0] 15 (fun r_=>⟨[(1,.ptr 0 0),(25,.b_ r_)],[dw p_p]⟩) ⟨[(1,.ptr 0 0)],[dw p_p]⟩ (Pg p_p) fun r2=>
 .iB (r2) (.ret ⟨[.kill 0],[],[],1⟩ (.inl ()))<|
 .jk Tryz.f310 0 [1,0,0,1,1,1,1,1,1,0] 17 (fun r_=>⟨[(1,.ptr 0 0),(36,.b_ r_)],[dw p_p]⟩) ⟨[(1,.ptr 0 0)],[dw p_p]⟩ (Ph p_p) fun r3=>
 .iB (r3) (.ret ⟨[.kill 0],[],[],1⟩ (.inl ()))<|
 .jk Tryz.f310 0 [1,0,0,1,1,1,1,1,1,1,1,0] 19 (fun r_=>⟨[(1,.ptr 0 0),(46,.b_ r_)],[dw p_p]⟩) ⟨[(1,.ptr 0 0)],[dw p_p]⟩ (Pj p_p) fun r4=>
 .iB (r4) (.ret ⟨[.kill 0],[],[],1⟩ (.inl ()))<|
 .sf Tryz.f310 0 [1,0,0,1,1,1,1,1,1,1,1,1,1,0] 0 22 7 [(1,.ptr 0 0)] [dw p_p] 77 (Pm p_p) fun r5=>
 .sk Tryz.f310 0 [1,0,0,1,1,1,1,1,1,1,1,1,1,0] 22 1 7 (fun r_=>⟨[(1,.ptr 0 0),(55,.b_ r5)],[dw p_p]⟩) ⟨[(1,.ptr 0 0),(77,.b_ r5)],[dw p_p]⟩ (Po p_p r5) fun r6=>
 .iB (r5) (.ret ⟨[.kill 0],[],[],1⟩ (.inl ()))<|
 .jk Tryz.f310 0 [1,0,0,1,1,1,1,1,1,1,1,1,1,1,1,0] 23 (fun r_=>⟨[(78,.b_ r_)],[.dead]⟩) ⟨[(1,.ptr 0 0)],[dw p_p]⟩ (Pq p_p) fun r7=>
 .iB (r7) (.rt [] 1 (.inl ()))<|
 .rt [2] 1 (.inr (()))
def Ip(p_p:aO):Option (Unit⊕Unit):=Mo.den (Fe p_p)
def yO(r_:Unit⊕Unit):Exit:=match r_ with
 |.inl o_=>.normal
 |.inr (o_)=>.ret
def yP  (r_:Unit⊕Unit):St:=match r_ with
 |.inl o_=>⟨[],[.dead]⟩
 |.inr (o_)=>⟨[(2,.b_ true)],[.dead]⟩
theorem Pv{p_p:aO}{r_:Unit⊕Unit}(h:Ip p_p=some r_):MW Tryz.f310 0 [1,0] (yO r_) (yP r_) ⟨[(1,.ptr 0 0)],[dw p_p]⟩:=
 EJ wo (Fe p_p) yO yP (by kernel_rfl) h
def aiU(p_p:aO):Mo (Bool):=
 .kM (Ip p_p) (fun o0 h0=>
 .say [.pt_ 6 [1] 1 (yO (.inl o0)) (yP (.inl o0))] (ok1 (Pv h0))<|
 .ret (aS 1) (false)) fun o1 h0=>
 .say [.pt_ 6 [1] 1 (yO (.inr (o1))) (yP (.inr (o1)))] (ok1 (Pv h0))<|
 .ret (aS 1) (true)
def Q15(p_p:aO):Option (Bool):=Mo.den (aiU p_p)
theorem arC(p_p:aO):FV (Q15 p_p) 310 [.dat (aO.lf1 p_p)] .b_:=dA Tryz.func310
def CV(p_op:Int):Mo (Bool):=
 .iB (p_op==1) (.rt [3,4] 0 (p_op==1))<|
 .iB (p_op==2) (.rt [3,4] 0 (p_op==2))<|
 .rt [3,4] 0 (p_op==3)
def CW(p_op:Int):Mo (Bool):=
 .iB (p_op==18) (.rt [3,8] 0 (p_op==18))<|
 .iB (p_op==22) (.rt [3,8] 0 (p_op==22))<|
 .iB (p_op==23) (.rt [3,8] 0 (p_op==23))<|
 .iB (p_op==24) (.rt [3,8] 0 (p_op==24))<|
 .iB (p_op==26) (.rt [3,8] 0 (p_op==26))<|
 .iB (p_op==30) (.rt [3,8] 0 (p_op==30))<|
 .iB (p_op==31) (.rt [3,8] 0 (p_op==31))<|
 .rt [3,8] 0 (p_op==36)
def Px(p_op:Int):Mo (Bool):=
 .iB (p_op==32) (.rt [3,17] 0 (p_op==32))<|
 .rt [3,17] 0 (p_op==33)
def Py(p_op:Int):Mo (Bool):=
 .iB (p_op==19) (.rt [3,20] 0 (p_op==19))<|
 .rt [3,20] 0 (p_op==25)
def Pz(p_op:Int):Mo (Bool):=
 .iB (p_op==4) (.rt [3,23] 0 (p_op==4))<|
 .iB (p_op==6) (.rt [3,23] 0 (p_op==6))<|
 .iB (p_op==16) (.rt [3,23] 0 (p_op==16))<|
 .iB (p_op==17) (.rt [3,23] 0 (p_op==17))<|
 .iB (p_op==21) (.rt [3,23] 0 (p_op==21))<|
 .iB (p_op==29) (.rt [3,23] 0 (p_op==29))<|
 .rt [3,23] 0 (p_op==37)
def aiV(p_op:Int):Mo (Int):=
 .jk Tryz.f343 0 [1,0,1,0,0,1] 1 (fun r_=>⟨[(3,.i_ p_op),(4,.b_ r_)],[]⟩) ⟨[(3,.i_ p_op),(4,.lf (.bool (p_op==1)))],[]⟩ (CV p_op) fun r0=>
 .iB (r0) (.ret (aS 1) (0))<|
 .jk Tryz.f343 0 [1,0,1,0,1,1,0,1] 1 (fun r_=>⟨[(3,.i_ p_op),(8,.b_ r_)],[]⟩) ⟨[(3,.i_ p_op),(8,.lf (.bool (p_op==18)))],[]⟩ (CW p_op) fun r1=>
 .iB (r1) (.ret (aS 1) (1))<|
 .jk Tryz.f343 0 [1,0,1,0,1,1,1,1,0,1] 1 (fun r_=>⟨[(3,.i_ p_op),(17,.b_ r_)],[]⟩) ⟨[(3,.i_ p_op),(17,.lf (.bool (p_op==32)))],[]⟩ (Px p_op) fun r2=>
 .iB (r2) (.ret (aS 1) (3))<|
 .jk Tryz.f343 0 [1,0,1,0,1,1,1,1,1,1,0,1] 1 (fun r_=>⟨[(3,.i_ p_op),(20,.b_ r_)],[]⟩) ⟨[(3,.i_ p_op),(20,.lf (.bool (p_op==19)))],[]⟩ (Py p_op) fun r3=>
 .iB (r3) (.ret (aS 1) (4))<|
 .jk Tryz.f343 0 [1,0,1,0,1,1,1,1,1,1,1,1,0,1] 1 (fun r_=>⟨[(3,.i_ p_op),(23,.b_ r_)],[]⟩) ⟨[(3,.i_ p_op),(23,.lf (.bool (p_op==4)))],[]⟩ (Pz p_op) fun r4=>
 .iB (r4) (.ret (aS 1) (5))<|
 .iB (p_op==35) (.ret (aS 1) (6))<|
 .iB (p_op==34) (.ret (aS 1) (7))<|
 .ret (aS 1) (2)
def Q75(p_op:Int):Option (Int):=Mo.den (aiV p_op)
theorem aiW(p_op:Int):FV (Q75 p_op) 343 [.i_ p_op] .i_:=dA Tryz.func343
def PD(p_n:Int)(p_shape:Int):Mo (Bool):=
 .iB (p_shape==2) (.rt [1,5,14] 0 (p_shape==2))<|
 .rt [1,5,14] 0 (p_shape==3)
def aa9(p_shape:Int)(p_n:Int):Mo (Bool):=
 .iB (p_shape==0) (.ret (aS 1) (p_n==0))<|
 .iB (p_shape==1) (.ret (aS 1) (p_n==1))<|
 .jk Tryz.f342 0 [1,0,1,0,1,1,1,1,0,1] 1 (fun r_=>⟨[(1,.i_ p_n),(5,.i_ p_shape),(14,.b_ r_)],[]⟩) ⟨[(1,.i_ p_n),(5,.i_ p_shape),(14,.lf (.bool (p_shape==2)))],[]⟩ (PD p_n p_shape) fun r0=>
 .iB (r0) (.ret (aS 1) (p_n==2))<|
 .iB (p_shape==4) (.ret (aS 1) (p_n==3))<|
 .iB (p_shape==7) (.ret (aS 1) (decide ((1:Int)≤p_n)))<|
 .ret (aS 1) (true)
def anq(p_shape:Int)(p_n:Int):Option (Bool):=Mo.den (aa9 p_shape p_n)
theorem anr(p_shape:Int)(p_n:Int):FV (anq p_shape p_n) 342 [.i_ p_shape,.i_ p_n] .b_:=dA Tryz.func342
def abb(p_s:ByteArray):Mo (Bool):=
 .say [.at_ 4 2,.MK 0 ([p_s].map lfS)] (ok1 (by simp[lfS]:[p_s].map lfS=[(lfS p_s)]))<|
 .cl (CP [p_s]) fun r0 _=>
 .ret (aS 1) (r0)
def ant(p_s:ByteArray):Option (Bool):=Mo.den (abb p_s)
theorem adX(p_s:ByteArray):FV (ant p_s) 344 [.lf (.str p_s)] .b_:=dA Tryz.func344
def JU(m4094:List (ByteArray×Bool))(p_l:List ByteArray)(v0:Int)(x0:ByteArray):Mo (Bool):=
 .cl (adX x0) fun r0 _=>
 .iG 12003 (!r0) (.rt [3,5,7,8,9,20] 1 (true))<|
 .say [.row [.bool (wO m4094 x0 false)]] (okc (rfl:Tryz.prog=Tryz.prog) (ok1 (Jc _ _ _:nR (m4094.map mvB) x0 (.bool false)=(.bool (wO m4094 x0 false)))))<|
 .rt [3,5,7,8,9,20] 1 (wO m4094 x0 false)
def xg(p_l:List ByteArray):(Int×(List (ByteArray×Bool)))→Mo ((Int×(List (ByteArray×Bool)))⊕(Unit⊕Unit)):=fun(v0,m4094)=>
 .iB (decide ((v0:Int)<(p_l.length:Int))) (.gx lS_ p_l v0 fun x0 _=>
 .jk Tryz.f345 0 [1,1,0,1,0,0,1,1,0,0,1,0,0] 17 (fun r_=>⟨[(3,.mp 0),(5,.lf (.str x0)),(7,.lf (.rows 1 (p_l.map lfS))),(8,.i_ (p_l.length:Int)),(9,.i_ v0),(20,.b_ r_)],[.map Tryz.prog 9 4 (m4094.map mvB)]⟩) ⟨[(3,.mp 0),(5,.lf (.str x0)),(7,.lf (.rows 1 (p_l.map lfS))),(8,.i_ (p_l.length:Int)),(9,.i_ v0)],[.map Tryz.prog 9 4 (m4094.map mvB)]⟩ (JU m4094 p_l v0 x0) fun r0=>
 .iB (r0) (.ret ⟨[.kill 0],[2],[],1⟩ (.inr (.inl ())))<|
 .say [] (ok1 (rfl:Tryz.prog=Tryz.prog))<|
 .grd (m4094.length<maxLen) fun h0=>
 .say [] (ok1 (by simpa using h0:(m4094.map mvB).length<maxLen))<|
 .rt [3,7,8,9] 1 (.inl (IntKind.wrap .i64 (v0+1),(x0,true)::m4094)))<|
 .ret ⟨[.kill 0],[],[],1⟩ (.inr (.inr (())))
def arD(p_l:List ByteArray)(v0:Int)(m4094:List (ByteArray×Bool)):Option (Unit⊕Unit):=bW (fun v_=>(xg p_l v_).den) FU (v0,m4094)
def aiX(p_l:List ByteArray):Mo (Bool):=
 .nu p_l lfS<|
 .l2 Tryz.f345 0 [1,1,0,1,0] 0 (fun(v0,m4094)=>⟨[(3,.mp 0),(7,.lf (.rows 1 (p_l.map lfS))),(8,.i_ (p_l.length:Int)),(9,.i_ v0)],[.map Tryz.prog 9 4 (m4094.map mvB)]⟩) .ret (fun _=>⟨[(2,.b_ false)],[.dead]⟩) (.exit 0) (fun _=>⟨[],[.dead]⟩) (xg p_l) (0,([]:List (ByteArray×Bool))) (fun o0=>
 .ret (aS 1) (false)) fun o1=>
 .ret (aS 1) (true)
def Q68(p_l:List ByteArray):Option (Bool):=Mo.den (aiX p_l)
theorem arE(p_l:List ByteArray):FV (Q68 p_l) 345 [.lf (.rows 1 (p_l.map lfS))] .b_:=dA Tryz.func345
def abd(p_v:ah):Mo (Bool):=
 .sf Tryz.f346 0 [1,0] 0 8 1 [(1,.ptr 0 0),(2,.b_ false)] [aX p_v] 10 (o7 p_v) fun r0=>
 .sb Tryz.f346 0 [1,0] 8 5 1 [(1,.ptr 0 0),(2,.b_ false)] [aX p_v] 10 15 r0 (o8 p_v r0) fun r1=>
 .sb Tryz.f346 0 [1,0] 13 6 1 [(1,.ptr 0 0),(2,.b_ false)] [aX p_v] 15 21 r1 (mV p_v r1) fun r2=>
 .sk Tryz.f346 0 [1,0] 19 6 1 (fun r_=>⟨[(2,.b_ false),(27,.b_ r_)],[.dead]⟩) ⟨[(1,.ptr 0 0),(2,.b_ false),(21,.b_ r2)],[aX p_v]⟩ (mW p_v r2) fun r3=>
 .sk Tryz.f346 0 [1,0] 25 1 1 (fun r_=>⟨[(2,.b_ r3)],[.dead]⟩) ⟨[(2,.b_ false),(27,.b_ r3)],[.dead]⟩ (dR r3) fun r4=>
 .ret (aS 1) (r3)
def anu(p_v:ah):Option (Bool):=Mo.den (abd p_v)
theorem anv(p_v:ah):FV (anu p_v) 346 [.dat (ah.lf1 p_v)] .b_:=dA Tryz.func346
def XR(p_e:aP):Mo (Bool):=
 .ite (decide ((p_e.fOp:Int)<1)) (fun c0=>
 .say [.iY (.q 0 (.q 1 (.q 2 (.q 3 (.q 4 (.q 5 (.q 6 (.q 7 (.q 8 (.q 9 (.q 10 (.q 12 (.q 13 (.q 14 (.l 11 (.l 15 (.q 16 (.q 17 .fin)))))))))))))))))) (some 15) [] [.gd 4003 true] [1,22] 1 [(1,.ptr 0 0),(22,.b_ true)] [dL p_e]] (okc c0 (ok1 (rf_ ⟨[(1,.ptr 0 0),(22,.b_ true)],[dL p_e]⟩)))<|
 .rt [1,22] 1 (true)) fun c0=>
 .say [] (ok1 c0)<|
 .ite (decide ((37:Int)<p_e.fOp)) (fun c1=>
 .say [.iY (.q 0 (.q 1 (.q 2 (.q 3 (.q 4 (.q 5 (.q 6 (.q 7 (.q 8 (.q 9 (.q 10 (.q 12 (.q 13 (.q 14 (.l 11 (.l 15 (.q 16 (.q 17 .fin)))))))))))))))))) (some 15) [] [.gd 4003 false,.gd 4008 true] [1,22] 1 [(1,.ptr 0 0),(22,.b_ true)] [dL p_e]] (okc c1 (ok1 (rf_ ⟨[(1,.ptr 0 0),(22,.b_ true)],[dL p_e]⟩)))<|
 .rt [1,22] 1 (true)) fun c1=>
 .say [] (okc c1 (ok1 (ln_ p_e.bC aP.lf)))<|
 .ask (Q75 p_e.fOp) fun r0 h0=>
 .say [] (ok1 (aiW _ _ h0))<|
 .ask (anq r0 (p_e.bC.length:Int)) fun r1 h1=>
 .say [.iY (.q 0 (.q 1 (.q 2 (.q 3 (.q 4 (.q 5 (.q 6 (.q 7 (.q 8 (.q 9 (.q 10 (.q 12 (.q 13 (.q 14 (.l 11 (.l 15 (.q 16 (.q 17 .fin)))))))))))))))))) (some 15) [] [.gd 4003 false,.gd 4008 false,.num p_e.bC.length,.res (.i_ r0),.res (.b_ r1)] [1,22] 1 [(1,.ptr 0 0),(22,.lf (.bool (!r1)))] [dL p_e]] (okc (anr _ _ _ h1) (ok1 (rf_ ⟨[(1,.ptr 0 0),(22,.lf (.bool (!r1)))],[dL p_e]⟩)))<|
 .rt [1,22] 1 (!r1)
def XT(p_e:aP):Mo (Bool):=
 .iG 8003 (p_e.fOp==34) (.nu p_e.bC aP.lf<|
 .nu p_e.eP lfS<|
 .rt [1,34] 1 ((p_e.bC.length:Int) != (p_e.eP.length:Int)))<|
 .rt [1,34] 1 (false)
def PE(p_e:aP):Mo (Bool):=
 .oV 12003 (p_e.fOp==2) [1,3] 1 (p_e.fOp==3)
def PG(p_e:aP)(r0:Bool):Mo (Bool):=
 .iG 14003 (p_e.fOp==3) (.rt [1,3,4] 1 (true))<|
 .cl (aiW p_e.fOp) fun r1 _=>
 .rt [1,3,4] 1 (r1==3)
def PI(p_e:aP)(r0:Bool)(r1:Bool):Mo (Bool):=
 .iG 16001 (r0) (.cl (CP p_e.cO) fun r2 _=>
 .rt [1,3,4,58] 1 (!r2))<|
 .rt [1,3,4,58] 1 (false)
def PK(p_e:aP)(r0:Bool)(r1:Bool)(r2:Bool):Mo (Bool):=
 .iG 16007 (r2) (.iG 16011 (p_e.fOp==2) (.rt [1,3,4,69] 1 (true))<|
 .nu p_e.cO lfS<|
 .rt [1,3,4,69] 1 (decide ((0:Int)<(p_e.cO.length:Int))))<|
 .rt [1,3,4,69] 1 (false)
def PL(p_e:aP)(r0:Bool)(r1:Bool):Mo (Bool):=
 .iG 20001 (r1) (.cl (adX p_e.fName) fun r2 _=>
 .rt [1,3,4,76] 1 (!r2))<|
 .rt [1,3,4,76] 1 (false)
def PN(p_e:aP)(r0:Bool)(r1:Bool)(r2:Bool):Mo (Bool):=
 .iG 20007 (r2) (.rt [1,3,4,87] 1 (true))<|
 .iG 20011 (p_e.fOp==34) (.cl (arE p_e.eP) fun r3 _=>
 .rt [1,3,4,87] 1 (!r3))<|
 .rt [1,3,4,87] 1 (false)
def PO(p_e:aP)(r0:Bool)(r1:Bool):Mo (Bool):=
 .iG 24003 (p_e.fOp==1) (.cl (nY p_e.fArg) fun r2 _=>
 .rt [1,3,4,96] 1 (!r2))<|
 .rt [1,3,4,96] 1 (false)
def PS(p_e:aP)(r0:Bool)(r1:Bool):Mo (Bool):=
 .iG 28002 (!r0) (.nu p_e.cO lfS<|
 .rt [1,4,104] 1 (decide ((0:Int)<(p_e.cO.length:Int))))<|
 .rt [1,4,104] 1 (false)
def PU(p_e:aP)(r0:Bool)(r1:Bool):Mo (Bool):=
 .iG 28008 (r1) (.rt [1,113] 1 (true))<|
 .aV 28011 (!r0) [1,113] 1 (!decide ((p_e.fName:ByteArray)=(⟨#[]⟩:ByteArray)))
def PV(p_e:aP)(r0:Bool):Mo (Bool):=
 .iG 28017 (r0) (.rt [1,124] 1 (true))<|
 .iG 28021 (p_e.fOp != 34) (.nu p_e.eP lfS<|
 .rt [1,124] 1 (decide ((0:Int)<(p_e.eP.length:Int))))<|
 .rt [1,124] 1 (false)
def PW(p_e:aP):Mo (Bool):=
 .iG 32003 (p_e.fOp != 1) (.cl (anv p_e.fArg) fun r0 _=>
 .rt [1,133] 1 (!r0))<|
 .rt [1,133] 1 (false)
def PX(p_e:aP)(r0:Bool):Mo (Bool):=
 .iG 32009 (r0) (.ret ⟨[.kill 0],[138],[],1⟩ (true))<|
 .ret ⟨[.kill 0],[138],[],1⟩ (p_e.fN != 0)
def aiY(p_e:aP):Mo (Int):=
 .jk Tryz.f339 0 [1,0,0] 9 (fun r_=>⟨[(1,.ptr 0 0),(22,.b_ r_)],[dL p_e]⟩) ⟨[(1,.ptr 0 0)],[dL p_e]⟩ (XR p_e) fun r0=>
 .iB (r0) (.ret (aS 1) (11))<|
 .jk Tryz.f339 0 [1,1,0,0] 13 (fun r_=>⟨[(1,.ptr 0 0),(34,.b_ r_)],[dL p_e]⟩) ⟨[(1,.ptr 0 0)],[dL p_e]⟩ (XT p_e) fun r1=>
 .iB (r1) (.ret (aS 1) (11))<|
 .jk Tryz.f339 0 [1,1,1,0] 17 (fun r_=>⟨[(1,.ptr 0 0),(3,.b_ r_)],[dL p_e]⟩) ⟨[(1,.ptr 0 0)],[dL p_e]⟩ (PE p_e) fun r2=>
 .jk Tryz.f339 0 [1,1,1,1,0] 19 (fun r_=>⟨[(1,.ptr 0 0),(3,.b_ r2),(4,.b_ r_)],[dL p_e]⟩) ⟨[(1,.ptr 0 0),(3,.b_ r2)],[dL p_e]⟩ (PG p_e r2) fun r3=>
 .sf Tryz.f339 0 [1,1,1,1,1,0,0] 0 7 7 [(1,.ptr 0 0),(3,.b_ r2),(4,.b_ r3)] [dL p_e] 58 (PI p_e r2 r3) fun r4=>
 .sb Tryz.f339 0 [1,1,1,1,1,0,0] 7 11 7 [(1,.ptr 0 0),(3,.b_ r2),(4,.b_ r3)] [dL p_e] 58 69 r4 (PK p_e r2 r3 r4) fun r5=>
 .iB (r5) (.ret (aS 1) (10))<|
 .sf Tryz.f339 0 [1,1,1,1,1,1,0,0] 0 7 9 [(1,.ptr 0 0),(3,.b_ r2),(4,.b_ r3)] [dL p_e] 76 (PL p_e r2 r3) fun r6=>
 .sb Tryz.f339 0 [1,1,1,1,1,1,0,0] 7 11 9 [(1,.ptr 0 0),(3,.b_ r2),(4,.b_ r3)] [dL p_e] 76 87 r6 (PN p_e r2 r3 r6) fun r7=>
 .iB (r7) (.ret (aS 1) (9))<|
 .jk Tryz.f339 0 [1,1,1,1,1,1,1,0,0] 29 (fun r_=>⟨[(1,.ptr 0 0),(3,.b_ r2),(4,.b_ r3),(96,.b_ r_)],[dL p_e]⟩) ⟨[(1,.ptr 0 0),(3,.b_ r2),(4,.b_ r3)],[dL p_e]⟩ (PO p_e r2 r3) fun r8=>
 .iB (r8) (.ret (aS 1) (8))<|
 .sk Tryz.f339 0 [1,1,1,1,1,1,1,1,0,0] 0 8 13 (fun r_=>⟨[(1,.ptr 0 0),(4,.b_ r3),(104,.b_ r_)],[dL p_e]⟩) ⟨[(1,.ptr 0 0),(3,.b_ r2),(4,.b_ r3)],[dL p_e]⟩ (PS p_e r2 r3) fun r9=>
 .sk Tryz.f339 0 [1,1,1,1,1,1,1,1,0,0] 8 9 13 (fun r_=>⟨[(1,.ptr 0 0),(113,.b_ r_)],[dL p_e]⟩) ⟨[(1,.ptr 0 0),(4,.b_ r3),(104,.b_ r9)],[dL p_e]⟩ (PU p_e r3 r9) fun r10=>
 .sb Tryz.f339 0 [1,1,1,1,1,1,1,1,0,0] 17 11 13 [(1,.ptr 0 0)] [dL p_e] 113 124 r10 (PV p_e r10) fun r11=>
 .iB (r11) (.ret (aS 1) (4))<|
 .sf Tryz.f339 0 [1,1,1,1,1,1,1,1,1,0,0] 0 9 15 [(1,.ptr 0 0)] [dL p_e] 133 (PW p_e) fun r12=>
 .sk Tryz.f339 0 [1,1,1,1,1,1,1,1,1,0,0] 9 5 15 (fun r_=>⟨[(138,.b_ r_)],[.dead]⟩) ⟨[(1,.ptr 0 0),(133,.b_ r12)],[dL p_e]⟩ (PX p_e r12) fun r13=>
 .iB (r13) (.ret (aS 1) (4))<|
 .ret (aS 1) (0)
def Q18(p_e:aP):Option (Int):=Mo.den (aiY p_e)
theorem arF(p_e:aP):FV (Q18 p_e) 339 [.dat (aP.lf1 p_e)] .i_:=dA Tryz.func339
abbrev abe(m:aP→Int→Int→Option (Int×Int)):Prop:=∀p_e p_level p_b0,FH (m p_e p_level p_b0) 336 [.dat (aP.lf1 p_e),.i_ p_level,.ptr 0 0] [.box 3 (.dat [(.int .i64 p_b0)])] (fun r=>.i_ r.1) (fun r=>[.box 3 (.dat [(.int .i64 r.2)])])
structure RB9 where
 m1:(p_e:aP)→(p_level:Int)→(p_b0:Int)→Option (Int×Int)
 ok1:abe m1
def CX(R_:RB9)(p_b0:Int)(p_e:aP)(p_level:Int):Mo (Bool):=
 .oV 4002 (decide ((16:Int)<p_level)) [1,2,3,18] 2 (p_b0==256)
def xk(R_:RB9)(p_e:aP)(p_level:Int):(Int×Int)→Mo ((Int×Int)⊕(Int×Int)⊕(Int)):=fun(v0,v1)=>
 .iB (decide ((v0:Int)<(p_e.bC.length:Int))) (.gx aP.bf p_e.bC v0 fun x0 _=>
 .say [.at_ 22 4,.tod 36] ok0<|
 .cH [0] (R_.ok1 x0 (IntKind.wrap .i64 (p_level+1)) v1) fun r0 _=>
 .iB (r0.1 != 0) (.rt [6] 2 (.inr (.inl (r0.1,r0.2))))<|
 .rt [1,2,30,31,32] 2 (.inl (IntKind.wrap .i64 (v0+1),r0.2)))<|
 .rt [] 2 (.inr (.inr (v1)))
def arG(R_:RB9)(p_e:aP)(p_level:Int)(v0:Int)(v1:Int):Option ((Int×Int)⊕(Int)):=bW (fun v_=>(xk R_ p_e p_level v_).den) FU (v0,v1)
def JV(R_:RB9)(p_e:aP)(p_level:Int)(p_b0:Int):Mo (Int×Int):=
 .jk Tryz.f336 1 [1,0,0] 9 (fun r_=>⟨[(1,.i_ p_level),(2,.ptr 0 0),(3,.ptr 1 0),(18,.b_ r_)],[.box 3 (.dat [(.int .i64 p_b0)]),dL p_e]⟩) ⟨[(1,.i_ p_level),(2,.ptr 0 0),(3,.ptr 1 0)],[.box 3 (.dat [(.int .i64 p_b0)]),dL p_e]⟩ (CX R_ p_b0 p_e p_level) fun r0=>
 .iB (r0) (.ret ⟨[.kill 1],[0],[],1⟩ (2,p_b0))<|
 .cl (arF p_e) fun r1 _=>
 .iB (r1 != 0) (.ret ⟨[.kill 1],[0],[],1⟩ (r1,IntKind.wrap .i64 (p_b0+1)))<|
 .nu p_e.bC aP.lf<|
 .l2y [.kill 1] Tryz.f336 1 [1,1,1,1,0,1,0] 0 (fun(v0,v1)=>⟨[(1,.i_ p_level),(2,.ptr 0 0),(30,.lf (.rows 11 (p_e.bC.map aP.lf))),(31,.i_ (p_e.bC.length:Int)),(32,.i_ v0)],[.box 3 (.dat [(.int .i64 v1)]),.dead]⟩) .ret (fun o_=>⟨[(6,.i_ o_.1)],[.box 3 (.dat [(.int .i64 o_.2)]),.dead]⟩) (.exit 0) (fun o_=>⟨[],[.box 3 (.dat [(.int .i64 o_)]),.dead]⟩) (xk R_ p_e p_level) (0,(IntKind.wrap .i64 (p_b0+1))) (fun o0=>
 .rt [0] 1 (o0.1,o0.2)) fun o1=>
 .rt [0] 1 (0,o1)
theorem anw(R_:RB9):abe fun p_e p_level p_b0=>Mo.den (JV R_ p_e p_level p_b0):=fun _ _ _=>fH Tryz.func336
def xq:Nat→RB9
 |0=>{ m1:=fun p_e p_level p_b0=>none,ok1:=fun _ _ _ _ h=>(by cases h) }
 |n_+1=>{ m1:=fun p_e p_level p_b0=>Mo.den (JV (xq n_) p_e p_level p_b0),ok1:=anw (xq n_) }
def Q91(p_e:aP)(p_level:Int)(p_b0:Int):Option (Int×Int):=(xq FU).m1 p_e p_level p_b0
theorem arH:abe Q91:=(xq FU).ok1
def abf(p_e:aP):Mo (Int):=
 .cH [1] (arH p_e 1 0) fun r0 _=>
 .ret (aS 1) (r0.1)
def anx(p_e:aP):Option (Int):=Mo.den (abf p_e)
theorem anz(p_e:aP):FV (anx p_e) 311 [.dat (aP.lf1 p_e)] .i_:=dA Tryz.func311
def Us(p_inside:Bool)(p_p:aO):Mo (Bool):=
 .oV 4003 (decide ((p_p.fOp:Int)<1)) [1,2,15] 1 (decide ((24:Int)<p_p.fOp))
def Ut(p_inside:Bool)(p_p:aO)(r0:Bool):Mo (Bool):=
 .iG 4008 (r0) (.rt [1,2,24] 1 (true))<|
 .nu p_p.bC aO.lf<|
 .cl (anl p_p.fOp (p_p.bC.length:Int)) fun r1 _=>
 .rt [1,2,24] 1 (!r1)
def JW(p_inside:Bool)(p_p:aO):Mo (Bool):=
 .cl (aa4 p_p.fOp) fun r0 _=>
 .iG 8003 (r0) (.nu p_p.fArgs ah.lf<|
 .rt [1,2,33] 1 ((p_p.fArgs.length:Int)==0))<|
 .rt [1,2,33] 1 (false)
def JX(p_inside:Bool)(p_p:aO)(r0:Bool):Mo (Bool):=
 .iG 8009 (r0) (.rt [1,2,38] 1 (true))<|
 .cl (arx p_p) fun r1 _=>
 .rt [1,2,38] 1 (!r1)
def JY(p_inside:Bool)(p_p:aO):Mo (Bool):=
 .cl (adT p_p.fOp) fun r0 _=>
 .iG 12003 (r0) (.cl (CP p_p.cO) fun r1 _=>
 .rt [1,2,47] 1 (!r1))<|
 .rt [1,2,47] 1 (false)
def JZ(p_inside:Bool)(p_p:aO)(r0:Bool):Mo (Bool):=
 .iG 12009 (r0) (.iG 12012 (!p_inside) (.rt [2,57] 1 (true))<|
 .nu p_p.cO lfS<|
 .rt [2,57] 1 (decide ((0:Int)<(p_p.cO.length:Int))))<|
 .rt [2,57] 1 (false)
def J3(p_p:aO):Mo (Bool):=
 .cl (adU p_p.fOp) fun r0 _=>
 .iG 16003 (r0) (.cl (nY p_p.fArg) fun r1 _=>
 .rt [2,66] 1 (!r1))<|
 .rt [2,66] 1 (false)
def J4(p_p:aO)(r0:Bool):Mo (Bool):=
 .iG 16009 (r0) (.rt [2,77] 1 (true))<|
 .cl (Ul p_p.fOp) fun r1 _=>
 .aV 16013 (r1) [2,77] 1 (p_p.fArg.aF != 4)
def xu(p_p:aO):(Int)→Mo ((Int)⊕(Unit⊕Unit)):=fun(v0)=>
 .iB (decide ((v0:Int)<(p_p.fArgs.length:Int))) (.gx ah.bf p_p.fArgs v0 fun x0 _=>
 .cl (nY x0) fun r0 _=>
 .iB (!r0) (.ret ⟨[.kill 0],[4],[],1⟩ (.inr (.inl ())))<|
 .rt [2,82,83,84] 1 (.inl (IntKind.wrap .i64 (v0+1))))<|
 .rt [2] 1 (.inr (.inr (())))
def abg(p_p:aO)(v0:Int):Option (Unit⊕Unit):=bW (fun v_=>(xu p_p v_).den) FU (v0)
def J5(p_p:aO)(r0:Bool):Mo (Unit⊕Unit):=
 .iB (r0) (.nu p_p.fArgs ah.lf<|
 .l2m [] Tryz.f258 0 [1,1,1,1,1,0,1,0,1,0] 0 (fun(v0)=>⟨[(2,.ptr 0 0),(82,.lf (.rows 5 (p_p.fArgs.map ah.lf))),(83,.i_ (p_p.fArgs.length:Int)),(84,.i_ v0)],[dw p_p]⟩) .ret (fun _=>⟨[(4,.i_ 8)],[.dead]⟩) (.exit 0) (fun _=>⟨[(2,.ptr 0 0)],[dw p_p]⟩) (abg p_p 0) (xu p_p) (0) (fun o0=>
 .rt [4] 1 (.inl ())) fun o1=>
 .rt [2] 1 (.inr (())))<|
 .rt [2] 1 (.inr (()))
def J6(p_p:aO):Mo ((Int)⊕Unit):=
 .iB (p_p.fOp==18) (.cl (arz p_p.dY) fun r0 _=>
 .iB (r0 != 0) (.ret ⟨[.kill 0],[4],[],1⟩ (.inl (r0)))<|
 .rt [2] 1 (.inr (())))<|
 .rt [2] 1 (.inr (()))
def arI(p_p:aO)(p_inside:Bool):Mo (Int):=
 .sf Tryz.f258 0 [1,0,0] 0 8 1 [(1,.b_ p_inside),(2,.ptr 0 0)] [dw p_p] 15 (Us p_inside p_p) fun r0=>
 .sb Tryz.f258 0 [1,0,0] 8 9 1 [(1,.b_ p_inside),(2,.ptr 0 0)] [dw p_p] 15 24 r0 (Ut p_inside p_p r0) fun r1=>
 .iB (r1) (.ret (aS 1) (11))<|
 .sf Tryz.f258 0 [1,1,0,0] 0 9 3 [(1,.b_ p_inside),(2,.ptr 0 0)] [dw p_p] 33 (JW p_inside p_p) fun r2=>
 .sb Tryz.f258 0 [1,1,0,0] 9 5 3 [(1,.b_ p_inside),(2,.ptr 0 0)] [dw p_p] 33 38 r2 (JX p_inside p_p r2) fun r3=>
 .iB (r3) (.ret (aS 1) (11))<|
 .sf Tryz.f258 0 [1,1,1,0,0] 0 9 5 [(1,.b_ p_inside),(2,.ptr 0 0)] [dw p_p] 47 (JY p_inside p_p) fun r4=>
 .sk Tryz.f258 0 [1,1,1,0,0] 9 10 5 (fun r_=>⟨[(2,.ptr 0 0),(57,.b_ r_)],[dw p_p]⟩) ⟨[(1,.b_ p_inside),(2,.ptr 0 0),(47,.b_ r4)],[dw p_p]⟩ (JZ p_inside p_p r4) fun r5=>
 .iB (r5) (.ret (aS 1) (10))<|
 .sf Tryz.f258 0 [1,1,1,1,0,0] 0 9 7 [(2,.ptr 0 0)] [dw p_p] 66 (J3 p_p) fun r6=>
 .sb Tryz.f258 0 [1,1,1,1,0,0] 9 11 7 [(2,.ptr 0 0)] [dw p_p] 66 77 r6 (J4 p_p r6) fun r7=>
 .iB (r7) (.ret (aS 1) (8))<|
 .cl (aa4 p_p.fOp) fun r8 _=>
 .j2 [] Tryz.f258 0 [1,1,1,1,1,0,1] 1 .ret (fun _=>⟨[(4,.i_ 8)],[.dead]⟩) .normal (fun _=>⟨[(2,.ptr 0 0)],[dw p_p]⟩) ⟨[(2,.ptr 0 0),(80,.b_ r8)],[dw p_p]⟩ (J5 p_p r8) (fun o0=>
 .ret (aS 1) (8)) fun o1=>
 .j2 [] Tryz.f258 0 [1,1,1,1,1,1,0,1] 1 .ret (fun o_=>⟨[(4,.i_ o_)],[.dead]⟩) .normal (fun _=>⟨[(2,.ptr 0 0)],[dw p_p]⟩) ⟨[(2,.ptr 0 0),(94,.lf (.bool (p_p.fOp==18)))],[dw p_p]⟩ (J6 p_p) (fun o2=>
 .ret (aS 1) (o2)) fun o3=>
 .cl (arC p_p) fun r9 _=>
 .iB (!r9) (.ret (aS 1) (4))<|
 .iB (p_p.fOp==24) (.cl (anz p_p.fExpr) fun r10 _=>
 .ret (aS 1) (r10))<|
 .ret (aS 1) (0)
def Q6(p_p:aO)(p_inside:Bool):Option (Int):=Mo.den (arI p_p p_inside)
theorem aui(p_p:aO)(p_inside:Bool):FV (Q6 p_p p_inside) 258 [.dat (aO.lf1 p_p),.b_ p_inside] .i_:=dA Tryz.func258
abbrev abh(m:aO→Bool→Option (Int)):Prop:=∀p_p p_inside,FV (m p_p p_inside) 186 [.dat (aO.lf1 p_p),.b_ p_inside] .i_
structure RB8 where
 m1:(p_p:aO)→(p_inside:Bool)→Option (Int)
 ok1:abh m1
def J7(R_:RB8)(p_inside:Bool)(p_p:aO)(v0:Int)(x0:aO):Mo (Int):=
 .iG 16002 (p_inside) (.cl (R_.ok1 x0 true) fun r0 _=>
 .ret ⟨[.kill 1],[1,2,8,16,17,18],[],2⟩ (r0))<|
 .cl (R_.ok1 x0 (p_p.fOp==15)) fun r1 _=>
 .ret ⟨[.kill 1],[1,2,8,16,17,18],[],2⟩ (r1)
def abj(R_:RB8)(p_inside:Bool)(p_p:aO)(v0:Int)(x0:aO):Option (Int):=Mo.den (J7 R_ p_inside p_p v0 x0)
def xw(R_:RB8)(p_inside:Bool)(p_p:aO):(Int)→Mo ((Int)⊕(Int)⊕Unit):=fun(v0)=>
 .iB (decide ((v0:Int)<(p_p.bC.length:Int))) (.gx aO.bf p_p.bC v0 fun x0 _=>
 .jp Tryz.f186 0 [1,1,0,1,0,0,1,1,0,0,1,0] 21 [1,2,7,16,17,18] 2 (.normal) (fun r_=>⟨[(1,.b_ p_inside),(2,.ptr 0 0),(8,.i_ r_),(16,.lf (.rows 25 (p_p.bC.map aO.lf))),(17,.i_ (p_p.bC.length:Int)),(18,.i_ v0)],[dw p_p,.dead]⟩) ⟨[(1,.b_ p_inside),(2,.ptr 0 0),(7,.ptr 1 0),(16,.lf (.rows 25 (p_p.bC.map aO.lf))),(17,.i_ (p_p.bC.length:Int)),(18,.i_ v0)],[dw p_p,.box 43 (.agg ((aO.lf1 x0).map AV.lf))]⟩ (abj R_ p_inside p_p v0 x0) (jW (by kernel_rfl)) fun r0 _=>
 .iB (r0 != 0) (.ret ⟨[.kill 0],[4],[],1⟩ (.inr (.inl (r0))))<|
 .rt [1,2,16,17,18] 1 (.inl (IntKind.wrap .i64 (v0+1))))<|
 .ret ⟨[.kill 0],[],[],1⟩ (.inr (.inr (())))
def abk(R_:RB8)(p_inside:Bool)(p_p:aO)(v0:Int):Option ((Int)⊕Unit):=bW (fun v_=>(xw R_ p_inside p_p v_).den) FU (v0)
def XU(R_:RB8)(p_p:aO)(p_inside:Bool):Mo (Int):=
 .cl (aui p_p p_inside) fun r0 _=>
 .iB (r0 != 0) (.ret (aS 1) (r0))<|
 .nu p_p.bC aO.lf<|
 .l2m [] Tryz.f186 0 [1,1,0,1,0] 0 (fun(v0)=>⟨[(1,.b_ p_inside),(2,.ptr 0 0),(16,.lf (.rows 25 (p_p.bC.map aO.lf))),(17,.i_ (p_p.bC.length:Int)),(18,.i_ v0)],[dw p_p]⟩) .ret (fun o_=>⟨[(4,.i_ o_)],[.dead]⟩) (.exit 0) (fun _=>⟨[],[.dead]⟩) (abk R_ p_inside p_p 0) (xw R_ p_inside p_p) (0) (fun o0=>
 .ret (aS 1) (o0)) fun o1=>
 .ret (aS 1) (0)
theorem anA(R_:RB8):abh fun p_p p_inside=>Mo.den (XU R_ p_p p_inside):=fun _ _=>dA Tryz.func186
def nI:Nat→RB8
 |0=>{ m1:=fun p_p p_inside=>none,ok1:=fun _ _ _ h=>(by cases h) }
 |n_+1=>{ m1:=fun p_p p_inside=>Mo.den (XU (nI n_) p_p p_inside),ok1:=anA (nI n_) }
def Q47(p_p:aO)(p_inside:Bool):Option (Int):=(nI FU).m1 p_p p_inside
theorem arJ:abh Q47:=(nI FU).ok1
def abl(p_p:aO):Mo (Int):=
 .cH [1] (arw p_p 1 0) fun r0 _=>
 .iB (!r0.1) (.ret (aS 1) (2))<|
 .cl (arJ p_p false) fun r1 _=>
 .ret (aS 1) (r1)
def anB(p_p:aO):Option (Int):=Mo.den (abl p_p)
theorem anC(p_p:aO):FV (anB p_p) 118 [.dat (aO.lf1 p_p)] .i_:=dA Tryz.func118
def abm(p_v:ah):Mo (Bool):=
 .sf Tryz.f187 0 [1,0] 0 8 1 [(1,.ptr 0 0),(2,.b_ false)] [aX p_v] 10 (o7 p_v) fun r0=>
 .sb Tryz.f187 0 [1,0] 8 5 1 [(1,.ptr 0 0),(2,.b_ false)] [aX p_v] 10 15 r0 (o8 p_v r0) fun r1=>
 .sb Tryz.f187 0 [1,0] 13 6 1 [(1,.ptr 0 0),(2,.b_ false)] [aX p_v] 15 21 r1 (mV p_v r1) fun r2=>
 .sk Tryz.f187 0 [1,0] 19 6 1 (fun r_=>⟨[(2,.b_ false),(27,.b_ r_)],[.dead]⟩) ⟨[(1,.ptr 0 0),(2,.b_ false),(21,.b_ r2)],[aX p_v]⟩ (mW p_v r2) fun r3=>
 .sk Tryz.f187 0 [1,0] 25 1 1 (fun r_=>⟨[(2,.b_ r3)],[.dead]⟩) ⟨[(2,.b_ false),(27,.b_ r3)],[.dead]⟩ (dR r3) fun r4=>
 .ret (aS 1) (r3)
def anD(p_v:ah):Option (Bool):=Mo.den (abm p_v)
theorem adY(p_v:ah):FV (anD p_v) 187 [.dat (ah.lf1 p_v)] .b_:=dA Tryz.func187
end
end Go.Proofs.YtflpefkohpjjpaaGreatDoor
set_option linter.unusedSimpArgs false
set_option linter.unusedVariables false
namespace Go.Proofs.YtflpefkohpjjpaaGreatDoor
open Go.RowKit
set_option maxRecDepth 20000
set_option maxHeartbeats 4000000
noncomputable section
def J8(p_x:aP)(r0:Bool):Mo (Bool):=
 .aC 4020 (r0) [1,2,27] 1 (adY p_x.fArg)
def abn(p_x:aP):Mo (Bool):=
 .sf Tryz.f188 0 [1,0] 0 9 1 [(1,.ptr 0 0),(2,.b_ false)] [dL p_x] 11 (qw p_x) fun r0=>
 .sb Tryz.f188 0 [1,0] 9 5 1 [(1,.ptr 0 0),(2,.b_ false)] [dL p_x] 11 16 r0 (qx p_x r0) fun r1=>
 .sb Tryz.f188 0 [1,0] 14 6 1 [(1,.ptr 0 0),(2,.b_ false)] [dL p_x] 16 22 r1 (nU p_x r1) fun r2=>
 .sb Tryz.f188 0 [1,0] 20 5 1 [(1,.ptr 0 0),(2,.b_ false)] [dL p_x] 22 27 r2 (J8 p_x r2) fun r3=>
 .sb Tryz.f188 0 [1,0] 25 5 1 [(1,.ptr 0 0),(2,.b_ false)] [dL p_x] 27 32 r3 (nV p_x r3) fun r4=>
 .sk Tryz.f188 0 [1,0] 30 6 1 (fun r_=>⟨[(2,.b_ false),(38,.b_ r_)],[.dead]⟩) ⟨[(1,.ptr 0 0),(2,.b_ false),(32,.b_ r4)],[dL p_x]⟩ (nX p_x r4) fun r5=>
 .sk Tryz.f188 0 [1,0] 36 1 1 (fun r_=>⟨[(2,.b_ r5)],[.dead]⟩) ⟨[(2,.b_ false),(38,.b_ r5)],[.dead]⟩ (dR r5) fun r6=>
 .ret (aS 1) (r5)
def anE(p_x:aP):Option (Bool):=Mo.den (abn p_x)
theorem anF(p_x:aP):FV (anE p_x) 188 [.dat (aP.lf1 p_x)] .b_:=dA Tryz.func188
def PY(p_p:aO)(r0:Bool):Mo (Bool):=
 .aC 4009 (r0) [1,2,16] 1 (adY p_p.fArg)
def J9(p_p:aO)(r0:Bool):Mo (Bool):=
 .aC 4049 (r0) [1,2,56] 1 (anF p_p.fExpr)
def abo(p_p:aO):Mo (Bool):=
 .sf Tryz.f119 0 [1,0] 0 9 1 [(1,.ptr 0 0),(2,.b_ false)] [dw p_p] 11 (tC p_p) fun r0=>
 .sb Tryz.f119 0 [1,0] 9 5 1 [(1,.ptr 0 0),(2,.b_ false)] [dw p_p] 11 16 r0 (PY p_p r0) fun r1=>
 .sb Tryz.f119 0 [1,0] 14 6 1 [(1,.ptr 0 0),(2,.b_ false)] [dw p_p] 16 22 r1 (yB p_p r1) fun r2=>
 .sb Tryz.f119 0 [1,0] 20 5 1 [(1,.ptr 0 0),(2,.b_ false)] [dw p_p] 22 27 r2 (yC p_p r2) fun r3=>
 .sb Tryz.f119 0 [1,0] 25 5 1 [(1,.ptr 0 0),(2,.b_ false)] [dw p_p] 27 32 r3 (yD p_p r3) fun r4=>
 .sb Tryz.f119 0 [1,0] 30 6 1 [(1,.ptr 0 0),(2,.b_ false)] [dw p_p] 32 38 r4 (yE p_p r4) fun r5=>
 .sb Tryz.f119 0 [1,0] 36 7 1 [(1,.ptr 0 0),(2,.b_ false)] [dw p_p] 38 45 r5 (yF p_p r5) fun r6=>
 .sb Tryz.f119 0 [1,0] 43 6 1 [(1,.ptr 0 0),(2,.b_ false)] [dw p_p] 45 51 r6 (yG p_p r6) fun r7=>
 .sb Tryz.f119 0 [1,0] 49 5 1 [(1,.ptr 0 0),(2,.b_ false)] [dw p_p] 51 56 r7 (J9 p_p r7) fun r8=>
 .sk Tryz.f119 0 [1,0] 54 6 1 (fun r_=>⟨[(2,.b_ false),(62,.b_ r_)],[.dead]⟩) ⟨[(1,.ptr 0 0),(2,.b_ false),(56,.b_ r8)],[dw p_p]⟩ (yH p_p r8) fun r9=>
 .sk Tryz.f119 0 [1,0] 60 1 1 (fun r_=>⟨[(2,.b_ r9)],[.dead]⟩) ⟨[(2,.b_ false),(62,.b_ r9)],[.dead]⟩ (dR r9) fun r10=>
 .ret (aS 1) (r9)
def anG(p_p:aO):Option (Bool):=Mo.den (abo p_p)
theorem anH(p_p:aO):FV (anG p_p) 119 [.dat (aO.lf1 p_p)] .b_:=dA Tryz.func119
def Fg(p_x:aQ):Mo (Bool):=
 .oV 8003 (decide ((p_x.aF:Int)<1)) [1,16] 2 (decide ((3:Int)<p_x.aF))
def Fh(p_x:aQ):Mo (Bool):=
 .nu p_x.gq bn.lf<|
 .iG 18004 ((p_x.gq.length:Int)==0) (.rt [1,48] 2 (true))<|
 .iG 18008 (p_x.aF != 1) (.nu p_x.gq bn.lf<|
 .iG 18013 (decide ((1:Int)<(p_x.gq.length:Int))) (.rt [1,48] 2 (true))<|
 .gx bn.bf p_x.gq 0 fun x0 _=>
 .oV 18020 (x0.NI) [1,48] 2 (p_x.gB))<|
 .rt [1,48] 2 (false)
def abp(p_x:aQ):Mo (Int):=
 .say [.at_ 4 3,.MK 1 ([p_x.fName].map lfS)] (ok1 (by simp[lfS]:[p_x.fName].map lfS=[(lfS p_x.fName)]))<|
 .cl (CP [p_x.fName]) fun r0 _=>
 .iB (!r0) (.ret (aS 1) (9))<|
 .jk Tryz.f62 0 [1,1,0,0] 13 (fun r_=>⟨[(1,.ptr 0 0),(16,.b_ r_)],[mF p_x,.dead]⟩) ⟨[(1,.ptr 0 0)],[mF p_x,.dead]⟩ (Fg p_x) fun r1=>
 .iB (r1) (.ret (aS 1) (8))<|
 .cl (aru p_x.gq) fun r2 _=>
 .iB (r2 != 0) (.ret (aS 1) (r2))<|
 .jk Tryz.f62 0 [1,1,1,1,0,0] 23 (fun r_=>⟨[(1,.ptr 0 0),(48,.b_ r_)],[mF p_x,.dead]⟩) ⟨[(1,.ptr 0 0)],[mF p_x,.dead]⟩ (Fh p_x) fun r3=>
 .iB (r3) (.ret (aS 1) (11))<|
 .iB (p_x.jr) (.cl (anC p_x.bG) fun r4 _=>
 .ret (aS 1) (r4))<|
 .cl (anH p_x.bG) fun r5 _=>
 .iB (!r5) (.ret (aS 1) (4))<|
 .ret (aS 1) (0)
def XV(p_x:aQ):Option (Int):=Mo.den (abp p_x)
theorem adZ(p_x:aQ):FV (XV p_x) 62 [.dat (aQ.lf1 p_x)] .i_:=dA Tryz.func62
def abq(p_x:aQ)(p_b0:ByteArray):Mo (Bool):=
 .ret ⟨[.kill 1],[0],[],1⟩ (decide ((p_x.fName:ByteArray)=(p_b0:ByteArray)))
def arK(p_x:aQ)(p_b0:ByteArray):Option (Bool):=Mo.den (abq p_x p_b0)
theorem anI(p_x:aQ)(p_b0:ByteArray):FH (arK p_x p_b0) 181 [.dat (aQ.lf1 p_x),.ptr 0 0] [.box 9 (.dat [(.str p_b0)])] .b_ (fun _=>[.box 9 (.dat [(.str p_b0)])]):=fH Tryz.func181
def xA(p_b0:ByteArray)(p_s:List aQ):(Int)→Mo ((Int)⊕(Int)⊕Unit):=fun(v0)=>
 .iB (decide ((v0:Int)<(p_s.length:Int))) (.gx aQ.bf p_s v0 fun x0 _=>
 .cH [0] (anI x0 p_b0) fun r0 _=>
 .iB (r0) (.rt [4] 1 (.inr (.inl (v0))))<|
 .rt [0,1,7,8] 1 (.inl (IntKind.wrap .i64 (v0+1))))<|
 .rt [] 1 (.inr (.inr (())))
def abr(p_b0:ByteArray)(p_s:List aQ)(v0:Int):Option ((Int)⊕Unit):=bW (fun v_=>(xA p_b0 p_s v_).den) FU (v0)
def aiZ(p_s:List aQ)(p_b0:ByteArray):Mo (Int):=
 .nu p_s aQ.lf<|
 .l2m [] Tryz.f180 1 [1,0,1,0] 0 (fun(v0)=>⟨[(0,.lf (.rows 31 (p_s.map aQ.lf))),(1,.clo 181 [.ptr 0 0]),(7,.i_ (p_s.length:Int)),(8,.i_ v0)],[.box 9 (.dat [(.str p_b0)])]⟩) .ret (fun o_=>⟨[(4,.i_ o_)],[.box 9 (.dat [(.str p_b0)])]⟩) (.exit 0) (fun _=>⟨[],[.box 9 (.dat [(.str p_b0)])]⟩) (abr p_b0 p_s 0) (xA p_b0 p_s) (0) (fun o0=>
 .rt [0] 1 (o0)) fun o1=>
 .rt [0] 1 ((-1))
def Q50(p_s:List aQ)(p_b0:ByteArray):Option (Int):=Mo.den (aiZ p_s p_b0)
theorem arL(p_s:List aQ)(p_b0:ByteArray):FH (Q50 p_s p_b0) 180 [.lf (.rows 31 (p_s.map aQ.lf)),.clo 181 [.ptr 0 0]] [.box 9 (.dat [(.str p_b0)])] .i_ (fun _=>[.box 9 (.dat [(.str p_b0)])]):=fH Tryz.func180
def abt(p_l:List aQ)(p_name:ByteArray):Mo (Int):=
 .cH [0] (arL p_l p_name) fun r0 _=>
 .ret (aS 1) (r0)
def ai0(p_l:List aQ)(p_name:ByteArray):Option (Int):=Mo.den (abt p_l p_name)
theorem anJ(p_l:List aQ)(p_name:ByteArray):FV (ai0 p_l p_name) 114 [.lf (.rows 31 (p_l.map aQ.lf)),.lf (.str p_name)] .i_:=dA Tryz.func114
def Ko(p_s:ByteArray):(Int)→Mo ((Int)⊕(Unit⊕Unit)):=fun(v0)=>
 .iB (decide ((v0:Int)<(p_s.size:Int))) (.sf Tryz.f301 0 [1,1,0,1,0,0,1,1,0,0,1,0] 0 10 6 [(0,.lf (.str p_s)),(3,.i_ v0),(18,.i_ (p_s.size:Int)),(19,.i_ v0)] [] 31 (kE p_s v0) fun r0=>
 .sk Tryz.f301 0 [1,1,0,1,0,0,1,1,0,0,1,0] 10 6 6 (fun r_=>⟨[(0,.lf (.str p_s)),(18,.i_ (p_s.size:Int)),(19,.i_ v0),(37,.b_ r_)],[]⟩) ⟨[(0,.lf (.str p_s)),(3,.i_ v0),(18,.i_ (p_s.size:Int)),(19,.i_ v0),(31,.b_ r0)],[]⟩ (kF p_s r0 v0) fun r1=>
 .iB (r1) (.rt [2] 0 (.inr (.inl ())))<|
 .rt [0,18,19] 0 (.inl (IntKind.wrap .i64 (v0+1))))<|
 .rt [] 0 (.inr (.inr (())))
def ai1(p_s:ByteArray):Mo (Bool):=
 .sf Tryz.f301 0 [1,0,0] 0 8 1 [(0,.lf (.str p_s))] [] 11 (kC p_s) fun r0=>
 .sb Tryz.f301 0 [1,0,0] 8 5 1 [(0,.lf (.str p_s))] [] 11 16 r0 (kD p_s r0) fun r1=>
 .iB (r1) (.ret (aS 1) (false))<|
 .l2 Tryz.f301 0 [1,1,0,1,0] 0 (fun(v0)=>⟨[(0,.lf (.str p_s)),(18,.i_ (p_s.size:Int)),(19,.i_ v0)],[]⟩) .ret (fun _=>⟨[(2,.b_ false)],[]⟩) (.exit 0) (fun _=>⟨[],[]⟩) (Ko p_s) (0) (fun o0=>
 .ret (aS 1) (false)) fun o1=>
 .ret (aS 1) (true)
def anK(p_s:ByteArray):Option (Bool):=Mo.den (ai1 p_s)
theorem ad1(p_s:ByteArray):FV (anK p_s) 301 [.lf (.str p_s)] .b_:=dA Tryz.func301
def XW(p_v:ah):Mo (Bool):=
 .aV 8003 (p_v.aF==0) [3,4,15] 1 (p_v.fA==0)
def XY(p_v:ah)(r0:Bool):Mo (Bool):=
 .aV 8008 (r0) [3,4,20] 1 (decide ((p_v.fText:ByteArray)=(⟨#[]⟩:ByteArray)))
def PZ(p_v:ah)(r0:Bool):Mo (Bool):=
 .iG 8013 (r0) (.nu p_v.aW ah.lf<|
 .rt [3,4,26] 1 ((p_v.aW.length:Int)==0))<|
 .rt [3,4,26] 1 (false)
def P5(p_v:ah)(r0:Bool):Mo (Bool):=
 .iG 8019 (r0) (.nu p_v.aU aJ.lf<|
 .ret ⟨[.kill 0],[4,32],[],1⟩ ((p_v.aU.length:Int)==0))<|
 .ret ⟨[.kill 0],[4,32],[],1⟩ (false)
def yQ(r0:Bool):Mo (Unit):=
 .rt [4] 1 ()
def ai2(p_has:Bool)(p_v:ah):Mo (Bool):=
 .iB (p_has) (.cl (nY p_v) fun r0 _=>
 .ret (aS 1) (r0))<|
 .sf Tryz.f302 0 [1,1,0] 0 8 3 [(3,.ptr 0 0),(4,.b_ false)] [aX p_v] 15 (XW p_v) fun r1=>
 .sb Tryz.f302 0 [1,1,0] 8 5 3 [(3,.ptr 0 0),(4,.b_ false)] [aX p_v] 15 20 r1 (XY p_v r1) fun r2=>
 .sb Tryz.f302 0 [1,1,0] 13 6 3 [(3,.ptr 0 0),(4,.b_ false)] [aX p_v] 20 26 r2 (PZ p_v r2) fun r3=>
 .sk Tryz.f302 0 [1,1,0] 19 6 3 (fun r_=>⟨[(4,.b_ false),(32,.b_ r_)],[.dead]⟩) ⟨[(3,.ptr 0 0),(4,.b_ false),(26,.b_ r3)],[aX p_v]⟩ (P5 p_v r3) fun r4=>
 .sk Tryz.f302 0 [1,1,0] 25 1 3 (fun r_=>⟨[(4,.b_ r4)],[.dead]⟩) ⟨[(4,.b_ false),(32,.b_ r4)],[.dead]⟩ (yQ r4) fun r5=>
 .ret (aS 1) (r4)
def Q72(p_has:Bool)(p_v:ah):Option (Bool):=Mo.den (ai2 p_has p_v)
theorem ai3(p_has:Bool)(p_v:ah):FV (Q72 p_has p_v) 302 [.b_ p_has,.dat (ah.lf1 p_v)] .b_:=dA Tryz.func302
def Uu(m4820:List (ByteArray×Bool))(p_s:aI)(v0:Int)(x0:ByteArray):Mo (Bool):=
 .cl (ad1 x0) fun r0 _=>
 .iG 12003 (!r0) (.rt [1,3,5,13,14,15,26] 2 (true))<|
 .say [.row [.bool (wO m4820 x0 false)]] (okc (rfl:Tryz.prog=Tryz.prog) (ok1 (Jc _ _ _:nR (m4820.map mvB) x0 (.bool false)=(.bool (wO m4820 x0 false)))))<|
 .rt [1,3,5,13,14,15,26] 2 (wO m4820 x0 false)
def CY(p_s:aI):(Int×(List (ByteArray×Bool)))→Mo ((Int×(List (ByteArray×Bool)))⊕(Unit⊕Unit)):=fun(v0,m4820)=>
 .iB (decide ((v0:Int)<(p_s.dZ.length:Int))) (.gx lS_ p_s.dZ v0 fun x0 _=>
 .jk Tryz.f256 0 [1,1,0,1,0,0,1,1,0,0,1,0,0] 17 (fun r_=>⟨[(1,.ptr 0 0),(3,.mp 1),(5,.lf (.str x0)),(13,.lf (.rows 1 (p_s.dZ.map lfS))),(14,.i_ (p_s.dZ.length:Int)),(15,.i_ v0),(26,.b_ r_)],[fP p_s,.map Tryz.prog 9 4 (m4820.map mvB)]⟩) ⟨[(1,.ptr 0 0),(3,.mp 1),(5,.lf (.str x0)),(13,.lf (.rows 1 (p_s.dZ.map lfS))),(14,.i_ (p_s.dZ.length:Int)),(15,.i_ v0)],[fP p_s,.map Tryz.prog 9 4 (m4820.map mvB)]⟩ (Uu m4820 p_s v0 x0) fun r0=>
 .iB (r0) (.ret ⟨[.kill 0,.kill 1],[2],[],2⟩ (.inr (.inl ())))<|
 .say [] (ok1 (rfl:Tryz.prog=Tryz.prog))<|
 .grd (m4820.length<maxLen) fun h0=>
 .say [] (ok1 (by simpa using h0:(m4820.map mvB).length<maxLen))<|
 .rt [1,3,13,14,15] 2 (.inl (IntKind.wrap .i64 (v0+1),(x0,true)::m4820)))<|
 .ret ⟨[.kill 1],[1],[],2⟩ (.inr (.inr (())))
def ai4(p_s:aI)(v0:Int)(m4820:List (ByteArray×Bool)):Option (Unit⊕Unit):=bW (fun v_=>(CY p_s v_).den) FU (v0,m4820)
def Kq(m4894:List (ByteArray×Bool))(p_s:aI)(v0:Int)(x0:bH):Mo (Bool):=
 .cl (ad1 x0.fName) fun r0 _=>
 .iG 28004 (!r0) (.rt [1,6,8,32,33,34,47] 4 (true))<|
 .say [.row [.bool (wO m4894 x0.fName false)]] (okc (rfl:Tryz.prog=Tryz.prog) (ok1 (Jc _ _ _:nR (m4894.map mvB) x0.fName (.bool false)=(.bool (wO m4894 x0.fName false)))))<|
 .rt [1,6,8,32,33,34,47] 4 (wO m4894 x0.fName false)
def xB(p_s:aI):(Int×(List (ByteArray×Bool)))→Mo ((Int×(List (ByteArray×Bool)))⊕(Unit⊕Unit)):=fun(v0,m4894)=>
 .iB (decide ((v0:Int)<(p_s.dD.length:Int))) (.gx bH.bf p_s.dD v0 fun x0 _=>
 .jk Tryz.f256 0 [1,1,1,1,0,1,0,0,1,1,0,0,1,0,0] 33 (fun r_=>⟨[(1,.ptr 0 0),(6,.mp 2),(8,.ptr 3 0),(32,.lf (.rows 22 (p_s.dD.map bH.lf))),(33,.i_ (p_s.dD.length:Int)),(34,.i_ v0),(47,.b_ r_)],[fP p_s,.dead,.map Tryz.prog 9 4 (m4894.map mvB),.box 224 (.agg ((bH.lf1 x0).map AV.lf))]⟩) ⟨[(1,.ptr 0 0),(6,.mp 2),(8,.ptr 3 0),(32,.lf (.rows 22 (p_s.dD.map bH.lf))),(33,.i_ (p_s.dD.length:Int)),(34,.i_ v0)],[fP p_s,.dead,.map Tryz.prog 9 4 (m4894.map mvB),.box 224 (.agg ((bH.lf1 x0).map AV.lf))]⟩ (Kq m4894 p_s v0 x0) fun r0=>
 .iB (r0) (.ret ⟨[.kill 0,.kill 2],[2],[],3⟩ (.inr (.inl ())))<|
 .say [] (ok1 (rfl:Tryz.prog=Tryz.prog))<|
 .grd (m4894.length<maxLen) fun h0=>
 .say [] (ok1 (by simpa using h0:(m4894.map mvB).length<maxLen))<|
 .rt [1,6,32,33,34] 3 (.inl (IntKind.wrap .i64 (v0+1),(x0.fName,true)::m4894)))<|
 .ret ⟨[.kill 2],[1],[],3⟩ (.inr (.inr (())))
def abu(p_s:aI)(v0:Int)(m4894:List (ByteArray×Bool)):Option (Unit⊕Unit):=bW (fun v_=>(xB p_s v_).den) FU (v0,m4894)
def Kr(p_s:aI):Mo (Bool):=
 .oV 36004 ((gX .andNot .i64 p_s.iZ 4094) != 0) [1,60] 3 (decide ((p_s.jQ:Int)<0))
def Kt(p_s:aI)(r0:Bool):Mo (Bool):=
 .oV 36009 (r0) [1,65] 3 (decide ((p_s.jR:Int)<(-1)))
def Ku(p_s:aI)(r0:Bool):Mo (Bool):=
 .iG 36014 (r0) (.rt [1,71] 3 (true))<|
 .nu p_s.eU aI.lf<|
 .rt [1,71] 3 (decide ((1:Int)<(p_s.eU.length:Int)))
def Kv(p_s:aI):Mo (Bool):=
 .cl (ai3 p_s.jE p_s.kT) fun r0 _=>
 .iG 40006 (!r0) (.rt [1,85] 3 (true))<|
 .cl (ai3 p_s.jF p_s.kU) fun r1 _=>
 .rt [1,85] 3 (!r1)
def xC(p_s:aI):(Int)→Mo ((Int)⊕(Unit⊕Unit)):=fun(v0)=>
 .iB (decide ((v0:Int)<(p_s.iV.length:Int))) (.gx ah.bf p_s.iV v0 fun x0 _=>
 .cl (nY x0) fun r0 _=>
 .iB (!r0) (.rt [2] 3 (.inr (.inl ())))<|
 .rt [87,88,89] 3 (.inl (IntKind.wrap .i64 (v0+1))))<|
 .rt [] 3 (.inr (.inr (())))
def abv(p_s:aI)(v0:Int):Option (Unit⊕Unit):=bW (fun v_=>(xC p_s v_).den) FU (v0)
def arM(p_s:aI):Mo (Int):=
 .nu p_s.dZ lfS<|
 .l2m [] Tryz.f256 0 [1,1,0,1,0] 0 (fun(v0,m4820)=>⟨[(1,.ptr 0 0),(3,.mp 1),(13,.lf (.rows 1 (p_s.dZ.map lfS))),(14,.i_ (p_s.dZ.length:Int)),(15,.i_ v0)],[fP p_s,.map Tryz.prog 9 4 (m4820.map mvB)]⟩) .ret (fun _=>⟨[(2,.i_ 9)],[.dead,.dead]⟩) (.exit 0) (fun _=>⟨[(1,.ptr 0 0)],[fP p_s,.dead]⟩) (ai4 p_s 0 ([]:List (ByteArray×Bool))) (CY p_s) (0,([]:List (ByteArray×Bool))) (fun o0=>
 .ret (aS 1) (9)) fun o1=>
 .nu p_s.dD bH.lf<|
 .l2m [] Tryz.f256 0 [1,1,1,1,0,1,0] 0 (fun(v1,m4894)=>⟨[(1,.ptr 0 0),(6,.mp 2),(32,.lf (.rows 22 (p_s.dD.map bH.lf))),(33,.i_ (p_s.dD.length:Int)),(34,.i_ v1)],[fP p_s,.dead,.map Tryz.prog 9 4 (m4894.map mvB)]⟩) .ret (fun _=>⟨[(2,.i_ 9)],[.dead,.dead,.dead]⟩) (.exit 2) (fun _=>⟨[(1,.ptr 0 0)],[fP p_s,.dead,.dead]⟩) (abu p_s 0 ([]:List (ByteArray×Bool))) (xB p_s) (0,([]:List (ByteArray×Bool))) (fun o2=>
 .ret (aS 1) (9)) fun o3=>
 .sf Tryz.f256 0 [1,1,1,1,1,0,0] 0 9 17 [(1,.ptr 0 0)] [fP p_s,.dead,.dead] 60 (Kr p_s) fun r0=>
 .sb Tryz.f256 0 [1,1,1,1,1,0,0] 9 5 17 [(1,.ptr 0 0)] [fP p_s,.dead,.dead] 60 65 r0 (Kt p_s r0) fun r1=>
 .sb Tryz.f256 0 [1,1,1,1,1,0,0] 14 6 17 [(1,.ptr 0 0)] [fP p_s,.dead,.dead] 65 71 r1 (Ku p_s r1) fun r2=>
 .iB (r2) (.ret (aS 1) (1))<|
 .jk Tryz.f256 0 [1,1,1,1,1,1,0,0] 45 (fun r_=>⟨[(1,.ptr 0 0),(85,.b_ r_)],[fP p_s,.dead,.dead]⟩) ⟨[(1,.ptr 0 0)],[fP p_s,.dead,.dead]⟩ (Kv p_s) fun r3=>
 .iB (r3) (.ret (aS 1) (8))<|
 .nu p_s.iV ah.lf<|
 .l2m [.kill 0] Tryz.f256 0 [1,1,1,1,1,1,1,0,1,0] 0 (fun(v2)=>⟨[(87,.lf (.rows 5 (p_s.iV.map ah.lf))),(88,.i_ (p_s.iV.length:Int)),(89,.i_ v2)],[.dead,.dead,.dead]⟩) .ret (fun _=>⟨[(2,.i_ 8)],[.dead,.dead,.dead]⟩) (.exit 4) (fun _=>⟨[],[.dead,.dead,.dead]⟩) (abv p_s 0) (xC p_s) (0) (fun o4=>
 .ret (aS 1) (8)) fun o5=>
 .ret (aS 1) (0)
def Q7(p_s:aI):Option (Int):=Mo.den (arM p_s)
theorem auj(p_s:aI):FV (Q7 p_s) 256 [.dat (aI.lf1 p_s)] .i_:=dA Tryz.func256
abbrev Uw(m:aI→Int→Int→Option (Int×Int)):Prop:=∀p_s p_level p_b0,FH (m p_s p_level p_b0) 182 [.dat (aI.lf1 p_s),.i_ p_level,.ptr 0 0] [.box 3 (.dat [(.int .i64 p_b0)])] (fun r=>.i_ r.1) (fun r=>[.box 3 (.dat [(.int .i64 r.2)])])
structure XZ where
 m1:(p_s:aI)→(p_level:Int)→(p_b0:Int)→Option (Int×Int)
 ok1:Uw m1
def CZ(R_:XZ)(p_b0:Int)(p_level:Int)(p_s:aI):Mo (Bool):=
 .oV 4002 (decide ((16:Int)<p_level)) [1,2,3,21] 2 (p_b0==64)
def xE(R_:XZ)(p_level:Int)(p_s:aI):(Int×Int)→Mo ((Int×Int)⊕(Int×Int)⊕(Int)):=fun(v0,v1)=>
 .iB (decide ((v0:Int)<(p_s.dD.length:Int))) (.gx bH.bf p_s.dD v0 fun x0 _=>
 .say [.at_ 22 5,.tod 40] ok0<|
 .cH [0] (R_.ok1 x0.aZ (IntKind.wrap .i64 (p_level+1)) v1) fun r0 _=>
 .iB (r0.1 != 0) (.ret ⟨[.kill 1],[6],[],2⟩ (.inr (.inl (r0.1,r0.2))))<|
 .rt [1,2,3,33,34,35] 2 (.inl (IntKind.wrap .i64 (v0+1),r0.2)))<|
 .rt [1,2,3] 2 (.inr (.inr (v1)))
def abw(R_:XZ)(p_level:Int)(p_s:aI)(v0:Int)(v1:Int):Option ((Int×Int)⊕(Int)):=bW (fun v_=>(xE R_ p_level p_s v_).den) FU (v0,v1)
def tX(R_:XZ)(p_level:Int)(p_s:aI):(Int×Int)→Mo ((Int×Int)⊕(Int×Int)⊕(Int)):=fun(v0,v1)=>
 .iB (decide ((v0:Int)<(p_s.eU.length:Int))) (.gx aI.bf p_s.eU v0 fun x0 _=>
 .say [.at_ 36 4,.tod 56] ok0<|
 .cH [0] (R_.ok1 x0 (IntKind.wrap .i64 (p_level+1)) v1) fun r0 _=>
 .iB (r0.1 != 0) (.rt [6] 2 (.inr (.inl (r0.1,r0.2))))<|
 .rt [1,2,50,51,52] 2 (.inl (IntKind.wrap .i64 (v0+1),r0.2)))<|
 .rt [] 2 (.inr (.inr (v1)))
def Ux(R_:XZ)(p_level:Int)(p_s:aI)(v0:Int)(v1:Int):Option ((Int×Int)⊕(Int)):=bW (fun v_=>(tX R_ p_level p_s v_).den) FU (v0,v1)
def Kw(R_:XZ)(p_s:aI)(p_level:Int)(p_b0:Int):Mo (Int×Int):=
 .jk Tryz.f182 1 [1,0,0] 9 (fun r_=>⟨[(1,.i_ p_level),(2,.ptr 0 0),(3,.ptr 1 0),(21,.b_ r_)],[.box 3 (.dat [(.int .i64 p_b0)]),fP p_s]⟩) ⟨[(1,.i_ p_level),(2,.ptr 0 0),(3,.ptr 1 0)],[.box 3 (.dat [(.int .i64 p_b0)]),fP p_s]⟩ (CZ R_ p_b0 p_level p_s) fun r0=>
 .iB (r0) (.ret ⟨[.kill 1],[0],[],1⟩ (2,p_b0))<|
 .cl (auj p_s) fun r1 _=>
 .iB (r1 != 0) (.ret ⟨[.kill 1],[0],[],1⟩ (r1,IntKind.wrap .i64 (p_b0+1)))<|
 .nu p_s.dD bH.lf<|
 .l2m [] Tryz.f182 1 [1,1,1,1,0,1,0] 0 (fun(v0,v1)=>⟨[(1,.i_ p_level),(2,.ptr 0 0),(3,.ptr 1 0),(33,.lf (.rows 22 (p_s.dD.map bH.lf))),(34,.i_ (p_s.dD.length:Int)),(35,.i_ v0)],[.box 3 (.dat [(.int .i64 v1)]),fP p_s]⟩) .ret (fun o_=>⟨[(6,.i_ o_.1)],[.box 3 (.dat [(.int .i64 o_.2)]),.dead]⟩) (.exit 0) (fun o_=>⟨[(1,.i_ p_level),(2,.ptr 0 0),(3,.ptr 1 0)],[.box 3 (.dat [(.int .i64 o_)]),fP p_s]⟩) (abw R_ p_level p_s 0 (IntKind.wrap .i64 (p_b0+1))) (xE R_ p_level p_s) (0,(IntKind.wrap .i64 (p_b0+1))) (fun o0=>
 .rt [0] 1 (o0.1,o0.2)) fun o1=>
 .nu p_s.eU aI.lf<|
 .l2m [.kill 1] Tryz.f182 1 [1,1,1,1,1,0,1,0] 0 (fun(v2,v3)=>⟨[(1,.i_ p_level),(2,.ptr 0 0),(50,.lf (.rows 21 (p_s.eU.map aI.lf))),(51,.i_ (p_s.eU.length:Int)),(52,.i_ v2)],[.box 3 (.dat [(.int .i64 v3)]),.dead]⟩) .ret (fun o_=>⟨[(6,.i_ o_.1)],[.box 3 (.dat [(.int .i64 o_.2)]),.dead]⟩) (.exit 2) (fun o_=>⟨[],[.box 3 (.dat [(.int .i64 o_)]),.dead]⟩) (Ux R_ p_level p_s 0 o1) (tX R_ p_level p_s) (0,o1) (fun o2=>
 .rt [0] 1 (o2.1,o2.2)) fun o3=>
 .rt [0] 1 (0,o3)
theorem anL(R_:XZ):Uw fun p_s p_level p_b0=>Mo.den (Kw R_ p_s p_level p_b0):=fun _ _ _=>fH Tryz.func182
def nZ:Nat→XZ
 |0=>{ m1:=fun p_s p_level p_b0=>none,ok1:=fun _ _ _ _ h=>(by cases h) }
 |n_+1=>{ m1:=fun p_s p_level p_b0=>Mo.den (Kw (nZ n_) p_s p_level p_b0),ok1:=anL (nZ n_) }
def Q43(p_s:aI)(p_level:Int)(p_b0:Int):Option (Int×Int):=(nZ FU).m1 p_s p_level p_b0
theorem arN:Uw Q43:=(nZ FU).ok1
def abx(p_s:aI):Mo (Int):=
 .cH [1] (arN p_s 1 0) fun r0 _=>
 .ret (aS 1) (r0.1)
def anM(p_s:aI):Option (Int):=Mo.den (abx p_s)
theorem anN(p_s:aI):FV (anM p_s) 115 [.dat (aI.lf1 p_s)] .i_:=dA Tryz.func115
def xG(p_d:bU):(Int)→Mo ((Int)⊕(Int)⊕Unit):=fun(v0)=>
 .iB (decide ((v0:Int)<(p_d.bM.length:Int))) (.gx aQ.bf p_d.bM v0 fun x0 _=>
 .cl (adZ x0) fun r0 _=>
 .iB (r0 != 0) (.ret ⟨[.kill 0],[2],[],1⟩ (.inr (.inl (r0))))<|
 .say [] (ok1 (by first|(simp[aQ.bf];done)|exact Jd _ _ _:(p_d.bM.take v0.toNat).map aQ.lf=((p_d.bM.map aQ.lf).take v0.toNat).drop (0:Int).toNat))<|
 .grd ((0:Int)≤0∧0≤v0∧v0≤(p_d.bM.length:Int)) fun h0=>
 .say [] (ok1 (by simpa using h0:(0:Int)≤0∧0≤v0∧v0≤((p_d.bM.map aQ.lf).length:Int)))<|
 .ask (ai0 (p_d.bM.take v0.toNat) x0.fName) fun r1 h1=>
 .say [.iY (.q 0 (.q 1 (.q 2 (.q 3 (.q 4 (.q 5 (.l 6 (.q 7 .fin)))))))) (some 6) [] [.rows ((p_d.bM.take v0.toNat).map aQ.lf),.res (.i_ r1)] [1,15,16,17,34] 2 [(1,.ptr 0 0),(15,.lf (.rows 31 (p_d.bM.map aQ.lf))),(16,.i_ (p_d.bM.length:Int)),(17,.i_ v0),(34,.lf (.bool (decide ((0:Int)≤r1))))] [nH p_d,.box 45 (.agg ((aQ.lf1 x0).map AV.lf))]] (okc (anJ _ _ _ h1) (ok1 (rf_ ⟨[(1,.ptr 0 0),(15,.lf (.rows 31 (p_d.bM.map aQ.lf))),(16,.i_ (p_d.bM.length:Int)),(17,.i_ v0),(34,.lf (.bool (decide ((0:Int)≤r1))))],[nH p_d,.box 45 (.agg ((aQ.lf1 x0).map AV.lf))]⟩)))<|
 .iB (decide ((0:Int)≤r1)) (.ret ⟨[.kill 0],[2],[],1⟩ (.inr (.inl (16))))<|
 .rt [1,15,16,17] 1 (.inl (IntKind.wrap .i64 (v0+1))))<|
 .rt [1] 1 (.inr (.inr (())))
def Ky(p_d:bU)(v0:Int):Option ((Int)⊕Unit):=bW (fun v_=>(xG p_d v_).den) FU (v0)
def Kz(p_d:bU):Mo (Bool):=
 .oV 30003 (decide ((p_d.lg:Int)<0)) [1,43] 1 (decide ((2:Int)<p_d.lg))
def Fj(p_d:bU):Mo (Bool):=
 .aV 34003 (p_d.jo != 0) [1,51] 1 (p_d.jo != 1)
def ai5(p_d:bU):Mo (Int):=
 .cl (ark p_d.fName) fun r0 _=>
 .iB (!r0) (.ret (aS 1) (9))<|
 .nu p_d.bM aQ.lf<|
 .iB (decide ((16:Int)<(p_d.bM.length:Int))) (.ret (aS 1) (2))<|
 .nu p_d.bM aQ.lf<|
 .l2m [] Tryz.f61 0 [1,1,1,0,1,0] 0 (fun(v0)=>⟨[(1,.ptr 0 0),(15,.lf (.rows 31 (p_d.bM.map aQ.lf))),(16,.i_ (p_d.bM.length:Int)),(17,.i_ v0)],[nH p_d]⟩) .ret (fun o_=>⟨[(2,.i_ o_)],[.dead]⟩) (.exit 0) (fun _=>⟨[(1,.ptr 0 0)],[nH p_d]⟩) (Ky p_d 0) (xG p_d) (0) (fun o0=>
 .ret (aS 1) (o0)) fun o1=>
 .jk Tryz.f61 0 [1,1,1,1,0,0] 35 (fun r_=>⟨[(1,.ptr 0 0),(43,.b_ r_)],[nH p_d]⟩) ⟨[(1,.ptr 0 0)],[nH p_d]⟩ (Kz p_d) fun r1=>
 .iB (r1) (.ret (aS 1) (1))<|
 .jk Tryz.f61 0 [1,1,1,1,1,0,0] 39 (fun r_=>⟨[(1,.ptr 0 0),(51,.b_ r_)],[nH p_d]⟩) ⟨[(1,.ptr 0 0)],[nH p_d]⟩ (Fj p_d) fun r2=>
 .iB (r2) (.ret (aS 1) (1))<|
 .cl (anN p_d.aZ) fun r3 _=>
 .ret (aS 1) (r3)
def Q55(p_d:bU):Option (Int):=Mo.den (ai5 p_d)
theorem arO(p_d:bU):FV (Q55 p_d) 61 [.dat (bU.lf1 p_d)] .i_:=dA Tryz.func61
abbrev aby(m:aG→Int→Int→Option (Int)):Prop:=∀p_w p_least p_greatest,FV (m p_w p_least p_greatest) 30 [.dat (aG.lf1 p_w),.i_ p_least,.i_ p_greatest] .i_
structure RB1 where
 m1:(p_w:aG)→(p_least:Int)→(p_greatest:Int)→Option (Int)
 ok1:aby m1
def Uy(R_:RB1)(p_greatest:Int)(p_least:Int)(p_w:aG)(r0:aK):Mo (Bool):=
 .oV 6004 (decide ((p_w.aF:Int)<p_least)) [2,3,7,24] 2 (decide ((p_greatest:Int)<p_w.aF))
def Uz(R_:RB1)(p_greatest:Int)(p_w:aG)(r0:aK)(r1:Bool):Mo (Bool):=
 .iG 6010 (r1) (.rt [2,3,7,29] 2 (true))<|
 .cl (aq5 p_w) fun r2 _=>
 .rt [2,3,7,29] 2 (!r2)
def KA(R_:RB1)(p_greatest:Int)(p_w:aG)(r0:aK)(r1:Bool):Mo (Bool):=
 .iG 6015 (r1) (.rt [2,3,7,39] 2 (true))<|
 .iG 6018 (r0.lY) (.nu p_w.bQ aG.lf<|
 .rt [2,3,7,39] 2 ((p_w.bQ.length:Int)==0))<|
 .rt [2,3,7,39] 2 (false)
def KC(R_:RB1)(p_greatest:Int)(p_w:aG)(r0:aK):Mo (Bool):=
 .iG 14002 (r0.oD) (.cl (TY p_w.gu) fun r1 _=>
 .rt [2,3,7,51] 2 (!r1))<|
 .rt [2,3,7,51] 2 (false)
def KD(R_:RB1)(p_greatest:Int)(p_w:aG)(r0:aK)(r1:Bool):Mo (Bool):=
 .iG 14008 (r1) (.rt [2,3,7,61] 2 (true))<|
 .iG 14011 (r0.EG) (.cl (TY p_w.mM) fun r2 _=>
 .rt [2,3,7,61] 2 (!r2))<|
 .rt [2,3,7,61] 2 (false)
def KE(R_:RB1)(p_greatest:Int)(p_w:aG)(r0:aK)(r1:Bool):Mo (Bool):=
 .iG 14018 (r1) (.rt [2,3,7,72] 2 (true))<|
 .iG 14021 (r0.jh) (.cl (TY p_w.aY.fName) fun r2 _=>
 .rt [2,3,7,72] 2 (!r2))<|
 .rt [2,3,7,72] 2 (false)
def KF(R_:RB1)(p_greatest:Int)(p_w:aG)(r0:aK):Mo (Bool):=
 .iG 18002 (r0.oG) (.cl (am0 p_w) fun r1 _=>
 .rt [2,3,7,79] 2 (!r1))<|
 .rt [2,3,7,79] 2 (false)
def KG(R_:RB1)(p_greatest:Int)(p_w:aG)(r0:aK)(r1:Bool):Mo (Bool):=
 .iG 18007 (r1) (.rt [2,3,7,89] 2 (true))<|
 .iG 18010 (r0.lZ) (.cl (aq7 p_w.eG) fun r2 _=>
 .rt [2,3,7,89] 2 (!r2))<|
 .rt [2,3,7,89] 2 (false)
def KH(R_:RB1)(p_greatest:Int)(p_w:aG)(r0:aK):Mo ((Int)⊕Unit):=
 .iB (r0.BU) (.cl (ang p_w) fun r1 _=>
 .iB (r1 != 0) (.ret ⟨[.kill 0],[6],[],2⟩ (.inl (r1)))<|
 .rt [2,3] 2 (.inr (())))<|
 .rt [2,3] 2 (.inr (()))
def KI(R_:RB1)(p_greatest:Int)(p_w:aG):Mo ((Int)⊕(Int)):=
 .iB (p_w.aF==4) (.cl (arO p_w.dS) fun r0 _=>
 .ret ⟨[.kill 0],[6],[],2⟩ (.inl (r0)))<|
 .iB (p_w.aF==6) (.cl (adZ p_w.aY) fun r1 _=>
 .ret ⟨[.kill 0],[6],[],2⟩ (.inl (r1)))<|
 .iB (p_w.aF==8) (.rt [2,3] 2 (.inr (7)))<|
 .iB (p_w.aF==9) (.rt [2,3] 2 (.inr (3)))<|
 .rt [2,3] 2 (.inr (p_greatest))
def qI(R_:RB1)(o0:Int)(p_w:aG):(Int)→Mo ((Int)⊕(Int)⊕Unit):=fun(v0)=>
 .iB (decide ((v0:Int)<(p_w.bQ.length:Int))) (.gx aG.bf p_w.bQ v0 fun x0 _=>
 .cl (R_.ok1 x0 2 o0) fun r0 _=>
 .iB (r0 != 0) (.rt [6] 2 (.inr (.inl (r0))))<|
 .rt [2,114,115,116] 2 (.inl (IntKind.wrap .i64 (v0+1))))<|
 .rt [] 2 (.inr (.inr (())))
def vg(R_:RB1)(o0:Int)(p_w:aG)(v0:Int):Option ((Int)⊕Unit):=bW (fun v_=>(qI R_ o0 p_w v_).den) FU (v0)
def abz(R_:RB1)(p_w:aG)(p_least:Int)(p_greatest:Int):Mo (Int):=
 .cl (adI p_w.aF) fun r0 _=>
 .sk Tryz.f30 0 [1,1,0,0] 0 10 2 (fun r_=>⟨[(2,.i_ p_greatest),(3,.ptr 0 0),(7,.ptr 1 0),(24,.b_ r_)],[dO p_w,.box 104 (.agg ((aK.lf1 r0).map AV.lf))]⟩) ⟨[(1,.i_ p_least),(2,.i_ p_greatest),(3,.ptr 0 0),(7,.ptr 1 0)],[dO p_w,.box 104 (.agg ((aK.lf1 r0).map AV.lf))]⟩ (Uy R_ p_greatest p_least p_w r0) fun r1=>
 .sb Tryz.f30 0 [1,1,0,0] 10 5 2 [(2,.i_ p_greatest),(3,.ptr 0 0),(7,.ptr 1 0)] [dO p_w,.box 104 (.agg ((aK.lf1 r0).map AV.lf))] 24 29 r1 (Uz R_ p_greatest p_w r0 r1) fun r2=>
 .sb Tryz.f30 0 [1,1,0,0] 15 10 2 [(2,.i_ p_greatest),(3,.ptr 0 0),(7,.ptr 1 0)] [dO p_w,.box 104 (.agg ((aK.lf1 r0).map AV.lf))] 29 39 r2 (KA R_ p_greatest p_w r0 r2) fun r3=>
 .iB (r3) (.ret (aS 1) (11))<|
 .nu p_w.bQ aG.lf<|
 .iB (decide ((256:Int)<(p_w.bQ.length:Int))) (.ret (aS 1) (2))<|
 .sf Tryz.f30 0 [1,1,1,1,0,0] 0 8 6 [(2,.i_ p_greatest),(3,.ptr 0 0),(7,.ptr 1 0)] [dO p_w,.box 104 (.agg ((aK.lf1 r0).map AV.lf))] 51 (KC R_ p_greatest p_w r0) fun r4=>
 .sb Tryz.f30 0 [1,1,1,1,0,0] 8 10 6 [(2,.i_ p_greatest),(3,.ptr 0 0),(7,.ptr 1 0)] [dO p_w,.box 104 (.agg ((aK.lf1 r0).map AV.lf))] 51 61 r4 (KD R_ p_greatest p_w r0 r4) fun r5=>
 .sb Tryz.f30 0 [1,1,1,1,0,0] 18 11 6 [(2,.i_ p_greatest),(3,.ptr 0 0),(7,.ptr 1 0)] [dO p_w,.box 104 (.agg ((aK.lf1 r0).map AV.lf))] 61 72 r5 (KE R_ p_greatest p_w r0 r5) fun r6=>
 .iB (r6) (.ret (aS 1) (9))<|
 .sf Tryz.f30 0 [1,1,1,1,1,0,0] 0 7 8 [(2,.i_ p_greatest),(3,.ptr 0 0),(7,.ptr 1 0)] [dO p_w,.box 104 (.agg ((aK.lf1 r0).map AV.lf))] 79 (KF R_ p_greatest p_w r0) fun r7=>
 .sb Tryz.f30 0 [1,1,1,1,1,0,0] 7 10 8 [(2,.i_ p_greatest),(3,.ptr 0 0),(7,.ptr 1 0)] [dO p_w,.box 104 (.agg ((aK.lf1 r0).map AV.lf))] 79 89 r7 (KG R_ p_greatest p_w r0 r7) fun r8=>
 .iB (r8) (.ret (aS 1) (1))<|
 .j2 [.kill 1] Tryz.f30 0 [1,1,1,1,1,1,0,1] 1 .ret (fun o_=>⟨[(6,.i_ o_)],[.dead,.dead]⟩) .normal (fun _=>⟨[(2,.i_ p_greatest),(3,.ptr 0 0)],[dO p_w,.dead]⟩) ⟨[(2,.i_ p_greatest),(3,.ptr 0 0),(91,.b_ r0.BU)],[dO p_w,.dead]⟩ (KH R_ p_greatest p_w r0) (fun o0=>
 .ret (aS 1) (o0)) fun o1=>
 .j2 [] Tryz.f30 0 [1,1,1,1,1,1,1,0,1] 6 .ret (fun o_=>⟨[(6,.i_ o_)],[.dead,.dead]⟩) .normal (fun o_=>⟨[(2,.i_ o_),(3,.ptr 0 0)],[dO p_w,.dead]⟩) ⟨[(2,.i_ p_greatest),(3,.ptr 0 0),(98,.i_ p_w.aF)],[dO p_w,.dead]⟩ (KI R_ p_greatest p_w) (fun o2=>
 .ret (aS 1) (o2)) fun o3=>
 .nu p_w.bQ aG.lf<|
 .l2m [.kill 0] Tryz.f30 0 [1,1,1,1,1,1,1,1,0,1,0] 0 (fun(v0)=>⟨[(2,.i_ o3),(114,.lf (.rows 78 (p_w.bQ.map aG.lf))),(115,.i_ (p_w.bQ.length:Int)),(116,.i_ v0)],[.dead,.dead]⟩) .ret (fun o_=>⟨[(6,.i_ o_)],[.dead,.dead]⟩) (.exit 1) (fun _=>⟨[],[.dead,.dead]⟩) (vg R_ o3 p_w 0) (qI R_ o3 p_w) (0) (fun o4=>
 .ret (aS 1) (o4)) fun o5=>
 .ret (aS 1) (0)
theorem arP(R_:RB1):aby fun p_w p_least p_greatest=>Mo.den (abz R_ p_w p_least p_greatest):=fun _ _ _=>dA Tryz.func30
def kW:Nat→RB1
 |0=>{ m1:=fun p_w p_least p_greatest=>none,ok1:=fun _ _ _ _ h=>(by cases h) }
 |n_+1=>{ m1:=fun p_w p_least p_greatest=>Mo.den (abz (kW n_) p_w p_least p_greatest),ok1:=arP (kW n_) }
def Q4(p_w:aG)(p_least:Int)(p_greatest:Int):Option (Int):=(kW FU).m1 p_w p_least p_greatest
theorem auk:aby Q4:=(kW FU).ok1
def X0(p_e:bY):Mo (Bool):=
 .oV 8003 (decide ((p_e.eu:Int)<1)) [1,13] 1 (decide ((1099511627776:Int)<p_e.eu))
def X3(p_e:bY)(r0:Bool):Mo (Bool):=
 .oV 8008 (r0) [1,18] 1 (decide ((p_e.BR:Int)<0))
def P6(p_e:bY):Mo (Bool):=
 .iG 12003 (!decide ((p_e.pJ:ByteArray)=(⟨#[]⟩:ByteArray))) (.cl (TY p_e.pJ) fun r0 _=>
 .rt [1,27] 1 (!r0))<|
 .rt [1,27] 1 (false)
def ai6(p_e:bY):Mo (Int):=
 .iB (decide ((p_e.BQ:Int)<0)) (.ret (aS 1) (24))<|
 .sf Tryz.f11 0 [1,1,0,0] 0 8 3 [(1,.ptr 0 0)] [jI p_e] 13 (X0 p_e) fun r0=>
 .sb Tryz.f11 0 [1,1,0,0] 8 5 3 [(1,.ptr 0 0)] [jI p_e] 13 18 r0 (X3 p_e r0) fun r1=>
 .iB (r1) (.ret (aS 1) (1))<|
 .jk Tryz.f11 0 [1,1,1,0,0] 17 (fun r_=>⟨[(1,.ptr 0 0),(27,.b_ r_)],[jI p_e]⟩) ⟨[(1,.ptr 0 0)],[jI p_e]⟩ (P6 p_e) fun r2=>
 .iB (r2) (.ret (aS 1) (9))<|
 .cl (auk p_e.dI 1 12) fun r3 _=>
 .ret (aS 1) (r3)
def Q82(p_e:bY):Option (Int):=Mo.den (ai6 p_e)
theorem vk(p_e:bY):FV (Q82 p_e) 11 [.dat (bY.lf1 p_e)] .i_:=dA Tryz.func11
def afT :(Int×(List Int))→Mo ((Int×(List Int))⊕(Int×(List Int))):=fun(v0,l0)=>
 .iB (decide ((128:Int)≤v0)) (.stop)<|
 .rt [0,5] 1 (.inr (v0,l0))
def arQ(p_n:Int):Mo (List Int):=
 .ask (afR p_n) fun r0 h0=>
 .say [.res (.lf (.int .u64 r0))] (okc (Uh _ _ h0) (ok1 (by simp[lfI,lfK]:(([]:List Int).map (lfK .u8))=[])))<|
 .l1y [.sQ 0 5 1,.mg 0 (([]:List Int).map (lfK .u8))] Tryz.f131 0 [1,1,0,0] 0 (.exit 0) (fun(v0,l0)=>⟨[(0,.own 0),(5,.lf (.int .u64 v0))],[.row 5 1 (l0.map (lfK .u8))]⟩) (fun r_=>⟨[(0,.own 0),(5,.lf (.int .u64 r_.1))],[.row 5 1 (r_.2.map (lfK .u8))]⟩) (afT ) (r0,([]:List Int)) fun r1=>
 .say [.rows ((r1.2++[IntKind.wrap .u8 r1.1]).map (lfK .u8))] (ok1 (by simp[lfI,lfK]:(r1.2++[IntKind.wrap .u8 r1.1]).map (lfK .u8)=(r1.2.map (lfK .u8))++[((lfK .u8) (IntKind.wrap .u8 r1.1))]))<|
 .grd ((r1.2.length+[IntKind.wrap .u8 r1.1].length)*1≤140737488355328) fun h1=>
 .say [] (ok1 (by simpa using h1:((r1.2.map (lfK .u8)).length+[((lfK .u8) (IntKind.wrap .u8 r1.1))].length)*1≤140737488355328))<|
 .ret ⟨[.kill 1,.mvn 2],[0],[(3,0)],1⟩ (r1.2++[IntKind.wrap .u8 r1.1])
def aul(p_n:Int):Option (List Int):=Mo.den (arQ p_n)
theorem anO(p_n:Int):FH (aul p_n) 131 [.raw (.slice none 0 0),.i_ p_n] [] (fun _=>.own 0) (fun r=>[.row 5 1 (r.map (lfK .u8))]):=fH Tryz.func131
def arR(p_n:Int):Mo (ByteArray):=
 .ask (aul p_n) fun r0 h0=>
 .say [.kZ [] (.own 0) [.row 5 1 (r0.map (lfK .u8))],.nums r0] (okc (anO _ _ h0) (ok1 (by simp[lfI,lfK]:(r0.map (lfK .u8))=r0.map fun n=>[Lf.int .u8 n])))<|
 .ret (aS 1) (strOfNums r0)
def aum(p_n:Int):Option (ByteArray):=Mo.den (arR p_n)
theorem ad2(p_n:Int):FV (aum p_n) 75 [.i_ p_n] (fun r=>.lf (.str r)):=dA Tryz.func75
def aun(p_n:Int)(p_b0:aH):Mo (aH):=
 .ask (aum p_n) fun r0 h0=>
 .say [.iY (.q 0 (.q 1 (.q 2 (.q 3 (.q 5 (.alt 4 (.l 6 (.l 7 (.q 8 (.q 9 (.l 10 .fin))))) (.l 6 (.l 4 (.l 7 (.q 8 (.q 9 (.l 10 .fin)))))))))))) (some 10) [1,2] [.both [.at_ 2 4,.resv 1,.res (.lf (.str r0)),.rows ((p_b0.bJ++(numsOf (r0:ByteArray))).map (lfK .u8)),.slot 2] [.at_ 2 6,.resv 1,.res (.lf (.str r0)),.rows ((p_b0.bJ++(numsOf (r0:ByteArray))).map (lfK .u8)),.slot 2]] [] 3 [] [.box 75 (.agg [.own 2,.b_ p_b0.eH]),.dead,.row 5 1 ((p_b0.bJ++(numsOf (r0:ByteArray))).map (lfK .u8))]] (okc (ad2 _ _ h0) (ok1 (by first|(rw[List.map_append,jH];done)|(rw[jH,List.nil_append];done)|simp[lfI,lfK,jH]:(p_b0.bJ++(numsOf (r0:ByteArray))).map (lfK .u8)=(p_b0.bJ.map (lfK .u8))++zF (r0:ByteArray))))<|
 .grd (p_b0.bJ.length+(r0:ByteArray).size≤140737488355328) fun h1=>
 .say [] (okc (by simpa using h1:(p_b0.bJ.map (lfK .u8)).length+(r0:ByteArray).size≤140737488355328) (okc (rf_ ⟨[],[.box 75 (.agg [.own 2,.b_ p_b0.eH]),.dead,.row 5 1 ((p_b0.bJ++(numsOf (r0:ByteArray))).map (lfK .u8))]⟩) (okc (ad2 _ _ h0) (okc (by first|(rw[List.map_append,jH];done)|(rw[jH,List.nil_append];done)|simp[lfI,lfK,jH]:(p_b0.bJ++(numsOf (r0:ByteArray))).map (lfK .u8)=(p_b0.bJ.map (lfK .u8))++zF (r0:ByteArray)) (okc (by simpa using h1:(p_b0.bJ.map (lfK .u8)).length+(r0:ByteArray).size≤140737488355328) (ok1 (rf_ ⟨[],[.box 75 (.agg [.own 2,.b_ p_b0.eH]),.dead,.row 5 1 ((p_b0.bJ++(numsOf (r0:ByteArray))).map (lfK .u8))]⟩)))))))<|
 .ret ⟨[.mvn 2],[],[(3,2)],3⟩ (aH.mk (p_b0.bJ++(numsOf (r0:ByteArray))) p_b0.eH)
def Q26(p_n:Int)(p_b0:aH):Option (aH):=Mo.den (aun p_n p_b0)
theorem iF(p_n:Int)(p_b0:aH):FH (Q26 p_n p_b0) 34 [.ptr 0 0,.i_ p_n] [.box 75 (.agg [.own 1,.b_ p_b0.eH]),.row 5 1 (p_b0.bJ.map (lfK .u8))] (fun _=>.tup []) (fun r=>[.box 75 (.agg [.own 2,.b_ r.eH]),.dead,.row 5 1 (r.bJ.map (lfK .u8))]):=fH Tryz.func34
def arS(p_s:ByteArray)(p_b0:aH):Mo (aH):=
 .ask (Q26 (p_s.size:Int) p_b0) fun r0 h0=>
 .say [.kZ [0,1] (.tup []) [.box 75 (.agg [.own 2,.b_ r0.eH]),.dead,.row 5 1 (r0.bJ.map (lfK .u8))],.rows ((r0.bJ++(numsOf (p_s:ByteArray))).map (lfK .u8))] (okc (iF _ _ _ h0) (ok1 (by first|(rw[List.map_append,jH];done)|(rw[jH,List.nil_append];done)|simp[lfI,lfK,jH]:(r0.bJ++(numsOf (p_s:ByteArray))).map (lfK .u8)=(r0.bJ.map (lfK .u8))++zF (p_s:ByteArray))))<|
 .grd (r0.bJ.length+(p_s:ByteArray).size≤140737488355328) fun h1=>
 .say [] (ok1 (by simpa using h1:(r0.bJ.map (lfK .u8)).length+(p_s:ByteArray).size≤140737488355328))<|
 .ret ⟨[.mvn 3],[],[(4,2)],3⟩ (aH.mk (r0.bJ++(numsOf (p_s:ByteArray))) r0.eH)
def ava(p_s:ByteArray)(p_b0:aH):Option (aH):=Mo.den (arS p_s p_b0)
theorem vw(p_s:ByteArray)(p_b0:aH):FH (ava p_s p_b0) 35 [.ptr 0 0,.lf (.str p_s)] [.box 75 (.agg [.own 1,.b_ p_b0.eH]),.row 5 1 (p_b0.bJ.map (lfK .u8))] (fun _=>.tup []) (fun r=>[.box 75 (.agg [.own 2,.b_ r.eH]),.dead,.row 5 1 (r.bJ.map (lfK .u8))]):=fH Tryz.func35
def arT(p_b:Bool)(p_b0:aH):Mo (aH):=
 .iB (p_b) (.say [.rows ((p_b0.bJ++[(1:Int)]).map (lfK .u8))] (ok1 (by simp[lfI,lfK]:(p_b0.bJ++[(1:Int)]).map (lfK .u8)=(p_b0.bJ.map (lfK .u8))++[((lfK .u8) (1:Int))]))<|
 .grd ((p_b0.bJ.length+[(1:Int)].length)*1≤140737488355328) fun h0=>
 .say [] (ok1 (by simpa using h0:((p_b0.bJ.map (lfK .u8)).length+[((lfK .u8) (1:Int))].length)*1≤140737488355328))<|
 .ret ⟨[.kill 2,.mvn 3],[],[(4,2)],3⟩ (aH.mk (p_b0.bJ++[(1:Int)]) p_b0.eH))<|
 .say [.rows ((p_b0.bJ++[(0:Int)]).map (lfK .u8))] (ok1 (by simp[lfI,lfK]:(p_b0.bJ++[(0:Int)]).map (lfK .u8)=(p_b0.bJ.map (lfK .u8))++[((lfK .u8) (0:Int))]))<|
 .grd ((p_b0.bJ.length+[(0:Int)].length)*1≤140737488355328) fun h1=>
 .say [] (ok1 (by simpa using h1:((p_b0.bJ.map (lfK .u8)).length+[((lfK .u8) (0:Int))].length)*1≤140737488355328))<|
 .ret ⟨[.kill 2,.mvn 3],[],[(4,2)],3⟩ (aH.mk (p_b0.bJ++[(0:Int)]) p_b0.eH)
def auo(p_b:Bool)(p_b0:aH):Option (aH):=Mo.den (arT p_b p_b0)
theorem o9(p_b:Bool)(p_b0:aH):FH (auo p_b p_b0) 82 [.ptr 0 0,.b_ p_b] [.box 75 (.agg [.own 1,.b_ p_b0.eH]),.row 5 1 (p_b0.bJ.map (lfK .u8))] (fun _=>.tup []) (fun r=>[.box 75 (.agg [.own 2,.b_ r.eH]),.dead,.row 5 1 (r.bJ.map (lfK .u8))]):=fH Tryz.func82
def afU :(Int×(List Int))→Mo ((Int×(List Int))⊕(Int×(List Int))):=fun(v0,l0)=>
 .iB (decide ((128:Int)≤v0)) (.stop)<|
 .rt [0,5] 2 (.inr (v0,l0))
def arU(p_n:Int)(p_s0:List Int):Mo (List Int):=
 .cl (Uh p_n) fun r0 _=>
 .l1y [.mvn 0] Tryz.f131 1 [1,1,0,0] 0 (.exit 0) (fun(v0,l0)=>⟨[(0,.own 1),(5,.lf (.int .u64 v0))],[.dead,.row 5 1 (l0.map (lfK .u8))]⟩) (fun r_=>⟨[(0,.own 1),(5,.lf (.int .u64 r_.1))],[.dead,.row 5 1 (r_.2.map (lfK .u8))]⟩) (afU ) (r0,p_s0) fun r1=>
 .say [.rows ((r1.2++[IntKind.wrap .u8 r1.1]).map (lfK .u8))] (ok1 (by simp[lfI,lfK]:(r1.2++[IntKind.wrap .u8 r1.1]).map (lfK .u8)=(r1.2.map (lfK .u8))++[((lfK .u8) (IntKind.wrap .u8 r1.1))]))<|
 .grd ((r1.2.length+[IntKind.wrap .u8 r1.1].length)*1≤140737488355328) fun h0=>
 .say [] (ok1 (by simpa using h0:((r1.2.map (lfK .u8)).length+[((lfK .u8) (IntKind.wrap .u8 r1.1))].length)*1≤140737488355328))<|
 .ret ⟨[.kill 2,.mvn 3],[0],[(4,1)],2⟩ (r1.2++[IntKind.wrap .u8 r1.1])
def arV(p_n:Int)(p_s0:List Int):Option (List Int):=Mo.den (arU p_n p_s0)
theorem Iq(p_n:Int)(p_s0:List Int):FH (arV p_n p_s0) 131 [.own 0,.i_ p_n] [.row 5 1 (p_s0.map (lfK .u8))] (fun _=>.own 1) (fun r=>[.dead,.row 5 1 (r.map (lfK .u8))]):=fH Tryz.func131
def arW(p_s:ByteArray)(p_s0:List Int):Mo (List Int):=
 .ask (arV (p_s.size:Int) p_s0) fun r0 h0=>
 .say [.kZ [0] (.own 1) [.dead,.row 5 1 (r0.map (lfK .u8))],.rows ((r0++(numsOf (p_s:ByteArray))).map (lfK .u8))] (okc (Iq _ _ _ h0) (ok1 (by first|(rw[List.map_append,jH];done)|(rw[jH,List.nil_append];done)|simp[lfI,lfK,jH]:(r0++(numsOf (p_s:ByteArray))).map (lfK .u8)=(r0.map (lfK .u8))++zF (p_s:ByteArray))))<|
 .grd (r0.length+(p_s:ByteArray).size≤140737488355328) fun h1=>
 .say [] (ok1 (by simpa using h1:(r0.map (lfK .u8)).length+(p_s:ByteArray).size≤140737488355328))<|
 .ret ⟨[.mvn 2],[0],[(3,1)],2⟩ (r0++(numsOf (p_s:ByteArray)))
def aup(p_s:ByteArray)(p_s0:List Int):Option (List Int):=Mo.den (arW p_s p_s0)
theorem anP(p_s:ByteArray)(p_s0:List Int):FH (aup p_s p_s0) 278 [.own 0,.lf (.str p_s)] [.row 5 1 (p_s0.map (lfK .u8))] (fun _=>.own 1) (fun r=>[.dead,.row 5 1 (r.map (lfK .u8))]):=fH Tryz.func278
abbrev UA(m:ah→Option (List Int)):Prop:=∀p_v,FH (m p_v) 206 [.raw (.slice none 0 0),.dat (ah.lf1 p_v)] [] (fun _=>.own 0) (fun r=>[.row 5 1 (r.map (lfK .u8))])
abbrev ad3(m:ah→(List Int)→Option (List Int)):Prop:=∀p_v p_s0,FH (m p_v p_s0) 206 [.own 0,.dat (ah.lf1 p_v)] [.row 5 1 (p_s0.map (lfK .u8))] (fun _=>.own 1) (fun r=>[.dead,.row 5 1 (r.map (lfK .u8))])
structure KJ where
 m1:(p_v:ah)→Option (List Int)
 ok1:UA m1
 m2:(p_v:ah)→(p_s0:List Int)→Option (List Int)
 ok2:ad3 m2
def ai7(R_:KJ)(p_v:ah):Mo (Bool):=
 .iB (p_v.aF==3) (.rt [0,3,16,17] 3 (p_v.aF==3))<|
 .rt [0,3,16,17] 3 (p_v.aF==10)
def ai8(R_:KJ)(p_v:ah):Mo (Bool):=
 .iB (p_v.aF==4) (.stop)<|
 .rt [0,3,16,32] 3 (p_v.aF==7)
def afV(R_:KJ)(p_v:ah):(Int×(List Int))→Mo ((Int×(List Int))⊕((List Int))):=fun(v0,l0)=>
 .iB (decide ((v0:Int)<(p_v.aU.length:Int))) (.gx aJ.bf p_v.aU v0 fun x0 _=>
 .ask (aup x0.fName l0) fun r0 h0=>
 .say [] (ok1 (anP _ _ _ h0))<|
 .ask (R_.m2 x0.fValue r0) fun r1 h1=>
 .say [.iY (.q 0 (.q 1 (.q 2 (.q 4 (.q 5 (.l 3 (.l 6 (.q 7 .fin)))))))) (some 6) [3] [.kZ [3] (.own 1) [.dead,.row 5 1 (r0.map (lfK .u8))],.at_ 52 6,.tod 82,.kZ [5] (.own 1) [.dead,.row 5 1 (r1.map (lfK .u8))]] [0,71,72,73] 7 [(0,.own 6),(71,.lf (.rows 6 (p_v.aU.map aJ.lf))),(72,.i_ (p_v.aU.length:Int)),(73,.i_ v0)] [.dead,.dead,.dead,.dead,.box 115 (.agg ((aJ.lf1 x0).map AV.lf)),.dead,.row 5 1 (r1.map (lfK .u8))]] (okc (R_.ok2 _ _ _ h1) (ok1 (rf_ ⟨[(0,.own 6),(71,.lf (.rows 6 (p_v.aU.map aJ.lf))),(72,.i_ (p_v.aU.length:Int)),(73,.i_ v0)],[.dead,.dead,.dead,.dead,.box 115 (.agg ((aJ.lf1 x0).map AV.lf)),.dead,.row 5 1 (r1.map (lfK .u8))]⟩)))<|
 .ret ⟨[],[0,71,72,73],[(6,3)],4⟩ (.inl (IntKind.wrap .i64 (v0+1),r1)))<|
 .rt [0] 4 (.inr (l0))
def afW(R_:KJ)(p_v:ah):Mo (((List Int))):=
 .jk Tryz.f206 0 [1,1,0,1,0,0,1] 1 (fun r_=>⟨[(0,.own 2),(3,.ptr 0 0),(16,.i_ p_v.aF),(17,.b_ r_)],[aX p_v,.dead,.row 5 1 ([IntKind.wrap .u8 p_v.aF].map (lfK .u8))]⟩) ⟨[(0,.own 2),(3,.ptr 0 0),(16,.i_ p_v.aF),(17,.lf (.bool (p_v.aF==3)))],[aX p_v,.dead,.row 5 1 ([IntKind.wrap .u8 p_v.aF].map (lfK .u8))]⟩ (ai7 R_ p_v) fun r0=>
 .iB (r0) (.cH [2] (Iq p_v.fA [IntKind.wrap .u8 p_v.aF]) fun r1 _=>
 .ret ⟨[.kill 0],[0],[(3,2)],3⟩ (r1))<|
 .iB (p_v.aF==9) (.stop)<|
 .jk Tryz.f206 0 [1,1,0,1,0,1,1,1,1,0,1] 1 (fun r_=>⟨[(0,.own 2),(3,.ptr 0 0),(16,.i_ p_v.aF),(32,.b_ r_)],[aX p_v,.dead,.row 5 1 ([IntKind.wrap .u8 p_v.aF].map (lfK .u8))]⟩) ⟨[(0,.own 2),(3,.ptr 0 0),(16,.i_ p_v.aF),(32,.lf (.bool (p_v.aF==4)))],[aX p_v,.dead,.row 5 1 ([IntKind.wrap .u8 p_v.aF].map (lfK .u8))]⟩ (ai8 R_ p_v) fun r2=>
 .iB (r2) (.stop)<|
 .iB (p_v.aF==8) (.stop)<|
 .iB (p_v.aF==6) (.stop)<|
 .iB (p_v.aF==5) (.nu p_v.aU aJ.lf<|
 .ask (arV (p_v.aU.length:Int) [IntKind.wrap .u8 p_v.aF]) fun r3 h0=>
 .say [.kZ [2] (.own 1) [.dead,.row 5 1 (r3.map (lfK .u8))],.num p_v.aU.length] (okc (Iq _ _ _ h0) (ok1 (ln_ p_v.aU aJ.lf)))<|
 .l1y [.kill 0] Tryz.f206 0 [1,1,0,1,0,1,1,1,1,1,1,1,1,1,1,1,0,1,1,0] 0 (.exit 3) (fun(v0,l0)=>⟨[(0,.own 3),(71,.lf (.rows 6 (p_v.aU.map aJ.lf))),(72,.i_ (p_v.aU.length:Int)),(73,.i_ v0)],[.dead,.dead,.dead,.row 5 1 (l0.map (lfK .u8))]⟩) (fun r_=>⟨[(0,.own 3)],[.dead,.dead,.dead,.row 5 1 (r_.map (lfK .u8))]⟩) (afV R_ p_v) (0,r3) fun r4=>
 .ret ⟨[],[0],[(3,2)],3⟩ (r4))<|
 .stop
def apz(R_:KJ)(p_v:ah):Mo (List Int):=
 .say [.rows ([IntKind.wrap .u8 p_v.aF].map (lfK .u8))] (ok1 (by simp[lfI,lfK]:[IntKind.wrap .u8 p_v.aF].map (lfK .u8)=[]++[((lfK .u8) (IntKind.wrap .u8 p_v.aF))]))<|
 .grd ((([]:List Int).length+[IntKind.wrap .u8 p_v.aF].length)*1≤140737488355328) fun h0=>
 .say [] (ok1 (by first|(simp;done)|simpa using h0:(([]:List (List Lf)).length+[((lfK .u8) (IntKind.wrap .u8 p_v.aF))].length)*1≤140737488355328))<|
 .jy [.kill 1] Tryz.f206 0 [1,1,0,1] 6 (.normal) (fun r_=>⟨[(0,.own 2)],[.dead,.dead,.row 5 1 (r_.map (lfK .u8))]⟩) ⟨[(0,.own 2),(3,.ptr 0 0),(16,.i_ p_v.aF)],[aX p_v,.dead,.row 5 1 ([IntKind.wrap .u8 p_v.aF].map (lfK .u8))]⟩ (afW R_ p_v) fun r0=>
 .ret ⟨[.mvn 2],[0],[(3,0)],1⟩ (r0)
theorem anQ(R_:KJ):UA fun p_v=>Mo.den (apz R_ p_v):=fun _=>fH Tryz.func206
def afX(R_:KJ)(p_s0:List Int)(p_v:ah):Mo (Bool):=
 .iB (p_v.aF==3) (.rt [0,3,16,17] 4 (p_v.aF==3))<|
 .stop
def abA(R_:KJ)(p_s0:List Int)(p_v:ah):Mo (((List Int))):=
 .jk Tryz.f206 1 [1,1,0,1,0,0,1] 1 (fun r_=>⟨[(0,.own 3),(3,.ptr 1 0),(16,.i_ p_v.aF),(17,.b_ r_)],[.dead,aX p_v,.dead,.row 5 1 ((p_s0++[IntKind.wrap .u8 p_v.aF]).map (lfK .u8))]⟩) ⟨[(0,.own 3),(3,.ptr 1 0),(16,.i_ p_v.aF),(17,.lf (.bool (p_v.aF==3)))],[.dead,aX p_v,.dead,.row 5 1 ((p_s0++[IntKind.wrap .u8 p_v.aF]).map (lfK .u8))]⟩ (afX R_ p_s0 p_v) fun r0=>
 .iB (r0) (.cH [3] (Iq p_v.fA (p_s0++[IntKind.wrap .u8 p_v.aF])) fun r1 _=>
 .ret ⟨[.kill 1],[0],[(4,3)],4⟩ (r1))<|
 .stop
def ai9(R_:KJ)(p_v:ah)(p_s0:List Int):Mo (List Int):=
 .say [.rows ((p_s0++[IntKind.wrap .u8 p_v.aF]).map (lfK .u8))] (ok1 (by simp[lfI,lfK]:(p_s0++[IntKind.wrap .u8 p_v.aF]).map (lfK .u8)=(p_s0.map (lfK .u8))++[((lfK .u8) (IntKind.wrap .u8 p_v.aF))]))<|
 .grd ((p_s0.length+[IntKind.wrap .u8 p_v.aF].length)*1≤140737488355328) fun h0=>
 .say [] (ok1 (by simpa using h0:((p_s0.map (lfK .u8)).length+[((lfK .u8) (IntKind.wrap .u8 p_v.aF))].length)*1≤140737488355328))<|
 .jy [.kill 2] Tryz.f206 1 [1,1,0,1] 6 (.normal) (fun r_=>⟨[(0,.own 3)],[.dead,.dead,.dead,.row 5 1 (r_.map (lfK .u8))]⟩) ⟨[(0,.own 3),(3,.ptr 1 0),(16,.i_ p_v.aF)],[.dead,aX p_v,.dead,.row 5 1 ((p_s0++[IntKind.wrap .u8 p_v.aF]).map (lfK .u8))]⟩ (abA R_ p_s0 p_v) fun r0=>
 .ret ⟨[.mvn 3],[0],[(4,1)],2⟩ (r0)
theorem aja(R_:KJ):ad3 fun p_v p_s0=>Mo.den (ai9 R_ p_v p_s0):=fun _ _=>fH Tryz.func206
def Fp:Nat→KJ
 |0=>{ m1:=fun p_v=>none,ok1:=fun _ _ h=>(by cases h),m2:=fun p_v p_s0=>none,ok2:=fun _ _ _ h=>(by cases h) }
 |n_+1=>{ m1:=fun p_v=>Mo.den (apz (Fp n_) p_v),ok1:=anQ (Fp n_),m2:=fun p_v p_s0=>Mo.den (ai9 (Fp n_) p_v p_s0),ok2:=aja (Fp n_) }
def Q96(p_v:ah):Option (List Int):=(Fp FU).m1 p_v
theorem arX:UA Q96:=(Fp FU).ok1
def arY(p_v:ah):Mo (ByteArray×Int):=
 .cl (nY p_v) fun r0 _=>
 .iB (!r0) (.stop)<|
 .ask (Q96 p_v) fun r1 h0=>
 .say [.kZ [] (.own 0) [.row 5 1 (r1.map (lfK .u8))],.nums r1] (okc (arX _ _ h0) (ok1 (by simp[lfI,lfK]:(r1.map (lfK .u8))=r1.map fun n=>[Lf.int .u8 n])))<|
 .ret (aS 2) (strOfNums r1,0)
def avb(p_v:ah):Option (ByteArray×Int):=Mo.den (arY p_v)
theorem anR(p_v:ah):FV (avb p_v) 133 [.dat (ah.lf1 p_v)] (fun r=>.tup [.lf (.str r.1),.i_ r.2]):=dA Tryz.func133
def arZ(p_v:ah)(p_b0:aH):Mo (aH):=
 .cl (Cm p_v) fun r0 _=>
 .iB (r0) (.cH [0,1] (o9 false p_b0) fun r1 _=>
 .ret ⟨[.kill 2,.mvn 3],[],[(4,2)],3⟩ (r1))<|
 .cl (nY p_v) fun r2 _=>
 .iB (!r2) (.stop)<|
 .cl (anR p_v) fun r3 _=>
 .iB (r3.2 != 0) (.stop)<|
 .ask (auo true p_b0) fun r4 h0=>
 .say [.kZ [0,1] (.tup []) [.box 75 (.agg [.own 2,.b_ r4.eH]),.dead,.row 5 1 (r4.bJ.map (lfK .u8))],.rows ((r4.bJ++(numsOf (r3.1:ByteArray))).map (lfK .u8))] (okc (o9 _ _ _ h0) (ok1 (by first|(rw[List.map_append,jH];done)|(rw[jH,List.nil_append];done)|simp[lfI,lfK,jH]:(r4.bJ++(numsOf (r3.1:ByteArray))).map (lfK .u8)=(r4.bJ.map (lfK .u8))++zF (r3.1:ByteArray))))<|
 .grd (r4.bJ.length+(r3.1:ByteArray).size≤140737488355328) fun h1=>
 .say [] (ok1 (by simpa using h1:(r4.bJ.map (lfK .u8)).length+(r3.1:ByteArray).size≤140737488355328))<|
 .ret ⟨[.kill 2,.mvn 4],[],[(5,2)],3⟩ (aH.mk (r4.bJ++(numsOf (r3.1:ByteArray))) r4.eH)
def avc(p_v:ah)(p_b0:aH):Option (aH):=Mo.den (arZ p_v p_b0)
theorem vC(p_v:ah)(p_b0:aH):FH (avc p_v p_b0) 76 [.ptr 0 0,.dat (ah.lf1 p_v)] [.box 75 (.agg [.own 1,.b_ p_b0.eH]),.row 5 1 (p_b0.bJ.map (lfK .u8))] (fun _=>.tup []) (fun r=>[.box 75 (.agg [.own 2,.b_ r.eH]),.dead,.row 5 1 (r.bJ.map (lfK .u8))]):=fH Tryz.func76
def afY(p_l:List ByteArray):(Int×Bool×(List Int))→Mo ((Int×Bool×(List Int))⊕(Bool×(List Int))):=fun(v0,v1,l0)=>
 .iB (decide ((v0:Int)<(p_l.length:Int))) (.stop)<|
 .rt [] 3 (.inr (v1,l0))
def ar0(p_l:List ByteArray)(p_b0:aH):Mo (aH):=
 .nu p_l lfS<|
 .ask (Q26 (p_l.length:Int) p_b0) fun r0 h0=>
 .say [.kZ [0,1] (.tup []) [.box 75 (.agg [.own 2,.b_ r0.eH]),.dead,.row 5 1 (r0.bJ.map (lfK .u8))],.num p_l.length] (okc (iF _ _ _ h0) (ok1 (ln_ p_l lfS)))<|
 .l1 Tryz.f208 2 [1,1,0] 0 (.exit 0) (fun(v0,v1,l0)=>⟨[(0,.ptr 0 0),(2,.raw (.func (.func 209) #[] #[])),(12,.lf (.rows 1 (p_l.map lfS))),(13,.i_ (p_l.length:Int)),(14,.i_ v0)],[.box 75 (.agg [.own 2,.b_ v1]),.dead,.row 5 1 (l0.map (lfK .u8))]⟩) (fun r_=>⟨[],[.box 75 (.agg [.own 2,.b_ r_.1]),.dead,.row 5 1 (r_.2.map (lfK .u8))]⟩) (afY p_l) (0,r0.eH,r0.bJ) fun r1=>
 .ret ⟨[.mvn 2],[],[(3,2)],3⟩ (aH.mk r1.2 r1.1)
def avd(p_l:List ByteArray)(p_b0:aH):Option (aH):=Mo.den (ar0 p_l p_b0)
theorem Ir(p_l:List ByteArray)(p_b0:aH):FH (avd p_l p_b0) 208 [.ptr 0 0,.lf (.rows 1 (p_l.map lfS)),.raw (.func (.func 209) #[] #[])] [.box 75 (.agg [.own 1,.b_ p_b0.eH]),.row 5 1 (p_b0.bJ.map (lfK .u8))] (fun _=>.tup []) (fun r=>[.box 75 (.agg [.own 2,.b_ r.eH]),.dead,.row 5 1 (r.bJ.map (lfK .u8))]):=fH Tryz.func208
def afZ(p_l:List bn):(Int×Bool×(List Int))→Mo ((Int×Bool×(List Int))⊕(Bool×(List Int))):=fun(v0,v1,l0)=>
 .iB (decide ((v0:Int)<(p_l.length:Int))) (.stop)<|
 .rt [] 3 (.inr (v1,l0))
def ar1(p_l:List bn)(p_b0:aH):Mo (aH):=
 .nu p_l bn.lf<|
 .ask (Q26 (p_l.length:Int) p_b0) fun r0 h0=>
 .say [.kZ [0,1] (.tup []) [.box 75 (.agg [.own 2,.b_ r0.eH]),.dead,.row 5 1 (r0.bJ.map (lfK .u8))],.num p_l.length] (okc (iF _ _ _ h0) (ok1 (ln_ p_l bn.lf)))<|
 .l1 Tryz.f136 2 [1,1,0] 0 (.exit 0) (fun(v0,v1,l0)=>⟨[(0,.ptr 0 0),(2,.raw (.func (.func 137) #[] #[])),(12,.lf (.rows 2 (p_l.map bn.lf))),(13,.i_ (p_l.length:Int)),(14,.i_ v0)],[.box 75 (.agg [.own 2,.b_ v1]),.dead,.row 5 1 (l0.map (lfK .u8))]⟩) (fun r_=>⟨[],[.box 75 (.agg [.own 2,.b_ r_.1]),.dead,.row 5 1 (r_.2.map (lfK .u8))]⟩) (afZ p_l) (0,r0.eH,r0.bJ) fun r1=>
 .ret ⟨[.mvn 2],[],[(3,2)],3⟩ (aH.mk r1.2 r1.1)
def ave(p_l:List bn)(p_b0:aH):Option (aH):=Mo.den (ar1 p_l p_b0)
theorem anS(p_l:List bn)(p_b0:aH):FH (ave p_l p_b0) 136 [.ptr 0 0,.lf (.rows 2 (p_l.map bn.lf)),.raw (.func (.func 137) #[] #[])] [.box 75 (.agg [.own 1,.b_ p_b0.eH]),.row 5 1 (p_b0.bJ.map (lfK .u8))] (fun _=>.tup []) (fun r=>[.box 75 (.agg [.own 2,.b_ r.eH]),.dead,.row 5 1 (r.bJ.map (lfK .u8))]):=fH Tryz.func136
def af0(p_l:List ah):(Int×Bool×(List Int))→Mo ((Int×Bool×(List Int))⊕(Bool×(List Int))):=fun(v0,v1,l0)=>
 .iB (decide ((v0:Int)<(p_l.length:Int))) (.stop)<|
 .rt [] 3 (.inr (v1,l0))
def ar2(p_l:List ah)(p_b0:aH):Mo (aH):=
 .nu p_l ah.lf<|
 .ask (Q26 (p_l.length:Int) p_b0) fun r0 h0=>
 .say [.kZ [0,1] (.tup []) [.box 75 (.agg [.own 2,.b_ r0.eH]),.dead,.row 5 1 (r0.bJ.map (lfK .u8))],.num p_l.length] (okc (iF _ _ _ h0) (ok1 (ln_ p_l ah.lf)))<|
 .l1 Tryz.f207 2 [1,1,0] 0 (.exit 0) (fun(v0,v1,l0)=>⟨[(0,.ptr 0 0),(2,.raw (.func (.func 76) #[] #[])),(12,.lf (.rows 5 (p_l.map ah.lf))),(13,.i_ (p_l.length:Int)),(14,.i_ v0)],[.box 75 (.agg [.own 2,.b_ v1]),.dead,.row 5 1 (l0.map (lfK .u8))]⟩) (fun r_=>⟨[],[.box 75 (.agg [.own 2,.b_ r_.1]),.dead,.row 5 1 (r_.2.map (lfK .u8))]⟩) (af0 p_l) (0,r0.eH,r0.bJ) fun r1=>
 .ret ⟨[.mvn 2],[],[(3,2)],3⟩ (aH.mk r1.2 r1.1)
def avf(p_l:List ah)(p_b0:aH):Option (aH):=Mo.den (ar2 p_l p_b0)
theorem ad4(p_l:List ah)(p_b0:aH):FH (avf p_l p_b0) 207 [.ptr 0 0,.lf (.rows 5 (p_l.map ah.lf)),.raw (.func (.func 76) #[] #[])] [.box 75 (.agg [.own 1,.b_ p_b0.eH]),.row 5 1 (p_b0.bJ.map (lfK .u8))] (fun _=>.tup []) (fun r=>[.box 75 (.agg [.own 2,.b_ r.eH]),.dead,.row 5 1 (r.bJ.map (lfK .u8))]):=fH Tryz.func207
def af2(p_l:List cu):(Int×Bool×(List Int))→Mo ((Int×Bool×(List Int))⊕(Bool×(List Int))):=fun(v0,v1,l0)=>
 .iB (decide ((v0:Int)<(p_l.length:Int))) (.stop)<|
 .rt [] 3 (.inr (v1,l0))
def ar4(p_l:List cu)(p_b0:aH):Mo (aH):=
 .nu p_l cu.lf<|
 .ask (Q26 (p_l.length:Int) p_b0) fun r0 h0=>
 .say [.kZ [0,1] (.tup []) [.box 75 (.agg [.own 2,.b_ r0.eH]),.dead,.row 5 1 (r0.bJ.map (lfK .u8))],.num p_l.length] (okc (iF _ _ _ h0) (ok1 (ln_ p_l cu.lf)))<|
 .l1 Tryz.f213 2 [1,1,0] 0 (.exit 0) (fun(v0,v1,l0)=>⟨[(0,.ptr 0 0),(2,.raw (.func (.func 214) #[] #[])),(12,.lf (.rows 2 (p_l.map cu.lf))),(13,.i_ (p_l.length:Int)),(14,.i_ v0)],[.box 75 (.agg [.own 2,.b_ v1]),.dead,.row 5 1 (l0.map (lfK .u8))]⟩) (fun r_=>⟨[],[.box 75 (.agg [.own 2,.b_ r_.1]),.dead,.row 5 1 (r_.2.map (lfK .u8))]⟩) (af2 p_l) (0,r0.eH,r0.bJ) fun r1=>
 .ret ⟨[.mvn 2],[],[(3,2)],3⟩ (aH.mk r1.2 r1.1)
def avg(p_l:List cu)(p_b0:aH):Option (aH):=Mo.den (ar4 p_l p_b0)
theorem anT(p_l:List cu)(p_b0:aH):FH (avg p_l p_b0) 213 [.ptr 0 0,.lf (.rows 2 (p_l.map cu.lf)),.raw (.func (.func 214) #[] #[])] [.box 75 (.agg [.own 1,.b_ p_b0.eH]),.row 5 1 (p_b0.bJ.map (lfK .u8))] (fun _=>.tup []) (fun r=>[.box 75 (.agg [.own 2,.b_ r.eH]),.dead,.row 5 1 (r.bJ.map (lfK .u8))]):=fH Tryz.func213
abbrev UC(m:aP→aH→Option (aH)):Prop:=∀p_e p_b0,FH (m p_e p_b0) 215 [.ptr 0 0,.dat (aP.lf1 p_e)] [.box 75 (.agg [.own 1,.b_ p_b0.eH]),.row 5 1 (p_b0.bJ.map (lfK .u8))] (fun _=>.tup []) (fun r=>[.box 75 (.agg [.own 2,.b_ r.eH]),.dead,.row 5 1 (r.bJ.map (lfK .u8))])
abbrev ad5(m:(List aP)→aH→Option (aH)):Prop:=∀p_l p_b0,FH (m p_l p_b0) 279 [.ptr 0 0,.lf (.rows 11 (p_l.map aP.lf)),.raw (.func (.func 215) #[] #[])] [.box 75 (.agg [.own 1,.b_ p_b0.eH]),.row 5 1 (p_b0.bJ.map (lfK .u8))] (fun _=>.tup []) (fun r=>[.box 75 (.agg [.own 2,.b_ r.eH]),.dead,.row 5 1 (r.bJ.map (lfK .u8))])
structure af4 where
 m1:(p_e:aP)→(p_b0:aH)→Option (aH)
 ok1:UC m1
 m2:(p_l:List aP)→(p_b0:aH)→Option (aH)
 ok2:ad5 m2
def ajb(R_:af4)(p_e:aP)(p_b0:aH):Mo (aH):=
 .cH [0,1] (iF p_e.fOp p_b0) fun r0 _=>
 .cH [0,3] (Ir p_e.cO r0) fun r1 _=>
 .cH [0,4] (vw p_e.fName r1) fun r2 _=>
 .cH [0,5] (Ir p_e.eP r2) fun r3 _=>
 .cH [0,6] (vC p_e.fArg r3) fun r4 _=>
 .cH [0,7] (iF p_e.fN r4) fun r5 _=>
 .cH [0,8] (R_.ok2 p_e.bC r5) fun r6 _=>
 .ret ⟨[.kill 2,.mvn 9],[],[(10,2)],3⟩ (r6)
theorem ajc(R_:af4):UC fun p_e p_b0=>Mo.den (ajb R_ p_e p_b0):=fun _ _=>fH Tryz.func215
def af5(R_:af4)(p_l:List aP):(Int×Bool×(List Int))→Mo ((Int×Bool×(List Int))⊕(Bool×(List Int))):=fun(v0,v1,l0)=>
 .iB (decide ((v0:Int)<(p_l.length:Int))) (.stop)<|
 .rt [] 3 (.inr (v1,l0))
def ajd(R_:af4)(p_l:List aP)(p_b0:aH):Mo (aH):=
 .nu p_l aP.lf<|
 .ask (Q26 (p_l.length:Int) p_b0) fun r0 h0=>
 .say [.kZ [0,1] (.tup []) [.box 75 (.agg [.own 2,.b_ r0.eH]),.dead,.row 5 1 (r0.bJ.map (lfK .u8))],.num p_l.length] (okc (iF _ _ _ h0) (ok1 (ln_ p_l aP.lf)))<|
 .l1 Tryz.f279 2 [1,1,0] 0 (.exit 0) (fun(v0,v1,l0)=>⟨[(0,.ptr 0 0),(2,.raw (.func (.func 215) #[] #[])),(12,.lf (.rows 11 (p_l.map aP.lf))),(13,.i_ (p_l.length:Int)),(14,.i_ v0)],[.box 75 (.agg [.own 2,.b_ v1]),.dead,.row 5 1 (l0.map (lfK .u8))]⟩) (fun r_=>⟨[],[.box 75 (.agg [.own 2,.b_ r_.1]),.dead,.row 5 1 (r_.2.map (lfK .u8))]⟩) (af5 R_ p_l) (0,r0.eH,r0.bJ) fun r1=>
 .ret ⟨[.mvn 2],[],[(3,2)],3⟩ (aH.mk r1.2 r1.1)
theorem aje(R_:af4):ad5 fun p_l p_b0=>Mo.den (ajd R_ p_l p_b0):=fun _ _=>fH Tryz.func279
def Fq:Nat→af4
 |0=>{ m1:=fun p_e p_b0=>none,ok1:=fun _ _ _ h=>(by cases h),m2:=fun p_l p_b0=>none,ok2:=fun _ _ _ h=>(by cases h) }
 |n_+1=>{ m1:=fun p_e p_b0=>Mo.den (ajb (Fq n_) p_e p_b0),ok1:=ajc (Fq n_),m2:=fun p_l p_b0=>Mo.den (ajd (Fq n_) p_l p_b0),ok2:=aje (Fq n_) }
def avh(p_e:aP)(p_b0:aH):Option (aH):=(Fq FU).m1 p_e p_b0
theorem anU:UC avh:=(Fq FU).ok1
abbrev UD(m:aO→aH→Option (aH)):Prop:=∀p_p p_b0,FH (m p_p p_b0) 138 [.ptr 0 0,.dat (aO.lf1 p_p)] [.box 75 (.agg [.own 1,.b_ p_b0.eH]),.row 5 1 (p_b0.bJ.map (lfK .u8))] (fun _=>.tup []) (fun r=>[.box 75 (.agg [.own 2,.b_ r.eH]),.dead,.row 5 1 (r.bJ.map (lfK .u8))])
abbrev ad6(m:(List aO)→aH→Option (aH)):Prop:=∀p_l p_b0,FH (m p_l p_b0) 216 [.ptr 0 0,.lf (.rows 25 (p_l.map aO.lf)),.raw (.func (.func 138) #[] #[])] [.box 75 (.agg [.own 1,.b_ p_b0.eH]),.row 5 1 (p_b0.bJ.map (lfK .u8))] (fun _=>.tup []) (fun r=>[.box 75 (.agg [.own 2,.b_ r.eH]),.dead,.row 5 1 (r.bJ.map (lfK .u8))])
structure af6 where
 m1:(p_p:aO)→(p_b0:aH)→Option (aH)
 ok1:UD m1
 m2:(p_l:List aO)→(p_b0:aH)→Option (aH)
 ok2:ad6 m2
def ajf(R_:af6)(p_p:aO)(p_b0:aH):Mo (aH):=
 .cH [0,1] (iF p_p.fOp p_b0) fun r0 _=>
 .cH [0,3] (Ir p_p.cO r0) fun r1 _=>
 .cH [0,4] (vC p_p.fArg r1) fun r2 _=>
 .cH [0,5] (ad4 p_p.fArgs r2) fun r3 _=>
 .cH [0,6] (iF p_p.fN r3) fun r4 _=>
 .cH [0,7] (iF p_p.fM r4) fun r5 _=>
 .cH [0,8] (iF p_p.dY.aF r5) fun r6 _=>
 .cH [0,9] (anT p_p.dY.bF r6) fun r7 _=>
 .cH [0,10] (iF p_p.dY.fR r7) fun r8 _=>
 .cH [0,11] (anU p_p.fExpr r8) fun r9 _=>
 .cH [0,12] (R_.ok2 p_p.bC r9) fun r10 _=>
 .ret ⟨[.kill 2,.mvn 13],[],[(14,2)],3⟩ (r10)
theorem ajg(R_:af6):UD fun p_p p_b0=>Mo.den (ajf R_ p_p p_b0):=fun _ _=>fH Tryz.func138
def af7(R_:af6)(p_l:List aO):(Int×Bool×(List Int))→Mo ((Int×Bool×(List Int))⊕(Bool×(List Int))):=fun(v0,v1,l0)=>
 .iB (decide ((v0:Int)<(p_l.length:Int))) (.stop)<|
 .rt [] 3 (.inr (v1,l0))
def ajh(R_:af6)(p_l:List aO)(p_b0:aH):Mo (aH):=
 .nu p_l aO.lf<|
 .ask (Q26 (p_l.length:Int) p_b0) fun r0 h0=>
 .say [.kZ [0,1] (.tup []) [.box 75 (.agg [.own 2,.b_ r0.eH]),.dead,.row 5 1 (r0.bJ.map (lfK .u8))],.num p_l.length] (okc (iF _ _ _ h0) (ok1 (ln_ p_l aO.lf)))<|
 .l1 Tryz.f216 2 [1,1,0] 0 (.exit 0) (fun(v0,v1,l0)=>⟨[(0,.ptr 0 0),(2,.raw (.func (.func 138) #[] #[])),(12,.lf (.rows 25 (p_l.map aO.lf))),(13,.i_ (p_l.length:Int)),(14,.i_ v0)],[.box 75 (.agg [.own 2,.b_ v1]),.dead,.row 5 1 (l0.map (lfK .u8))]⟩) (fun r_=>⟨[],[.box 75 (.agg [.own 2,.b_ r_.1]),.dead,.row 5 1 (r_.2.map (lfK .u8))]⟩) (af7 R_ p_l) (0,r0.eH,r0.bJ) fun r1=>
 .ret ⟨[.mvn 2],[],[(3,2)],3⟩ (aH.mk r1.2 r1.1)
theorem aji(R_:af6):ad6 fun p_l p_b0=>Mo.den (ajh R_ p_l p_b0):=fun _ _=>fH Tryz.func216
def Fv:Nat→af6
 |0=>{ m1:=fun p_p p_b0=>none,ok1:=fun _ _ _ h=>(by cases h),m2:=fun p_l p_b0=>none,ok2:=fun _ _ _ h=>(by cases h) }
 |n_+1=>{ m1:=fun p_p p_b0=>Mo.den (ajf (Fv n_) p_p p_b0),ok1:=ajg (Fv n_),m2:=fun p_l p_b0=>Mo.den (ajh (Fv n_) p_l p_b0),ok2:=aji (Fv n_) }
def avi(p_p:aO)(p_b0:aH):Option (aH):=(Fv FU).m1 p_p p_b0
theorem anV:UD avi:=(Fv FU).ok1
def ar5(p_x:aQ)(p_b0:aH):Mo (aH):=
 .cH [0,1] (vw p_x.fName p_b0) fun r0 _=>
 .cH [0,3] (iF p_x.aF r0) fun r1 _=>
 .cH [0,4] (anS p_x.gq r1) fun r2 _=>
 .cH [0,5] (o9 p_x.gB r2) fun r3 _=>
 .cH [0,6] (o9 p_x.lF r3) fun r4 _=>
 .cH [0,7] (o9 p_x.jr r4) fun r5 _=>
 .cH [0,8] (anV p_x.bG r5) fun r6 _=>
 .ret ⟨[.kill 2,.mvn 9],[],[(10,2)],3⟩ (r6)
def avj(p_x:aQ)(p_b0:aH):Option (aH):=Mo.den (ar5 p_x p_b0)
theorem anW(p_x:aQ)(p_b0:aH):FH (avj p_x p_b0) 78 [.ptr 0 0,.dat (aQ.lf1 p_x)] [.box 75 (.agg [.own 1,.b_ p_b0.eH]),.row 5 1 (p_b0.bJ.map (lfK .u8))] (fun _=>.tup []) (fun r=>[.box 75 (.agg [.own 2,.b_ r.eH]),.dead,.row 5 1 (r.bJ.map (lfK .u8))]):=fH Tryz.func78
def af8(p_l:List aQ):(Int×Bool×(List Int))→Mo ((Int×Bool×(List Int))⊕(Bool×(List Int))):=fun(v0,v1,l0)=>
 .iB (decide ((v0:Int)<(p_l.length:Int))) (.stop)<|
 .rt [] 3 (.inr (v1,l0))
def ar6(p_l:List aQ)(p_b0:aH):Mo (aH):=
 .nu p_l aQ.lf<|
 .ask (Q26 (p_l.length:Int) p_b0) fun r0 h0=>
 .say [.kZ [0,1] (.tup []) [.box 75 (.agg [.own 2,.b_ r0.eH]),.dead,.row 5 1 (r0.bJ.map (lfK .u8))],.num p_l.length] (okc (iF _ _ _ h0) (ok1 (ln_ p_l aQ.lf)))<|
 .l1 Tryz.f134 2 [1,1,0] 0 (.exit 0) (fun(v0,v1,l0)=>⟨[(0,.ptr 0 0),(2,.raw (.func (.func 78) #[] #[])),(12,.lf (.rows 31 (p_l.map aQ.lf))),(13,.i_ (p_l.length:Int)),(14,.i_ v0)],[.box 75 (.agg [.own 2,.b_ v1]),.dead,.row 5 1 (l0.map (lfK .u8))]⟩) (fun r_=>⟨[],[.box 75 (.agg [.own 2,.b_ r_.1]),.dead,.row 5 1 (r_.2.map (lfK .u8))]⟩) (af8 p_l) (0,r0.eH,r0.bJ) fun r1=>
 .ret ⟨[.mvn 2],[],[(3,2)],3⟩ (aH.mk r1.2 r1.1)
def avk(p_l:List aQ)(p_b0:aH):Option (aH):=Mo.den (ar6 p_l p_b0)
theorem anX(p_l:List aQ)(p_b0:aH):FH (avk p_l p_b0) 134 [.ptr 0 0,.lf (.rows 31 (p_l.map aQ.lf)),.raw (.func (.func 78) #[] #[])] [.box 75 (.agg [.own 1,.b_ p_b0.eH]),.row 5 1 (p_b0.bJ.map (lfK .u8))] (fun _=>.tup []) (fun r=>[.box 75 (.agg [.own 2,.b_ r.eH]),.dead,.row 5 1 (r.bJ.map (lfK .u8))]):=fH Tryz.func134
end
end Go.Proofs.YtflpefkohpjjpaaGreatDoor
