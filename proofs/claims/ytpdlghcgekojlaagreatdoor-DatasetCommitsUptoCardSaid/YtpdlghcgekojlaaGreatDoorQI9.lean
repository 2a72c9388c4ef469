/- Plain: numbers as bytes come to an end; loops with a map. -/
import Derived.Test.YtpdlghcgekojlaaGreatDoorQI8
import Derived.Test.YtpdlghcgekojlaaGreatDoorQINumP
import Derived.WideShapes
set_option linter.unusedSimpArgs false
set_option linter.unusedVariables false
namespace Go.Proofs.YtpdlghcgekojlaaGreatDoor
open Go.RowKit
theorem T.akO{α ρ:Type}{F:Int×List α→Option ((Int×List α)⊕ρ)}(Q:ρ→Prop)(step:∀(k:Nat) (m:List α),k≤100000000→m.length≤k→Tot (F ((k:Int),m)) (LP (fun v=>v.1=IntKind.wrap .i64 ((k:Int)+1)∧v.2.length≤k+1∧k<100000000) Q)):Tot (dA F FU (0,[])) Q:=
 T.ahu (fun v=>v.1) (fun v=>(v.2.length:Int)≤v.1) Q rfl (Int.le_refl _) fun k s hk hs hP=>by
  obtain⟨i,m⟩:=s
  obtain rfl:i=(k:Int):=hs
  have hP:(m.length:Int)≤(k:Int):=hP
  refine T.mono (step k m hk (by omega)) ?_
  rintro(v|r) h
  ·refine⟨h.1,?_,h.2.2⟩
   have h1:=h.1
   have h2:=h.2.1
   show(v.2.length:Int)≤v.1
   rw[h1,inc k (by omega)];omega
  exact h
theorem gB(v:aj)(h:aU v.lf1≤100000000):Tot (Q90 v) Any:=⟨_,KC v h,trivial⟩
theorem Au(a b:ByteArray):aje a b=some (yC a b):=rfl
theorem NK(p:List ByteArray)(h:p.length≤100000000):Q94 p=some (!(p.all nameB)):=by
 have key:Tot (abI p 0) (fun r=>match r with|.inl k=>0≤k∧p.all nameB=false|.inr _=>p.all nameB=true):=by
  refine T.lY p.length (by omega) (fun k s=>s=(k:Int)∧(p.take k).all nameB=true) _ ⟨rfl,by simp⟩ ?_ ?_
  ·rintro k s hk ⟨rfl,hv⟩
   have hx:=List.getElem?_eq_getElem hk
   simp only[zK,Mo.den,aN,aG,aH,aK,aJ,ltt hx,gid hx,cond_true,Option.bind_some,ZU]
   cases hb:nameB p[k] with
   |false=>exact T.ret ⟨by omega,aeA _ hx hb⟩
   |true=>exact T.ret ⟨inc k (by omega),by rw[Sr _ hx,hv,hb];rfl⟩
  rintro s ⟨rfl,hv⟩
  simp only[zK,Mo.den,aN,aG,aH,aK,aJ,ltn,cond_false]
  exact T.ret (show p.all nameB=true by rw[List.take_length] at hv;exact hv)
 obtain⟨r,h1,hr⟩:=key
 simp only[Q94,ahS,Q48,ahR,Mo.den,aN,aG,aH,aK,aJ,h1,Option.bind_some]
 grind
theorem rE(p:List ByteArray):Q63 p=some (aiA p):=by
 unfold Q63 ahT Pv Px BI aiA
 simp only[Mo.den,aN,aG,aH,aK,aJ]
 by_cases h0:1≤p.length
 ·rw[decide_eq_true (show(1:Int)≤(p.length:Int) by omega), decide_eq_true h0]
  by_cases h1:p.length≤16
  ·rw[decide_eq_true (show(p.length:Int)≤16 by omega), decide_eq_true h1]
   simp only[cond_true,Option.bind_some,NK p (by omega),Bool.not_not,Bool.true_and]
  grind
 grind
theorem Gp(x:Int):0≤IntKind.wrap .u64 x∧IntKind.wrap .u64 x<18446744073709551616:=by
 rw[vH];omega
theorem anD{v:Int}(h:0≤v):qy .u64 v 7=((v.toNat/128:Nat):Int):=by
 obtain⟨a,rfl⟩:=Int.eq_ofNat_of_zero_le h
 rw[Int.toNat_natCast]
 show Int.fdiv (a:Int) (2^min (7:Int).toNat (IntKind.u64).bits)=_
 rw[show(2:Int)^min (7:Int).toNat (IntKind.u64).bits=((128:Nat):Int) from rfl,Int.fdiv_eq_ediv_of_nonneg _ (by omega)]
 omega
def grp(k:Nat)(v:Int):Prop:=0≤v∧v.toNat*128^k<18446744073709551616
theorem grp.next{k:Nat}{v:Int}(h:grp k v):grp (k+1) (qy .u64 v 7):=by
 rw[anD h.1]
 refine⟨by omega,?_⟩
 rw[Int.toNat_natCast,Nat.pow_succ,Nat.mul_comm (128^k) 128,←Nat.mul_assoc]
 exact Nat.lt_of_le_of_lt (Nat.mul_le_mul_right _ (Nat.div_mul_le_self _ _)) h.2
theorem grp.last{v:Int}(h:grp 10 v):decide ((128:Int)≤v)=false:=by
 have h1:=h.1
 have h2:=h.2
 grind
theorem ahv(n:Int):∃u,akq n=some u∧grp 0 u:=by
 simp only[akq,ad8,Mo.den,aN,aG,aH,aK,aJ]
 refine⟨_,rfl,?_⟩
 have h:∀a b:Int,0≤gW .xor .u64 a b∧gW .xor .u64 a b<18446744073709551616:=fun a b=>Gp _
 have:=h (afa .u64 (IntKind.wrap .u64 n) 1) (IntKind.wrap .u64 (qy .i64 n 63))
 exact⟨this.1,by rw[Nat.pow_zero];omega⟩
theorem iE(n:Int):Tot (Q61 n) Any:=by
 obtain⟨u,hu,hg⟩:=ahv n
 unfold Q61 aiw
 simp only[Mo.den,aN,aG,aH,aK,aJ,hu,Option.bind_some]
 refine T.bind (R:=Any) (T.lY 10 (by omega) (fun k s=>grp k s.2) _ hg ?_ ?_) fun _ _=>T.any
 ·rintro k ⟨c,v⟩ hk hv
  simp only[FZ,Mo.den,aN,aG,aH,aK,aJ]
  exact T.ite (fun _=>T.ret hv.next) fun _=>T.ret trivial
 rintro⟨c,v⟩ hv
 have hv:grp 10 v:=hv
 simp only[FZ,Mo.den,aN,aG,aH,aK,aJ,hv.last,cond_false]
 exact T.ret trivial
theorem rF(p_kind:Int):Tot (aki p_kind) Any:=by
 show MT (adT p_kind) Any
 repeat' (first|exact MT.any|refine MT.say ?_|refine MT.ite (fun _=>?_) (fun _=>?_))
theorem iF(p_v:aj):Tot (Q85 p_v) Any:=by
 show MT (aio p_v) Any
 repeat' (first|exact MT.any|refine MT.say ?_|refine MT.ite (fun _=>?_) (fun _=>?_)|refine MT.kL ?_ (fun _ _=>?_)|refine⟨(show MT _ Any from ?_)⟩)
theorem vI(p_s:aA):Tot (Q23 p_s) Any:=by
 show MT (aip p_s) Any
 repeat' (first|exact MT.any|refine MT.say ?_|refine MT.ite (fun _=>?_) (fun _=>?_)|refine MT.kL ?_ (fun _ _=>?_)|exact⟨T.wk (iF _)⟩|refine⟨(show MT _ Any from ?_)⟩)
theorem xq(p_d:ak):Tot (Q72 p_d) Any:=by
 show MT (aiq p_d) Any
 repeat' (first|exact MT.any|refine MT.say ?_|refine MT.ite (fun _=>?_) (fun _=>?_)|refine MT.kL ?_ (fun _ _=>?_)|exact⟨T.wk (vI _)⟩|refine⟨(show MT _ Any from ?_)⟩)
theorem yI(p_e:bf):Tot (ami p_e) Any:=by
 show MT (adY p_e) Any
 repeat' (first|exact MT.any|refine MT.say ?_|refine MT.ite (fun _=>?_) (fun _=>?_)|refine MT.kL ?_ (fun _ _=>?_)|exact⟨T.wk (iF _)⟩|refine⟨(show MT _ Any from ?_)⟩)
theorem yJ(p_p:aS):Tot (amj p_p) Any:=by
 show MT (adZ p_p) Any
 repeat' (first|exact MT.any|refine MT.say ?_|refine MT.ite (fun _=>?_) (fun _=>?_)|refine MT.kL ?_ (fun _ _=>?_)|exact⟨T.wk (yI _)⟩|exact⟨T.wk (iF _)⟩|refine⟨(show MT _ Any from ?_)⟩)
theorem xu(p_x:aW):Tot (Q55 p_x) Any:=by
 show MT (air p_x) Any
 repeat' (first|exact MT.any|refine MT.say ?_|refine MT.ite (fun _=>?_) (fun _=>?_)|refine MT.kL ?_ (fun _ _=>?_)|exact⟨T.wk (yJ _)⟩|refine⟨(show MT _ Any from ?_)⟩)
theorem xw(p_w:ay):Tot (Q24 p_w) Any:=by
 show MT (ais p_w) Any
 repeat' (first|exact MT.any|refine MT.say ?_|refine MT.ite (fun _=>?_) (fun _=>?_)|refine MT.kL ?_ (fun _ _=>?_)|exact⟨T.wk (xu _)⟩|exact⟨T.wk (xq _)⟩|exact⟨T.wk (iF _)⟩|refine⟨(show MT _ Any from ?_)⟩)
theorem pW(p_w:ay):Tot (Q17 p_w) Any:=by
 show MT (ait p_w) Any
 refine MT.ask (R:=Any) ?_ ?_
 ·exact T.wk (rF p_w.aB)
 intro r8150 h8151 _
 refine MT.say (MT.ask (R:=Any) ?_ ?_)
 ·show MT (Ri p_w r8150) Any
  refine MT.ite (fun c8153=>?_) (fun c8153=>?_)
  ·exact MT.say MT.any
  exact MT.say MT.any
 intro r8155 h8156 _
 refine MT.say (MT.ask (R:=Any) ?_ ?_)
 ·show MT (Rj r8150 r8155) Any
  refine MT.ite (fun c8158=>?_) (fun c8158=>?_)
  ·exact MT.say MT.any
  exact MT.say MT.any
 intro r8160 h8161 _
 refine MT.say (MT.ask (R:=Any) ?_ ?_)
 ·show MT (JU r8150 r8160) Any
  refine MT.ite (fun c8163=>?_) (fun c8163=>?_)
  ·exact MT.say MT.any
  exact MT.say MT.any
 intro r8165 h8166 _
 refine MT.say (MT.ask (R:=Any) ?_ ?_)
 ·show MT (JV r8150 r8165) Any
  refine MT.ite (fun c8168=>?_) (fun c8168=>?_)
  ·exact MT.say MT.any
  exact MT.say MT.any
 intro r8170 h8171 _
 refine MT.say (MT.ask (R:=Any) ?_ ?_)
 ·show MT (JW r8150 r8170) Any
  refine MT.ite (fun c8173=>?_) (fun c8173=>?_)
  ·exact MT.say MT.any
  exact MT.say MT.any
 intro r8175 h8176 _
 refine MT.say (MT.ask (R:=Any) ?_ ?_)
 ·show MT (JX r8150 r8175) Any
  refine MT.ite (fun c8178=>?_) (fun c8178=>?_)
  ·exact MT.say MT.any
  exact MT.say MT.any
 intro r8180 h8181 _
 refine MT.say (MT.ask (R:=Any) ?_ ?_)
 ·show MT (JY r8150 r8180) Any
  refine MT.ite (fun c8183=>?_) (fun c8183=>?_)
  ·exact MT.say MT.any
  exact MT.say MT.any
 intro r8185 h8186 _
 refine MT.say (MT.ask (R:=Any) ?_ ?_)
 ·show MT (JZ r8150 r8185) Any
  refine MT.ite (fun c8188=>?_) (fun c8188=>?_)
  ·exact MT.say MT.any
  exact MT.say MT.any
 intro r8190 h8191 _
 refine MT.say (MT.ask (R:=Any) ?_ ?_)
 ·show MT (J3 r8150 r8190) Any
  refine MT.ite (fun c8193=>?_) (fun c8193=>?_)
  ·exact MT.say MT.any
  exact MT.say MT.any
 intro r8195 h8196 _
 refine MT.say (MT.ask (R:=Any) ?_ ?_)
 ·show MT (J4 r8150 r8195) Any
  refine MT.ite (fun c8198=>?_) (fun c8198=>?_)
  ·exact MT.say MT.any
  exact MT.say MT.any
 intro r8200 h8201 _
 refine MT.say (MT.ask (R:=Any) ?_ ?_)
 ·exact T.wk (xw r8200)
 intro r8466 h8467 _
 exact MT.say MT.any
theorem vJ(p_w:ay):Tot (amk p_w) Any:=by
 show MT (ad5 p_w) Any
 repeat' (first|exact MT.any|refine MT.say ?_|refine MT.ite (fun _=>?_) (fun _=>?_)|refine MT.kL ?_ (fun _ _=>?_)|refine⟨(show MT _ Any from ?_)⟩)
theorem uj(p_l:List Int)(h_p_l:bQ (p_l.map lfI)≤100000000):Tot (Q58 p_l) Any:=by
 have:=Sl p_l
 show MT (aiu p_l) Any
 (repeat refine MT.say ?_);refine MT.jh (R:=Any) ?_ ?_ ?_
 ·refine T.cnt (fun _=>True) ?_
  intro k1 hk1
  show MT (J5 p_l ((k1:Nat):Int)) _
  refine MT.ite (fun c8621=>?_) (fun c8621=>?_)
  ·have c8621':=of_decide_eq_true c8621
   (repeat refine MT.say ?_);refine MT.ask (dU p_l ((k1:Nat):Int) (by omega) (by omega)) (fun x8622 _ hx2=>?_)
   (repeat refine MT.say ?_);refine MT.ask (R:=fun b_=>(b_=true→True)∧(b_=false→¬((x8622:Int)<0)∧¬((8:Int)≤x8622)∧True)) ?_ ?_
   ·show MT (Rk p_l ((k1:Nat):Int) x8622) _
    refine MT.ite (fun c8624=>?_) (fun c8624=>?_)
    ·have c8624':=of_decide_eq_true c8624
     (repeat refine MT.say ?_);exact MT.ret ⟨(fun _=>trivial),(fun h_=>by cases h_)⟩
    have c8624':=of_decide_eq_false c8624
    (repeat refine MT.say ?_);exact MT.ret ⟨(fun _=>trivial),(fun h_=>⟨(by first|assumption|omega),(of_decide_eq_false h_),trivial⟩)⟩
   intro r8626 h8627 f_r8626
   (repeat refine MT.say ?_);refine MT.ask (R:=fun b_=>(b_=true→True)∧(b_=false→r8626=false∧True)) ?_ ?_
   ·show MT (Rl p_l r8626 ((k1:Nat):Int) x8622) _
    refine MT.ite (fun c8628=>?_) (fun c8628=>?_)
    ·(repeat refine MT.say ?_);exact MT.ret ⟨(fun _=>trivial),(fun h_=>by cases h_)⟩
    have q3:=f_r8626.2 (c8628)
    (repeat refine MT.say ?_);refine MT.ite (fun c8629=>?_) (fun c8629=>?_)
    ·have c8629':=of_decide_eq_true c8629
     (repeat refine MT.say ?_);refine MT.ask (dU p_l (IntKind.wrap .i64 (((k1:Nat):Int)-1)) (by rw[w64 (by omega) (by omega)];omega) (by rw[w64 (by omega) (by omega)];omega)) (fun x8630 _ hx4=>?_)
     (repeat refine MT.say ?_);exact MT.ret ⟨(fun _=>trivial),(fun h_=>⟨(by first|assumption|omega),trivial⟩)⟩
    have c8629':=of_decide_eq_false c8629
    (repeat refine MT.say ?_);exact MT.ret ⟨(fun h_=>by cases h_),(fun h_=>⟨(by first|assumption|omega),trivial⟩)⟩
   intro r8633 h8634 f_r8633
   (repeat refine MT.say ?_);refine MT.ite (fun c8635=>?_) (fun c8635=>?_)
   ·(repeat refine MT.say ?_);exact MT.ret trivial
   have q5:=f_r8633.2 (c8635)
   have q6:=f_r8626.2 (q5.1)
   (repeat refine MT.say ?_);exact MT.ret ⟨rfl,by omega⟩
  have c8621':=of_decide_eq_false c8621
  (repeat refine MT.say ?_);exact MT.ret trivial
 ·intro o8638 h8637 _
  (repeat refine MT.say ?_);exact MT.any
 intro o8639 h8637 _
 (repeat refine MT.say ?_);exact MT.any
theorem tH(p_v:aj)(h_p_v:aU p_v.lf1≤100000000):Tot (Q75 p_v) Any:=by
 have:=bZ p_v
 show MT (aiv p_v) Any
 repeat' (first|exact MT.any|refine MT.say ?_|refine MT.ite (fun _=>?_) (fun _=>?_)|refine MT.kL ?_ (fun _ _=>?_)|exact⟨T.wk (gB _ (by first|omega|decide))⟩|refine⟨(show MT _ Any from ?_)⟩)
theorem Aw(p_x:Int):Tot (ajL p_x) Any:=by
 show MT (acY p_x) Any
 repeat' (first|exact MT.any|refine MT.say ?_|refine MT.ite (fun _=>?_) (fun _=>?_))
theorem jl(p_x:Int)(p_y:Int):Tot (Q95 p_x p_y) Any:=by
 show MT (Xe p_x p_y) Any
 repeat' (first|exact MT.any|refine MT.say ?_|refine MT.ite (fun _=>?_) (fun _=>?_)|refine MT.kL ?_ (fun _ _=>?_)|exact⟨T.wk (Aw _)⟩)
theorem yK(n_:Nat):∀(p_a:aj) (p_b:aj),aU p_a.lf1<n_→aU p_a.lf1≤100000000→aU p_b.lf1≤100000000→Tot ((lg n_).m1 p_a p_b) Any:=by
 induction n_ with
 |zero=>simp
 |succ n_ ih=>
  intro p_a p_b h_ h_p_a h_p_b
  have:=bZ p_a
  have:=gI p_a.aX
  have:=eY p_a.bC
  have:=bZ p_b
  have:=gI p_b.aX
  have:=eY p_b.bC
  show MT (Qh (lg n_) p_a p_b) Any
  refine MT.ite (fun c3465=>?_) (fun c3465=>?_)
  ·have c3465':¬(p_a.aB=p_b.aB):=by simpa using c3465
   refine MT.say (MT.ask (R:=Any) ?_ ?_)
   ·exact T.wk (jl p_a.aB p_b.aB )
   intro r3468 h3469 _
   exact MT.say MT.any
  have c3465':p_a.aB=p_b.aB:=by simpa using c3465
  refine MT.say (MT.ask (R:=Any) ?_ ?_)
  ·show MT (Fg (lg n_) p_a p_b) Any
   refine MT.ite (fun c3668=>?_) (fun c3668=>?_)
   ·have c3668':p_a.aB=3:=by simpa using c3668
    exact MT.say MT.any
   have c3668':¬(p_a.aB=3):=by simpa using c3668
   refine MT.say (MT.ite (fun c3669=>?_) (fun c3669=>?_))
   ·have c3669':p_a.aB=9:=by simpa using c3669
    exact MT.say MT.any
   have c3669':¬(p_a.aB=9):=by simpa using c3669
   exact MT.say MT.any
  intro r3671 h3672 _
  refine MT.say (MT.ite (fun c3754=>?_) (fun c3754=>?_))
  ·refine MT.say (MT.ask (R:=Any) ?_ ?_)
   ·exact T.wk (jl p_a.dG p_b.dG )
   intro r3757 h3758 _
   exact MT.say MT.any
  refine MT.say (MT.ask (R:=Any) ?_ ?_)
  ·show MT (Fh (lg n_) p_a p_b) Any
   refine MT.ite (fun c3759=>?_) (fun c3759=>?_)
   ·have c3759':p_a.aB=4:=by simpa using c3759
    exact MT.say MT.any
   have c3759':¬(p_a.aB=4):=by simpa using c3759
   refine MT.say (MT.ite (fun c3760=>?_) (fun c3760=>?_))
   ·have c3760':p_a.aB=7:=by simpa using c3760
    exact MT.say MT.any
   have c3760':¬(p_a.aB=7):=by simpa using c3760
   exact MT.say MT.any
  intro r3762 h3763 _
  refine MT.say (MT.ite (fun c3837=>?_) (fun c3837=>?_))
  ·refine MT.say (MT.ask (R:=Any) ?_ ?_)
   ·exact T.wk (T.val (Au p_a.fText p_b.fText))
   intro r3840 h3841 _
   exact MT.say MT.any
  refine MT.say (MT.ite (fun c3912=>?_) (fun c3912=>?_))
  ·have c3912':p_a.aB=6:=by simpa using c3912
   refine MT.say (MT.jh (R:=Any) ?_ ?_ ?_)
   ·refine T.cnt (fun _=>True) ?_
    intro k7 hk7
    show MT (qW (lg n_) p_a p_b ((k7:Nat):Int)) _
    refine MT.ite (fun c3922=>?_) (fun c3922=>?_)
    ·have c3922':=of_decide_eq_true c3922
     refine MT.say (MT.ask (dU p_a.aX ((k7:Nat):Int) (by omega) (by omega)) (fun x3923 _ hx8=>?_))
     have:=iK hx8
     have:=bZ x3923
     refine MT.say (MT.ask (dU p_b.aX ((k7:Nat):Int) (by omega) (by omega)) (fun x3925 _ hx9=>?_))
     have:=iK hx9
     have:=bZ x3925
     refine MT.say (MT.ask (R:=Any) ?_ ?_)
     ·grind
     intro r3927 h3928 _
     refine MT.say (MT.ite (fun c3929=>?_) (fun c3929=>?_))
     ·have c3929':¬(r3927=0):=by simpa using c3929
      exact MT.say (MT.ret trivial)
     have c3929':r3927=0:=by simpa using c3929
     exact MT.say (MT.ret ⟨rfl,by omega⟩)
    have c3922':=of_decide_eq_false c3922
    exact MT.say (MT.ret trivial)
   ·intro o3935 h3934 _
    exact MT.say MT.any
   intro o3936 h3934 _
   refine MT.say (MT.ask (R:=Any) ?_ ?_)
   ·exact T.wk (jl (p_a.aX.length:Int) (p_b.aX.length:Int) )
   intro r3939 h3940 _
   exact MT.say MT.any
  have c3912':¬(p_a.aB=6):=by simpa using c3912
  refine MT.say (MT.ite (fun c3984=>?_) (fun c3984=>?_))
  ·have c3984':p_a.aB=5:=by simpa using c3984
   refine MT.say (MT.jh (R:=Any) ?_ ?_ ?_)
   ·refine T.cnt (fun _=>True) ?_
    intro k10 hk10
    show MT (qX (lg n_) p_a p_b ((k10:Nat):Int)) _
    refine MT.ite (fun c4001=>?_) (fun c4001=>?_)
    ·have c4001':=of_decide_eq_true c4001
     refine MT.say (MT.ask (dU p_a.bC ((k10:Nat):Int) (by omega) (by omega)) (fun x4002 _ hx11=>?_))
     have:=eH hx11
     have:=dR x4002
     refine MT.say (MT.ask (dU p_b.bC ((k10:Nat):Int) (by omega) (by omega)) (fun x4004 _ hx12=>?_))
     have:=eH hx12
     have:=dR x4004
     refine MT.say (MT.ask (R:=Any) ?_ ?_)
     ·exact T.wk (T.val (Au x4002.fName x4004.fName))
     intro r4006 h4007 _
     refine MT.say (MT.ite (fun c4008=>?_) (fun c4008=>?_))
     ·have c4008':¬(r4006=0):=by simpa using c4008
      exact MT.say (MT.ret trivial)
     have c4008':r4006=0:=by simpa using c4008
     refine MT.say (MT.ask (dU p_a.bC ((k10:Nat):Int) (by omega) (by omega)) (fun x4009 _ hx13=>?_))
     have:=eH hx13
     have:=dR x4009
     have:=bZ x4009.fValue
     refine MT.say (MT.ask (dU p_b.bC ((k10:Nat):Int) (by omega) (by omega)) (fun x4011 _ hx14=>?_))
     have:=eH hx14
     have:=dR x4011
     have:=bZ x4011.fValue
     refine MT.say (MT.ask (R:=Any) ?_ ?_)
     ·grind
     intro r4013 h4014 _
     refine MT.say (MT.ite (fun c4015=>?_) (fun c4015=>?_))
     ·have c4015':¬(r4013=0):=by simpa using c4015
      exact MT.say (MT.ret trivial)
     have c4015':r4013=0:=by simpa using c4015
     exact MT.say (MT.ret ⟨rfl,by omega⟩)
    have c4001':=of_decide_eq_false c4001
    exact MT.say (MT.ret trivial)
   ·intro o4023 h4022 _
    exact MT.say MT.any
   intro o4024 h4022 _
   refine MT.say (MT.ask (R:=Any) ?_ ?_)
   ·exact T.wk (jl (p_a.bC.length:Int) (p_b.bC.length:Int) )
   intro r4027 h4028 _
   exact MT.say MT.any
  have c3984':¬(p_a.aB=5):=by simpa using c3984
  exact MT.say MT.any
theorem Az(p_a:aj)(p_b:aj)(h_p_a:aU p_a.lf1≤100000000)(h_p_b:aU p_b.lf1≤100000000):Tot (Q12 p_a p_b) Any:=yK FU p_a p_b (by have:=gq;omega) h_p_a h_p_b
theorem tZ(p_a:aj)(p_b:aj)(h_p_a:aU p_a.lf1≤100000000)(h_p_b:aU p_b.lf1≤100000000):Tot (YW p_a p_b) Any:=by
 have:=bZ p_a
 have:=bZ p_b
 show MT (MW p_a p_b) Any
 repeat' (first|exact MT.any|refine MT.say ?_|refine MT.ite (fun _=>?_) (fun _=>?_)|refine MT.kL ?_ (fun _ _=>?_)|exact⟨T.wk (Az _ _ (by first|omega|decide) (by first|omega|decide))⟩)
theorem AA(n_:Nat):∀(p_v:aj),aU p_v.lf1<n_→aU p_v.lf1≤100000000→Tot ((pI n_).m1 p_v) Any:=by
 induction n_ with
 |zero=>simp
 |succ n_ ih=>
  intro p_v h_ h_p_v
  have:=bZ p_v
  have:=gI p_v.aX
  have:=eY p_v.bC
  show MT (ad9 (pI n_) p_v) Any
  refine MT.ask (R:=Any) ?_ ?_
  ·show MT (J8 (pI n_) p_v) Any
   refine MT.ask (R:=Any) ?_ ?_
   ·show MT (Ro (pI n_) p_v) Any
    refine MT.ite (fun c8838=>?_) (fun c8838=>?_)
    ·have c8838':p_v.aB=3:=by simpa using c8838
     exact MT.say MT.any
    have c8838':¬(p_v.aB=3):=by simpa using c8838
    exact MT.say MT.any
   intro r8840 h8841 _
   refine MT.say (MT.ite (fun c8842=>?_) (fun c8842=>?_))
   ·refine MT.say (MT.ask (R:=Any) ?_ ?_)
    ·exact T.wk (iE p_v.dG )
    intro r8843 h8844 _
    exact MT.say MT.any
   refine MT.say (MT.ite (fun c8845=>?_) (fun c8845=>?_))
   ·have c8845':p_v.aB=9:=by simpa using c8845
    exact MT.say MT.any
   have c8845':¬(p_v.aB=9):=by simpa using c8845
   refine MT.say (MT.ask (R:=Any) ?_ ?_)
   ·show MT (Rq (pI n_) p_v) Any
    refine MT.ite (fun c8846=>?_) (fun c8846=>?_)
    ·have c8846':p_v.aB=4:=by simpa using c8846
     exact MT.say MT.any
    have c8846':¬(p_v.aB=4):=by simpa using c8846
    exact MT.say MT.any
   intro r8848 h8849 _
   refine MT.say (MT.ite (fun c8850=>?_) (fun c8850=>?_))
   ·refine MT.say (MT.ask (R:=Any) ?_ ?_)
    ·exact T.wk (iE (p_v.fText.size:Int) )
    intro r8851 h8852 _
    exact MT.say MT.any
   refine MT.say (MT.ite (fun c8853=>?_) (fun c8853=>?_))
   ·have c8853':p_v.aB=8:=by simpa using c8853
    exact MT.say MT.any
   have c8853':¬(p_v.aB=8):=by simpa using c8853
   refine MT.say (MT.ite (fun c8854=>?_) (fun c8854=>?_))
   ·have c8854':p_v.aB=6:=by simpa using c8854
    refine MT.say (MT.ask (R:=Any) ?_ ?_)
    ·exact T.wk (iE (p_v.aX.length:Int) )
    intro r8855 h8856 _
    refine MT.say (MT.ask (R:=Any) ?_ ?_)
    ·refine T.amF (fun _=>True) ?_
     intro v8862 k15 hk15
     show MT (J6 (pI n_) p_v (v8862,((k15:Nat):Int))) _
     refine MT.ite (fun c8864=>?_) (fun c8864=>?_)
     ·have c8864':=of_decide_eq_true c8864
      refine MT.say (MT.ask (dU p_v.aX ((k15:Nat):Int) (by omega) (by omega)) (fun x8865 _ hx16=>?_))
      have:=iK hx16
      have:=bZ x8865
      refine MT.say (MT.ask (R:=Any) ?_ ?_)
      ·grind
      intro r8867 h8868 _
      exact MT.say (MT.ret ⟨rfl,by omega⟩)
     have c8864':=of_decide_eq_false c8864
     exact MT.say (MT.ret trivial)
    intro r8870 h8871 _
    exact MT.say MT.any
   have c8854':¬(p_v.aB=6):=by simpa using c8854
   refine MT.say (MT.ite (fun c8872=>?_) (fun c8872=>?_))
   ·have c8872':p_v.aB=5:=by simpa using c8872
    refine MT.say (MT.ask (R:=Any) ?_ ?_)
    ·exact T.wk (iE (p_v.bC.length:Int) )
    intro r8873 h8874 _
    refine MT.say (MT.ask (R:=Any) ?_ ?_)
    ·refine T.amF (fun _=>True) ?_
     intro v8882 k17 hk17
     show MT (J7 (pI n_) p_v (v8882,((k17:Nat):Int))) _
     refine MT.ite (fun c8884=>?_) (fun c8884=>?_)
     ·have c8884':=of_decide_eq_true c8884
      refine MT.say (MT.ask (dU p_v.bC ((k17:Nat):Int) (by omega) (by omega)) (fun x8885 _ hx18=>?_))
      have:=eH hx18
      have:=dR x8885
      have:=bZ x8885.fValue
      refine MT.say (MT.ask (R:=Any) ?_ ?_)
      ·exact T.wk (iE (x8885.fName.size:Int) )
      intro r8887 h8888 _
      refine MT.say (MT.ask (R:=Any) ?_ ?_)
      ·grind
      intro r8889 h8890 _
      exact MT.say (MT.ret ⟨rfl,by omega⟩)
     have c8884':=of_decide_eq_false c8884
     exact MT.say (MT.ret trivial)
    intro r8892 h8893 _
    exact MT.say MT.any
   have c8872':¬(p_v.aB=5):=by simpa using c8872
   exact MT.say MT.any
  intro r8900 h8901 _
  exact MT.say MT.any
theorem BX(p_v:aj)(h_p_v:aU p_v.lf1≤100000000):Tot (Q44 p_v) Any:=AA FU p_v (by have:=gq;omega) h_p_v
theorem BZ(p_v:aj)(h_p_v:aU p_v.lf1≤100000000):Tot (aml p_v) Any:=by
 have:=bZ p_v
 show MT (aea p_v) Any
 repeat' (first|exact MT.any|refine MT.say ?_|refine MT.ite (fun _=>?_) (fun _=>?_)|refine MT.kL ?_ (fun _ _=>?_)|exact⟨T.wk (BX _ (by first|omega|decide))⟩|exact⟨T.wk (gB _ (by first|omega|decide))⟩)
theorem yL(p_doc:aj)(p_key:aj)(h_p_doc:aU p_doc.lf1≤100000000)(h_p_key:aU p_key.lf1≤100000000):Tot (Q64 p_doc p_key) Any:=by
 have:=bZ p_doc
 have:=eY p_doc.bC
 have:=bZ p_key
 show MT (aix p_doc p_key) Any
 refine MT.ask (R:=fun b_=>(b_=true→True)∧(b_=false→p_doc.aB=5∧True)) ?_ ?_
 ·show MT (Rt p_doc p_key) _
  refine MT.ite (fun c8696=>?_) (fun c8696=>?_)
  ·have c8696':¬(p_doc.aB=5):=by simpa using c8696
   (repeat refine MT.say ?_);exact MT.ret ⟨(fun _=>trivial),(fun h_=>by cases h_)⟩
  have c8696':p_doc.aB=5:=by simpa using c8696
  (repeat refine MT.say ?_);refine MT.ask (R:=Any) ?_ ?_
  ·exact T.wk (gB p_doc (by first|omega|(simp;done)|decide))
  intro r8697 h8698 _
  (repeat refine MT.say ?_);exact MT.ret ⟨(fun _=>trivial),(fun h_=>⟨(by first|assumption|omega),trivial⟩)⟩
 intro r8700 h8701 f_r8700
 (repeat refine MT.say ?_);refine MT.ask (R:=fun b_=>(b_=true→True)∧(b_=false→r8700=false∧¬((p_doc.bC.length:Int)=0)∧True)) ?_ ?_
 ·show MT (Ru p_doc p_key r8700) _
  refine MT.ite (fun c8702=>?_) (fun c8702=>?_)
  ·(repeat refine MT.say ?_);exact MT.ret ⟨(fun _=>trivial),(fun h_=>by cases h_)⟩
  have q19:=f_r8700.2 (c8702)
  (repeat refine MT.say ?_);exact MT.ret ⟨(fun _=>trivial),(fun h_=>⟨(by first|assumption|omega),(by simpa using h_),trivial⟩)⟩
 intro r8704 h8705 f_r8704
 (repeat refine MT.say ?_);refine MT.ite (fun c8707=>?_) (fun c8707=>?_)
 ·(repeat refine MT.say ?_);exact MT.any
 have q20:=f_r8704.2 (c8707)
 have q21:=f_r8700.2 (q20.1)
 (repeat refine MT.say ?_);refine MT.ask (R:=Any) ?_ ?_
 ·show MT (J9 p_doc p_key) Any
  refine MT.ask (dU p_doc.bC 0 (by omega) (by omega)) (fun x8715 _ hx22=>?_)
  have:=eH hx22
  have:=dR x8715
  (repeat refine MT.say ?_);refine MT.ite (fun c8717=>?_) (fun c8717=>?_)
  ·(repeat refine MT.say ?_);exact MT.any
  (repeat refine MT.say ?_);refine MT.ask (dU p_doc.bC 0 (by omega) (by omega)) (fun x8718 _ hx23=>?_)
  have:=eH hx23
  have:=dR x8718
  have:=bZ x8718.fValue
  (repeat refine MT.say ?_);refine MT.ask (R:=Any) ?_ ?_
  ·exact T.wk (tZ x8718.fValue p_key (by first|omega|(simp;done)|decide) (by first|omega|(simp;done)|decide))
  intro r8720 h8721 _
  (repeat refine MT.say ?_);exact MT.any
 intro r8725 h8726 _
 (repeat refine MT.say ?_);refine MT.ite (fun c8728=>?_) (fun c8728=>?_)
 ·(repeat refine MT.say ?_);exact MT.any
 (repeat refine MT.say ?_);refine MT.ask (R:=Any) ?_ ?_
 ·exact T.wk (BZ p_doc (by first|omega|(simp;done)|decide))
 intro r8906 h8907 _
 (repeat refine MT.say ?_);refine MT.ite (fun c8909=>?_) (fun c8909=>?_)
 ·have c8909':¬(r8906.2=0):=by simpa using c8909
  (repeat refine MT.say ?_);exact MT.any
 have c8909':r8906.2=0:=by simpa using c8909
 (repeat refine MT.say ?_);refine MT.ite (fun c8911=>?_) (fun c8911=>?_)
 ·have c8911':=of_decide_eq_true c8911
  (repeat refine MT.say ?_);exact MT.any
 have c8911':=of_decide_eq_false c8911
 (repeat refine MT.say ?_);exact MT.any
theorem xA(p_w:ay)(h_p_w:aU p_w.lf1≤100000000):Tot (amm p_w) Any:=by
 have:=dM p_w
 have:=bZ p_w.dL
 have:=bZ p_w.bC
 have:=bZ p_w.ig
 show MT (aec p_w) Any
 repeat' (first|exact MT.any|refine MT.say ?_|refine MT.ite (fun _=>?_) (fun _=>?_)|refine MT.kL ?_ (fun _ _=>?_)|refine MT.aiz ?_ (fun _ _=>?_) (fun _ _=>?_)|exact⟨T.wk (tH _ (by first|omega|decide))⟩|exact⟨T.wk (yL _ _ (by first|omega|decide) (by first|omega|decide))⟩|exact⟨T.wk (iF _)⟩|refine⟨(show MT _ Any from ?_)⟩)
theorem rG(p_s1:List ByteArray)(p_s2:List ByteArray)(h_p_s1:bQ (p_s1.map lfS)≤100000000)(h_p_s2:bQ (p_s2.map lfS)≤100000000):Tot (Q98 p_s1 p_s2) Any:=by
 have:=iZ p_s1
 have:=iZ p_s2
 show MT (ahU p_s1 p_s2) Any
 refine MT.say (MT.ite (fun c274=>?_) (fun c274=>?_))
 ·have c274':¬((p_s1.length:Int)=(p_s2.length:Int)):=by simpa using c274
  exact MT.say MT.any
 have c274':(p_s1.length:Int)=(p_s2.length:Int):=by simpa using c274
 refine MT.say (MT.jh (R:=Any) ?_ ?_ ?_)
 ·refine T.cnt (fun _=>True) ?_
  intro k24 hk24
  show MT (Py p_s1 p_s2 ((k24:Nat):Int)) _
  refine MT.ite (fun c310=>?_) (fun c310=>?_)
  ·have c310':=of_decide_eq_true c310
   refine MT.say (MT.ask (dU p_s1 ((k24:Nat):Int) (by omega) (by omega)) (fun x311 _ hx25=>?_))
   have:=D7 hx25
   refine MT.say (MT.ask (dU p_s2 ((k24:Nat):Int) (by omega) (by omega)) (fun x313 _ hx26=>?_))
   have:=D7 hx26
   refine MT.say (MT.ite (fun c315=>?_) (fun c315=>?_))
   ·exact MT.say (MT.ret trivial)
   exact MT.say (MT.ret ⟨rfl,by omega⟩)
  have c310':=of_decide_eq_false c310
  exact MT.say (MT.ret trivial)
 ·intro o318 h317 _
  exact MT.say MT.any
 intro o319 h317 _
 exact MT.say MT.any
theorem Dx(p_l:List bU)(h_p_l:bQ (p_l.map bU.lf)≤100000000):Tot (alB p_l) Any:=by
 have:=pU p_l
 show MT (abJ p_l) Any
 refine MT.say (MT.ite (fun c252=>?_) (fun c252=>?_))
 ·have c252':=of_decide_eq_true c252
  exact MT.say MT.any
 have c252':=of_decide_eq_false c252
 refine MT.say (MT.jh (R:=Any) ?_ ?_ ?_)
 ·refine T.cnt (fun _=>True) ?_
  intro k27 hk27
  have:=lF bU.lf p_l (((k27:Nat):Int).toNat)
  have:=pU (p_l.take ((k27:Nat):Int).toNat)
  show MT (IU p_l ((k27:Nat):Int)) _
  refine MT.ite (fun c437=>?_) (fun c437=>?_)
  ·have c437':=of_decide_eq_true c437
   refine MT.say (MT.ask (dU p_l ((k27:Nat):Int) (by omega) (by omega)) (fun x438 _ hx28=>?_))
   have:=wS hx28
   have:=pO x438
   have:=iZ x438.dQ
   refine MT.say (MT.ask (R:=Any) ?_ ?_)
   ·exact T.wk (T.val (rE x438.dQ))
   intro r440 h441 _
   refine MT.say (MT.ite (fun c442=>?_) (fun c442=>?_))
   ·exact MT.say (MT.ret trivial)
   refine MT.say (MT.grd (by omega) (fun _=>?_))
   refine MT.say (MT.jh (R:=Any) ?_ ?_ ?_)
   ·refine T.cnt (fun _=>True) ?_
    intro k29 hk29
    have:=lF bU.lf p_l (((k27:Nat):Int).toNat)
    have:=pU (p_l.take ((k27:Nat):Int).toNat)
    show MT (IQ p_l ((k27:Nat):Int) x438 ((k29:Nat):Int)) _
    refine MT.ite (fun c451=>?_) (fun c451=>?_)
    ·have c451':=of_decide_eq_true c451
     refine MT.say (MT.ask (dU (p_l.take ((k27:Nat):Int).toNat) ((k29:Nat):Int) (by omega) (by omega)) (fun x452 _ hx30=>?_))
     have:=lF bU.lf p_l (((k27:Nat):Int).toNat)
     have:=wS hx30
     have:=pO x452
     have:=iZ x452.dQ
     refine MT.say (MT.ask (R:=Any) ?_ ?_)
     ·exact T.wk (rG x452.dQ x438.dQ (by first|omega|(simp;done)|decide) (by first|omega|(simp;done)|decide))
     intro r454 h455 _
     refine MT.say (MT.ite (fun c456=>?_) (fun c456=>?_))
     ·exact MT.say (MT.ret trivial)
     exact MT.say (MT.ret ⟨rfl,by omega⟩)
    have c451':=of_decide_eq_false c451
    exact MT.say (MT.ret trivial)
   ·intro o459 h458 _
    exact MT.say (MT.ret trivial)
   intro o460 h458 _
   exact MT.say (MT.ret ⟨rfl,by omega⟩)
  have c437':=of_decide_eq_false c437
  exact MT.say (MT.ret trivial)
 ·intro o464 h463 _
  exact MT.say MT.any
 intro o465 h463 _
 exact MT.say MT.any
theorem xB(n_:Nat):∀(p_p:aS) (p_level:Int) (p_b0:Int),aU p_p.lf1<n_→aU p_p.lf1≤100000000→Tot ((CZ n_).m1 p_p p_level p_b0) Any:=by
 induction n_ with
 |zero=>simp
 |succ n_ ih=>
  intro p_p p_level p_b0 h_ h_p_p
  have:=iW p_p
  have:=wR p_p.dF
  show MT (abK (CZ n_) p_p p_level p_b0) Any
  refine MT.ask (R:=fun b_=>(b_=true→True)∧(b_=false→¬((16:Int)<p_level)∧¬(p_b0=256)∧True)) ?_ ?_
  ·show MT (Pz (CZ n_) p_b0 p_level p_p) _
   refine MT.ite (fun c491=>?_) (fun c491=>?_)
   ·have c491':=of_decide_eq_true c491
    exact MT.say (MT.ret ⟨(fun _=>trivial),(fun h_=>by cases h_)⟩)
   have c491':=of_decide_eq_false c491
   exact MT.say (MT.ret ⟨(fun _=>trivial),(fun h_=>⟨(by first|assumption|omega),(by simpa using h_),trivial⟩)⟩)
  intro r493 h494 f_r493
  refine MT.say (MT.ite (fun c496=>?_) (fun c496=>?_))
  ·exact MT.say MT.any
  have q31:=f_r493.2 (c496)
  refine MT.say (MT.jh (R:=Any) ?_ ?_ ?_)
  ·refine T.Ho (fun _=>True) ?_
   intro k32 v535 hk32
   show MT (PD (CZ n_) p_level p_p (((k32:Nat):Int),v535)) _
   refine MT.ite (fun c536=>?_) (fun c536=>?_)
   ·have c536':=of_decide_eq_true c536
    refine MT.say (MT.ask (dU p_p.dF ((k32:Nat):Int) (by omega) (by omega)) (fun x537 _ hx33=>?_))
    have:=Gj hx33
    have:=iW x537
    refine MT.say (MT.ask (R:=Any) ?_ ?_)
    ·grind
    intro r539 h540 _
    refine MT.say (MT.ite (fun c541=>?_) (fun c541=>?_))
    ·exact MT.say (MT.ret trivial)
    exact MT.say (MT.ret ⟨rfl,by omega⟩)
   have c536':=of_decide_eq_false c536
   exact MT.say (MT.ret trivial)
  ·intro o546 h545 _
   exact MT.say MT.any
  intro o547 h545 _
  exact MT.say MT.any
theorem yM(p_p:aS)(p_level:Int)(p_b0:Int)(h_p_p:aU p_p.lf1≤100000000):Tot (Q74 p_p p_level p_b0) Any:=xB FU p_p p_level p_b0 (by have:=gq;omega) h_p_p
theorem um(p_op:Int)(p_n:Int):Tot (Q97 p_op p_n) Any:=by
 show MT (ahV p_op p_n) Any
 repeat' (first|exact MT.any|refine MT.say ?_|refine MT.ite (fun _=>?_) (fun _=>?_)|refine MT.kL ?_ (fun _ _=>?_)|refine⟨(show MT _ Any from ?_)⟩)
theorem jJ(p_op:Int):Tot (alC p_op) Any:=by
 show MT (abN p_op) Any
 repeat' (first|exact MT.any|refine MT.say ?_|refine MT.ite (fun _=>?_) (fun _=>?_))
theorem uo(p_p:aS)(h_p_p:aU p_p.lf1≤100000000):Tot (Q19 p_p) Any:=by
 have:=iW p_p
 show MT (ahW p_p) Any
 repeat' (first|exact MT.any|refine MT.say ?_|refine MT.ite (fun _=>?_) (fun _=>?_)|refine MT.kL ?_ (fun _ _=>?_)|refine⟨(show MT _ Any from ?_)⟩)
theorem nR(p_op:Int):Tot (alD p_op) Any:=by
 show MT (abQ p_op) Any
 repeat' (first|exact MT.any|refine MT.say ?_|refine MT.ite (fun _=>?_) (fun _=>?_))
theorem mQ(p_op:Int):Tot (alE p_op) Any:=by
 show MT (abR p_op) Any
 repeat' (first|exact MT.any|refine MT.say ?_|refine MT.ite (fun _=>?_) (fun _=>?_))
theorem mV(p_op:Int):Tot (alF p_op) Any:=by
 show MT (abS p_op) Any
 repeat' (first|exact MT.any|refine MT.say ?_|refine MT.ite (fun _=>?_) (fun _=>?_)|refine MT.kL ?_ (fun _ _=>?_)|exact⟨T.wk (mQ _)⟩)
theorem nS(p_n:Int):Tot (alI p_n) Any:=by
 show MT (ab9 p_n) Any
 repeat' (first|exact MT.any|refine MT.say ?_|refine MT.ite (fun _=>?_) (fun _=>?_))
theorem Dy(p_p:dB)(h_p_p:aU p_p.lf1≤100000000):Tot (alJ p_p) Any:=by
 have:=yG p_p
 show MT (acd p_p) Any
 repeat' (first|exact MT.any|refine MT.say ?_|refine MT.ite (fun _=>?_) (fun _=>?_)|refine MT.kL ?_ (fun _ _=>?_)|exact⟨T.wk (nS _)⟩)
theorem H7(p_s:dS)(h_p_s:aU p_s.lf1≤100000000):Tot (alK p_s) Any:=by
 have:=pR p_s
 have:=Gi p_s.fA
 show MT (ace p_s) Any
 refine MT.say (MT.ask (R:=Any) ?_ ?_)
 ·show MT (Jd p_s) Any
  refine MT.ite (fun c1679=>?_) (fun c1679=>?_)
  ·have c1679':p_s.aB=1:=by simpa using c1679
   refine MT.say (MT.ite (fun c1680=>?_) (fun c1680=>?_))
   ·have c1680':(p_s.fA.length:Int)=2:=by simpa using c1680
    exact MT.say MT.any
   have c1680':¬((p_s.fA.length:Int)=2):=by simpa using c1680
   exact MT.say MT.any
  have c1679':¬(p_s.aB=1):=by simpa using c1679
  refine MT.say (MT.ite (fun c1681=>?_) (fun c1681=>?_))
  ·have c1681':p_s.aB=2:=by simpa using c1681
   refine MT.say (MT.ite (fun c1682=>?_) (fun c1682=>?_))
   ·have c1682':(p_s.fA.length:Int)=1:=by simpa using c1682
    refine MT.say (MT.ask (R:=Any) ?_ ?_)
    ·exact T.wk (nS p_s.fR )
    intro r1683 h1684 _
    exact MT.say MT.any
   have c1682':¬((p_s.fA.length:Int)=1):=by simpa using c1682
   exact MT.say MT.any
  have c1681':¬(p_s.aB=2):=by simpa using c1681
  refine MT.say (MT.ite (fun c1685=>?_) (fun c1685=>?_))
  ·have c1685':p_s.aB=3:=by simpa using c1685
   refine MT.say (MT.ite (fun c1686=>?_) (fun c1686=>?_))
   ·have c1686':=of_decide_eq_true c1686
    refine MT.say (MT.ite (fun c1687=>?_) (fun c1687=>?_))
    ·have c1687':=of_decide_eq_true c1687
     exact MT.say MT.any
    have c1687':=of_decide_eq_false c1687
    exact MT.say MT.any
   have c1686':=of_decide_eq_false c1686
   exact MT.say MT.any
  have c1685':¬(p_s.aB=3):=by simpa using c1685
  exact MT.say MT.any
 intro r1689 h1690 _
 refine MT.say (MT.ite (fun c1692=>?_) (fun c1692=>?_))
 ·exact MT.say MT.any
 refine MT.say (MT.jh (R:=Any) ?_ ?_ ?_)
 ·refine T.cnt (fun _=>True) ?_
  intro k34 hk34
  show MT (Je p_s ((k34:Nat):Int)) _
  refine MT.ite (fun c1733=>?_) (fun c1733=>?_)
  ·have c1733':=of_decide_eq_true c1733
   refine MT.say (MT.ask (dU p_s.fA ((k34:Nat):Int) (by omega) (by omega)) (fun x1734 _ hx35=>?_))
   have:=yG x1734
   refine MT.say (MT.ask (R:=Any) ?_ ?_)
   ·exact T.wk (Dy x1734 (by first|omega|(simp;done)|decide))
   intro r1736 h1737 _
   refine MT.say (MT.ite (fun c1738=>?_) (fun c1738=>?_))
   ·exact MT.say (MT.ret trivial)
   exact MT.say (MT.ret ⟨rfl,by omega⟩)
  have c1733':=of_decide_eq_false c1733
  exact MT.say (MT.ret trivial)
 ·intro o1741 h1740 _
  exact MT.say MT.any
 intro o1742 h1740 _
 exact MT.say MT.any
theorem nT(p_v:aj):Tot (Q26 p_v) Any:=by
 show MT (ahY p_v) Any
 repeat' (first|exact MT.any|refine MT.say ?_|refine MT.ite (fun _=>?_) (fun _=>?_)|refine MT.kL ?_ (fun _ _=>?_)|refine⟨(show MT _ Any from ?_)⟩)
theorem xC(p_op:Int):Tot (Q87 p_op) Any:=by
 show MT (ahZ p_op) Any
 repeat' (first|exact MT.any|refine MT.say ?_|refine MT.ite (fun _=>?_) (fun _=>?_)|refine MT.kL ?_ (fun _ _=>?_)|refine⟨(show MT _ Any from ?_)⟩)
theorem qK(p_e:bf):Tot (Q16 p_e) Any:=by
 show MT (ah0 p_e) Any
 repeat' (first|exact MT.any|refine MT.say ?_|refine MT.ite (fun _=>?_) (fun _=>?_)|refine MT.kL ?_ (fun _ _=>?_)|exact⟨T.wk (nT _)⟩|refine⟨(show MT _ Any from ?_)⟩)
theorem xE(p_p:aS):Tot (Q32 p_p) Any:=by
 show MT (ah1 p_p) Any
 repeat' (first|exact MT.any|refine MT.say ?_|refine MT.ite (fun _=>?_) (fun _=>?_)|refine MT.kL ?_ (fun _ _=>?_)|refine MT.aiz ?_ (fun _ _=>?_) (fun _ _=>?_)|exact⟨T.wk (nT _)⟩|exact⟨T.wk (qK _)⟩|exact⟨T.wk (nR _)⟩|exact⟨T.wk (mV _)⟩|exact⟨T.wk (jJ _)⟩|exact⟨T.wk (xC _)⟩|refine⟨(show MT _ Any from ?_)⟩)
theorem Gq(p_op:Int):Tot (Q79 p_op) Any:=by
 show MT (ah2 p_op) Any
 repeat' (first|exact MT.any|refine MT.say ?_|refine MT.ite (fun _=>?_) (fun _=>?_)|refine MT.kL ?_ (fun _ _=>?_)|refine⟨(show MT _ Any from ?_)⟩)
theorem Cb(p_shape:Int)(p_n:Int):Tot (ajz p_shape p_n) Any:=by
 show MT (acr p_shape p_n) Any
 repeat' (first|exact MT.any|refine MT.say ?_|refine MT.ite (fun _=>?_) (fun _=>?_)|refine MT.kL ?_ (fun _ _=>?_)|refine⟨(show MT _ Any from ?_)⟩)
theorem uf(p_s:ByteArray)(h_p_s:p_s.size≤100000000):Tot (alL p_s) Any:=by
 show MT (acs p_s) Any
 repeat' (first|exact MT.any|refine MT.say ?_|refine MT.ite (fun _=>?_) (fun _=>?_)|refine MT.kL ?_ (fun _ _=>?_)|exact⟨T.wk (T.val (rE _))⟩)
theorem tJ(p_l:List ByteArray)(h_p_l:bQ (p_l.map lfS)≤100000000):Tot (Q76 p_l) Any:=by
 have:=iZ p_l
 show MT (ah3 p_l) Any
 (repeat refine MT.say ?_);refine MT.jh (R:=Any) ?_ ?_ ?_
 ·refine T.akO (fun _=>True) ?_
  intro k36 m2333 hk36 hmk36
  show MT (PU p_l (((k36:Nat):Int),m2333)) _
  refine MT.ite (fun c2334=>?_) (fun c2334=>?_)
  ·have c2334':=of_decide_eq_true c2334
   (repeat refine MT.say ?_);refine MT.ask (dU p_l ((k36:Nat):Int) (by omega) (by omega)) (fun x2335 _ hx37=>?_)
   have:=D7 hx37
   (repeat refine MT.say ?_);refine MT.ask (R:=Any) ?_ ?_
   ·show MT (PS m2333 p_l ((k36:Nat):Int) x2335) Any
    refine MT.ask (R:=Any) ?_ ?_
    ·exact T.wk (uf x2335 (by first|omega|(simp;done)|decide))
    intro r2337 h2338 _
    (repeat refine MT.say ?_);refine MT.ite (fun c2339=>?_) (fun c2339=>?_)
    ·(repeat refine MT.say ?_);exact MT.any
    (repeat refine MT.say ?_);exact MT.any
   intro r2341 h2342 _
   (repeat refine MT.say ?_);refine MT.ite (fun c2343=>?_) (fun c2343=>?_)
   ·(repeat refine MT.say ?_);exact MT.ret trivial
   (repeat refine MT.say ?_);refine MT.grd (by unfold maxLen;omega) (fun _=>?_)
   (repeat refine MT.say ?_);exact MT.ret ⟨rfl,by first|omega|(simp only[List.length_cons];omega),by omega⟩
  have c2334':=of_decide_eq_false c2334
  (repeat refine MT.say ?_);exact MT.ret trivial
 ·intro o2347 h2346 _
  (repeat refine MT.say ?_);exact MT.any
 intro o2348 h2346 _
 (repeat refine MT.say ?_);exact MT.any
theorem Dz(p_v:aj):Tot (alM p_v) Any:=by
 show MT (acu p_v) Any
 repeat' (first|exact MT.any|refine MT.say ?_|refine MT.ite (fun _=>?_) (fun _=>?_)|refine MT.kL ?_ (fun _ _=>?_)|refine⟨(show MT _ Any from ?_)⟩)
theorem yN(p_e:bf)(h_p_e:aU p_e.lf1≤100000000):Tot (Q22 p_e) Any:=by
 have:=kU p_e
 have:=iZ p_e.dQ
 have:=iZ p_e.iV
 have:=bZ p_e.fArg
 have:=BP p_e.dF
 show MT (ah4 p_e) Any
 repeat' (first|exact MT.any|refine MT.say ?_|refine MT.ite (fun _=>?_) (fun _=>?_)|refine MT.kL ?_ (fun _ _=>?_)|exact⟨T.wk (tJ _ (by first|omega|decide))⟩|exact⟨T.wk (Cb _ _)⟩|exact⟨T.wk (uf _ (by first|omega|decide))⟩|exact⟨T.wk (Dz _)⟩|exact⟨T.wk (Gq _)⟩|exact⟨T.wk (T.val (rE _))⟩|exact⟨T.wk (gB _ (by first|omega|decide))⟩|refine⟨(show MT _ Any from ?_)⟩)
theorem DC(n_:Nat):∀(p_e:bf) (p_level:Int) (p_b0:Int),aU p_e.lf1<n_→aU p_e.lf1≤100000000→Tot ((C9 n_).m1 p_e p_level p_b0) Any:=by
 induction n_ with
 |zero=>simp
 |succ n_ ih=>
  intro p_e p_level p_b0 h_ h_p_e
  have:=kU p_e
  have:=BP p_e.dF
  show MT (Uy (C9 n_) p_e p_level p_b0) Any
  refine MT.ask (R:=fun b_=>(b_=true→True)∧(b_=false→¬((16:Int)<p_level)∧¬(p_b0=256)∧True)) ?_ ?_
  ·show MT (Jf (C9 n_) p_b0 p_e p_level) _
   refine MT.ite (fun c1966=>?_) (fun c1966=>?_)
   ·have c1966':=of_decide_eq_true c1966
    exact MT.say (MT.ret ⟨(fun _=>trivial),(fun h_=>by cases h_)⟩)
   have c1966':=of_decide_eq_false c1966
   exact MT.say (MT.ret ⟨(fun _=>trivial),(fun h_=>⟨(by first|assumption|omega),(by simpa using h_),trivial⟩)⟩)
  intro r1968 h1969 f_r1968
  refine MT.say (MT.ite (fun c1971=>?_) (fun c1971=>?_))
  ·exact MT.say MT.any
  have q38:=f_r1968.2 (c1971)
  refine MT.say (MT.ask (R:=Any) ?_ ?_)
  ·exact T.wk (yN p_e (by first|omega|(simp;done)|decide))
  intro r2458 h2459 _
  refine MT.say (MT.ite (fun c2461=>?_) (fun c2461=>?_))
  ·have c2461':¬(r2458=0):=by simpa using c2461
   exact MT.say MT.any
  have c2461':r2458=0:=by simpa using c2461
  refine MT.say (MT.jh (R:=Any) ?_ ?_ ?_)
  ·refine T.Ho (fun _=>True) ?_
   intro k39 v2501 hk39
   show MT (Jg (C9 n_) p_e p_level (((k39:Nat):Int),v2501)) _
   refine MT.ite (fun c2502=>?_) (fun c2502=>?_)
   ·have c2502':=of_decide_eq_true c2502
    refine MT.say (MT.ask (dU p_e.dF ((k39:Nat):Int) (by omega) (by omega)) (fun x2503 _ hx40=>?_))
    have:=Sm hx40
    have:=kU x2503
    refine MT.say (MT.ask (R:=Any) ?_ ?_)
    ·grind
    intro r2505 h2506 _
    refine MT.say (MT.ite (fun c2507=>?_) (fun c2507=>?_))
    ·have c2507':¬(r2505.1=0):=by simpa using c2507
     exact MT.say (MT.ret trivial)
    have c2507':r2505.1=0:=by simpa using c2507
    exact MT.say (MT.ret ⟨rfl,by omega⟩)
   have c2502':=of_decide_eq_false c2502
   exact MT.say (MT.ret trivial)
  ·intro o2513 h2512 _
   exact MT.say MT.any
  intro o2514 h2512 _
  exact MT.say MT.any
theorem Gt(p_e:bf)(p_level:Int)(p_b0:Int)(h_p_e:aU p_e.lf1≤100000000):Tot (alN p_e p_level p_b0) Any:=DC FU p_e p_level p_b0 (by have:=gq;omega) h_p_e
theorem Gu(p_e:bf)(h_p_e:aU p_e.lf1≤100000000):Tot (alO p_e) Any:=by
 have:=kU p_e
 show MT (acz p_e) Any
 repeat' (first|exact MT.any|refine MT.say ?_|refine MT.ite (fun _=>?_) (fun _=>?_)|refine MT.kL ?_ (fun _ _=>?_)|exact⟨T.wk (Gt _ _ _ (by first|omega|decide))⟩)
theorem rH(p_p:aS)(p_inside:Bool)(h_p_p:aU p_p.lf1≤100000000):Tot (Q9 p_p p_inside) Any:=by
 have:=iW p_p
 have:=iZ p_p.dQ
 have:=bZ p_p.fArg
 have:=gI p_p.fArgs
 have:=pR p_p.dK
 have:=kU p_p.fExpr
 have:=wR p_p.dF
 show MT (alP p_p p_inside) Any
 refine MT.ask (R:=fun b_=>(b_=true→True)∧(b_=false→¬((p_p.fOp:Int)<1)∧¬((24:Int)<p_p.fOp)∧True)) ?_ ?_
 ·show MT (WS p_inside p_p) _
  refine MT.ite (fun c597=>?_) (fun c597=>?_)
  ·have c597':=of_decide_eq_true c597
   (repeat refine MT.say ?_);exact MT.ret ⟨(fun _=>trivial),(fun h_=>by cases h_)⟩
  have c597':=of_decide_eq_false c597
  (repeat refine MT.say ?_);exact MT.ret ⟨(fun _=>trivial),(fun h_=>⟨(by first|assumption|omega),(of_decide_eq_false h_),trivial⟩)⟩
 intro r599 h600 f_r599
 (repeat refine MT.say ?_);refine MT.ask (R:=fun b_=>(b_=true→True)∧(b_=false→r599=false∧True)) ?_ ?_
 ·show MT (WT p_inside p_p r599) _
  refine MT.ite (fun c601=>?_) (fun c601=>?_)
  ·(repeat refine MT.say ?_);exact MT.ret ⟨(fun _=>trivial),(fun h_=>by cases h_)⟩
  have q41:=f_r599.2 (c601)
  (repeat refine MT.say ?_);refine MT.ask (R:=Any) ?_ ?_
  ·exact T.wk (um p_p.fOp (p_p.dF.length:Int) )
  intro r602 h603 _
  (repeat refine MT.say ?_);exact MT.ret ⟨(fun _=>trivial),(fun h_=>⟨(by first|assumption|omega),trivial⟩)⟩
 intro r605 h606 f_r605
 (repeat refine MT.say ?_);refine MT.ite (fun c608=>?_) (fun c608=>?_)
 ·(repeat refine MT.say ?_);exact MT.any
 have q42:=f_r605.2 (c608)
 have q43:=f_r599.2 (q42.1)
 (repeat refine MT.say ?_);refine MT.ask (R:=fun b_=>(b_=true→(p_p.fArgs.length:Int)=0∧True)∧(b_=false→True)) ?_ ?_
 ·show MT (PV p_inside p_p) _
  refine MT.ask (R:=Any) ?_ ?_
  ·exact T.wk (jJ p_p.fOp )
  intro r732 h733 _
  (repeat refine MT.say ?_);refine MT.ite (fun c734=>?_) (fun c734=>?_)
  ·(repeat refine MT.say ?_);exact MT.ret ⟨(fun h_=>⟨(by simpa using h_),trivial⟩),(fun _=>trivial)⟩
  (repeat refine MT.say ?_);exact MT.ret ⟨(fun h_=>by cases h_),(fun _=>trivial)⟩
 intro r736 h737 f_r736
 (repeat refine MT.say ?_);refine MT.ask (R:=fun b_=>(b_=true→True)∧(b_=false→r736=false∧True)) ?_ ?_
 ·show MT (PW p_inside p_p r736) _
  refine MT.ite (fun c738=>?_) (fun c738=>?_)
  ·have q44:=f_r736.1 (c738)
   (repeat refine MT.say ?_);exact MT.ret ⟨(fun _=>trivial),(fun h_=>by cases h_)⟩
  (repeat refine MT.say ?_);refine MT.ask (R:=Any) ?_ ?_
  ·exact T.wk (uo p_p (by first|omega|(simp;done)|decide))
  intro r739 h740 _
  (repeat refine MT.say ?_);exact MT.ret ⟨(fun _=>trivial),(fun h_=>⟨(by first|assumption|omega),trivial⟩)⟩
 intro r742 h743 f_r742
 (repeat refine MT.say ?_);refine MT.ite (fun c745=>?_) (fun c745=>?_)
 ·(repeat refine MT.say ?_);exact MT.any
 have q45:=f_r742.2 (c745)
 (repeat refine MT.say ?_);refine MT.ask (R:=Any) ?_ ?_
 ·show MT (PX p_inside p_p) Any
  refine MT.ask (R:=Any) ?_ ?_
  ·exact T.wk (nR p_p.fOp )
  intro r760 h761 _
  (repeat refine MT.say ?_);refine MT.ite (fun c762=>?_) (fun c762=>?_)
  ·(repeat refine MT.say ?_);refine MT.ask (R:=Any) ?_ ?_
   ·exact T.wk (T.val (rE p_p.dQ))
   intro r763 h764 _
   (repeat refine MT.say ?_);exact MT.any
  (repeat refine MT.say ?_);exact MT.any
 intro r766 h767 _
 (repeat refine MT.say ?_);refine MT.ask (R:=fun b_=>(b_=true→r766=true∧True)∧(b_=false→True)) ?_ ?_
 ·show MT (PY p_inside p_p r766) _
  refine MT.ite (fun c768=>?_) (fun c768=>?_)
  ·(repeat refine MT.say ?_);refine MT.ite (fun c769=>?_) (fun c769=>?_)
   ·(repeat refine MT.say ?_);exact MT.ret ⟨(fun h_=>⟨(by first|assumption|omega),trivial⟩),(fun h_=>by cases h_)⟩
   (repeat refine MT.say ?_);exact MT.ret ⟨(fun h_=>⟨(by first|assumption|omega),trivial⟩),(fun _=>trivial)⟩
  (repeat refine MT.say ?_);exact MT.ret ⟨(fun h_=>by cases h_),(fun _=>trivial)⟩
 intro r771 h772 f_r771
 (repeat refine MT.say ?_);refine MT.ite (fun c774=>?_) (fun c774=>?_)
 ·have q46:=f_r771.1 (c774)
  (repeat refine MT.say ?_);exact MT.any
 (repeat refine MT.say ?_);refine MT.ask (R:=Any) ?_ ?_
 ·show MT (PZ p_p) Any
  refine MT.ask (R:=Any) ?_ ?_
  ·exact T.wk (mV p_p.fOp )
  intro r1596 h1597 _
  (repeat refine MT.say ?_);refine MT.ite (fun c1598=>?_) (fun c1598=>?_)
  ·(repeat refine MT.say ?_);refine MT.ask (R:=Any) ?_ ?_
   ·exact T.wk (gB p_p.fArg (by first|omega|(simp;done)|decide))
   intro r1599 h1600 _
   (repeat refine MT.say ?_);exact MT.any
  (repeat refine MT.say ?_);exact MT.any
 intro r1602 h1603 _
 (repeat refine MT.say ?_);refine MT.ask (R:=fun b_=>(b_=true→True)∧(b_=false→r1602=false∧True)) ?_ ?_
 ·show MT (P5 p_p r1602) _
  refine MT.ite (fun c1604=>?_) (fun c1604=>?_)
  ·(repeat refine MT.say ?_);exact MT.ret ⟨(fun _=>trivial),(fun h_=>by cases h_)⟩
  (repeat refine MT.say ?_);refine MT.ask (R:=Any) ?_ ?_
  ·exact T.wk (mQ p_p.fOp )
  intro r1605 h1606 _
  (repeat refine MT.say ?_);refine MT.ite (fun c1607=>?_) (fun c1607=>?_)
  ·(repeat refine MT.say ?_);exact MT.ret ⟨(fun _=>trivial),(fun h_=>⟨(by first|assumption|omega),trivial⟩)⟩
  (repeat refine MT.say ?_);exact MT.ret ⟨(fun h_=>by cases h_),(fun h_=>⟨(by first|assumption|omega),trivial⟩)⟩
 intro r1609 h1610 f_r1609
 (repeat refine MT.say ?_);refine MT.ite (fun c1612=>?_) (fun c1612=>?_)
 ·(repeat refine MT.say ?_);exact MT.any
 have q47:=f_r1609.2 (c1612)
 (repeat refine MT.say ?_);refine MT.ask (R:=Any) ?_ ?_
 ·exact T.wk (jJ p_p.fOp )
 intro r1615 h1616 _
 (repeat refine MT.say ?_);refine MT.jh (R:=Any) ?_ ?_ ?_
 ·show MT (P7 p_p r1615) Any
  refine MT.ite (fun c1646=>?_) (fun c1646=>?_)
  ·(repeat refine MT.say ?_);refine MT.jh (R:=Any) ?_ ?_ ?_
   ·refine T.cnt (fun _=>True) ?_
    intro k48 hk48
    show MT (P6 p_p ((k48:Nat):Int)) _
    refine MT.ite (fun c1654=>?_) (fun c1654=>?_)
    ·have c1654':=of_decide_eq_true c1654
     (repeat refine MT.say ?_);refine MT.ask (dU p_p.fArgs ((k48:Nat):Int) (by omega) (by omega)) (fun x1655 _ hx49=>?_)
     have:=iK hx49
     have:=bZ x1655
     (repeat refine MT.say ?_);refine MT.ask (R:=Any) ?_ ?_
     ·exact T.wk (gB x1655 (by first|omega|(simp;done)|decide))
     intro r1657 h1658 _
     (repeat refine MT.say ?_);refine MT.ite (fun c1659=>?_) (fun c1659=>?_)
     ·(repeat refine MT.say ?_);exact MT.ret trivial
     (repeat refine MT.say ?_);exact MT.ret ⟨rfl,by omega⟩
    have c1654':=of_decide_eq_false c1654
    (repeat refine MT.say ?_);exact MT.ret trivial
   ·intro o1662 h1661 _
    (repeat refine MT.say ?_);exact MT.any
   intro o1663 h1661 _
   (repeat refine MT.say ?_);exact MT.any
  (repeat refine MT.say ?_);exact MT.any
 ·intro o1666 h1665 _
  (repeat refine MT.say ?_);exact MT.any
 intro o1667 h1665 _
 (repeat refine MT.say ?_);refine MT.jh (R:=Any) ?_ ?_ ?_
 ·show MT (P8 p_p) Any
  refine MT.ite (fun c1748=>?_) (fun c1748=>?_)
  ·have c1748':p_p.fOp=18:=by simpa using c1748
   (repeat refine MT.say ?_);refine MT.ask (R:=Any) ?_ ?_
   ·exact T.wk (H7 p_p.dK (by first|omega|(simp;done)|decide))
   intro r1749 h1750 _
   (repeat refine MT.say ?_);refine MT.ite (fun c1751=>?_) (fun c1751=>?_)
   ·have c1751':¬(r1749=0):=by simpa using c1751
    (repeat refine MT.say ?_);exact MT.any
   have c1751':r1749=0:=by simpa using c1751
   (repeat refine MT.say ?_);exact MT.any
  have c1748':¬(p_p.fOp=18):=by simpa using c1748
  (repeat refine MT.say ?_);exact MT.any
 ·intro o1756 h1755 _
  (repeat refine MT.say ?_);exact MT.any
 intro o1757 h1755 _
 (repeat refine MT.say ?_);refine MT.ask (R:=Any) ?_ ?_
 ·exact T.wk (xE p_p)
 intro r1960 h1961 _
 (repeat refine MT.say ?_);refine MT.ite (fun c1963=>?_) (fun c1963=>?_)
 ·(repeat refine MT.say ?_);exact MT.any
 (repeat refine MT.say ?_);refine MT.ite (fun c2519=>?_) (fun c2519=>?_)
 ·have c2519':p_p.fOp=24:=by simpa using c2519
  (repeat refine MT.say ?_);refine MT.ask (R:=Any) ?_ ?_
  ·exact T.wk (Gu p_p.fExpr (by first|omega|(simp;done)|decide))
  intro r2522 h2523 _
  (repeat refine MT.say ?_);exact MT.any
 have c2519':¬(p_p.fOp=24):=by simpa using c2519
 (repeat refine MT.say ?_);exact MT.any
theorem vK(n_:Nat):∀(p_p:aS) (p_inside:Bool),aU p_p.lf1<n_→aU p_p.lf1≤100000000→Tot ((Dc n_).m1 p_p p_inside) Any:=by
 induction n_ with
 |zero=>simp
 |succ n_ ih=>
  intro p_p p_inside h_ h_p_p
  have:=iW p_p
  have:=wR p_p.dF
  show MT (acA (Dc n_) p_p p_inside) Any
  refine MT.ask (R:=Any) ?_ ?_
  ·exact T.wk (rH p_p p_inside (by first|omega|(simp;done)|decide))
  intro r2526 h2527 _
  refine MT.say (MT.ite (fun c2529=>?_) (fun c2529=>?_))
  ·have c2529':¬(r2526=0):=by simpa using c2529
   exact MT.say MT.any
  have c2529':r2526=0:=by simpa using c2529
  refine MT.say (MT.jh (R:=Any) ?_ ?_ ?_)
  ·refine T.cnt (fun _=>True) ?_
   intro k50 hk50
   show MT (Qa (Dc n_) p_inside p_p ((k50:Nat):Int)) _
   refine MT.ite (fun c2602=>?_) (fun c2602=>?_)
   ·have c2602':=of_decide_eq_true c2602
    refine MT.say (MT.ask (dU p_p.dF ((k50:Nat):Int) (by omega) (by omega)) (fun x2603 _ hx51=>?_))
    have:=Gj hx51
    have:=iW x2603
    refine MT.say (MT.ask (R:=Any) ?_ ?_)
    ·show MT (P9 (Dc n_) p_inside p_p ((k50:Nat):Int) x2603) Any
     refine MT.ite (fun c2605=>?_) (fun c2605=>?_)
     ·refine MT.say (MT.ask (R:=Any) ?_ ?_)
      ·grind
      intro r2606 h2607 _
      exact MT.say MT.any
     refine MT.say (MT.ask (R:=Any) ?_ ?_)
     ·grind
     intro r2608 h2609 _
     exact MT.say MT.any
    intro r2613 h2614 _
    refine MT.say (MT.ite (fun c2615=>?_) (fun c2615=>?_))
    ·have c2615':¬(r2613=0):=by simpa using c2615
     exact MT.say (MT.ret trivial)
    have c2615':r2613=0:=by simpa using c2615
    exact MT.say (MT.ret ⟨rfl,by omega⟩)
   have c2602':=of_decide_eq_false c2602
   exact MT.say (MT.ret trivial)
  ·intro o2620 h2619 _
   exact MT.say MT.any
  intro o2621 h2619 _
  exact MT.say MT.any
theorem xG(p_p:aS)(p_inside:Bool)(h_p_p:aU p_p.lf1≤100000000):Tot (Q69 p_p p_inside) Any:=vK FU p_p p_inside (by have:=gq;omega) h_p_p
theorem xH(p_p:aS)(h_p_p:aU p_p.lf1≤100000000):Tot (alR p_p) Any:=by
 have:=iW p_p
 show MT (acB p_p) Any
 repeat' (first|exact MT.any|refine MT.say ?_|refine MT.ite (fun _=>?_) (fun _=>?_)|refine MT.kL ?_ (fun _ _=>?_)|exact⟨T.wk (xG _ _ (by first|omega|decide))⟩|exact⟨T.wk (yM _ _ _ (by first|omega|decide))⟩)
theorem nU(p_v:aj):Tot (alS p_v) Any:=by
 show MT (acC p_v) Any
 repeat' (first|exact MT.any|refine MT.say ?_|refine MT.ite (fun _=>?_) (fun _=>?_)|refine MT.kL ?_ (fun _ _=>?_)|refine⟨(show MT _ Any from ?_)⟩)
theorem xI(p_x:bf):Tot (alT p_x) Any:=by
 show MT (acD p_x) Any
 repeat' (first|exact MT.any|refine MT.say ?_|refine MT.ite (fun _=>?_) (fun _=>?_)|refine MT.kL ?_ (fun _ _=>?_)|exact⟨T.wk (nU _)⟩|refine⟨(show MT _ Any from ?_)⟩)
theorem xJ(p_p:aS):Tot (Q18 p_p) Any:=by
 show MT (ah5 p_p) Any
 repeat' (first|exact MT.any|refine MT.say ?_|refine MT.ite (fun _=>?_) (fun _=>?_)|refine MT.kL ?_ (fun _ _=>?_)|exact⟨T.wk (xI _)⟩|exact⟨T.wk (nU _)⟩|refine⟨(show MT _ Any from ?_)⟩)
theorem nD(p_x:aW)(h_p_x:aU p_x.lf1≤100000000):Tot (Q81 p_x) Any:=by
 have:=iR p_x
 have:=pU p_x.iD
 have:=iW p_x.jE
 show MT (ah6 p_x) Any
 refine MT.say (MT.ask (R:=Any) ?_ ?_)
 ·exact T.wk (T.val (rE [p_x.fName]))
 intro r240 h241 _
 refine MT.say (MT.ite (fun c243=>?_) (fun c243=>?_))
 ·exact MT.say MT.any
 refine MT.say (MT.ask (R:=fun b_=>(b_=true→True)∧(b_=false→¬((p_x.aB:Int)<1)∧¬((3:Int)<p_x.aB)∧True)) ?_ ?_)
 ·show MT (Qc p_x) _
  refine MT.ite (fun c245=>?_) (fun c245=>?_)
  ·have c245':=of_decide_eq_true c245
   exact MT.say (MT.ret ⟨(fun _=>trivial),(fun h_=>by cases h_)⟩)
  have c245':=of_decide_eq_false c245
  exact MT.say (MT.ret ⟨(fun _=>trivial),(fun h_=>⟨(by first|assumption|omega),(of_decide_eq_false h_),trivial⟩)⟩)
 intro r247 h248 f_r247
 refine MT.say (MT.ite (fun c250=>?_) (fun c250=>?_))
 ·exact MT.say MT.any
 have q52:=f_r247.2 (c250)
 refine MT.say (MT.ask (R:=Any) ?_ ?_)
 ·exact T.wk (Dx p_x.iD (by first|omega|(simp;done)|decide))
 intro r468 h469 _
 refine MT.say (MT.ite (fun c471=>?_) (fun c471=>?_))
 ·have c471':¬(r468=0):=by simpa using c471
  exact MT.say MT.any
 have c471':r468=0:=by simpa using c471
 refine MT.say (MT.ask (R:=fun b_=>(b_=true→True)∧(b_=false→¬((p_x.iD.length:Int)=0)∧True)) ?_ ?_)
 ·show MT (Qd p_x) _
  refine MT.say (MT.ite (fun c478=>?_) (fun c478=>?_))
  ·have c478':(p_x.iD.length:Int)=0:=by simpa using c478
   exact MT.say (MT.ret ⟨(fun _=>trivial),(fun h_=>by cases h_)⟩)
  have c478':¬((p_x.iD.length:Int)=0):=by simpa using c478
  refine MT.say (MT.ite (fun c479=>?_) (fun c479=>?_))
  ·have c479':¬(p_x.aB=1):=by simpa using c479
   refine MT.say (MT.ite (fun c480=>?_) (fun c480=>?_))
   ·have c480':=of_decide_eq_true c480
    exact MT.say (MT.ret ⟨(fun _=>trivial),(fun h_=>by cases h_)⟩)
   have c480':=of_decide_eq_false c480
   refine MT.say (MT.ask (dU p_x.iD 0 (by omega) (by omega)) (fun x481 _ hx53=>?_))
   have:=wS hx53
   have:=pO x481
   refine MT.say (MT.ite (fun c483=>?_) (fun c483=>?_))
   ·exact MT.say (MT.ret ⟨(fun _=>trivial),(fun h_=>by cases h_)⟩)
   exact MT.say (MT.ret ⟨(fun _=>trivial),(fun h_=>⟨(by first|assumption|omega),trivial⟩)⟩)
  have c479':p_x.aB=1:=by simpa using c479
  exact MT.say (MT.ret ⟨(fun h_=>by cases h_),(fun h_=>⟨(by first|assumption|omega),trivial⟩)⟩)
 intro r485 h486 f_r485
 refine MT.say (MT.ite (fun c488=>?_) (fun c488=>?_))
 ·exact MT.say MT.any
 have q54:=f_r485.2 (c488)
 refine MT.say (MT.ite (fun c2626=>?_) (fun c2626=>?_))
 ·refine MT.say (MT.ask (R:=Any) ?_ ?_)
  ·exact T.wk (xH p_x.jE (by first|omega|(simp;done)|decide))
  intro r2629 h2630 _
  exact MT.say MT.any
 refine MT.say (MT.ask (R:=Any) ?_ ?_)
 ·exact T.wk (xJ p_x.jE)
 intro r2731 h2732 _
 refine MT.say (MT.ite (fun c2734=>?_) (fun c2734=>?_))
 ·exact MT.say MT.any
 exact MT.say MT.any
theorem xK(p_x:aW)(p_b0:ByteArray)(h_p_x:aU p_x.lf1≤100000000)(h_p_b0:p_b0.size≤100000000):Tot (ajE p_x p_b0) Any:=by
 have:=iR p_x
 show MT (acF p_x p_b0) Any
 repeat' (first|exact MT.any|refine MT.say ?_|refine MT.ite (fun _=>?_) (fun _=>?_))
theorem nG(p_s:List aW)(p_b0:ByteArray)(h_p_s:bQ (p_s.map aW.lf)≤100000000)(h_p_b0:p_b0.size≤100000000):Tot (Q25 p_s p_b0) Any:=by
 have:=lX p_s
 show MT (WV p_s p_b0) Any
 refine MT.say (MT.jh (R:=Any) ?_ ?_ ?_)
 ·refine T.cnt (fun _=>True) ?_
  intro k55 hk55
  show MT (qV p_b0 p_s ((k55:Nat):Int)) _
  refine MT.ite (fun c2771=>?_) (fun c2771=>?_)
  ·have c2771':=of_decide_eq_true c2771
   refine MT.say (MT.ask (dU p_s ((k55:Nat):Int) (by omega) (by omega)) (fun x2772 _ hx56=>?_))
   have:=BR hx56
   have:=iR x2772
   refine MT.say (MT.ask (R:=Any) ?_ ?_)
   ·exact T.wk (xK x2772 p_b0 (by first|omega|(simp;done)|decide) (by first|omega|(simp;done)|decide))
   intro r2774 h2775 _
   refine MT.say (MT.ite (fun c2776=>?_) (fun c2776=>?_))
   ·exact MT.say (MT.ret trivial)
   exact MT.say (MT.ret ⟨rfl,by omega⟩)
  have c2771':=of_decide_eq_false c2771
  exact MT.say (MT.ret trivial)
 ·intro o2780 h2779 _
  exact MT.say MT.any
 intro o2781 h2779 _
 exact MT.say MT.any
theorem qw(p_l:List aW)(p_name:ByteArray)(h_p_l:bQ (p_l.map aW.lf)≤100000000)(h_p_name:p_name.size≤100000000):Tot (Q84 p_l p_name) Any:=by
 have:=lX p_l
 show MT (WW p_l p_name) Any
 repeat' (first|exact MT.any|refine MT.say ?_|refine MT.ite (fun _=>?_) (fun _=>?_)|refine MT.kL ?_ (fun _ _=>?_)|exact⟨T.wk (nG _ _ (by first|omega|decide) (by first|omega|decide))⟩)
theorem rJ(p_has:Bool)(p_v:aj)(h_p_v:aU p_v.lf1≤100000000):Tot (Q70 p_has p_v) Any:=by
 have:=bZ p_v
 have:=gI p_v.aX
 have:=eY p_v.bC
 show MT (aib p_has p_v) Any
 repeat' (first|exact MT.any|refine MT.say ?_|refine MT.ite (fun _=>?_) (fun _=>?_)|refine MT.kL ?_ (fun _ _=>?_)|exact⟨T.wk (gB _ (by first|omega|decide))⟩|refine⟨(show MT _ Any from ?_)⟩)
theorem xM(p_s:aA)(h_p_s:aU p_s.lf1≤100000000):Tot (Q21 p_s) Any:=by
 have:=iM p_s
 have:=bZ p_s.lI
 have:=bZ p_s.lJ
 have:=gI p_s.jU
 have:=iZ p_s.dJ
 have:=BQ p_s.dW
 have:=vG p_s.fB
 show MT (aic p_s) Any
 (repeat refine MT.say ?_);refine MT.jh (R:=Any) ?_ ?_ ?_
 ·refine T.akO (fun _=>True) ?_
  intro k57 m5895 hk57 hmk57
  show MT (Qu p_s (((k57:Nat):Int),m5895)) _
  refine MT.ite (fun c5896=>?_) (fun c5896=>?_)
  ·have c5896':=of_decide_eq_true c5896
   (repeat refine MT.say ?_);refine MT.ask (dU p_s.dJ ((k57:Nat):Int) (by omega) (by omega)) (fun x5897 _ hx58=>?_)
   have:=D7 hx58
   (repeat refine MT.say ?_);refine MT.ask (R:=Any) ?_ ?_
   ·show MT (Qs m5895 p_s ((k57:Nat):Int) x5897) Any
    refine MT.ask (R:=Any) ?_ ?_
    ·exact T.wk (T.val (Kz x5897))
    intro r5899 h5900 _
    (repeat refine MT.say ?_);refine MT.ite (fun c5901=>?_) (fun c5901=>?_)
    ·(repeat refine MT.say ?_);exact MT.any
    (repeat refine MT.say ?_);exact MT.any
   intro r5903 h5904 _
   (repeat refine MT.say ?_);refine MT.ite (fun c5905=>?_) (fun c5905=>?_)
   ·(repeat refine MT.say ?_);exact MT.ret trivial
   (repeat refine MT.say ?_);refine MT.grd (by unfold maxLen;omega) (fun _=>?_)
   (repeat refine MT.say ?_);exact MT.ret ⟨rfl,by first|omega|(simp only[List.length_cons];omega),by omega⟩
  have c5896':=of_decide_eq_false c5896
  (repeat refine MT.say ?_);exact MT.ret trivial
 ·intro o5909 h5908 _
  (repeat refine MT.say ?_);exact MT.any
 intro o5910 h5908 _
 (repeat refine MT.say ?_);refine MT.jh (R:=Any) ?_ ?_ ?_
 ·refine T.akO (fun _=>True) ?_
  intro k59 m5969 hk59 hmk59
  show MT (Jw p_s (((k59:Nat):Int),m5969)) _
  refine MT.ite (fun c5970=>?_) (fun c5970=>?_)
  ·have c5970':=of_decide_eq_true c5970
   (repeat refine MT.say ?_);refine MT.ask (dU p_s.dW ((k59:Nat):Int) (by omega) (by omega)) (fun x5971 _ hx60=>?_)
   have:=Gl hx60
   have:=wQ x5971
   (repeat refine MT.say ?_);refine MT.ask (R:=Any) ?_ ?_
   ·show MT (Jv m5969 p_s ((k59:Nat):Int) x5971) Any
    refine MT.ask (R:=Any) ?_ ?_
    ·exact T.wk (T.val (Kz x5971.fName))
    intro r5973 h5974 _
    (repeat refine MT.say ?_);refine MT.ite (fun c5975=>?_) (fun c5975=>?_)
    ·(repeat refine MT.say ?_);exact MT.any
    (repeat refine MT.say ?_);exact MT.any
   intro r5977 h5978 _
   (repeat refine MT.say ?_);refine MT.ite (fun c5979=>?_) (fun c5979=>?_)
   ·(repeat refine MT.say ?_);exact MT.ret trivial
   (repeat refine MT.say ?_);refine MT.grd (by unfold maxLen;omega) (fun _=>?_)
   (repeat refine MT.say ?_);exact MT.ret ⟨rfl,by first|omega|(simp only[List.length_cons];omega),by omega⟩
  have c5970':=of_decide_eq_false c5970
  (repeat refine MT.say ?_);exact MT.ret trivial
 ·intro o5983 h5982 _
  (repeat refine MT.say ?_);exact MT.any
 intro o5984 h5982 _
 (repeat refine MT.say ?_);refine MT.ask (R:=fun b_=>(b_=true→True)∧(b_=false→(gW .andNot .i64 p_s.kZ 4094)=0∧¬((p_s.jV:Int)<0)∧True)) ?_ ?_
 ·show MT (Jy p_s) _
  refine MT.ite (fun c5997=>?_) (fun c5997=>?_)
  ·have c5997':¬((gW .andNot .i64 p_s.kZ 4094)=0):=by simpa using c5997
   (repeat refine MT.say ?_);exact MT.ret ⟨(fun _=>trivial),(fun h_=>by cases h_)⟩
  have c5997':(gW .andNot .i64 p_s.kZ 4094)=0:=by simpa using c5997
  (repeat refine MT.say ?_);exact MT.ret ⟨(fun _=>trivial),(fun h_=>⟨(by first|assumption|omega),(of_decide_eq_false h_),trivial⟩)⟩
 intro r5999 h6000 f_r5999
 (repeat refine MT.say ?_);refine MT.ask (R:=fun b_=>(b_=true→True)∧(b_=false→r5999=false∧¬((p_s.kN:Int)<(-1))∧True)) ?_ ?_
 ·show MT (Jz p_s r5999) _
  refine MT.ite (fun c6001=>?_) (fun c6001=>?_)
  ·(repeat refine MT.say ?_);exact MT.ret ⟨(fun _=>trivial),(fun h_=>by cases h_)⟩
  have q61:=f_r5999.2 (c6001)
  (repeat refine MT.say ?_);exact MT.ret ⟨(fun _=>trivial),(fun h_=>⟨(by first|assumption|omega),(of_decide_eq_false h_),trivial⟩)⟩
 intro r6003 h6004 f_r6003
 (repeat refine MT.say ?_);refine MT.ask (R:=fun b_=>(b_=true→True)∧(b_=false→r6003=false∧¬((1:Int)<(p_s.fB.length:Int))∧True)) ?_ ?_
 ·show MT (JA p_s r6003) _
  refine MT.ite (fun c6005=>?_) (fun c6005=>?_)
  ·(repeat refine MT.say ?_);exact MT.ret ⟨(fun _=>trivial),(fun h_=>by cases h_)⟩
  have q62:=f_r6003.2 (c6005)
  have q63:=f_r5999.2 (q62.1)
  (repeat refine MT.say ?_);exact MT.ret ⟨(fun _=>trivial),(fun h_=>⟨(by first|assumption|omega),(of_decide_eq_false h_),trivial⟩)⟩
 intro r6007 h6008 f_r6007
 (repeat refine MT.say ?_);refine MT.ite (fun c6010=>?_) (fun c6010=>?_)
 ·(repeat refine MT.say ?_);exact MT.any
 have q64:=f_r6007.2 (c6010)
 have q65:=f_r6003.2 (q64.1)
 have q66:=f_r5999.2 (q65.1)
 (repeat refine MT.say ?_);refine MT.ask (R:=Any) ?_ ?_
 ·show MT (JB p_s) Any
  refine MT.ask (R:=Any) ?_ ?_
  ·exact T.wk (rJ p_s.jS p_s.lI (by first|omega|(simp;done)|decide))
  intro r6044 h6045 _
  (repeat refine MT.say ?_);refine MT.ite (fun c6046=>?_) (fun c6046=>?_)
  ·(repeat refine MT.say ?_);exact MT.any
  (repeat refine MT.say ?_);refine MT.ask (R:=Any) ?_ ?_
  ·exact T.wk (rJ p_s.jT p_s.lJ (by first|omega|(simp;done)|decide))
  intro r6047 h6048 _
  (repeat refine MT.say ?_);exact MT.any
 intro r6050 h6051 _
 (repeat refine MT.say ?_);refine MT.ite (fun c6053=>?_) (fun c6053=>?_)
 ·(repeat refine MT.say ?_);exact MT.any
 (repeat refine MT.say ?_);refine MT.jh (R:=Any) ?_ ?_ ?_
 ·refine T.cnt (fun _=>True) ?_
  intro k67 hk67
  show MT (JC p_s ((k67:Nat):Int)) _
  refine MT.ite (fun c6089=>?_) (fun c6089=>?_)
  ·have c6089':=of_decide_eq_true c6089
   (repeat refine MT.say ?_);refine MT.ask (dU p_s.jU ((k67:Nat):Int) (by omega) (by omega)) (fun x6090 _ hx68=>?_)
   have:=iK hx68
   have:=bZ x6090
   (repeat refine MT.say ?_);refine MT.ask (R:=Any) ?_ ?_
   ·exact T.wk (gB x6090 (by first|omega|(simp;done)|decide))
   intro r6092 h6093 _
   (repeat refine MT.say ?_);refine MT.ite (fun c6094=>?_) (fun c6094=>?_)
   ·(repeat refine MT.say ?_);exact MT.ret trivial
   (repeat refine MT.say ?_);exact MT.ret ⟨rfl,by omega⟩
  have c6089':=of_decide_eq_false c6089
  (repeat refine MT.say ?_);exact MT.ret trivial
 ·intro o6097 h6096 _
  (repeat refine MT.say ?_);exact MT.any
 intro o6098 h6096 _
 (repeat refine MT.say ?_);exact MT.any
theorem AB(n_:Nat):∀(p_s:aA) (p_level:Int) (p_b0:Int),aU p_s.lf1<n_→aU p_s.lf1≤100000000→Tot ((tq n_).m1 p_s p_level p_b0) Any:=by
 induction n_ with
 |zero=>simp
 |succ n_ ih=>
  intro p_s p_level p_b0 h_ h_p_s
  have:=iM p_s
  have:=BQ p_s.dW
  have:=vG p_s.fB
  show MT (adp (tq n_) p_s p_level p_b0) Any
  refine MT.ask (R:=fun b_=>(b_=true→True)∧(b_=false→¬((16:Int)<p_level)∧¬(p_b0=64)∧True)) ?_ ?_
  ·show MT (Qv (tq n_) p_b0 p_level p_s) _
   refine MT.ite (fun c5704=>?_) (fun c5704=>?_)
   ·have c5704':=of_decide_eq_true c5704
    exact MT.say (MT.ret ⟨(fun _=>trivial),(fun h_=>by cases h_)⟩)
   have c5704':=of_decide_eq_false c5704
   exact MT.say (MT.ret ⟨(fun _=>trivial),(fun h_=>⟨(by first|assumption|omega),(by simpa using h_),trivial⟩)⟩)
  intro r5706 h5707 f_r5706
  refine MT.say (MT.ite (fun c5709=>?_) (fun c5709=>?_))
  ·exact MT.say MT.any
  have q69:=f_r5706.2 (c5709)
  refine MT.say (MT.ask (R:=Any) ?_ ?_)
  ·exact T.wk (xM p_s (by first|omega|(simp;done)|decide))
  intro r6101 h6102 _
  refine MT.say (MT.ite (fun c6104=>?_) (fun c6104=>?_))
  ·have c6104':¬(r6101=0):=by simpa using c6104
   exact MT.say MT.any
  have c6104':r6101=0:=by simpa using c6104
  refine MT.say (MT.jh (R:=Any) ?_ ?_ ?_)
  ·refine T.Ho (fun _=>True) ?_
   intro k70 v6146 hk70
   show MT (Qw (tq n_) p_level p_s (((k70:Nat):Int),v6146)) _
   refine MT.ite (fun c6147=>?_) (fun c6147=>?_)
   ·have c6147':=of_decide_eq_true c6147
    refine MT.say (MT.ask (dU p_s.dW ((k70:Nat):Int) (by omega) (by omega)) (fun x6148 _ hx71=>?_))
    have:=Gl hx71
    have:=wQ x6148
    have:=iM x6148.fV
    refine MT.say (MT.ask (R:=Any) ?_ ?_)
    ·grind
    intro r6150 h6151 _
    refine MT.say (MT.ite (fun c6152=>?_) (fun c6152=>?_))
    ·have c6152':¬(r6150.1=0):=by simpa using c6152
     exact MT.say (MT.ret trivial)
    have c6152':r6150.1=0:=by simpa using c6152
    exact MT.say (MT.ret ⟨rfl,by omega⟩)
   have c6147':=of_decide_eq_false c6147
   exact MT.say (MT.ret trivial)
  ·intro o6160 h6159 _
   exact MT.say MT.any
  intro o6161 h6159 _
  refine MT.say (MT.jh (R:=Any) ?_ ?_ ?_)
  ·refine T.Ho (fun _=>True) ?_
   intro k72 v6201 hk72
   show MT (JD (tq n_) p_level p_s (((k72:Nat):Int),v6201)) _
   refine MT.ite (fun c6202=>?_) (fun c6202=>?_)
   ·have c6202':=of_decide_eq_true c6202
    refine MT.say (MT.ask (dU p_s.fB ((k72:Nat):Int) (by omega) (by omega)) (fun x6203 _ hx73=>?_))
    have:=Gm hx73
    have:=iM x6203
    refine MT.say (MT.ask (R:=Any) ?_ ?_)
    ·grind
    intro r6205 h6206 _
    refine MT.say (MT.ite (fun c6207=>?_) (fun c6207=>?_))
    ·have c6207':¬(r6205.1=0):=by simpa using c6207
     exact MT.say (MT.ret trivial)
    have c6207':r6205.1=0:=by simpa using c6207
    exact MT.say (MT.ret ⟨rfl,by omega⟩)
   have c6202':=of_decide_eq_false c6202
   exact MT.say (MT.ret trivial)
  ·intro o6213 h6212 _
   exact MT.say MT.any
  intro o6214 h6212 _
  exact MT.say MT.any
theorem Cc(p_s:aA)(p_level:Int)(p_b0:Int)(h_p_s:aU p_s.lf1≤100000000):Tot (Q65 p_s p_level p_b0) Any:=AB FU p_s p_level p_b0 (by have:=gq;omega) h_p_s
theorem Ce(p_s:aA)(h_p_s:aU p_s.lf1≤100000000):Tot (al3 p_s) Any:=by
 have:=iM p_s
 show MT (adq p_s) Any
 repeat' (first|exact MT.any|refine MT.say ?_|refine MT.ite (fun _=>?_) (fun _=>?_)|refine MT.kL ?_ (fun _ _=>?_)|exact⟨T.wk (Cc _ _ _ (by first|omega|decide))⟩)
theorem qx(p_d:ak)(h_p_d:aU p_d.lf1≤100000000):Tot (Q71 p_d) Any:=by
 have:=iC p_d
 have:=lX p_d.bn
 have:=iM p_d.fV
 show MT (aie p_d) Any
 refine MT.ask (R:=Any) ?_ ?_
 ·exact T.wk (T.val (ZT p_d.fName))
 intro r5608 h5609 _
 refine MT.say (MT.ite (fun c5611=>?_) (fun c5611=>?_))
 ·exact MT.say MT.any
 refine MT.say (MT.ite (fun c5613=>?_) (fun c5613=>?_))
 ·have c5613':=of_decide_eq_true c5613
  exact MT.say MT.any
 have c5613':=of_decide_eq_false c5613
 refine MT.say (MT.jh (R:=Any) ?_ ?_ ?_)
 ·refine T.cnt (fun _=>True) ?_
  intro k74 hk74
  have:=lF aW.lf p_d.bn (((k74:Nat):Int).toNat)
  have:=lX (p_d.bn.take ((k74:Nat):Int).toNat)
  show MT (Qx p_d ((k74:Nat):Int)) _
  refine MT.ite (fun c5672=>?_) (fun c5672=>?_)
  ·have c5672':=of_decide_eq_true c5672
   refine MT.say (MT.ask (dU p_d.bn ((k74:Nat):Int) (by omega) (by omega)) (fun x5673 _ hx75=>?_))
   have:=BR hx75
   have:=iR x5673
   refine MT.say (MT.ask (R:=Any) ?_ ?_)
   ·exact T.wk (nD x5673 (by first|omega|(simp;done)|decide))
   intro r5675 h5676 _
   refine MT.say (MT.ite (fun c5677=>?_) (fun c5677=>?_))
   ·have c5677':¬(r5675=0):=by simpa using c5677
    exact MT.say (MT.ret trivial)
   have c5677':r5675=0:=by simpa using c5677
   refine MT.say (MT.grd (by omega) (fun _=>?_))
   refine MT.say (MT.ask (R:=Any) ?_ ?_)
   ·exact T.wk (qw (p_d.bn.take ((k74:Nat):Int).toNat) x5673.fName (Nat.le_trans (lF _ _ _) (by omega)) (by first|omega|(simp;done)|decide))
   intro r5679 h5680 _
   refine MT.say (MT.ite (fun c5681=>?_) (fun c5681=>?_))
   ·have c5681':=of_decide_eq_true c5681
    exact MT.say (MT.ret trivial)
   have c5681':=of_decide_eq_false c5681
   exact MT.say (MT.ret ⟨rfl,by omega⟩)
  have c5672':=of_decide_eq_false c5672
  exact MT.say (MT.ret trivial)
 ·intro o5687 h5686 _
  exact MT.say MT.any
 intro o5688 h5686 _
 refine MT.say (MT.ask (R:=fun b_=>(b_=true→True)∧(b_=false→¬((p_d.yx:Int)<0)∧¬((2:Int)<p_d.yx)∧True)) ?_ ?_)
 ·show MT (Qy p_d) _
  refine MT.ite (fun c5690=>?_) (fun c5690=>?_)
  ·have c5690':=of_decide_eq_true c5690
   exact MT.say (MT.ret ⟨(fun _=>trivial),(fun h_=>by cases h_)⟩)
  have c5690':=of_decide_eq_false c5690
  exact MT.say (MT.ret ⟨(fun _=>trivial),(fun h_=>⟨(by first|assumption|omega),(of_decide_eq_false h_),trivial⟩)⟩)
 intro r5692 h5693 f_r5692
 refine MT.say (MT.ite (fun c5695=>?_) (fun c5695=>?_))
 ·exact MT.say MT.any
 have q76:=f_r5692.2 (c5695)
 refine MT.say (MT.ask (R:=fun b_=>(b_=true→¬(p_d.oH=0)∧¬(p_d.oH=1)∧True)∧(b_=false→True)) ?_ ?_)
 ·show MT (JE p_d) _
  refine MT.ite (fun c5697=>?_) (fun c5697=>?_)
  ·have c5697':¬(p_d.oH=0):=by simpa using c5697
   exact MT.say (MT.ret ⟨(fun h_=>⟨(by first|assumption|omega),(by simpa using h_),trivial⟩),(fun _=>trivial)⟩)
  have c5697':p_d.oH=0:=by simpa using c5697
  exact MT.say (MT.ret ⟨(fun h_=>by cases h_),(fun _=>trivial)⟩)
 intro r5699 h5700 f_r5699
 refine MT.say (MT.ite (fun c5702=>?_) (fun c5702=>?_))
 ·have q77:=f_r5699.1 (c5702)
  exact MT.say MT.any
 refine MT.say (MT.ask (R:=Any) ?_ ?_)
 ·exact T.wk (Ce p_d.fV (by first|omega|(simp;done)|decide))
 intro r6217 h6218 _
 exact MT.say MT.any
theorem uw(n_:Nat):∀(p_w:ay) (p_least:Int) (p_greatest:Int),aU p_w.lf1<n_→aU p_w.lf1≤100000000→Tot ((jM n_).m1 p_w p_least p_greatest) Any:=by
 induction n_ with
 |zero=>simp
 |succ n_ ih=>
  intro p_w p_least p_greatest h_ h_p_w
  have:=dM p_w
  have:=iC p_w.gy
  have:=iR p_w.eP
  have:=jI p_w.bG
  have:=Sl p_w.iq
  show MT (aed (jM n_) p_w p_least p_greatest) Any
  refine MT.ask (R:=Any) ?_ ?_
  ·exact T.wk (rF p_w.aB)
  intro r8141 h8142 _
  (repeat refine MT.say ?_);refine MT.ask (R:=fun b_=>(b_=true→True)∧(b_=false→¬((p_w.aB:Int)<p_least)∧¬((p_greatest:Int)<p_w.aB)∧True)) ?_ ?_
  ·show MT (Nz (jM n_) p_greatest p_least p_w r8141) _
   refine MT.ite (fun c8478=>?_) (fun c8478=>?_)
   ·have c8478':=of_decide_eq_true c8478
    (repeat refine MT.say ?_);exact MT.ret ⟨(fun _=>trivial),(fun h_=>by cases h_)⟩
   have c8478':=of_decide_eq_false c8478
   (repeat refine MT.say ?_);exact MT.ret ⟨(fun _=>trivial),(fun h_=>⟨(by first|assumption|omega),(of_decide_eq_false h_),trivial⟩)⟩
  intro r8480 h8481 f_r8480
  (repeat refine MT.say ?_);refine MT.ask (R:=fun b_=>(b_=true→True)∧(b_=false→r8480=false∧True)) ?_ ?_
  ·show MT (NC (jM n_) p_greatest p_w r8141 r8480) _
   refine MT.ite (fun c8482=>?_) (fun c8482=>?_)
   ·(repeat refine MT.say ?_);exact MT.ret ⟨(fun _=>trivial),(fun h_=>by cases h_)⟩
   have q78:=f_r8480.2 (c8482)
   (repeat refine MT.say ?_);refine MT.ask (R:=Any) ?_ ?_
   ·exact T.wk (pW p_w)
   intro r8483 h8484 _
   (repeat refine MT.say ?_);exact MT.ret ⟨(fun _=>trivial),(fun h_=>⟨(by first|assumption|omega),trivial⟩)⟩
  intro r8486 h8487 f_r8486
  (repeat refine MT.say ?_);refine MT.ask (R:=fun b_=>(b_=true→True)∧(b_=false→r8486=false∧True)) ?_ ?_
  ·show MT (F6 (jM n_) p_greatest p_w r8141 r8486) _
   refine MT.ite (fun c8488=>?_) (fun c8488=>?_)
   ·(repeat refine MT.say ?_);exact MT.ret ⟨(fun _=>trivial),(fun h_=>by cases h_)⟩
   have q79:=f_r8486.2 (c8488)
   have q80:=f_r8480.2 (q79.1)
   (repeat refine MT.say ?_);refine MT.ite (fun c8489=>?_) (fun c8489=>?_)
   ·(repeat refine MT.say ?_);exact MT.ret ⟨(fun _=>trivial),(fun h_=>⟨(by first|assumption|omega),trivial⟩)⟩
   (repeat refine MT.say ?_);exact MT.ret ⟨(fun h_=>by cases h_),(fun h_=>⟨(by first|assumption|omega),trivial⟩)⟩
  intro r8491 h8492 f_r8491
  (repeat refine MT.say ?_);refine MT.ite (fun c8494=>?_) (fun c8494=>?_)
  ·(repeat refine MT.say ?_);exact MT.any
  have q81:=f_r8491.2 (c8494)
  have q82:=f_r8486.2 (q81.1)
  have q83:=f_r8480.2 (q82.1)
  (repeat refine MT.say ?_);refine MT.ite (fun c8496=>?_) (fun c8496=>?_)
  ·have c8496':=of_decide_eq_true c8496
   (repeat refine MT.say ?_);exact MT.any
  have c8496':=of_decide_eq_false c8496
  (repeat refine MT.say ?_);refine MT.ask (R:=Any) ?_ ?_
  ·show MT (F7 (jM n_) p_greatest p_w r8141) Any
   refine MT.ite (fun c8517=>?_) (fun c8517=>?_)
   ·(repeat refine MT.say ?_);refine MT.ask (R:=Any) ?_ ?_
    ·exact T.wk (T.val (oM p_w.aT))
    intro r8518 h8519 _
    (repeat refine MT.say ?_);exact MT.any
   (repeat refine MT.say ?_);exact MT.any
  intro r8521 h8522 _
  (repeat refine MT.say ?_);refine MT.ask (R:=fun b_=>(b_=true→True)∧(b_=false→r8521=false∧True)) ?_ ?_
  ·show MT (F8 (jM n_) p_greatest p_w r8141 r8521) _
   refine MT.ite (fun c8523=>?_) (fun c8523=>?_)
   ·(repeat refine MT.say ?_);exact MT.ret ⟨(fun _=>trivial),(fun h_=>by cases h_)⟩
   (repeat refine MT.say ?_);refine MT.ite (fun c8524=>?_) (fun c8524=>?_)
   ·(repeat refine MT.say ?_);refine MT.ask (R:=Any) ?_ ?_
    ·exact T.wk (T.val (oM p_w.dP))
    intro r8525 h8526 _
    (repeat refine MT.say ?_);exact MT.ret ⟨(fun _=>trivial),(fun h_=>⟨(by first|assumption|omega),trivial⟩)⟩
   (repeat refine MT.say ?_);exact MT.ret ⟨(fun h_=>by cases h_),(fun h_=>⟨(by first|assumption|omega),trivial⟩)⟩
  intro r8528 h8529 f_r8528
  (repeat refine MT.say ?_);refine MT.ask (R:=fun b_=>(b_=true→True)∧(b_=false→r8528=false∧True)) ?_ ?_
  ·show MT (F9 (jM n_) p_greatest p_w r8141 r8528) _
   refine MT.ite (fun c8530=>?_) (fun c8530=>?_)
   ·(repeat refine MT.say ?_);exact MT.ret ⟨(fun _=>trivial),(fun h_=>by cases h_)⟩
   have q84:=f_r8528.2 (c8530)
   (repeat refine MT.say ?_);refine MT.ite (fun c8531=>?_) (fun c8531=>?_)
   ·(repeat refine MT.say ?_);refine MT.ask (R:=Any) ?_ ?_
    ·exact T.wk (T.val (oM p_w.eP.fName))
    intro r8532 h8533 _
    (repeat refine MT.say ?_);exact MT.ret ⟨(fun _=>trivial),(fun h_=>⟨(by first|assumption|omega),trivial⟩)⟩
   (repeat refine MT.say ?_);exact MT.ret ⟨(fun h_=>by cases h_),(fun h_=>⟨(by first|assumption|omega),trivial⟩)⟩
  intro r8535 h8536 f_r8535
  (repeat refine MT.say ?_);refine MT.ite (fun c8538=>?_) (fun c8538=>?_)
  ·(repeat refine MT.say ?_);exact MT.any
  have q85:=f_r8535.2 (c8538)
  have q86:=f_r8528.2 (q85.1)
  (repeat refine MT.say ?_);refine MT.ask (R:=Any) ?_ ?_
  ·show MT (Rx (jM n_) p_greatest p_w r8141) Any
   refine MT.ite (fun c8645=>?_) (fun c8645=>?_)
   ·(repeat refine MT.say ?_);refine MT.ask (R:=Any) ?_ ?_
    ·exact T.wk (vJ p_w)
    intro r8646 h8647 _
    (repeat refine MT.say ?_);exact MT.any
   (repeat refine MT.say ?_);exact MT.any
  intro r8649 h8650 _
  (repeat refine MT.say ?_);refine MT.ask (R:=fun b_=>(b_=true→True)∧(b_=false→r8649=false∧True)) ?_ ?_
  ·show MT (Ry (jM n_) p_greatest p_w r8141 r8649) _
   refine MT.ite (fun c8651=>?_) (fun c8651=>?_)
   ·(repeat refine MT.say ?_);exact MT.ret ⟨(fun _=>trivial),(fun h_=>by cases h_)⟩
   (repeat refine MT.say ?_);refine MT.ite (fun c8652=>?_) (fun c8652=>?_)
   ·(repeat refine MT.say ?_);refine MT.ask (R:=Any) ?_ ?_
    ·exact T.wk (uj p_w.iq (by first|omega|(simp;done)|decide))
    intro r8653 h8654 _
    (repeat refine MT.say ?_);exact MT.ret ⟨(fun _=>trivial),(fun h_=>⟨(by first|assumption|omega),trivial⟩)⟩
   (repeat refine MT.say ?_);exact MT.ret ⟨(fun h_=>by cases h_),(fun h_=>⟨(by first|assumption|omega),trivial⟩)⟩
  intro r8656 h8657 f_r8656
  (repeat refine MT.say ?_);refine MT.ite (fun c8659=>?_) (fun c8659=>?_)
  ·(repeat refine MT.say ?_);exact MT.any
  have q87:=f_r8656.2 (c8659)
  (repeat refine MT.say ?_);refine MT.jh (R:=Any) ?_ ?_ ?_
  ·show MT (Rz (jM n_) p_greatest p_w r8141) Any
   refine MT.ite (fun c8940=>?_) (fun c8940=>?_)
   ·(repeat refine MT.say ?_);refine MT.ask (R:=Any) ?_ ?_
    ·exact T.wk (xA p_w (by first|omega|(simp;done)|decide))
    intro r8941 h8942 _
    (repeat refine MT.say ?_);refine MT.ite (fun c8943=>?_) (fun c8943=>?_)
    ·have c8943':¬(r8941=0):=by simpa using c8943
     (repeat refine MT.say ?_);exact MT.any
    have c8943':r8941=0:=by simpa using c8943
    (repeat refine MT.say ?_);exact MT.any
   (repeat refine MT.say ?_);exact MT.any
  ·intro o8948 h8947 _
   (repeat refine MT.say ?_);exact MT.any
  intro o8949 h8947 _
  (repeat refine MT.say ?_);refine MT.jh (R:=Any) ?_ ?_ ?_
  ·show MT (RD (jM n_) p_greatest p_w) Any
   refine MT.ite (fun c8958=>?_) (fun c8958=>?_)
   ·have c8958':p_w.aB=4:=by simpa using c8958
    (repeat refine MT.say ?_);refine MT.ask (R:=Any) ?_ ?_
    ·exact T.wk (qx p_w.gy (by first|omega|(simp;done)|decide))
    intro r8959 h8960 _
    (repeat refine MT.say ?_);exact MT.any
   have c8958':¬(p_w.aB=4):=by simpa using c8958
   (repeat refine MT.say ?_);refine MT.ite (fun c8961=>?_) (fun c8961=>?_)
   ·have c8961':p_w.aB=6:=by simpa using c8961
    (repeat refine MT.say ?_);refine MT.ask (R:=Any) ?_ ?_
    ·exact T.wk (nD p_w.eP (by first|omega|(simp;done)|decide))
    intro r8962 h8963 _
    (repeat refine MT.say ?_);exact MT.any
   have c8961':¬(p_w.aB=6):=by simpa using c8961
   (repeat refine MT.say ?_);refine MT.ite (fun c8964=>?_) (fun c8964=>?_)
   ·have c8964':p_w.aB=8:=by simpa using c8964
    (repeat refine MT.say ?_);exact MT.any
   have c8964':¬(p_w.aB=8):=by simpa using c8964
   (repeat refine MT.say ?_);refine MT.ite (fun c8965=>?_) (fun c8965=>?_)
   ·have c8965':p_w.aB=9:=by simpa using c8965
    (repeat refine MT.say ?_);exact MT.any
   have c8965':¬(p_w.aB=9):=by simpa using c8965
   (repeat refine MT.say ?_);exact MT.any
  ·intro o8972 h8971 _
   (repeat refine MT.say ?_);exact MT.any
  intro o8973 h8971 _
  (repeat refine MT.say ?_);refine MT.jh (R:=Any) ?_ ?_ ?_
  ·refine T.cnt (fun _=>True) ?_
   intro k88 hk88
   show MT (RF (jM n_) o8973 p_w ((k88:Nat):Int)) _
   refine MT.ite (fun c9010=>?_) (fun c9010=>?_)
   ·have c9010':=of_decide_eq_true c9010
    (repeat refine MT.say ?_);refine MT.ask (dU p_w.bG ((k88:Nat):Int) (by omega) (by omega)) (fun x9011 _ hx89=>?_)
    have:=kV hx89
    have:=dM x9011
    (repeat refine MT.say ?_);refine MT.ask (R:=Any) ?_ ?_
    ·grind
    intro r9013 h9014 _
    (repeat refine MT.say ?_);refine MT.ite (fun c9015=>?_) (fun c9015=>?_)
    ·have c9015':¬(r9013=0):=by simpa using c9015
     (repeat refine MT.say ?_);exact MT.ret trivial
    have c9015':r9013=0:=by simpa using c9015
    (repeat refine MT.say ?_);exact MT.ret ⟨rfl,by omega⟩
   have c9010':=of_decide_eq_false c9010
   (repeat refine MT.say ?_);exact MT.ret trivial
  ·intro o9019 h9018 _
   (repeat refine MT.say ?_);exact MT.any
  intro o9020 h9018 _
  (repeat refine MT.say ?_);exact MT.any
theorem nV(p_w:ay)(p_least:Int)(p_greatest:Int)(h_p_w:aU p_w.lf1≤100000000):Tot (Q8 p_w p_least p_greatest) Any:=uw FU p_w p_least p_greatest (by have:=gq;omega) h_p_w
theorem DF(p_e:bD)(h_p_e:aU p_e.lf1≤100000000):Tot (Q66 p_e) Any:=by
 have:=lN p_e
 have:=dM p_e.dZ
 show MT (Xz p_e) Any
 repeat' (first|exact MT.any|refine MT.say ?_|refine MT.ite (fun _=>?_) (fun _=>?_)|refine MT.kL ?_ (fun _ _=>?_)|exact⟨T.wk (T.val (oM _))⟩|exact⟨T.wk (nV _ _ _ (by first|omega|decide))⟩|refine⟨(show MT _ Any from ?_)⟩)
theorem pX{α:Type}(l:List α)(c:α→Option α)(g:Nat)(hl:l.length≤100000000)(hg:g≤1000000)(hc:∀x∈l,c x=some x)(T0:Int×List α→Option ((Int×List α)⊕List α))
 (hT:∀(k:Nat) (s:List α),T0 ((k:Int),s)=bif decide ((k:Int)<(l.length:Int)) then(jf l (k:Int)).bind fun x=>(c x).bind fun r=>if(s.length+[r].length)*g≤140737488355328 then some (.inl (IntKind.wrap .i64 ((k:Int)+1),s++[r])) else none else some (.inr s)):
 dA T0 FU (0,[])=some l:=by
 have:Tot (dA T0 FU (0,[])) (fun r=>r=l):=by
  refine T.lY l.length (by omega) (fun k s=>s.1=(k:Int)∧s.2=l.take k) _ ⟨rfl,rfl⟩ ?_ ?_
  ·rintro k ⟨i,s⟩ hk ⟨h1,h2⟩
   obtain rfl:i=(k:Int):=h1
   obtain rfl:s=l.take k:=h2
   have hx:=List.getElem?_eq_getElem hk
   rw[hT]
   simp only[ltt hx,gid hx,cond_true,Option.bind_some,hc _ (gK hx),List.length_take,List.length_cons,List.length_nil]
   have hkk:(min k l.length+(0+1))*g≤140737488355328:=Nat.le_trans (Nat.mul_le_mul (show min k l.length+(0+1)≤100000001 by omega) hg) (by omega)
   rw[if_pos hkk]
   exact T.ret ⟨inc k (by omega),by rw[List.take_succ_eq_append_getElem hk]⟩
  rintro⟨i,s⟩ ⟨h1,h2⟩
  obtain rfl:i=(l.length:Int):=h1
  obtain rfl:s=l.take l.length:=h2
  rw[hT]
  simp only[ltn,cond_false]
  exact T.ret (List.take_length ..)
 obtain⟨r,h,rfl⟩:=this
 exact h
theorem cloneS(l:List ByteArray)(h:l.length≤100000000):Q78 l=some l:=by unfold Q78;rw[if_pos (by omega)]
theorem akP(l:List dB)(h:l.length≤100000000):aga l=some l:=by unfold aga;rw[if_pos (by omega)]
theorem NM{α β:Type}{m:Option α}{a:α}(f:α→β)(h:m=some a):(m.bind fun r=>some (f r))=some (f a):=by rw[h];rfl
theorem uy(n:Nat):∀v:aj,aU v.lf1<n→aU v.lf1≤100000000→(qH n).m1 v=some v:=by
 induction n with
 |zero=>simp
 |succ n ih=>
  intro v h hb
  have hbv:=bZ v
  have hl:=gI v.aX
  have hd:=eY v.bC
  have h1:adg (qH n) v 0 []=some v.aX:=pX v.aX (fun x=>(qH n).m1 x) 80 (by omega) (by omega) (fun x hx=>by have:=iK hx;exact ih x (by omega) (by omega)) _ (fun k s=>by simp only[Fj,Mo.den,aN,aG,aH,aK,aJ])
  have h2:adh (qH n) v v.aX 0 []=some v.bC:=pX v.bC (fun x=>((qH n).m1 x.fValue).bind fun r=>some (aF.mk x.fName r)) 96 (by omega) (by omega) (fun x hx=>by have:=eH hx;have:=dR x;have e:=ih x.fValue (by omega) (by omega);cases x;exact NM (aF.mk _) e) _ (fun k s=>by simp only[Fp,Mo.den,aN,aG,aH,aK,aJ,Option.bind_assoc,Option.bind_some])
  show Mo.den (Xk (qH n) v)=some v
  simp only[Xk,Mo.den,aN,aG,aH,aK,aJ,h1,h2,Option.bind_some]
  cases v;rfl
theorem gZ(v:aj)(h:aU v.lf1≤100000000):Q15 v=some v:=uy FU v (by have:=gq;omega) h
theorem mW(n:Nat):(∀v:aj,2*aU v.lf1<n→aU v.lf1≤100000000→(oz n).m1 v=some v)∧∀l:List aj,2*bQ (l.map aj.lf)+1<n→bQ (l.map aj.lf)≤100000000→(oz n).m2 l=some l:=by
 induction n with
 |zero=>simp
 |succ n ih=>
  refine⟨fun v h hb=>?_,fun l h hb=>?_⟩
  ·have hbv:=bZ v
   have hd:=eY v.bC
   have h1:=ih.2 v.aX (by omega) (by omega)
   have h2:acH (oz n) v v.aX 0 []=some v.bC:=pX v.bC (fun x=>((oz n).m1 x.fValue).bind fun r=>some (aF.mk x.fName r)) 96 (by omega) (by omega) (fun x hx=>by have:=eH hx;have:=dR x;have e:=ih.1 x.fValue (by omega) (by omega);cases x;exact NM (aF.mk _) e) _ (fun k s=>by simp only[EW,Mo.den,aN,aG,aH,aK,aJ,Option.bind_assoc,Option.bind_some])
   show Mo.den (WX (oz n) v)=some v
   simp only[WX,Mo.den,aN,aG,aH,aK,aJ,h1,h2,Option.bind_some]
   cases v;rfl
  have hl:=gI l
  have h1:acI (oz n) l 0 []=some l:=pX l (fun x=>(oz n).m1 x) 80 (by omega) (by omega) (fun x hx=>by have:=iK hx;exact ih.1 x (by omega) (by omega)) _ (fun k s=>by simp only[EX,Mo.den,aN,aG,aH,aK,aJ])
  show Mo.den (WY (oz n) l)=some l
  simp only[WY,Mo.den,aN,aG,aH,aK,aJ,h1,Option.bind_some]
theorem jc(v:aj)(h:aU v.lf1≤100000000):Q38 v=some v:=(mW FU).1 v (by have:=gq;omega) h
theorem mX(l:List aj)(h:bQ (l.map aj.lf)≤100000000):Q46 l=some l:=(mW FU).2 l (by have:=gq;omega) h
theorem vM(n:Nat):∀v:bf,aU v.lf1<n→aU v.lf1≤100000000→(Df n).m1 v=some v:=by
 induction n with
 |zero=>simp
 |succ n ih=>
  intro v h hb
  have hbv:=kU v
  have hl:=BP v.dF
  have hp:=iZ v.dQ
  have hn:=iZ v.iV
  have hc1:=cloneS v.dQ (by omega)
  have hc2:=cloneS v.iV (by omega)
  have h0:=jc v.fArg (by omega)
  have h1:acK (Df n) v v.dQ v.iV v.fArg 0 []=some v.dF:=pX v.dF (fun x=>(Df n).m1 x) 184 (by omega) (by omega) (fun x hx=>by have:=Sm hx;exact ih x (by omega) (by omega)) _ (fun k s=>by simp only[EY,Mo.den,aN,aG,aH,aK,aJ])
  show Mo.den (WZ (Df n) v)=some v
  simp only[WZ,Mo.den,aN,aG,aH,aK,aJ,hc1,hc2,h0,h1,Option.bind_some]
  cases v;rfl
theorem xO(v:bf)(h:aU v.lf1≤100000000):Q56 v=some v:=vM FU v (by have:=gq;omega) h
theorem vN(n:Nat):∀v:aS,aU v.lf1<n→aU v.lf1≤100000000→(Dh n).m1 v=some v:=by
 induction n with
 |zero=>simp
 |succ n ih=>
  intro v h hb
  have hbv:=iW v
  have hl:=wR v.dF
  have hp:=iZ v.dQ
  have hs:=pR v.dK
  have hq:=Gi v.dK.fA
  have hc1:=cloneS v.dQ (by omega)
  have hc2:=akP v.dK.fA (by omega)
  have h0:=jc v.fArg (by omega)
  have h3:=mX v.fArgs (by omega)
  have h4:=xO v.fExpr (by omega)
  have h1:acL (Dh n) v v.dQ v.fArg v.fArgs v.dK.fA v.fExpr 0 []=some v.dF:=pX v.dF (fun x=>(Dh n).m1 x) 400 (by omega) (by omega) (fun x hx=>by have:=Gj hx;exact ih x (by omega) (by omega)) _ (fun k s=>by simp only[EZ,Mo.den,aN,aG,aH,aK,aJ])
  show Mo.den (W9 (Dh n) v)=some v
  simp only[W9,Mo.den,aN,aG,aH,aK,aJ,hc1,hc2,h0,h3,h4,h1,Option.bind_some]
  rcases v with⟨_,_,_,_,_,_,sh,e,_⟩
  cases sh;cases e;rfl
theorem xP(v:aS)(h:aU v.lf1≤100000000):Q57 v=some v:=vN FU v (by have:=gq;omega) h
theorem nX(v:aW)(h:aU v.lf1≤100000000):Q49 v=some v:=by
 have hbv:=iR v
 have hl:=pU v.iD
 have h0:=xP v.jE (by omega)
 have h1:acM v 0 []=some v.iD:=pX v.iD (fun x=>(Q78 x.dQ).bind fun r=>some (bU.mk r x.oP)) 32 (by omega) (by omega) (fun x hx=>by have:=wS hx;have:=pO x;have:=iZ x.dQ;rw[cloneS x.dQ (by omega)];rfl) _ (fun k s=>by simp only[E5,Mo.den,aN,aG,aH,aK,aJ,Option.bind_assoc,Option.bind_some])
 show Mo.den (acN v)=some v
 simp only[acN,Mo.den,aN,aG,aH,aK,aJ,h0,h1,Option.bind_some]
 cases v;rfl
theorem tK(n:Nat):∀v:aA,aU v.lf1<n→aU v.lf1≤100000000→(qF n).m1 v=some v:=by
 induction n with
 |zero=>simp
 |succ n ih=>
  intro v h hb
  have hbv:=iM v
  have hl:=BQ v.dW
  have hk:=vG v.fB
  have hr:=iZ v.dJ
  have hc1:=cloneS v.dJ (by omega)
  have h0:=jc v.lI (by omega)
  have h3:=jc v.lJ (by omega)
  have h4:=mX v.jU (by omega)
  have h1:acP (qF n) v v.lI v.lJ v.jU v.dJ 0 []=some v.dW:=pX v.dW (fun x=>((qF n).m1 x.fV).bind fun r=>some (cu.mk x.fName r)) 328 (by omega) (by omega) (fun x hx=>by have:=Gl hx;have:=wQ x;have e:=ih x.fV (by omega) (by omega);cases x;exact NM (cu.mk _) e) _ (fun k s=>by simp only[E8,Mo.den,aN,aG,aH,aK,aJ,Option.bind_assoc,Option.bind_some])
  have h2:acQ (qF n) v v.lI v.lJ v.jU v.dJ v.dW 0 []=some v.fB:=pX v.fB (fun x=>(qF n).m1 x) 312 (by omega) (by omega) (fun x hx=>by have:=Gm hx;exact ih x (by omega) (by omega)) _ (fun k s=>by simp only[Fa,Mo.den,aN,aG,aH,aK,aJ];cases v;rfl)
  show Mo.den (Xa (qF n) v)=some v
  simp only[Xa,Mo.den,aN,aG,aH,aK,aJ,hc1,h0,h3,h4,h1,h2,Option.bind_some]
  cases v;rfl
theorem uz(v:aA)(h:aU v.lf1≤100000000):Q29 v=some v:=tK FU v (by have:=gq;omega) h
theorem kM(v:ak)(h:aU v.lf1≤100000000):Q31 v=some v:=by
 have hbv:=iC v
 have hl:=lX v.bn
 have h0:=uz v.fV (by omega)
 have h1:acR v 0 []=some v.bn:=pX v.bn (fun x=>Q49 x) 456 (by omega) (by omega) (fun x hx=>by have:=BR hx;exact nX x (by omega)) _ (fun k s=>by simp only[Fb,Mo.den,aN,aG,aH,aK,aJ])
 show Mo.den (acS v)=some v
 simp only[acS,Mo.den,aN,aG,aH,aK,aJ,h0,h1,Option.bind_some]
theorem Ci{x:ak}{l:List ak}(h:x∈l):aU x.lf1≤bQ (l.map ak.lf):=iw _ h
theorem nH(l:List ak):l.length≤bQ (l.map ak.lf):=fD _ (fun x=>by rw[ak.aY,iC];omega) l
theorem jO(l:List ak)(h:bQ (l.map ak.lf)≤100000000):Q45 l=some l:=by
 have hl:=nH l
 have h1:ads l 0 []=some l:=pX l (fun x=>Q31 x) 368 (by omega) (by omega) (fun x hx=>by have:=Ci hx;exact kM x (by omega)) _ (fun k s=>by simp only[Fv,Mo.den,aN,aG,aH,aK,aJ])
 show Mo.den (adt l)=some l
 simp only[adt,Mo.den,aN,aG,aH,aK,aJ,h1,Option.bind_some]
theorem Gv:∀(l:List ak),bQ (l.map ak.lf)≤100000000→xZ l=some l
 |[],_=>rfl
 |s::r,h=>by
  simp only[List.map_cons,bQ,ak.aY] at h
  unfold xZ
  rw[kM s (by omega),Gv r (by omega)]
theorem NP{α:Type}(l:List α)(hl:l.length≤100000000)(T0:Int→Option (Int⊕(Unit⊕Unit)))(h1:∀(k:Nat) x,l[k]?=some x→T0 (k:Int)=some (.inl (IntKind.wrap .i64 ((k:Int)+1))))(h2:T0 (l.length:Int)=some (.inr (.inr ()))):dA T0 FU 0=some (.inr ()):=by
 have:Tot (dA T0 FU 0) (fun r=>r=.inr ()):=T.akN l (by omega) _ (fun k x hx=>by rw[h1 k x hx];exact T.ret rfl) (by rw[h2];exact T.ret rfl)
 obtain⟨r,h,rfl⟩:=this
 exact h
theorem rM(n:Nat):∀v:aj,aU v.lf1<n→aU v.lf1≤100000000→(pK n).m1 v v=some true:=by
 induction n with
 |zero=>simp
 |succ n ih=>
  intro v h hb
  have hbv:=bZ v
  have hl:=gI v.aX
  have hd:=eY v.bC
  have h1:U6 (pK n) v v 0=some (.inr ()):=NP v.aX (by omega) _ (fun k x hx=>by
   have:=iK (gK hx)
   simp only[pJ,Mo.den,aN,aG,aH,aK,aJ,ltt hx,gid hx,cond_true,cond_false,Option.bind_some,ih x (by omega) (by omega),Bool.not_true]) (by simp only[pJ,Mo.den,aN,aG,aH,aK,aJ,ltn,cond_false])
  have h2:U7 (pK n) v v 0=some (.inr ()):=NP v.bC (by omega) _ (fun k x hx=>by
   have:=eH (gK hx)
   have:=dR x
   simp only[rC,Ah,Mo.den,aN,aG,aH,aK,aJ,ltt hx,gid hx,cond_true,cond_false,Option.bind_some,ih x.fValue (by omega) (by omega),Bool.not_true,decide_true]) (by simp only[rC,Mo.den,aN,aG,aH,aK,aJ,ltn,cond_false])
  show Mo.den (ZI (pK n) v v)=some true
  simp only[ZI,Ah,Gg,Gf,NI,NH,Mo.den,aN,aG,aH,aK,aJ,bne_self_eq_false,cond_false,cond_true,Option.bind_some,decide_true,Bool.not_true,h1,h2]
theorem DI(v:aj)(h:aU v.lf1≤100000000):Q2 v v=some true:=rM FU v (by have:=gq;omega) h
theorem Vl{α:Type}(f:α→List Int){l:List α}{k:Nat}{x:α}(h:l[k]?=some x):((l.take (k+1)).map f).flatten=((l.take k).map f).flatten++f x:=by
 have hk:=nC h
 have:l[k]=x:=by rw[List.getElem?_eq_getElem hk] at h;injection h
 rw[List.take_succ_eq_append_getElem hk,List.map_append,List.flatten_append,this];simp
theorem KD{α:Type}(f:α→List Int)(l:List α)(k:Nat):((l.take k).map f).flatten.length≤(l.map f).flatten.length:=by
 have:(l.map f).flatten=((l.take k).map f).flatten++((l.drop k).map f).flatten:=by rw[←List.flatten_append,←List.map_append,List.take_append_drop]
 grind
theorem wV{α:Type}(e:α→List Int)(lf:α→List Lf)(l:List α)(h:∀x∈l,(e x).length≤12*aU (lf x)):((l.map e).flatten).length≤12*bQ (l.map lf):=by
 induction l with
 |nil=>simp
 |cons x r ih=>
  simp only[List.map_cons,List.flatten_cons,List.length_append,bQ]
  grind
theorem Gw{α:Type}{L:Int×List Int→Option ((Int×List Int)⊕List Int)}(l:List α)(hl:l.length≤100000000)(e:α→List Int)(B:Nat)
 (hs:∀(k:Nat) (x:α) (bs:List Int),l[k]?=some x→bs.length+(e x).length≤B→L ((k:Int),bs)=some (.inl (IntKind.wrap .i64 ((k:Int)+1),bs++e x)))
 (he:∀bs,L ((l.length:Int),bs)=some (.inr bs)) (acc:List Int) (hb:acc.length+((l.map e).flatten).length≤B):dA L FU (0,acc)=some (acc++(l.map e).flatten):=by
 have key:Tot (dA L FU (0,acc)) (fun q=>q=acc++(l.map e).flatten):=by
  refine T.lY l.length (by omega) (fun k s=>s=((k:Int),acc++((l.take k).map e).flatten)) _ (by simp) ?_ ?_
  ·rintro k s hk rfl
   have hx:=List.getElem?_eq_getElem hk
   have h1:=KD e l (k+1)
   rw[Vl e hx,List.length_append] at h1
   rw[hs k _ _ hx (by rw[List.length_append];omega)]
   refine T.ret ?_
   show _=_
   rw[inc k (by omega),Vl e hx,List.append_assoc]
  rintro s rfl
  rw[he,List.take_length]
  exact T.ret rfl
 obtain⟨q,h,rfl⟩:=key
 exact h
theorem bsm{α:Type}(x:Option α):(x.bind fun r=>some r)=x:=by simp
theorem Gx{α:Type}(b:Bool)(x y:α):(bif b then some x else some y)=some (bif b then x else y):=by grind
def shB(n s:Int):Int:=IntKind.wrap .u8 (qy .u64 (gW .xor .u64 (IntKind.wrap .u64 n) 9223372036854775808) s)
def n8(n:Int):List Int:=((List.range 8).map fun j:Nat=>[shB n (56-8*(j:Int))]).flatten
def ktB(b:UInt8):List Int:=bif (b.toNat:Int)==0 then [(b.toNat:Int),255] else [(b.toNat:Int)]
def kt(s:ByteArray):List Int:=(s.data.toList.map ktB).flatten
mutual
def kb:aj→List Int
 |.mk k i t l d=>IntKind.wrap .u8 k::(bif k==3||(k==9||k==10) then n8 i else bif k==4||(k==7||k==8) then kt t++[0,0] else bif k==6 then kbL l++[0] else bif k==5 then kbD d++[0] else [])
def kbL:List aj→List Int
 |[]=>[]
 |x::r=>(1::kb x)++kbL r
def kbD:List aF→List Int
 |[]=>[]
 |.mk n v::r=>(1::(numsOf n++(0::kb v)))++kbD r
end
def kbE(v:aj):List Int:=1::kb v
def kbF(f:aF):List Int:=1::(numsOf f.fName++(0::kb f.fValue))
theorem aeE:∀l:List aj,kbL l=(l.map kbE).flatten
 |[]=>by rw[kbL];rfl
 |x::r=>by rw[kbL,aeE r];rfl
theorem aeF:∀l:List aF,kbD l=(l.map kbF).flatten
 |[]=>by rw[kbD];rfl
 |.mk n v::r=>by rw[kbD,aeF r];rfl
theorem SH(v:aj):kb v=IntKind.wrap .u8 v.aB::(bif v.aB==3||(v.aB==9||v.aB==10) then n8 v.dG else bif v.aB==4||(v.aB==7||v.aB==8) then kt v.fText++[0,0] else bif v.aB==6 then(v.aX.map kbE).flatten++[0] else bif v.aB==5 then(v.bC.map kbF).flatten++[0] else []):=by
 cases v
 rw[kb,aeE,aeF];rfl
theorem akQ(b:UInt8):(ktB b).length≤2:=by unfold ktB;cases (b.toNat:Int)==0<;>simp
theorem aiB(s:ByteArray):(kt s).length≤2*s.size:=by
 have:∀l:List UInt8,((l.map ktB).flatten).length≤2*l.length:=by
  intro l
  induction l with
  |nil=>simp
  |cons x r ih=>
   have:=akQ x
   grind
 have:=this s.data.toList
 unfold kt
 simp_all
theorem Vm(n:Int):(n8 n).length=8:=rfl
theorem amG(n:Nat):∀v:aj,aU v.lf1<n→(kb v).length+1≤12*aU v.lf1:=by
 induction n with
 |zero=>simp
 |succ n ih=>
  intro v hlt
  have hp:=bZ v
  have hL:=wV kbE aj.lf v.aX fun x hx=>by
   have hm:=iK hx
   rw[aj.aY];exact ih x (by omega)
  have hD:=wV kbF aF.lf v.bC fun x hx=>by
   have hm:=eH hx
   rw[dR] at hm
   rw[aF.aY,dR]
   have:=ih x.fValue (by omega)
   unfold kbF
   simp only[List.length_cons,List.length_append,oZ];omega
  have hT:=aiB v.fText
  have hN:=Vm v.dG
  have key:∀(c:Bool) (a b:List Int) (m:Nat),a.length≤m→b.length≤m→(bif c then a else b).length≤m:=fun c a b m h1 h2=>by cases c<;>assumption
  rw[SH,List.length_cons]
  grind
theorem kb_le'(v:aj):(kb v).length+1≤12*aU v.lf1:=amG _ v (Nat.lt_succ_self _)
theorem aeG(v:aj):((v.aX.map kbE).flatten).length≤12*bQ (v.aX.map aj.lf):=wV kbE aj.lf v.aX fun x hx=>by
 rw[aj.aY];exact kb_le' x
theorem aeH(v:aj):((v.bC.map kbF).flatten).length≤12*bQ (v.bC.map aF.lf):=wV kbF aF.lf v.bC fun x hx=>by
 rw[aF.aY,dR]
 have:=kb_le' x.fValue
 unfold kbF
 simp only[List.length_cons,List.length_append,oZ];omega
theorem aeI(R:ni)(v:aj)(l:List Int)(hl:l.length≤100000000000):ac5 R v 56 l=some (l++n8 v.dG):=by
 have key:Tot (ac5 R v 56 l) (fun q=>q=l++n8 v.dG):=by
  refine T.lY 8 (by omega) (fun k s=>s=(56-8*(k:Int),l++(((List.range 8).take k).map fun j:Nat=>[shB v.dG (56-8*(j:Int))]).flatten)) _ (by simp) ?_ ?_
  ·rintro k s hk rfl
   have hx:(List.range 8)[k]?=some k:=by rw[List.getElem?_range hk]
   have hf:=Vl (fun j:Nat=>[shB v.dG (56-8*(j:Int))]) hx
   have h1:=KD (fun j:Nat=>[shB v.dG (56-8*(j:Int))]) (List.range 8) k
   have h2:(((List.range 8).map fun j:Nat=>[shB v.dG (56-8*(j:Int))]).flatten).length=8:=rfl
   unfold DZ
   simp only[Mo.den,aN,aG,aH,aK,aJ,decide_eq_true (show(0:Int)≤56-8*(k:Int) by omega),cond_true]
   rw[if_pos (by omega),if_pos (by rw[List.length_append];simp only[List.length_cons,List.length_nil];omega)]
   refine T.ret ?_
   show _=_
   rw[hf,w64 (by omega) (by omega),show(56-8*(k:Int)-8)=56-8*((k+1:Nat):Int) by omega,List.append_assoc];rfl
  rintro s rfl
  unfold DZ
  simp only[Mo.den,aN,aG,aH,aK,aJ,decide_eq_false (show ¬(0:Int)≤56-8*((8:Nat):Int) by omega),cond_false]
  exact T.ret rfl
 obtain⟨q,h,rfl⟩:=key
 exact h
theorem aeJ(R:ni)(v:aj)(l:List Int)(hl:l.length+(kt v.fText).length≤100000000000)(hs:v.fText.size≤100000000):ac6 R v 0 l=some (l++kt v.fText):=by
 refine Gw v.fText.data.toList hs ktB 100000000000 (fun k x bs hx hbs=>?_) (fun bs=>?_) l hl
 ·have hk:k<v.fText.size:=nC hx
  have hxk:v.fText[k]=x:=by rw[byte_at v.fText k hk] at hx;exact Option.some.inj hx
  unfold ktB at hbs ⊢
  unfold zW
  simp only[Qk,Mo.den,aN,aG,aH,aK,aJ,iLt hk,cond_true,nJ v.fText k hk,hxk,Option.bind_some]
  grind
 have e:((v.fText.data.toList.length:Nat):Int)=(v.fText.size:Int):=rfl
 unfold zW
 simp only[Mo.den,aN,aG,aH,aK,aJ,e,ltn,cond_false]
theorem k3(a b c:Bool):(bif a then a else bif b then b else c)=(a||(b||c)):=by simp
theorem aeK(n:Nat):∀(F:Nat) (v:aj),aU v.lf1<n→n≤F→aU v.lf1≤100000000→∀l:List Int,l.length+(kb v).length≤10000000000→(qG F).m2 v l=some (l++kb v):=by
 induction n with
 |zero=>simp
 |succ n ih=>
  intro F v hlt hF hb l hll
  obtain⟨F,rfl⟩:∃K,F=K+1:=⟨F-1,by omega⟩
  have hp:=bZ v
  have hl:=gI v.aX
  have hd:=eY v.bC
  have hT:=aiB v.fText
  have hkl:=kb_le' v
  have hfl:=aeG v
  have hfd:=aeH v
  have e1:(l++[IntKind.wrap .u8 v.aB]).length=l.length+1:=by rw[List.length_append];rfl
  show Mo.den (agW (qG F) v l)=_
  rw[SH] at hll ⊢
  rw[List.length_cons] at hll
  unfold agW
  unfold Ql
  simp only[Mo.den,aN,aG,aH,aK,aJ,Xj,Qj,Gx,k3,bsm,Option.bind_some]
  rw[if_pos (by simp only[List.length_cons,List.length_nil];omega)]
  generalize (v.aB==3||(v.aB==9||v.aB==10))=q1 at *
  generalize (v.aB==4||(v.aB==7||v.aB==8))=q2 at *
  cases q1 with
  |true=>
   simp only[cond_true] at hll ⊢
   rw[aeI _ v _ (by omega)]
   simp
  |false=>
  simp only[cond_false] at hll ⊢
  cases q2 with
  |true=>
   simp only[cond_true] at hll ⊢
   rw[List.length_append] at hll
   rw[aeJ _ v _ (by omega) (by omega)]
   grind
  |false=>
  simp only[cond_false] at hll ⊢
  cases e6:v.aB==6 with
  |true=>
   rw[e6] at hll
   simp only[cond_true] at hll ⊢
   rw[List.length_append] at hll
   have hL:ac7 (qG F) v 0 (l++[IntKind.wrap .u8 v.aB])=some (l++[IntKind.wrap .u8 v.aB]++(v.aX.map kbE).flatten):=by
    refine Gw v.aX (by omega) kbE 10000000000 (fun k x bs hx hbs=>?_) (fun bs=>by unfold zX;simp only[Mo.den,aN,aG,aH,aK,aJ,ltn,cond_false]) _ (by omega)
    have hm:=iK (gK hx)
    have hbs:bs.length+((kb x).length+1)≤10000000000:=hbs
    unfold zX
    simp only[Mo.den,aN,aG,aH,aK,aJ,ltt hx,gid hx,cond_true,Option.bind_some]
    rw[if_pos (by simp only[List.length_cons,List.length_nil];omega),ih F x (by omega) (by omega) (by omega) _ (by rw[List.length_append];show bs.length+1+_≤_;omega)]
    simp[kbE]
   grind
  |false=>
  rw[e6] at hll
  simp only[cond_false] at hll ⊢
  cases e5:v.aB==5 with
  |true=>
   rw[e5] at hll
   simp only[cond_true] at hll ⊢
   rw[List.length_append] at hll
   have hL:ac8 (qG F) v 0 (l++[IntKind.wrap .u8 v.aB])=some (l++[IntKind.wrap .u8 v.aB]++(v.bC.map kbF).flatten):=by
    refine Gw v.bC (by omega) kbF 10000000000 (fun k x bs hx hbs=>?_) (fun bs=>by unfold zY;simp only[Mo.den,aN,aG,aH,aK,aJ,ltn,cond_false]) _ (by omega)
    have hm:=eH (gK hx)
    rw[dR] at hm
    unfold kbF at hbs
    simp only[List.length_cons,List.length_append,oZ] at hbs
    unfold zY
    simp only[Mo.den,aN,aG,aH,aK,aJ,ltt hx,gid hx,cond_true,Option.bind_some]
    rw[if_pos (by simp only[List.length_cons,List.length_nil];omega),if_pos (by simp only[List.length_append,List.length_cons,List.length_nil];omega),if_pos (by simp only[List.length_append,List.length_cons,List.length_nil,oZ];omega),ih F x.fValue (by omega) (by omega) (by omega) _ (by simp only[List.length_append,List.length_cons,List.length_nil,oZ];omega)]
    simp[kbF]
   grind
  |false=>
   simp
end Go.Proofs.YtpdlghcgekojlaaGreatDoor
namespace Go.Proofs.YtpdlghcgekojlaaGreatDoor
open Go.RowKit
section
variable {α:Type}
theorem oN{a b:ByteArray}(h:a.data.toList=b.data.toList):a=b:=by
 rcases a with⟨⟨a⟩⟩;rcases b with⟨⟨b⟩⟩
 grind
def H8(s t:ByteArray):Bool:=bytesBefore s.data.toList t.data.toList
theorem AO(s:ByteArray):H8 s s=false:=WideAt.bytes_irrefl _
theorem aeL{s t:ByteArray}(h:s≠t):H8 s t=true∨H8 t s=true:=WideAt.bytes_total _ _ fun e=>h (oN e)
theorem Gy{a b c:ByteArray}(h:H8 a b=true)(k:H8 b c=true):H8 a c=true:=WideShapes.bytes_trans _ _ _ h k
def jY(l:List (ByteArray×α)):Prop:=l.Pairwise fun p q=>H8 p.1 q.1=true
theorem jY.nil:jY ([]:List (ByteArray×α)):=List.Pairwise.nil
theorem jY.del{l:List (ByteArray×α)}(h:jY l)(s:ByteArray):jY (dH s l):=List.Pairwise.filter _ h
theorem jY.ins{s:ByteArray}{x:α}:∀{l:List (ByteArray×α)},jY l→(∀p∈l,p.1≠s)→jY (iQ s x l)
 |[],_,_=>List.pairwise_singleton _ _
 |(t,y)::r,h,hn=>by
  obtain⟨h1,h2⟩:=List.pairwise_cons.1 h
  have hts:t≠s:=hn (t,y) (List.mem_cons_self ..)
  unfold iQ
  cases hb:bytesBefore s.data.toList t.data.toList with
  |true=>
   refine List.pairwise_cons.2 ⟨fun p hp=>?_,h⟩
   rcases List.mem_cons.1 hp with rfl|hp
   ·exact hb
   exact Gy hb (h1 p hp)
  |false=>
   refine List.pairwise_cons.2 ⟨fun p hp=>?_,jY.ins h2 fun p hp=>hn p (List.mem_cons_of_mem _ hp)⟩
   rcases BA.1 hp with rfl|hp
   ·rcases aeL hts with h3|h3
    ·exact h3
    have:H8 s t=false:=hb
    grind
   grind
theorem jY.put{l:List (ByteArray×α)}(h:jY l)(s:ByteArray)(x:α):jY (eF s x l):=(h.del s).ins fun _ hp=>(lU.1 hp).2
theorem tN{s:ByteArray}:∀{l:List (ByteArray×α)},(∀p∈l,p.1≠s)→dH s l=l:=fun {l} h=>by
 unfold dH
 exact List.filter_eq_self.2 fun p hp=>by simpa using h p hp
theorem Vo{s:ByteArray}{l:List (ByteArray×α)}(h:aI s l=none):∀p∈l,p.1≠s:=fun p hp e=>by
 subst e
 have:=EG (s:=p.1) (x:=p.2) hp
 grind
theorem KE{s:ByteArray}{x:α}:∀{l:List (ByteArray×α)},(∀p∈l,p.1≠s)→dH s (iQ s x l)=l
 |[],_=>by
  unfold iQ dH
  simp
 |(t,y)::r,hn=>by
  have hts:t≠s:=hn (t,y) (List.mem_cons_self ..)
  unfold iQ
  cases hb:bytesBefore s.data.toList t.data.toList with
  |true=>
   show dH s ((s,x)::(t,y)::r)=_
   have:=tN hn
   unfold dH at this ⊢
   grind
  |false=>
   show dH s ((t,y)::iQ s x r)=_
   have:=KE (x:=x) fun p hp=>hn p (List.mem_cons_of_mem _ hp)
   unfold dH at this ⊢
   grind
theorem KG(s:ByteArray)(x:α)(l:List (ByteArray×α)):dH s (eF s x l)=dH s l:=KE fun _ hp=>(lU.1 hp).2
theorem ZY(s:ByteArray)(l:List (ByteArray×α)):dH s (dH s l)=dH s l:=tN fun _ hp=>(lU.1 hp).2
theorem Cj{s:ByteArray}{x:α}:∀{l:List (ByteArray×α)},jY l→aI s l=some x→iQ s x (dH s l)=l
 |[],_,h=>by cases h
 |(t,y)::r,ha,h=>by
  obtain⟨h1,h2⟩:=List.pairwise_cons.1 ha
  unfold aI at h
  by_cases hts:t=s
  ·subst hts
   rw[decide_eq_true rfl] at h
   injection h with h;subst h
   have hn:∀p∈r,p.1≠t:=fun p hp e=>by
    have:=h1 p hp
    rw[e] at this
    have h3:=AO t
    grind
   have hd:dH t ((t,y)::r)=r:=by
    have:=tN hn
    unfold dH at this ⊢
    grind
   rw[hd]
   cases r with
   |nil=>rfl
   |cons p r=>
    have:=h1 p (List.mem_cons_self ..)
    unfold iQ
    have this:bytesBefore t.data.toList p.1.data.toList=true:=this
    rw[this]
  rw[decide_eq_false hts] at h
  have hd:dH s ((t,y)::r)=(t,y)::dH s r:=by
   unfold dH
   grind
  have hb:bytesBefore s.data.toList t.data.toList=false:=by
   cases hb:bytesBefore s.data.toList t.data.toList with
   |false=>rfl
   |true=>
    have h3:=h1 (s,x) (kQ h)
    have h4:=Gy (a:=s) (b:=t) (c:=s) hb h3
    rw[AO] at h4;cases h4
  rw[hd]
  unfold iQ
  rw[hb]
  show(t,y)::iQ s x (dH s r)=_
  rw[Cj h2 h]
theorem Vp{s:ByteArray}{x y:α}{l:List (ByteArray×α)}(ha:jY l)(h:aI s l=some x):eF s x (eF s y l)=l:=by
 unfold eF
 rw[show dH s (iQ s y (dH s l))=dH s l from KG s y l]
 exact Cj ha h
theorem Gz{s:ByteArray}{y:α}{l:List (ByteArray×α)}(h:aI s l=none):dH s (eF s y l)=l:=by
 rw[KG]
 exact tN (Vo h)
theorem Z4{s:ByteArray}{x:α}{l:List (ByteArray×α)}(ha:jY l)(h:aI s l=some x):eF s x (dH s l)=l:=by
 unfold eF
 rw[ZY]
 exact Cj ha h
theorem wW:∀{l:List (ByteArray×α)},jY l→∀{p:ByteArray×α},p∈l→aI p.1 l=some p.2
 |[],_,p,hp=>by cases hp
 |(t,y)::r,ha,p,hp=>by
  obtain⟨h1,h2⟩:=List.pairwise_cons.1 ha
  unfold aI
  by_cases hts:t=p.1
  ·rw[decide_eq_true hts]
   rcases List.mem_cons.1 hp with rfl|hp
   ·rfl
   have h3:=h1 p hp
   have h3:H8 t p.1=true:=h3
   rw[hts,AO] at h3;cases h3
  rw[decide_eq_false hts]
  rcases List.mem_cons.1 hp with rfl|hp
  ·grind
  exact wW h2 hp
theorem KH(s:ByteArray)(x:α):∀l:List (ByteArray×α),(iQ s x l).length=l.length+1
 |[]=>rfl
 |(t,y)::r=>by
  unfold iQ
  cases bytesBefore s.data.toList t.data.toList with
  |true=>rfl
  |false=>show(iQ s x r).length+1=_;rw[KH s x r];rfl
theorem wX(s:ByteArray)(l:List (ByteArray×α)):(dH s l).length≤l.length:=List.length_filter_le ..
theorem rO(s:ByteArray)(x:α)(l:List (ByteArray×α)):(eF s x l).length≤l.length+1:=by
 unfold eF
 rw[KH]
 have:=wX s l
 omega
end
section
variable {α:Type}
theorem wY(d:RM α)(j:Nat)(l:List (ByteArray×List α))(i:Nat):(d.set j l).inner i=if i=j∧j<d.maps.length then l else d.inner i:=by
 unfold RM.inner RM.set
 grind
structure iL (d d':RM α):Prop where
 dir:d'.dir=d.dir
 maps:d.maps <+: d'.maps
theorem iL.refl(d:RM α):iL d d:=⟨rfl,List.prefix_refl _⟩
theorem iL.inner{d d':RM α}(h:iL d d'){j:Nat}(hj:j<d.maps.length):d'.inner j=d.inner j:=by
 obtain⟨t,ht⟩:=h.maps
 unfold RM.inner
 grind
theorem iL.len{d d':RM α}(h:iL d d'):d.maps.length≤d'.maps.length:=h.maps.length_le
structure RWf (d:RM α):Prop where
 hnd:∀s j,aI s d.dir=some j→j<d.maps.length
 inj:∀s t j,aI s d.dir=some j→aI t d.dir=some j→s=t
 asc:jY d.dir
 inn:∀s j,aI s d.dir=some j→jY (d.inner j)
theorem iL.row{d d':RM α}(h:iL d d')(w:RWf d)(s c:ByteArray):d'.row (aI s d.dir) c=d.row (aI s d.dir) c:=by
 cases hs:aI s d.dir with
 |none=>rfl
 |some j=>
  show(aI c (d'.inner j)).getD []=(aI c (d.inner j)).getD []
  rw[h.inner (w.hnd s j hs)]
theorem iL.wf{d d':RM α}(h:iL d d')(w:RWf d):RWf d' where
 hnd:=fun s j hs=>by rw[h.dir] at hs;exact Nat.lt_of_lt_of_le (w.hnd s j hs) h.len
 inj:=fun s t j hs ht=>by rw[h.dir] at hs ht;exact w.inj s t j hs ht
 asc:=by rw[h.dir];exact w.asc
 inn:=fun s j hs=>by rw[h.dir] at hs;rw[h.inner (w.hnd s j hs)];exact w.inn s j hs
theorem RWf.put{d:RM α}(w:RWf d)(j:Nat)(s:ByteArray)(r:List α):RWf (d.put j s r) where
 hnd:=fun t i h=>by show i<(d.maps.set j _).length;rw[List.length_set];exact w.hnd t i h
 inj:=w.inj
 asc:=w.asc
 inn:=fun t i h=>by
  unfold RM.put
  rw[wY]
  split
  ·rename_i h1
   rw[←h1.1]
   exact(w.inn t i h).put s r
  exact w.inn t i h
theorem nI(d:RM α)(s:ByteArray)(i:Nat):(d.make s).inner i=d.inner i:=by
 show(d.maps++[[]]).getD i []=d.maps.getD i []
 grind
theorem mD(d:RM α)(s t:ByteArray):aI t (d.make s).dir=if s=t then some d.maps.length else aI t d.dir:=by
 show aI t (eF s d.maps.length d.dir)=_
 split
 ·rename_i h;subst h;exact fH _ _ _
 rename_i h;exact gV h _ _
theorem jK(d:RM α)(s t:ByteArray):aI t (d.unlink s).dir=if s=t then none else aI t d.dir:=by
 show aI t (dH s d.dir)=_
 split
 ·rename_i h;subst h;exact fZ _ _
 rename_i h;exact gU h _
theorem rP{d:RM α}{i:Nat}(h:d.maps.length≤i):d.inner i=[]:=by
 unfold RM.inner
 grind
theorem RWf.make{d:RM α}(w:RWf d)(s:ByteArray):RWf (d.make s) where
 hnd:=fun t i h=>by
  show i<(d.maps++[[]]).length
  rw[mD] at h
  rw[List.length_append]
  split at h
  ·grind
  have:=w.hnd t i h
  omega
 inj:=fun t u i h k=>by
  rw[mD] at h k
  split at h
  ·injection h with h;subst h
   split at k
   ·grind
   have:=w.hnd u _ k;omega
  split at k
  ·injection k with k;subst k
   have:=w.hnd t _ h;omega
  exact w.inj t u i h k
 asc:=w.asc.put s _
 inn:=fun t i h=>by
  rw[nI]
  rw[mD] at h
  split at h
  ·injection h with h;subst h
   rw[rP (Nat.le_refl _)];exact jY.nil
  exact w.inn t i h
theorem RWf.unlink{d:RM α}(w:RWf d)(s:ByteArray):RWf (d.unlink s) where
 hnd:=fun t i h=>by
  rw[jK] at h
  split at h
  ·cases h
  exact w.hnd t i h
 inj:=fun t u i h k=>by
  rw[jK] at h k
  split at h
  ·cases h
  split at k
  ·cases k
  exact w.inj t u i h k
 asc:=w.asc.del s
 inn:=fun t i h=>by
  rw[jK] at h
  split at h
  ·cases h
  exact w.inn t i h
theorem iL.amH{d d':RM α}{j:Nat}(w:jY (d.inner j))(hj:j<d.maps.length){s:ByteArray}{r r':List α}(h:iL (d.put j s r) d')(hr:aI s (d.inner j)=some r'):iL d (d'.put j s r'):=by
 have hl:(d.put j s r).maps.length=d.maps.length:=by show(d.maps.set j _).length=_;rw[List.length_set]
 refine⟨h.dir,?_⟩
 obtain⟨t,ht⟩:=h.maps
 refine⟨t,?_⟩
 have hin:d'.inner j=eF s r (d.inner j):=by
  rw[h.inner (by rw[hl];exact hj)]
  unfold RM.put
  rw[wY,if_pos ⟨rfl,hj⟩]
 show _=d'.maps.set j (eF s r' (d'.inner j))
 rw[hin,Vp w hr,←ht]
 show d.maps++t=(d.maps.set j _++t).set j _
 rw[List.set_append_left _ _ (by rw[List.length_set];exact hj),List.set_set]
 congr 1
 have:d.inner j=d.maps[j]:=by unfold RM.inner;rw[List.getD_eq_getElem?_getD,List.getElem?_eq_getElem hj];rfl
 simp_all
theorem iL.amI{d d':RM α}{j:Nat}(hj:j<d.maps.length){s:ByteArray}{r:List α}(h:iL (d.put j s r) d')(hr:aI s (d.inner j)=none):iL d (d'.del j s):=by
 have hl:(d.put j s r).maps.length=d.maps.length:=by show(d.maps.set j _).length=_;rw[List.length_set]
 refine⟨h.dir,?_⟩
 obtain⟨t,ht⟩:=h.maps
 refine⟨t,?_⟩
 have hin:d'.inner j=eF s r (d.inner j):=by
  rw[h.inner (by rw[hl];exact hj)]
  unfold RM.put
  rw[wY,if_pos ⟨rfl,hj⟩]
 show _=d'.maps.set j (dH s (d'.inner j))
 rw[hin,Gz hr,←ht]
 show d.maps++t=(d.maps.set j _++t).set j _
 rw[List.set_append_left _ _ (by rw[List.length_set];exact hj),List.set_set]
 congr 1
 have:d.inner j=d.maps[j]:=by unfold RM.inner;rw[List.getD_eq_getElem?_getD,List.getElem?_eq_getElem hj];rfl
 simp_all
theorem iL.akR{d d':RM α}{s:ByteArray}(h:iL (d.make s) d')(hs:aI s d.dir=none):iL d (d'.unlink s):=by
 refine⟨?_,?_⟩
 ·show dH s d'.dir=_
  rw[h.dir]
  exact Gz hs
 exact(List.prefix_append d.maps [[]]).trans h.maps
theorem iL.akS{d d':RM α}(w:RWf d){s:ByteArray}{j:Nat}(h:iL (d.unlink s) d')(hs:aI s d.dir=some j):iL d (d'.link s j):=by
 refine⟨?_,h.maps⟩
 show eF s j d'.dir=_
 rw[h.dir]
 exact Z4 w.asc hs
end
end Go.Proofs.YtpdlghcgekojlaaGreatDoor
namespace Go.Proofs.YtpdlghcgekojlaaGreatDoor
open Go.RowKit
abbrev TxL:=List (ByteArray×ah)
abbrev SeL:=List (ByteArray×au)
def AP:aj:=aj.mk 0 0 ⟨#[]⟩ [] []
structure Bd (K:Nat) (q:List ak) (d:aZ) (x:TxL) (z:SeL):Prop where
 q:bQ (q.map ak.lf)≤K
 dir:d.dir.length≤K
 inn:∀n j,aI n d.dir=some j→(d.inner j).length≤K
 row:∀n j s r,aI n d.dir=some j→aI s (d.inner j)=some r→r.length≤K
 doc:∀n j s r,aI n d.dir=some j→aI s (d.inner j)=some r→∀v∈r,aU v.fC.lf1≤1048576
 tx:x.length≤K
 txw:∀s p,aI s x=some p→bQ (p.bJ.map ay.lf)≤1048576
 ses:z.length≤K
theorem Bd.le{K K':Nat}{q:List ak}{d:aZ}{x:TxL}{z:SeL}(h:Bd K q d x z)(k:K≤K'):Bd K' q d x z:=
 ⟨Nat.le_trans h.q k,Nat.le_trans h.dir k,fun n j e=>Nat.le_trans (h.inn n j e) k,fun n j s r e f=>Nat.le_trans (h.row n j s r e f) k,h.doc,Nat.le_trans h.tx k,h.txw,Nat.le_trans h.ses k⟩
theorem Bd.NQ{K:Nat}{q:List ak}{d:aZ}{x:TxL}{z:SeL}(h:Bd K q d x z)(n:ByteArray)(c:ByteArray):(d.row (aI n d.dir) c).length≤K∧∀v∈d.row (aI n d.dir) c,aU v.fC.lf1≤1048576:=by
 cases hn:aI n d.dir with
 |none=>exact⟨Nat.zero_le _,fun v hv=>by cases hv⟩
 |some j=>
  show((aI c (d.inner j)).getD []).length≤K∧∀v∈(aI c (d.inner j)).getD [],_
  cases hr:aI c (d.inner j) with
  |none=>simp
  |some r=>exact⟨h.row n j c r hn hr,h.doc n j c r hn hr⟩
noncomputable def eqB(a b:aj):Bool:=(YW a b).getD false
theorem XK{a b:aj}(ha:aU a.lf1≤100000000)(hb:aU b.lf1≤100000000):YW a b=some (eqB a b):=by
 obtain⟨r,h,_⟩:=tZ a b ha hb
 unfold eqB;rw[h];rfl
def jP(v:aj):ByteArray×Bool:=bif v.aB==0 then(⟨#[]⟩,false) else bif BU v then(strOfNums (kb v),true) else(⟨#[]⟩,false)
theorem Z5(A:aj)(ha:aU A.lf1≤50000000)(hk:(A.aB==0)=false):Q39 [A] [false]=some (bif BU A then(strOfNums (kb A),0) else(⟨#[]⟩,8)):=by
 have hal:Q86 A=some (BU A):=by
  unfold Q86 ah7
  simp only[Mo.den,aN,aG,aH,aK,aJ,hk,cond_false,KC A (show aU A.lf1≤100000000 by omega),Option.bind_some]
 have k1:=kb_le' A
 have q1:Q5 A []=some (kb A):=by
  have:=aeK (aU A.lf1+1) FU A (Nat.lt_succ_self _) (by have:=gq;omega) (by omega) [] (by simp only[List.length_nil];omega)
  rw[List.nil_append] at this;exact this
 have h0:(ny [false] [A] (((0:Nat):Int),[])).den=some (bif BU A then .inl (((1:Nat):Int),kb A) else .inr (.inl ())):=by
  unfold ny
  simp only[Qm,Mo.den,aN,aG,aH,aK,aJ,ltt (l:=[A]) (k:=0) rfl,gid (l:=[A]) (k:=0) rfl,cond_true,Option.bind_some,hal]
  cases hv:BU A with
  |false=>rfl
  |true=>
   have hd:jf [false] ((0:Nat):Int)=some false:=rfl
   simp only[Bool.not_true,cond_false,q1,Option.bind_some,hd]
   rfl
 have h1:(ny [false] [A] (((1:Nat):Int),kb A)).den=some (.inr (.inr (kb A))):=by
  rfl
 obtain⟨G,hG⟩:∃G,FU=G+2:=⟨FU-2,by have:=gq;omega⟩
 have hl:Na [false] [A] 0 []=some (bif BU A then .inr (kb A) else .inl ()):=by
  unfold Na
  rw[hG]
  show((ny [false] [A] (((0:Nat):Int),[])).den).bind _=_
  rw[h0,Option.bind_some]
  cases hv:BU A with
  |false=>rfl
  |true=>
   rfl
 unfold Q39 ah9
 simp only[Mo.den,aN,aG,aH,aK,aJ,hl,Option.bind_some]
 grind
theorem GH(v:aj)(h:aU v.lf1≤50000000):agX v=some (jP v):=by
 unfold agX ada jP
 simp only[Mo.den,aN,aG,aH,aK,aJ]
 cases hk:v.aB==0 with
 |true=>rfl
 |false=>
  simp only[cond_false,Z5 v h hk,Option.bind_some]
  cases BU v<;>rfl
def atV(t:Int)(r:List aP):aj:=match r.reverse.find? fun v=>decide (v.dw≤t) with
 |some v=>v.fC
 |none=>AP
theorem aeM{α:Type}(p:α→Bool)(l:List α)(k:Nat)(hk:k<l.length):(l.take (k+1)).reverse.find? p=if p l[k] then some l[k] else(l.take k).reverse.find? p:=by
 rw[List.take_succ_eq_append_getElem hk,List.reverse_append,List.reverse_singleton,List.singleton_append,List.find?_cons]
 grind
theorem XL(t:Int)(r:List aP)(h:r.length≤100000000):Q67 t r=some (atV t r):=by
 have key:∀(n:Nat),n≤r.length→∀F,n<F→dA (fun v_=>(vC r t v_).den) F ((n:Int)-1)=some (match (r.take n).reverse.find? fun v=>decide (v.dw≤t) with
  |some v=>.inl (v.fC.aB,v.fC.dG,v.fC.fText,v.fC.aX,v.fC.bC)
  |none=>.inr ()):=by
  intro n
  induction n with
  |zero=>
   intro _ F hF
   obtain⟨F,rfl⟩:∃K,F=K+1:=⟨F-1,by omega⟩
   rfl
  |succ n ih=>
   intro hn F hF
   obtain⟨F,rfl⟩:∃K,F=K+1:=⟨F-1,by omega⟩
   have hx:r[n]?=some r[n]:=List.getElem?_eq_getElem (by omega)
   rw[dA,show((n+1:Nat):Int)-1=(n:Int) by omega]
   unfold vC
   simp only[Mo.den,aN,aG,aH,aK,aJ,decide_eq_true (show(0:Int)≤(n:Int) by omega),cond_true,gid hx,Option.bind_some]
   rw[aeM _ r n (by omega)]
   cases hd:decide (r[n].dw≤t) with
   |true=>rfl
   |false=>
    simp only[cond_false,Option.bind_some]
    rw[w64 (by omega) (by omega)]
    have:=ih (by omega) F (by omega)
    unfold vC at this
    simp only[Mo.den,aN,aG,aH,aK,aJ] at this
    grind
 have h1:=key r.length (Nat.le_refl _) FU (by have:=gq;omega)
 rw[List.take_length] at h1
 unfold Q67 aiy
 simp only[Mo.den,aN,aG,aH,aK,aJ]
 rw[w64 (by omega) (by omega),h1]
 unfold atV
 cases r.reverse.find? fun v=>decide (v.dw≤t) with
 |none=>rfl
 |some v=>
  show some (aj.mk v.fC.aB v.fC.dG v.fC.fText v.fC.aX v.fC.bC)=some v.fC
  obtain⟨st,doc⟩:=v
  cases doc;rfl
theorem AQ{t:Int}{r:List aP}(h:∀v∈r,aU v.fC.lf1≤1048576):aU (atV t r).lf1≤1048576:=by
 unfold atV
 cases hf:r.reverse.find? fun v=>decide (v.dw≤t) with
 |none=>show aU AP.lf1≤_;rw[bZ];decide
 |some v=>grind
theorem aeN{α β:Type}(l:List α)(hl:l.length≤100000000)(p:α→Bool)(f:α→β)(T0:Int→Option (Int⊕(β⊕Unit)))(h1:∀(k:Nat) x,l[k]?=some x→T0 (k:Int)=some (bif p x then .inr (.inl (f x)) else .inl (IntKind.wrap .i64 ((k:Int)+1))))(h2:T0 (l.length:Int)=some (.inr (.inr ()))):
 dA T0 FU 0=some (match l.find? p with|some x=>.inl (f x)|none=>.inr ()):=by
 have:Tot (dA T0 FU 0) (fun r=>r=match l.find? p with|some x=>.inl (f x)|none=>.inr ()):=by
  refine T.lY l.length (by omega) (fun k s=>s=(k:Int)∧l.find? p=(l.drop k).find? p) _ ⟨rfl,by simp⟩ ?_ ?_
  ·rintro k s hk ⟨rfl,he⟩
   have hx:=List.getElem?_eq_getElem hk
   rw[List.drop_eq_getElem_cons hk,List.find?_cons] at he
   rw[h1 k _ hx]
   cases hp:p l[k] with
   |true=>
    rw[hp] at he
    exact T.ret (show _=_ by rw[he])
   |false=>
    rw[hp] at he
    exact T.ret ⟨inc k (by omega),he⟩
  rintro s ⟨rfl,he⟩
  rw[h2]
  rw[List.drop_length] at he
  exact T.ret (show _=_ by rw[he];rfl)
 obtain⟨r,h,rfl⟩:=this
 exact h
theorem XM{α:Type}(l:List α)(hl:l.length≤100000000)(p:α→Bool)(T0:Int→Option (Int⊕(Unit⊕Unit)))(h1:∀(k:Nat) x,l[k]?=some x→T0 (k:Int)=some (bif p x then .inr (.inl ()) else .inl (IntKind.wrap .i64 ((k:Int)+1))))(h2:T0 (l.length:Int)=some (.inr (.inr ()))):
 dA T0 FU 0=some (bif l.any p then .inl () else .inr ()):=by
 rw[aeN l hl p (fun _=>()) T0 h1 h2]
 grind
noncomputable def wrB(sp:ByteArray)(key:aj)(w:ay):Bool:=bif decide (w.aT=sp) then eqB w.dL key else false
def oI(x:TxL)(s:ByteArray):ah:=(aI s x).getD ah.z
noncomputable def holdV(sp:ByteArray)(key:aj)(x:TxL):ByteArray:=match (kR (x.map fun p=>p.1)).find? (fun s=>(oI x s).bJ.any (wrB sp key)) with
 |some s=>s
 |none=>⟨#[]⟩
theorem Z7{K:Nat}{q:List ak}{d:aZ}{x:TxL}{z:SeL}(h:Bd K q d x z)(s:ByteArray):bQ ((oI x s).bJ.map ay.lf)≤1048576:=by
 unfold oI
 cases hs:aI s x with
 |none=>exact Nat.zero_le _
 |some p=>exact h.txw s p hs
theorem NR(a:Int)(q:List ak)(d:aZ)(x:TxL)(z:SeL)(h:x.length≤100000000):Q83 a q d x z=some (kR (x.map fun p=>p.1)):=by
 show Mo.den (acX a q d x z)=_
 have e:agc x=some (kR (x.map fun p=>p.1)):=by unfold agc;rw[if_pos ⟨by unfold maxLen;omega,by omega⟩]
 have e2:Q82 x=some ():=rfl
 simp only[acX,Mo.den,aN,aG,aH,aK,aJ,e,e2,Option.bind_some]
theorem yO{K:Nat}(hK:K≤50000000){a:Int}{q:List ak}{d:aZ}{x:TxL}{z:SeL}(h:Bd K q d x z)(sp:ByteArray){key:aj}(hk:aU key.lf1≤50000000):Q13 sp key a q d x z=some (holdV sp key x):=by
 have htx:=h.tx
 have h5:∀(l:List ByteArray) (v:Int) (s:ByteArray),acZ a q key d x z sp l v s 0=some (bif (oI x s).bJ.any (wrB sp key) then .inl () else .inr ()):=fun l v s=>by
  have hb:=Z7 h s
  have hl:=jI (oI x s).bJ
  refine XM _ (by omega) _ _ (fun k w hx=>?_) ?_
  ·have hm:=kV (gK hx)
   have hw:=dM w
   have he:=XK (a:=w.dL) (b:=key) (by omega) (by omega)
   have hx':((aI s x).getD ah.z).bJ[k]?=some w:=hx
   simp only[uY,Qi,Mo.den,aN,aG,aH,aK,aJ,ltt hx',gid hx',cond_true,Option.bind_some,he]
   unfold wrB
   cases decide (w.aT=sp) with
   |false=>rfl
   |true=>cases eqB w.dL key<;>rfl
  show(uY a q key d x z sp l v s ((((aI s x).getD ah.z).bJ.length:Nat):Int)).den=_
  simp only[uY,Mo.den,aN,aG,aH,aK,aJ,ltn,cond_false]
 have h11:∀l:List ByteArray,l.length≤100000000→Xh a q key d x z sp l 0=some (match l.find? (fun s=>(oI x s).bJ.any (wrB sp key)) with|some s=>.inl s|none=>.inr ()):=fun l hl=>by
  have e:=aeN l hl (fun s=>(oI x s).bJ.any (wrB sp key)) (fun s=>s) (fun v_=>(oL a q key d x z sp l v_).den) (fun k s hx=>by
   simp only[oL,Mo.den,aN,aG,aH,aK,aJ,ltt hx,gid hx,cond_true,Option.bind_some,h5]
   cases (oI x s).bJ.any (wrB sp key)<;>rfl) (by simp only[oL,Mo.den,aN,aG,aH,aK,aJ,ltn,cond_false])
  show dA (fun v_=>(oL a q key d x z sp l v_).den) FU 0=_
  rw[e]
  cases l.find? (fun s=>(oI x s).bJ.any (wrB sp key))<;>rfl
 show Mo.den (ac0 sp key a q d x z)=_
 simp only[ac0,Mo.den,aN,aG,aH,aK,aJ,NR a q d x z (by omega),Option.bind_some,h11 _ (show(kR (x.map fun p=>p.1)).length≤100000000 by rw[zG,List.length_map];omega)]
 unfold holdV
 cases (kR (x.map fun p=>p.1)).find? (fun s=>(oI x s).bJ.any (wrB sp key))<;>rfl
def Vq(s:ByteArray)(t:Int)(p:ah):Bool:=p.bJ.any fun w=>bif decide (p.dw≤t) then decide (w.aT=s) else false
theorem ahw(s:ByteArray)(t:Int)(p:ah)(h:p.bJ.length≤100000000):EP s t p=some (bif Vq s t p then .inl () else .inr ()):=by
 have h5:abz 0 0 [] (fun _=>false) s t (fun _=>undef) p 0=some (bif Vq s t p then .inl () else .inr ()):=by
  refine XM p.bJ h _ _ (fun k w hx=>?_) ?_
  ·simp only[DX,aby,Me,Mo.den,aN,aG,aH,aK,aJ,ltt hx,gid hx,cond_true,Option.bind_some]
   cases decide (p.dw≤t) with
   |false=>rfl
   |true=>cases decide (w.aT=s)<;>rfl
  simp only[DX,Mo.den,aN,aG,aH,aK,aJ,ltn,cond_false]
 unfold EP MC EO
 simp only[Mo.den,aN,aG,aH,aK,aJ,h5]
 grind
def holdsB(s:ByteArray)(t:Int)(x:TxL):Bool:=x.any fun p=>Vq s t p.2
theorem Cm{s:ByteArray}{t:Int}:∀{x:TxL},(∀p∈x,p.2.bJ.length≤100000000)→yE s t x=some (holdsB s t x)
 |[],_=>rfl
 |p::r,h=>by
  unfold yE
  rw[ahw s t p.2 (h p (List.mem_cons_self ..)),Cm fun p hp=>h p (List.mem_cons_of_mem _ hp)]
  unfold holdsB
  grind
def tV(d:aZ)(sp:ByteArray):Bool:=(aI sp d.dir).isSome
def rwV(d:aZ)(sp c:ByteArray):List aP:=d.row (aI sp d.dir) c
noncomputable def uD(sp:ByteArray)(key:aj)(t:Int)(d:aZ)(x:TxL):aj×Int:=
 bif !tV d sp then(AP,15) else bif (bif !decide (holdV sp key x=(⟨#[]⟩:ByteArray)) then decide ((oI x (holdV sp key x)).dw≤t) else false) then(AP,30) else
 bif !(jP key).2 then(AP,0) else(atV t (rwV d sp (jP key).1),0)
theorem ahx{K:Nat}(hK:K≤50000000){a:Int}{q:List ak}{d:aZ}{x:TxL}{z:SeL}(h:Bd K q d x z)(sp:ByteArray){key:aj}(hk:aU key.lf1≤50000000)(t:Int):Q80 sp key t a q d x z=some (uD sp key t d x):=by
 show Mo.den (ael sp key t a q d x z)=_
 have hr:=h.NQ sp (jP key).1
 have hb:=AQ (t:=t) hr.2
 simp only[ael,RU,Mo.den,aN,aG,aH,aK,aJ,yO hK h sp hk,GH key hk,Option.bind_some]
 unfold uD tV
 cases (aI sp d.dir).isSome with
 |false=>rfl
 |true=>
  simp only[Bool.not_true,cond_false]
  have e:∀b c:Bool,(bif b then some c else some false)=some (bif b then c else false):=fun b c=>by cases b<;>rfl
  rw[e]
  simp only[Option.bind_some]
  show(bif (bif !decide (holdV sp key x=(⟨#[]⟩:ByteArray)) then decide ((oI x (holdV sp key x)).dw≤t) else false) then _ else _)=_
  cases (bif !decide (holdV sp key x=(⟨#[]⟩:ByteArray)) then decide ((oI x (holdV sp key x)).dw≤t) else false) with
  |true=>rfl
  |false=>
   simp only[cond_false]
   cases (jP key).2 with
   |false=>rfl
   |true=>
    simp only[Bool.not_true,cond_false]
    rw[XL t _ (by omega),Option.bind_some,gZ _ (by omega)]
    rfl
def SK(sp:ByteArray)(key:aj)(d:aZ):Int:=bif !(jP key).2 then 0 else match (rwV d sp (jP key).1).getLast? with
 |some v=>v.dw
 |none=>0
theorem SL{K:Nat}(hK:K≤50000000){a:Int}{q:List ak}{d:aZ}{x:TxL}{z:SeL}(h:Bd K q d x z)(sp:ByteArray){key:aj}(hk:aU key.lf1≤50000000):Q68 sp key a q d x z=some (SK sp key d):=by
 have hr:=(h.NQ sp (jP key).1).1
 show Mo.den (adb sp key a q d x z)=_
 simp only[adb,Qn,Mo.den,aN,aG,aH,aK,aJ,GH key hk,Option.bind_some]
 unfold SK rwV
 cases (jP key).2 with
 |false=>rfl
 |true=>
  simp only[Bool.not_true,cond_false,Option.bind_some]
  generalize hl:d.row (aI sp d.dir) (jP key).1=l at hr ⊢
  cases hlen:l.length with
  |zero=>
   grind
  |succ n=>
   have e0:((((n+1:Nat):Int))==0)=false:=by simp;omega
   rw[e0]
   simp only[cond_false]
   have e1:IntKind.wrap .i64 (((n+1:Nat):Int)-1)=(n:Int):=by rw[w64 (by omega) (by omega)];omega
   obtain⟨y,hy⟩:∃y,l[n]?=some y:=⟨_,List.getElem?_eq_getElem (by omega)⟩
   rw[e1,gid hy,Option.bind_some,List.getLast?_eq_getElem?,hlen,Nat.add_sub_cancel,hy]
def amJ{α:Type}(l:List α)(p:α→Bool):Int⊕Unit→Prop
 |.inl i=>∃(k:Nat) (x:α),i=(k:Int)∧l[k]?=some x∧p x=true∧∀(j:Nat) (y:α),j<k→l[j]?=some y→p y=false
 |.inr _=>∀x∈l,p x=false
theorem aiC{α:Type}(l:List α)(hl:l.length≤100000000)(p:α→Bool)(T0:Int→Option (Int⊕(Int⊕Unit)))(h1:∀(k:Nat) x,l[k]?=some x→T0 (k:Int)=some (bif p x then .inr (.inl (k:Int)) else .inl (IntKind.wrap .i64 ((k:Int)+1))))(h2:T0 (l.length:Int)=some (.inr (.inr ()))):Tot (dA T0 FU 0) (amJ l p):=by
 refine T.lY l.length (by omega) (fun k s=>s=(k:Int)∧∀(j:Nat) (y:α),j<k→l[j]?=some y→p y=false) (amJ l p) ⟨rfl,fun j y h=>by omega⟩ ?_ ?_
 ·rintro k s hk ⟨rfl,hj⟩
  have hx:=List.getElem?_eq_getElem hk
  rw[h1 k _ hx]
  cases hp:p l[k] with
  |true=>exact T.ret ⟨k,_,rfl,hx,hp,hj⟩
  |false=>
   refine T.ret ⟨inc k (by omega),fun j y hjk hy=>?_⟩
   grind
 rintro s ⟨rfl,hj⟩
 rw[h2]
 refine T.ret fun x hx=>?_
 obtain⟨j,hjl,rfl⟩:=List.mem_iff_getElem.1 hx
 grind
inductive aeP (l:List ak) (n:ByteArray):Int→Prop where
 |none:(∀s∈l,s.fName≠n)→aeP l n (-1)
 |at_ (k:Nat) (s:ak):l[k]?=some s→s.fName=n→(∀j t,j<k→l[j]?=some t→t.fName≠n)→aeP l n (k:Int)
theorem AU(l:List ak)(n:ByteArray)(h:l.length≤100000000):Tot (Q93 l n) (aeP l n):=by
 obtain⟨r,h1,h2⟩:=aiC l h (fun s=>decide (s.fName=n)) (fun v_=>(uV n l v_).den) (fun k x hx=>by
  have e:aly x n=some (decide (x.fName=n)):=rfl
  simp only[uV,Mo.den,aN,aG,aH,aK,aJ,ltt hx,gid hx,cond_true,Option.bind_some,e]
  cases decide (x.fName=n)<;>rfl) (by simp only[uV,Mo.den,aN,aG,aH,aK,aJ,ltn,cond_false])
 have e:abD n l 0=some r:=h1
 show Tot (Mo.den (abG l n)) _
 have e2:Q33 l n=some (match r with|.inl o=>o|.inr _=>-1):=by
  show Mo.den (abE l n)=_
  simp only[abE,Mo.den,aN,aG,aH,aK,aJ,e]
  rcases r with r|r<;>rfl
 simp only[abG,Mo.den,aN,aG,aH,aK,aJ,e2,Option.bind_some]
 refine T.ret ?_
 rcases r with r|r
 ·obtain⟨k,s,rfl,q1,q2,q3⟩:=h2
  exact .at_ k s q1 (of_decide_eq_true q2) fun j t hj ht=>of_decide_eq_false (q3 j t hj ht)
 exact .none fun s hs=>of_decide_eq_false (h2 s hs)
theorem Vr(l:List ak)(x:ak)(i:Nat)(hi:i≤l.length)(hl:l.length≤100000):abw (i:Int) l [x]=some (l.take i++[x]++l.drop i):=by
 unfold abw
 by_cases h:i<l.length
 ·grind
 obtain rfl:i=l.length:=by omega
 rw[decide_eq_false (by omega)]
 show agj _ _ _=_
 unfold agj Ur
 simp only[Mo.den,aN,aG,aH,aK,aJ,BEq.rfl,cond_true,cond_false,List.length_cons,List.length_nil]
 grind
theorem Z8(l:List ak)(d:ak)(h:l.length≤100000):Tot (adu d l 0) (fun r=>∃i:Nat,r=(i:Int)∧i≤l.length):=by
 have step:∀k:Nat,k<l.length→∃b:Bool,(vg d l (k:Int)).den=some (bif b then .inl (IntKind.wrap .i64 ((k:Int)+1)) else .inr (k:Int)):=fun k hk=>by
  have hx:=List.getElem?_eq_getElem hk
  simp only[vg,Fz,Mo.den,aN,aG,aH,aK,aJ,ltt hx,gid hx,cond_true,Option.bind_some]
  exact⟨Op.bytesLess l[k].fName.toList d.fName.toList,by cases Op.bytesLess l[k].fName.toList d.fName.toList<;>rfl⟩
 refine T.lY l.length (by omega) (fun k s=>s=(k:Int)) _ rfl (fun k s hk hs=>?_) (fun s hs=>?_)
 ·obtain rfl:s=(k:Int):=hs
  obtain⟨b,hb⟩:=step k hk
  rw[hb]
  cases b with
  |true=>exact T.ret (inc k (by omega))
  |false=>exact T.ret ⟨k,rfl,by omega⟩
 obtain rfl:s=(l.length:Int):=hs
 simp only[vg,Fz,Mo.den,aN,aG,aH,aK,aJ,ltn,cond_false,Option.bind_some]
 exact T.ret ⟨l.length,rfl,Nat.le_refl _⟩
theorem Vs(l:List ak)(d:ak)(h:bQ (l.map ak.lf)≤100000000)(hd:aU d.lf1≤100000000):Tot (Q50 l d) (fun r=>r.2≠0∨(r.2=0∧(∀s∈l,s.fName≠d.fName)∧∃i,i≤l.length∧r.1=l.take i++[d]++l.drop i)):=by
 have hl:=nH l
 obtain⟨e,he,_⟩:=qx d hd
 obtain⟨f,hf,hfr⟩:=AU l d.fName (by omega)
 show Tot (Mo.den (adv l d)) _
 simp only[adv,Mo.den,aN,aG,aH,aK,aJ,he,hf,Option.bind_some]
 refine T.ite (fun h1=>T.ret (.inl ?_)) (fun h1=>?_)
 ·grind
 refine T.ite (fun h2=>T.ret (.inl (by simp))) (fun h2=>?_)
 refine T.ite (fun h3=>T.ret (.inl (by simp))) (fun h3=>?_)
 have h2:=of_decide_eq_false h2
 have h3:=of_decide_eq_false h3
 obtain⟨i,hi,j,rfl,hj⟩:=Z8 l d (by omega)
 rw[hi,Option.bind_some,jO l h,Option.bind_some,kM d hd,Option.bind_some,Vr l d j hj (by omega)]
 refine T.ret (.inr ⟨rfl,?_,j,hj,rfl⟩)
 cases hfr with
 |none q=>exact q
 |at_ k s q1 q2 q3=>omega
theorem Z9{l:List ak}(k:Nat):bQ ((l.take k).map ak.lf)≤bQ (l.map ak.lf)∧bQ ((l.drop k).map ak.lf)≤bQ (l.map ak.lf):=by
 have:=iy ((l.take k).map ak.lf) ((l.drop k).map ak.lf)
 simp_all
theorem aeQ(l:List ak)(n:ByteArray)(h:bQ (l.map ak.lf)≤100000000):Tot (ajU l n) (fun r=>r.2≠0∨(r.2=0∧∃k s,l[k]?=some s∧s.fName=n∧r.1=l.take k++l.drop (k+1))):=by
 have hl:=nH l
 obtain⟨f,hf,hfr⟩:=AU l n (by omega)
 show Tot (Mo.den (UZ l n)) _
 simp only[UZ,Mo.den,aN,aG,aH,aK,aJ,hf,Option.bind_some]
 refine T.ite (fun h1=>T.ret (.inl (by simp))) (fun h1=>?_)
 have h1:=of_decide_eq_false h1
 cases hfr with
 |none q=>omega
 |at_ k s q1 q2 q3=>
  have hk:=nC q1
  rw[inc k (by omega),Int.toNat_natCast,Int.toNat_natCast]
  have hb:=Z9 (l:=l)
  rw[if_pos (by omega), if_pos (by omega), jO _ (Nat.le_trans (hb k).1 h), Option.bind_some, jO _ (Nat.le_trans (hb (k+1)).2 h), Option.bind_some, if_pos (by
   rw[List.length_take,List.length_drop];omega)]
  exact T.ret (.inr ⟨rfl,k,s,q1,q2,rfl⟩)
theorem NS(l:List ak)(n:ByteArray)(x:aW)(h:bQ (l.map ak.lf)≤100000000)(hx:aU x.lf1≤100000000):Tot (acV l n x) (fun r=>r.2≠0∨(r.2=0∧∃k s,l[k]?=some s∧s.fName=n∧r.1=l.set k { s with bn:=s.bn++[x] })):=by
 have hl:=nH l
 obtain⟨f,hf,hfr⟩:=AU l n (by omega)
 obtain⟨e,he,_⟩:=nD x hx
 unfold acV
 rw[hf]
 cases hfr with
 |none q=>exact T.ret (.inl (by simp))
 |at_ k s q1 q2 q3=>
  have hb:=Ci (gK q1)
  have hbs:=iC s
  have hbx:=iR x
  obtain⟨m,hm,_⟩:=qw s.bn x.fName (by omega) (by omega)
  simp only[decide_eq_false (show ¬(k:Int)<0 by omega),he,gid q1,hm]
  cases h0:e != 0 with
  |true=>exact T.ret (.inl (by simpa using h0))
  |false=>
   cases h1:decide (0≤m) with
   |true=>exact T.ret (.inl (by simp))
   |false=>
    cases h2:decide (16≤(s.bn.length:Int)) with
    |true=>exact T.ret (.inl (by simp))
    |false=>
     have h2:=of_decide_eq_false h2
     have g1:Nat.ble (l.length*368) 140737488355328=true:=Nat.ble_eq_true_of_le (by omega)
     have g2:Nat.ble ((s.bn.length+1)*456) 140737488355328=true:=Nat.ble_eq_true_of_le (by omega)
     simp only[g1,Gv l h,nX x hx,Int.toNat_natCast,q1,g2]
     exact T.ret (.inr ⟨rfl,k,s,q1,q2,rfl⟩)
theorem aac(l:List aW)(n:ByteArray)(h:l.length≤100000000):Tot (Q84 l n) (fun r=>r<l.length):=by
 obtain⟨r,h1,h2⟩:=aiC l h (fun s=>decide (s.fName=n)) (fun v_=>(qV n l v_).den) (fun k x hx=>by
  have e:ajE x n=some (decide (x.fName=n)):=rfl
  simp only[qV,Mo.den,aN,aG,aH,aK,aJ,ltt hx,gid hx,cond_true,Option.bind_some,e]
  cases decide (x.fName=n)<;>rfl) (by simp only[qV,Mo.den,aN,aG,aH,aK,aJ,ltn,cond_false])
 have e:acG n l 0=some r:=h1
 show Tot (Mo.den (WW l n)) _
 have e2:Q25 l n=some (match r with|.inl o=>o|.inr _=>-1):=by
  show Mo.den (WV l n)=_
  simp only[WV,Mo.den,aN,aG,aH,aK,aJ,e]
  rcases r with r|r<;>rfl
 simp only[WW,Mo.den,aN,aG,aH,aK,aJ,e2,Option.bind_some]
 refine T.ret ?_
 rcases r with r|r
 ·obtain⟨k,s,rfl,q1,q2,q3⟩:=h2
  have:=nC q1
  show(k:Int)<_
  omega
 show(-1:Int)<_
 omega
theorem H9(l:List ak)(n ix:ByteArray)(h:bQ (l.map ak.lf)≤100000000)(hx:ix.size≤100000000):Tot (acW l n ix) (fun r=>r.2≠0∨(r.2=0∧∃k s i,l[k]?=some s∧s.fName=n∧r.1=l.set k { s with bn:=s.bn.eraseIdx i })):=by
 have hl:=nH l
 obtain⟨f,hf,hfr⟩:=AU l n (by omega)
 unfold acW
 rw[hf]
 cases hfr with
 |none q=>exact T.ret (.inl (by simp))
 |at_ k s q1 q2 q3=>
  have hb:=Ci (gK q1)
  have hbs:=iC s
  obtain⟨m,hm,hmr⟩:=aac s.bn ix (by have:=lX s.bn;omega)
  simp only[decide_eq_false (show ¬(k:Int)<0 by omega),gid q1,hm]
  cases h1:decide (m<0) with
  |true=>exact T.ret (.inl (by simp))
  |false=>
   have h1:=of_decide_eq_false h1
   have g1:Nat.ble (l.length*368) 140737488355328=true:=Nat.ble_eq_true_of_le (by omega)
   have g2:Nat.ble (m.toNat+1) s.bn.length=true:=Nat.ble_eq_true_of_le (by omega)
   simp only[g1,Gv l h,Int.toNat_natCast,q1,g2]
   exact T.ret (.inr ⟨rfl,k,s,_,q1,q2,rfl⟩)
end Go.Proofs.YtpdlghcgekojlaaGreatDoor
namespace Go.Proofs.YtpdlghcgekojlaaGreatDoor
open Go.RowKit
section
variable {α:Type}
theorem rQ(d:RM α)(j:Nat)(s:ByteArray)(r:List α)(i:Nat):(d.put j s r).inner i=if i=j∧j<d.maps.length then eF s r (d.inner j) else d.inner i:=wY ..
theorem NT{d:RM α}{j:Nat}{s:ByteArray}{r:List α}{i:Nat}{c:ByteArray}{y:List α}(h:aI c ((d.put j s r).inner i)=some y):y=r∨aI c (d.inner i)=some y:=by
 rw[rQ] at h
 split at h
 ·rename_i hi
  by_cases hs:s=c
  ·subst hs;rw[fH] at h;injection h with h;exact .inl h.symm
  rw[gV hs] at h;rw[hi.1];exact .inr h
 exact .inr h
end
structure Sv (K:Nat) (q:List ak) (d:aZ) (x:TxL) (z:SeL):Prop where
 bd:Bd K q d x z
 wf:RWf d
 asc:jY x
 nod:(q.map ak.fName).Nodup
 nam:∀n,n∈q.map ak.fName↔(aI n d.dir).isSome=true
 ne:∀n j s r,aI n d.dir=some j→aI s (d.inner j)=some r→r≠[]
theorem Bd.ext{K:Nat}{q:List ak}{d d':aZ}{x:TxL}{z:SeL}(h:Bd K q d x z)(w:RWf d)(e:iL d d'):Bd K q d' x z where
 q:=h.q
 dir:=by rw[e.dir];exact h.dir
 inn:=fun n j hn=>by rw[e.dir] at hn;rw[e.inner (w.hnd n j hn)];exact h.inn n j hn
 row:=fun n j s r hn hr=>by rw[e.dir] at hn;rw[e.inner (w.hnd n j hn)] at hr;exact h.row n j s r hn hr
 doc:=fun n j s r hn hr=>by rw[e.dir] at hn;rw[e.inner (w.hnd n j hn)] at hr;exact h.doc n j s r hn hr
 tx:=h.tx
 txw:=h.txw
 ses:=h.ses
theorem Sv.ext{K:Nat}{q:List ak}{d d':aZ}{x:TxL}{z:SeL}(h:Sv K q d x z)(e:iL d d'):Sv K q d' x z where
 bd:=h.bd.ext h.wf e
 wf:=e.wf h.wf
 asc:=h.asc
 nod:=h.nod
 nam:=fun n=>by rw[e.dir];exact h.nam n
 ne:=fun n j s r hn hr=>by rw[e.dir] at hn;rw[e.inner (h.wf.hnd n j hn)] at hr;exact h.ne n j s r hn hr
theorem Sv.le{K K':Nat}{q:List ak}{d:aZ}{x:TxL}{z:SeL}(h:Sv K q d x z)(k:K≤K'):Sv K' q d x z:={ h with bd:=h.bd.le k }
theorem iL.trans{α:Type}{d e f:RM α}(h:iL d e)(k:iL e f):iL d f:=⟨k.dir.trans h.dir,h.maps.trans k.maps⟩
theorem Sv.put{K B:Nat}{q:List ak}{d:aZ}{x:TxL}{z:SeL}(h:Sv K q d x z)(hB:1≤B){n:ByteArray}{j:Nat}(hn:aI n d.dir=some j)(s:ByteArray)(v:aP)(hv:aU v.fC.lf1≤1048576):Sv (K+B) q (d.put j s (d.row (aI n d.dir) s++[v])) x z where
 bd:={
  q:=Nat.le_trans h.bd.q (Nat.le_add_right ..)
  dir:=Nat.le_trans h.bd.dir (Nat.le_add_right ..)
  inn:=fun m i hm=>by
   rw[rQ]
   split
   ·have:=rO s (d.row (aI n d.dir) s++[v]) (d.inner j)
    have:=h.bd.inn n j hn
    omega
   exact Nat.le_trans (h.bd.inn m i hm) (Nat.le_add_right ..)
  row:=fun m i c r hm hr=>by
   rcases NT hr with rfl|hr
   ·have:=(h.bd.NQ n s).1
    grind
   exact Nat.le_trans (h.bd.row m i c r hm hr) (Nat.le_add_right ..)
  doc:=fun m i c r hm hr=>by
   rcases NT hr with rfl|hr
   ·intro u hu
    rcases List.mem_append.1 hu with hu|hu
    ·exact(h.bd.NQ n s).2 u hu
    grind
   exact h.bd.doc m i c r hm hr
  tx:=Nat.le_trans h.bd.tx (Nat.le_add_right ..)
  txw:=h.bd.txw
  ses:=Nat.le_trans h.bd.ses (Nat.le_add_right ..) }
 wf:=h.wf.put j s _
 asc:=h.asc
 nod:=h.nod
 nam:=h.nam
 ne:=fun m i c r hm hr=>by
  rcases NT hr with rfl|hr
  ·simp
  exact h.ne m i c r hm hr
theorem Sv.mkS{K B:Nat}{q q':List ak}{d:aZ}{x:TxL}{z:SeL}(h:Sv K q d x z)(hB:1≤B)(n:ByteArray)(hq:bQ (q'.map ak.lf)≤K+B)(hp:(q'.map ak.fName).Perm (n::q.map ak.fName))(hn:n ∉ q.map ak.fName):Sv (K+B) q' (d.make n) x z where
 bd:={
  q:=hq
  dir:=by
   have:=rO n d.maps.length d.dir
   have:=h.bd.dir
   show(eF n d.maps.length d.dir).length≤_
   omega
  inn:=fun m i hm=>by
   rw[nI]
   rw[mD] at hm
   split at hm
   ·injection hm with hm;subst hm;rw[rP (Nat.le_refl _)];exact Nat.zero_le _
   exact Nat.le_trans (h.bd.inn m i hm) (Nat.le_add_right ..)
  row:=fun m i c r hm hr=>by
   rw[nI] at hr
   rw[mD] at hm
   split at hm
   ·injection hm with hm;subst hm;rw[rP (Nat.le_refl _)] at hr;cases hr
   exact Nat.le_trans (h.bd.row m i c r hm hr) (Nat.le_add_right ..)
  doc:=fun m i c r hm hr=>by
   rw[nI] at hr
   rw[mD] at hm
   split at hm
   ·injection hm with hm;subst hm;rw[rP (Nat.le_refl _)] at hr;cases hr
   exact h.bd.doc m i c r hm hr
  tx:=Nat.le_trans h.bd.tx (Nat.le_add_right ..)
  txw:=h.bd.txw
  ses:=Nat.le_trans h.bd.ses (Nat.le_add_right ..) }
 wf:=h.wf.make n
 asc:=h.asc
 nod:=hp.nodup_iff.2 (List.nodup_cons.2 ⟨hn,h.nod⟩)
 nam:=fun m=>by
  rw[hp.mem_iff,mD,List.mem_cons,h.nam m]
  grind
 ne:=fun m i c r hm hr=>by
  rw[nI] at hr
  rw[mD] at hm
  split at hm
  ·injection hm with hm;subst hm;rw[rP (Nat.le_refl _)] at hr;cases hr
  exact h.ne m i c r hm hr
theorem Sv.unl{K:Nat}{q q':List ak}{d:aZ}{x:TxL}{z:SeL}(h:Sv K q d x z)(n:ByteArray)(hq:bQ (q'.map ak.lf)≤K)(hp:(q.map ak.fName).Perm (n::q'.map ak.fName)):Sv K q' (d.unlink n) x z where
 bd:={
  q:=hq
  dir:=Nat.le_trans (wX n d.dir) h.bd.dir
  inn:=fun m i hm=>by
   rw[jK] at hm
   split at hm
   ·cases hm
   exact h.bd.inn m i hm
  row:=fun m i c r hm hr=>by
   rw[jK] at hm
   split at hm
   ·cases hm
   exact h.bd.row m i c r hm hr
  doc:=fun m i c r hm hr=>by
   rw[jK] at hm
   split at hm
   ·cases hm
   exact h.bd.doc m i c r hm hr
  tx:=h.bd.tx
  txw:=h.bd.txw
  ses:=h.bd.ses }
 wf:=h.wf.unlink n
 asc:=h.asc
 nod:=(List.nodup_cons.1 (hp.nodup_iff.1 h.nod)).2
 nam:=fun m=>by
  have hn:=(List.nodup_cons.1 (hp.nodup_iff.1 h.nod)).1
  have hm:=h.nam m
  rw[hp.mem_iff,List.mem_cons] at hm
  rw[jK]
  grind
 ne:=fun m i c r hm hr=>by
  rw[jK] at hm
  split at hm
  ·cases hm
  exact h.ne m i c r hm hr
theorem Sv.cat{K:Nat}{q q':List ak}{d:aZ}{x:TxL}{z:SeL}(h:Sv K q d x z)(hq:bQ (q'.map ak.lf)≤K)(hp:q'.map ak.fName=q.map ak.fName):Sv K q' d x z:=
 { h with bd:={ h.bd with q:=hq },nod:=by rw[hp];exact h.nod,nam:=fun m=>by rw[hp];exact h.nam m }
theorem GK{K:Nat}(hK:K≤50000000){a:Int}{q:List ak}{d:aZ}{x:TxL}{z:SeL}(h:Bd K q d x z)(w:ay)(hw:aU w.lf1≤1048576)(t:Int):Tot (Q73 w t a q d x z) (fun e=>e=0→tV d w.aT=true∧holdV w.aT w.dL x=(⟨#[]⟩:ByteArray)∧SK w.aT w.dL d<t):=by
 have hb:=dM w
 show Tot (Mo.den (ade w t a q d x z)) _
 simp only[ade,Mo.den,aN,aG,aH,aK,aJ,yO hK h w.aT (key:=w.dL) (by omega),SL hK h w.aT (key:=w.dL) (by omega),Option.bind_some]
 refine T.ite (fun h1=>T.ret fun k=>by cases k) (fun h1=>?_)
 refine T.ite (fun h2=>T.ret fun k=>by cases k) (fun h2=>?_)
 refine T.ite (fun h3=>T.ret fun k=>by cases k) (fun h3=>T.ret fun _=>⟨?_,?_,?_⟩)
 ·simpa[tV] using h1
 all_goals grind
noncomputable def Dk(w:ay)(t:Int):aP:=⟨t,bif w.aB==2 then w.bC else AP⟩
theorem GL{w:ay}(hw:aU w.lf1≤1048576)(t:Int):aU (Dk w t).fC.lf1≤1048576:=by
 have hb:=dM w
 show aU (bif w.aB==2 then w.bC else AP).lf1≤_
 cases w.aB==2
 ·show aU AP.lf1≤_;rw[bZ];decide
 grind
noncomputable def xQ(w:ay)(t:Int)(d:aZ):Unit⊕(aZ×ByteArray):=match aI w.aT d.dir with
 |none=>.inl ()
 |some j=>bif (jP w.dL).2 then .inr (d.put j (jP w.dL).1 (d.row (aI w.aT d.dir) (jP w.dL).1++[Dk w t]),(jP w.dL).1) else .inl ()
theorem XO{K:Nat}(hK:K≤50000000){a:Int}{q:List ak}{d:aZ}{x:TxL}{z:SeL}(h:Bd K q d x z)(w:ay)(hw:aU w.lf1≤1048576)(t:Int):Q34 w t a q d x z=some (xQ w t d):=by
 have hb:=dM w
 have hr:=(h.NQ w.aT (jP w.dL).1).1
 have e5:UW a q d x z t w (jP w.dL)=some (Dk w t):=by
  unfold UW Qp Dk
  simp only[Mo.den,aN,aG,aH,aK,aJ,gZ w.bC (by omega),Option.bind_some]
  cases w.aB==2<;>rfl
 show Mo.den (adi w t a q d x z)=_
 simp only[adi,Qo,Mo.den,aN,aG,aH,aK,aJ,GH w.dL (by omega),Option.bind_some,e5]
 unfold xQ
 cases hj:aI w.aT d.dir with
 |none=>rfl
 |some j=>
  rw[hj] at hr
  have hi:=h.inn w.aT j hj
  simp only[Option.isSome_some,Bool.not_true,cond_false,Option.bind_some]
  cases hc:(jP w.dL).2 with
  |false=>rfl
  |true=>
   simp only[Bool.not_true,cond_false,cond_true,Option.bind_some,List.length_cons,List.length_nil]
   rw[if_pos (by omega),if_pos (by unfold maxLen;omega)]
def Gro(P:ByteArray→Int→Prop)(sp:ByteArray)(d d':aZ):Prop:=tV d sp=true→tV d' sp=true∧∀c,∃suf,rwV d' sp c=rwV d sp c++suf∧∀v∈suf,P c v.dw
section
variable {P Q:ByteArray→Int→Prop} {sp n:ByteArray} {d e f:aZ}
theorem Gro.refl:Gro P sp d d:=fun h=>⟨h,fun c=>⟨[],by rw[List.append_nil],fun v hv=>by cases hv⟩⟩
theorem Gro.trans(h:Gro P sp d e)(k:Gro P sp e f):Gro P sp d f:=fun h0=>by
 obtain⟨h1,h2⟩:=h h0
 obtain⟨k1,k2⟩:=k h1
 refine⟨k1,fun c=>?_⟩
 obtain⟨s1,e1,p1⟩:=h2 c
 obtain⟨s2,e2,p2⟩:=k2 c
 grind
theorem Gro.mono(h:Gro P sp d e)(k:∀c s,P c s→Q c s):Gro Q sp d e:=fun h0=>⟨(h h0).1,fun c=>by
 obtain⟨s1,e1,p1⟩:=(h h0).2 c
 exact⟨s1,e1,fun v hv=>k _ _ (p1 v hv)⟩⟩
theorem ahy(wf:RWf d){j:Nat}(hn:aI n d.dir=some j)(s:ByteArray)(r:List aP)(sp c:ByteArray):rwV (d.put j s r) sp c=if n=sp∧s=c then r else rwV d sp c:=by
 show(d.put j s r).row (aI sp d.dir) c=_
 by_cases e:n=sp
 ·subst e
  unfold rwV
  rw[hn]
  show(aI c ((d.put j s r).inner j)).getD []=if _ then r else(aI c (d.inner j)).getD []
  rw[rQ,if_pos ⟨rfl,wf.hnd n j hn⟩]
  by_cases e2:s=c
  ·subst e2;rw[fH,if_pos ⟨rfl,rfl⟩];rfl
  rw[gV e2,if_neg (fun h=>e2 h.2)]
 rw[if_neg (fun h=>e h.1)]
 unfold rwV
 cases hi:aI sp d.dir with
 |none=>rfl
 |some i=>
  show(aI c ((d.put j s r).inner i)).getD []=(aI c (d.inner i)).getD []
  rw[rQ,if_neg]
  rintro⟨rfl,_⟩
  exact e (wf.inj n sp i hn hi)
theorem Gro.add(wf:RWf d){w:ay}{t:Int}{y:aZ×ByteArray}(h:xQ w t d=.inr y)(hP:(jP w.dL).2=true→w.aT=sp→P (jP w.dL).1 t):Gro P sp d y.1∧RWf y.1:=by
 unfold xQ at h
 cases hj:aI w.aT d.dir with
 |none=>grind
 |some j=>
  simp only[hj] at h
  cases hc:(jP w.dL).2 with
  |false=>grind
  |true=>
   rw[hc] at h
   injection h with h
   subst h
   refine⟨fun h0=>⟨h0,fun c=>?_⟩,wf.put ..⟩
   show ∃suf,rwV (d.put j _ _) sp c=_∧_
   rw[ahy wf hj]
   split
   ·rename_i h1
    refine⟨[Dk w t],?_,fun v hv=>?_⟩
    ·unfold rwV;rw[←h1.1,←h1.2,hj]
    rw[List.mem_singleton.1 hv,←h1.2];exact hP hc h1.1
   simp
theorem Gro.make(hn:aI n d.dir=none):Gro P sp d (d.make n):=fun h0=>by
 have hs:n≠sp:=fun e=>by subst e;unfold tV at h0;rw[hn] at h0;cases h0
 have e:aI sp (d.make n).dir=aI sp d.dir:=by rw[mD,if_neg hs]
 refine⟨by unfold tV;rw[e];exact h0,fun c=>⟨[],?_,fun v hv=>by cases hv⟩⟩
 unfold rwV
 rw[e,List.append_nil]
 cases aI sp d.dir with
 |none=>rfl
 |some i=>
  show(aI c ((d.make n).inner i)).getD []=_
  rw[nI];rfl
theorem Gro.unl(hs:n≠sp):Gro P sp d (d.unlink n):=fun h0=>by
 have e:aI sp (d.unlink n).dir=aI sp d.dir:=by rw[jK,if_neg hs]
 refine⟨by unfold tV;rw[e];exact h0,fun c=>⟨[],?_,fun v hv=>by cases hv⟩⟩
 unfold rwV
 rw[e,List.append_nil]
 rfl
end
def Undo(a:Int)(x:TxL)(z:SeL)(u:Und)(q:List ak)(d:aZ)(q1:List ak)(d1:aZ):Prop:=∀d',iL d1 d'→∃d'',QE a x z u q1 d'=some (q,d'')∧iL d d''
theorem aeR{K:Nat}(hK:K≤50000000){a:Int}{q:List ak}{d:aZ}{x:TxL}{z:SeL}(h:Sv K q d x z){n:ByteArray}{j:Nat}(hn:aI n d.dir=some j)(s:ByteArray)(v:aP):Undo a x z (.doc (aI n d.dir) s) q d q (d.put j s (d.row (aI n d.dir) s++[v])):=by
 intro d' he
 have hj:=h.wf.hnd n j hn
 have hl:(d.put j s (d.row (aI n d.dir) s++[v])).maps.length=d.maps.length:=by show(d.maps.set j _).length=_;rw[List.length_set]
 have hin:d'.inner j=eF s (d.row (aI n d.dir) s++[v]) (d.inner j):=by
  rw[he.inner (by rw[hl];exact hj),rQ,if_pos ⟨rfl,hj⟩]
 have hrow:d'.row (some j) s=d.row (some j) s++[v]:=by
  show(aI s (d'.inner j)).getD []=_
  rw[hin,fH,hn];rfl
 have hbr:=(h.bd.NQ n s).1
 have hbi:=h.bd.inn n j hn
 have hpl:=rO s (d.row (aI n d.dir) s++[v]) (d.inner j)
 rw[hn] at hbr he hin hpl ⊢
 show ∃d'',(Q62 (some j) s d').map (fun d'=>(q,d'))=_∧_
 have e:∀b,Q62 (some j) s d'=some b→∃d'',(Q62 (some j) s d').map (fun d'=>(q,d'))=some (q,d'')∧d''=b:=fun b hb=>⟨b,by rw[hb];rfl,rfl⟩
 cases hg:aI s (d.inner j) with
 |none=>
  have h0:d.row (some j) s=[]:=by show(aI s (d.inner j)).getD []=_;rw[hg];rfl
  rw[h0] at hrow he
  obtain⟨d'',k1,k2⟩:=e (d'.del j s) (by
   show Mo.den (Qz (some j) s d')=_
   simp only[Qz,Mo.den,aN,aG,aH,aK,aJ,hrow]
   rfl)
  exact⟨d'',k1,by rw[k2];exact he.amI hj hg⟩
 |some r=>
  have h0:d.row (some j) s=r:=by show(aI s (d.inner j)).getD []=_;rw[hg];rfl
  have hne:=h.ne n j s r hn hg
  rw[h0] at hrow he hbr hin hpl
  have hr1:1≤r.length:=by
   cases r with
   |nil=>exact absurd rfl hne
   |cons _ _=>simp
  obtain⟨d'',k1,k2⟩:=e (d'.put j s r) (by
   show Mo.den (Qz (some j) s d')=_
   have el:((r++[v]).length:Int)=(r.length:Int)+1:=by rw[List.length_append];rfl
   have e1:IntKind.wrap .i64 (((r++[v]).length:Int)-1)=(r.length:Int):=by
    rw[el,w64 (by omega) (by omega)]
    omega
   have e2:(((r++[v]).length:Int)==1)=false:=by
    rw[List.length_append];simp;omega
   simp only[Qz,Mo.den,aN,aG,aH,aK,aJ,hrow,e1,e2,cond_false,Option.bind_some,Int.toNat_natCast]
   rw[if_pos (by omega),if_pos (by rw[hin];unfold maxLen;omega)]
   simp only[List.take_left',List.take_left])
  exact⟨d'',k1,by rw[k2];exact he.amH (h.wf.inn n j hn) hj hg⟩
theorem Vt{q:List ak}{k:Nat}{s:ak}(h:q[k]?=some s):(q.map ak.fName).Perm (s.fName::(q.take k++q.drop (k+1)).map ak.fName):=by
 have hk:=nC h
 have e:q=q.take k++s::q.drop (k+1):=by
  rw[List.getElem?_eq_getElem hk] at h
  injection h with h
  rw[←h,←List.drop_eq_getElem_cons hk,List.take_append_drop]
 have:=(List.perm_middle (a:=s) (l₁:=q.take k) (l₂:=q.drop (k+1))).map ak.fName
 grind
theorem KI{q:List ak}{k:Nat}{s s':ak}(h:q[k]?=some s)(hn:s'.fName=s.fName):(q.set k s').map ak.fName=q.map ak.fName:=by
 rw[List.map_set,hn]
 refine List.ext_getElem? fun i=>?_
 grind
theorem SN{q:List ak}{k:Nat}{s:ak}(s':ak)(h:q[k]?=some s):bQ ((q.set k s').map ak.lf)+aU s.lf1=bQ (q.map ak.lf)+aU s'.lf1:=by
 have hk:=nC h
 have e1:q=q.take k++[s]++q.drop (k+1):=by
  rw[List.getElem?_eq_getElem hk] at h
  injection h with h
  rw[←h,List.append_assoc,List.singleton_append,←List.drop_eq_getElem_cons hk,List.take_append_drop]
 have e2:q.set k s'=q.take k++[s']++q.drop (k+1):=by
  rw[List.set_eq_take_append_cons_drop,if_pos hk,List.append_assoc,List.singleton_append]
 have h1:∀y:ak,bQ ((q.take k++[y]++q.drop (k+1)).map ak.lf)=bQ ((q.take k).map ak.lf)+aU y.lf1+bQ ((q.drop (k+1)).map ak.lf):=fun y=>by
  rw[List.map_append,List.map_append,iy,iy,List.map_singleton,ak.aY]
  simp only[bQ,Nat.add_zero]
 grind
theorem Vu(l:List aW)(i:Nat):bQ ((l.eraseIdx i).map aW.lf)≤bQ (l.map aW.lf):=by
 rw[List.eraseIdx_eq_take_drop_succ,List.map_append,iy]
 have h1:=iy ((l.take i).map aW.lf) ((l.drop i).map aW.lf)
 rw[←List.map_append,List.take_append_drop] at h1
 have h2:=iy (((l.drop i).take 1).map aW.lf) (((l.drop i).drop 1).map aW.lf)
 rw[←List.map_append,List.take_append_drop,List.drop_drop] at h2
 omega
def JR(K B:Nat)(w:ay)(t:Int)(q:List ak)(d:aZ):Int⊕Unit⊕(aZ×ByteArray)⊕(List ak×Int)→Prop
 |.inl e=>e≠0
 |.inr (.inl _)=>True
 |.inr (.inr (.inl y))=>xQ w t d=.inr y
 |.inr (.inr (.inr c))=>c.2≠0∨(c.2=0∧((w.aB=4∧bQ (c.1.map ak.lf)≤K+B∧(c.1.map ak.fName).Perm (w.gy.fName::q.map ak.fName)∧w.gy.fName ∉ q.map ak.fName)∨
  (w.aB=5∧bQ (c.1.map ak.lf)≤K+B∧(q.map ak.fName).Perm (w.aT::c.1.map ak.fName))∨(w.aB≠4∧w.aB≠5∧bQ (c.1.map ak.lf)≤K+B∧c.1.map ak.fName=q.map ak.fName)))
theorem ifk{b c:Bool}:(bif b then some b else some c)=some (b||c):=by grind
theorem ahz{K B:Nat}(hK:K+B≤50000000)(hB:B≤1048576){a:Int}{q:List ak}{d:aZ}{x:TxL}{z:SeL}(h:Sv K q d x z)(w:ay)(hw:aU w.lf1≤B)(t:Int):Tot (Nk a q d x z t w) (JR K B w t q d):=by
 have hb:=dM w
 have hq:=h.bd.q
 have hlq:=nH q
 have hh:Q1 w.aT 1099511627776 a q d x z=some (holdsB w.aT 1099511627776 x):=Cm fun p hp=>by
  have hs:aI p.1 x=some p.2:=wW h.asc hp
  have:=h.bd.txw p.1 p.2 hs
  have:=jI p.2.bJ
  omega
 unfold Nk FB
 simp only[Xm,Xn,Mo.den,aN,aG,aH,aK,aJ,ifk,Option.bind_some,hh,XO (K:=K) (by omega) h.bd w (show aU w.lf1≤1048576 by omega) t]
 refine T.ite (fun h1=>?_) (fun h1=>?_)
 ·refine T.bind (GK (K:=K) (by omega) h.bd w (show aU w.lf1≤1048576 by omega) t) fun e he=>?_
  refine T.ite (fun h2=>T.ret ?_) (fun h2=>?_)
  ·show e≠0;simpa using h2
  cases ha:xQ w t d with
  |inl _=>exact T.ret trivial
  |inr y=>exact T.ret ha
 refine T.ite (fun h4=>?_) (fun h4=>?_)
 ·have h4:w.aB=4:=by simpa using h4
  refine T.bind (Vs q w.gy (by omega) (by omega)) fun r hr=>T.ret ?_
  rcases hr with hr|⟨h0,hn,i,hi,hr⟩
  ·exact .inl hr
  refine .inr ⟨h0,.inl ⟨h4,?_,?_,?_⟩⟩
  ·show bQ (r.1.map ak.lf)≤_
   have h1:=iy ((q.take i).map ak.lf) ((q.drop i).map ak.lf)
   rw[←List.map_append,List.take_append_drop] at h1
   rw[hr,List.map_append,List.map_append,iy,iy,List.map_singleton,ak.aY]
   simp only[bQ,Nat.add_zero]
   omega
  ·show(r.1.map ak.fName).Perm _
   rw[hr,List.append_assoc,List.singleton_append]
   have:=(List.perm_middle (a:=w.gy) (l₁:=q.take i) (l₂:=q.drop i)).map ak.fName
   simp_all
  grind
 refine T.ite (fun h5=>?_) (fun h5=>?_)
 ·have h5:w.aB=5:=by simpa using h5
  refine T.bind (aeQ q w.aT (by omega)) fun r hr=>?_
  have good:Tot (some (.inr (.inr (.inr (r.1,r.2)))):Option (Int⊕Unit⊕(aZ×ByteArray)⊕(List ak×Int))) (JR K B w t q d):=T.ret (by
   rcases hr with hr|⟨h0,k,s,hk,hn,hr⟩
   ·exact .inl hr
   refine .inr ⟨h0,.inr (.inl ⟨h5,?_,?_⟩)⟩
   ·show bQ (r.1.map ak.lf)≤_
    have h1:=iy ((q.take k).map ak.lf) ((q.drop k).map ak.lf)
    rw[←List.map_append,List.take_append_drop] at h1
    have h2:=iy (((q.drop k).take 1).map ak.lf) (((q.drop k).drop 1).map ak.lf)
    rw[←List.map_append,List.take_append_drop,List.drop_drop] at h2
    rw[hr,List.map_append,iy]
    omega
   show(q.map ak.fName).Perm (w.aT::r.1.map ak.fName)
   rw[hr,←hn]
   exact Vt hk)
  cases h0:r.2==0 with
  |false=>grind
  |true=>
   simp only[cond_true,Option.bind_some]
   exact T.ite (fun _=>T.ret (.inl (show(30:Int)≠0 by decide))) (fun _=>good)
 have h4':w.aB≠4:=by simpa using h4
 have h5':w.aB≠5:=by simpa using h5
 refine T.ite (fun h6=>?_) (fun h6=>?_)
 ·refine T.bind (NS q w.aT w.eP (by omega) (by omega)) fun r hr=>T.ret ?_
  rcases hr with hr|⟨h0,k,s,hk,hn,hr⟩
  ·exact .inl hr
  refine .inr ⟨h0,.inr (.inr ⟨h4',h5',?_,?_⟩)⟩
  ·show bQ (r.1.map ak.lf)≤_
   have:=SN { s with bn:=s.bn++[w.eP] } hk
   have h1:=iC s
   have h2:=iC { s with bn:=s.bn++[w.eP] }
   have h3:bQ ((s.bn++[w.eP]).map aW.lf)=bQ (s.bn.map aW.lf)+aU w.eP.lf1:=by
    rw[List.map_append,iy,List.map_singleton,aW.aY]
    simp only[bQ,Nat.add_zero]
   grind
  show r.1.map ak.fName=_
  rw[hr]
  exact KI hk rfl
 refine T.ite (fun h7=>?_) (fun h7=>?_)
 ·refine T.bind (H9 q w.aT w.eP.fName (by omega) (by have:=iR w.eP;omega)) fun r hr=>T.ret ?_
  rcases hr with hr|⟨h0,k,s,i,hk,hn,hr⟩
  ·exact .inl hr
  refine .inr ⟨h0,.inr (.inr ⟨h4',h5',?_,?_⟩)⟩
  ·show bQ (r.1.map ak.lf)≤_
   have:=SN { s with bn:=s.bn.eraseIdx i } hk
   have h1:=iC s
   have h2:=iC { s with bn:=s.bn.eraseIdx i }
   have h3:=Vu s.bn i
   grind
  show r.1.map ak.fName=_
  rw[hr]
  exact KI hk rfl
 exact T.ret (.inl (show(11:Int)≠0 by decide))
def Grw(w:ay)(t:Int)(d d':aZ):Prop:=∀sp,(w.aB=5→w.aT≠sp)→Gro (fun _ s=>s=t) sp d d'
def anE(K B:Nat)(a:Int)(q:List ak)(d:aZ)(x:TxL)(z:SeL)(w:ay)(t:Int):Int⊕Alt→Prop
 |.inl e=>e≠0
 |.inr alt=>Sv (K+B) (pz w q d alt).2.1 (pz w q d alt).2.2 x z∧Undo a x z (pz w q d alt).1 q d (pz w q d alt).2.1 (pz w q d alt).2.2∧Grw w t d (pz w q d alt).2.2
theorem GN{K B:Nat}(hK:K+B≤50000000)(hB:B≤1048576){a:Int}{q:List ak}{d:aZ}{x:TxL}{z:SeL}(h:Sv K q d x z)(w:ay)(hw:aU w.lf1≤B)(t:Int):Tot (Q3 w t a q d x z) (anE K B a q d x z w t):=by
 have hb:=dM w
 have hdir:=h.bd.dir
 obtain⟨r,hr,hq⟩:=ahz hK hB (a:=a) h w hw t
 show Tot (Mo.den (ajV w t a q d x z)) _
 simp only[ajV,Mo.den,aN,aG,aH,aK,aJ,hr,Option.bind_some]
 rcases r with e|_|y|c
 ·exact T.ret hq
 ·refine T.ret ⟨h.le (Nat.le_add_right ..),fun d' he=>⟨d',rfl,he⟩,fun _ _=>Gro.refl⟩
 ·have hq:xQ w t d=.inr y:=hq
  refine T.ret ?_
  show Sv (K+B) q y.1 x z∧Undo a x z (.doc (aI w.aT d.dir) y.2) q d q y.1∧Grw w t d y.1
  have hg:Grw w t d y.1:=fun sp _=>(Gro.add h.wf hq fun _ _=>rfl).1
  refine(fun h:_∧_=>⟨h.1,h.2,hg⟩) ?_
  clear hg
  unfold xQ at hq
  cases hj:aI w.aT d.dir with
  |none=>grind
  |some j=>
   simp only[hj] at hq
   cases hc:(jP w.dL).2 with
   |false=>grind
   |true=>
    rw[hc] at hq
    injection hq with hq
    subst hq
    have h1:=h.put (B:=B) (by omega) hj (jP w.dL).1 (Dk w t) (GL (by omega) t)
    have h2:=aeR (a:=a) (K:=K) (by omega) h hj (jP w.dL).1 (Dk w t)
    grind
 refine T.ite (fun h1=>T.ret (show c.2≠0 by simpa using h1)) (fun h1=>?_)
 have h1:c.2=0:=by simpa using h1
 rcases hq with hq|⟨-,hq⟩
 ·omega
 refine T.ite (fun h4=>?_) (fun h4=>?_)
 ·have h4:w.aB=4:=by simpa using h4
  rcases hq with⟨-,q1,q2,q3⟩|⟨h5,-⟩|⟨h5,-⟩
  ·rw[if_pos (by unfold maxLen;omega)]
   refine T.ret ?_
   show Sv (K+B) c.1 (d.make w.gy.fName) x z∧Undo a x z (.create q w) q d c.1 (d.make w.gy.fName)∧Grw w t d (d.make w.gy.fName)
   have h0:aI w.gy.fName d.dir=none:=by
    cases hg:aI w.gy.fName d.dir with
    |none=>rfl
    |some j=>exact absurd ((h.nam w.gy.fName).2 (by rw[hg];rfl)) q3
   exact⟨h.mkS (by omega) _ q1 q2 q3,fun d' he=>⟨d'.unlink w.gy.fName,rfl,he.akR h0⟩,fun _ _=>Gro.make h0⟩
  all_goals omega
 have h4:w.aB≠4:=by simpa using h4
 refine T.ite (fun h5=>?_) (fun h5=>?_)
 ·have h5:w.aB=5:=by simpa using h5
  rcases hq with⟨h6,-⟩|⟨-,q1,q2⟩|⟨-,h6,-⟩
  ·omega
  ·refine T.ret ?_
   show Sv (K+B) c.1 (d.unlink w.aT) x z∧Undo a x z (.drop q (aI w.aT d.dir) w) q d c.1 (d.unlink w.aT)∧Grw w t d (d.unlink w.aT)
   refine⟨(h.le (Nat.le_add_right ..)).unl _ q1 q2,fun d' he=>?_,fun _ k=>Gro.unl (k h5)⟩
   have hm:=(h.nam w.aT).1 (q2.mem_iff.2 (List.mem_cons_self ..))
   obtain⟨j,hj⟩:=Option.isSome_iff_exists.1 hm
   have hl:d'.dir.length<maxLen:=by
    rw[he.dir]
    have:=wX w.aT d.dir
    show(dH w.aT d.dir).length<_
    unfold maxLen
    omega
   refine⟨d'.link w.aT j,?_,he.akS h.wf hj⟩
   show(Q77 q (aI w.aT d.dir) w a c.1 d' x z).map _=_
   unfold Q77 aif
   simp only[Mo.den,aN,aG,aH,aK,aJ,hj,Option.bind_some]
   grind
  omega
 have h5:w.aB≠5:=by simpa using h5
 rcases hq with⟨h6,-⟩|⟨h6,-⟩|⟨-,-,q1,q2⟩
 ·omega
 ·omega
 refine T.ret ?_
 show Sv (K+B) c.1 d x z∧Undo a x z (.idx q) q d c.1 d∧Grw w t d d
 exact⟨(h.le (Nat.le_add_right ..)).cat q1 q2,fun d' he=>⟨d',rfl,he⟩,fun _ _=>Gro.refl⟩
theorem aad(a:Int)(x:TxL)(z:SeL):∀(us:List Und) (u:Und) (q:List ak) (d:aZ),pq a x z (us++[u]).reverse q d=match QE a x z u q d with|none=>none|some y=>pq a x z us.reverse y.1 y.2:=fun us u q d=>by
 rw[List.reverse_append,List.reverse_singleton,List.singleton_append]
 rfl
def amK(a:Int)(x:TxL)(z:SeL)(us:List Und)(q:List ak)(d:aZ)(q1:List ak)(d1:aZ):Prop:=∀d',iL d1 d'→∃d'',pq a x z us.reverse q1 d'=some (q,d'')∧iL d d''
def Grl(l:List ay)(t:Int)(d d':aZ):Prop:=∀sp,(∀w∈l,w.aB=5→w.aT≠sp)→Gro (fun _ s=>s=t) sp d d'
theorem GU{a:Int}{x:TxL}{z:SeL}(t:Int)(q0:List ak)(d0:aZ):∀(l:List ay) (K:Nat) (us:List Und) (q:List ak) (d:aZ),K+bQ (l.map ay.lf)≤50000000→bQ (l.map ay.lf)≤1048576→Sv K q d x z→amK a x z us q0 d0 q d→Tot (yF a x z t l us q d) (fun r=>(r.1≠0∧r.2.1=q0∧iL d0 r.2.2)∨(r.1=0∧Sv (K+bQ (l.map ay.lf)) r.2.1 r.2.2 x z∧Grl l t d r.2.2))
 |[],K,us,q,d,_,_,h,_=>T.ret (.inr ⟨rfl,h,fun _ _=>Gro.refl⟩)
 |w::l,K,us,q,d,hK,hB,h,hu=>by
  have hb:bQ ((w::l).map ay.lf)=aU w.lf1+bQ (l.map ay.lf):=by
   rw[List.map_cons,ay.aY];simp only[bQ]
  rw[hb] at hK hB ⊢
  obtain⟨r,hr,hq⟩:=GN (K:=K) (B:=aU w.lf1) (by omega) (by omega) (a:=a) h w (Nat.le_refl _) t
  unfold yF
  rw[hr]
  rcases r with e|alt
  ·have hq:e≠0:=hq
   obtain⟨d'',k1,k2⟩:=hu d (iL.refl d)
   show Tot (bif e==0 then none else(pq a x z us.reverse q d).map fun y=>(e,y.1,y.2)) _
   rw[show(e==0)=false by simpa using hq,k1]
   exact T.ret (.inl ⟨hq,rfl,k2⟩)
  obtain⟨h1,h2,h3⟩:=hq
  refine T.mono (GU t q0 d0 l (K+aU w.lf1) _ _ _ (by omega) (by omega) h1 ?_) fun r hr=>?_
  ·intro d' he
   obtain⟨d1,k1,k2⟩:=h2 d' he
   obtain⟨d2,k3,k4⟩:=hu d1 k2
   refine⟨d2,?_,k4⟩
   rw[aad,k1]
   exact k3
  rcases hr with hr|⟨e,hr,hg⟩
  ·exact .inl hr
  exact .inr ⟨e,by rw[←Nat.add_assoc];exact hr,fun sp k=>(h3 sp (k w (List.mem_cons_self ..))).trans (hg sp fun u hu=>k u (List.mem_cons_of_mem _ hu))⟩
theorem aae{K:Nat}{a:Int}{q:List ak}{d:aZ}{x:TxL}{z:SeL}(h:Sv K q d x z)(l:List ay)(hl:bQ (l.map ay.lf)≤1048576)(hK:K+bQ (l.map ay.lf)≤50000000)(t:Int):Tot (ag6 l t a q d x z) (fun r=>(r.1≠0∧r.2.1=q∧iL d r.2.2)∨(r.1=0∧Sv (K+bQ (l.map ay.lf)) r.2.1 r.2.2 x z∧Grl l t d r.2.2)):=by
 have:=jI l
 unfold ag6
 rw[Nat.ble_eq_true_of_le (show(l.length+1)*8≤140737488355328 by omega)]
 exact GU t q d l K [] q d hK hl h fun d' he=>⟨d',rfl,he⟩
end Go.Proofs.YtpdlghcgekojlaaGreatDoor
namespace Go.Proofs.YtpdlghcgekojlaaGreatDoor
open Go.RowKit
theorem Sv.aiD{K:Nat}{q:List ak}{d:aZ}{x:TxL}{z:SeL}(h:Sv K q d x z)(s:ByteArray):Sv K q d (dH s x) z:=
 { h with
  asc:=h.asc.del s
  bd:={ h.bd with
   tx:=Nat.le_trans (wX s x) h.bd.tx
   txw:=fun t p hp=>by
    by_cases e:s=t
    ·subst e;rw[fZ] at hp;cases hp
    rw[gU e] at hp;exact h.bd.txw t p hp } }
theorem Sv.amL{K B:Nat}{q:List ak}{d:aZ}{x:TxL}{z:SeL}(h:Sv K q d x z)(hB:1≤B)(s:ByteArray)(p:ah)(hp:bQ (p.bJ.map ay.lf)≤1048576):Sv (K+B) q d (eF s p x) z:=by
 have h1:=h.le (Nat.le_add_right K B)
 exact { h1 with
  asc:=h.asc.put s p
  bd:={ h1.bd with
   tx:=by
    have:=rO s p x
    have:=h.bd.tx
    omega
   txw:=fun t r hr=>by
    by_cases e:s=t
    ·subst e;rw[fH] at hr;injection hr with hr;subst hr;exact hp
    rw[gV e] at hr;exact h.bd.txw t r hr } }
theorem Sv.akT{K B:Nat}{q:List ak}{d:aZ}{x:TxL}{z:SeL}(h:Sv K q d x z)(hB:1≤B)(s:ByteArray)(p:au):Sv (K+B) q d x (eF s p z):=by
 have h1:=h.le (Nat.le_add_right K B)
 exact { h1 with
  bd:={ h1.bd with
   ses:=by
    have:=rO s p z
    have:=h.bd.ses
    omega } }
noncomputable def yP(y:ay):ay:=ay.OQ (ay.OO (ay.uO (ay.qP ay.z y.aB) y.aT) y.dL) y.bC
theorem NU:aU aj.z.lf1=5:=by rw[bZ];rfl
theorem aaf:aU aA.z.lf1=21:=by
 rfl
theorem aeS:aU ak.z.lf1=25:=by
 rfl
theorem ahA:aU bf.z.lf1=11:=by
 rfl
theorem aeT:aU dS.z.lf1=3:=by rw[pR];rfl
theorem ahB:aU aS.z.lf1=25:=by
 rfl
theorem aeU:aU aW.z.lf1=31:=by
 rfl
theorem KJ(y:ay):aU (yP y).lf1≤aU y.lf1:=by
 have e:aU (yP y).lf1=7+y.aT.size+aU y.dL.lf1+aU y.bC.lf1+61:=by
  rw[dM]
  show 7+y.aT.size+aU y.dL.lf1+aU y.bC.lf1+aU aj.z.lf1+aU ak.z.lf1+aU aW.z.lf1+0+0+0=_
  rfl
 have h1:=dM y
 have h2:=bZ y.ig
 have h3:=iC y.gy
 have h4:=iM y.gy.fV
 have h5:=bZ y.gy.fV.lI
 have h6:=bZ y.gy.fV.lJ
 have h7:=iR y.eP
 have h8:=iW y.eP.jE
 have h9:=bZ y.eP.jE.fArg
 have h10:=pR y.eP.jE.dK
 have h11:=kU y.eP.jE.fExpr
 have h12:=bZ y.eP.jE.fExpr.fArg
 omega
theorem take_snoc{α:Type}{l:List α}{k:Nat}{u:α}(h:l[k]?=some u):l.take (k+1)=l.take k++[u]:=by
 rw[List.take_add_one,h];rfl
theorem GV:∀l:List ay,bQ ((l.map yP).map ay.lf)≤bQ (l.map ay.lf)
 |[]=>Nat.le_refl _
 |y::l=>by
  have h1:=GV l
  have h2:=KJ y
  rw[List.map_cons,List.map_cons,List.map_cons,ay.aY,ay.aY]
  simp only[bQ]
  omega
theorem Vw{K:Nat}(hK:K≤50000000){a:Int}{q:List ak}{d:aZ}{x:TxL}{z:SeL}(h:Bd K q d x z){y:ay}(hy:aU y.lf1≤1048576){t:Int}(hf:Q73 y t a q d x z=some 0):tV d y.aT=true∧holdV y.aT y.dL x=(⟨#[]⟩:ByteArray)∧SK y.aT y.dL d<t:=by
 obtain⟨e,he,hq⟩:=GK (a:=a) (q:=q) hK h y hy t
 grind
noncomputable def clash(y w:ay):Bool:=bif decide (y.aT=w.aT) then eqB y.dL w.dL else false
theorem SQ{K:Nat}(hK:K≤50000000){a:Int}{q:List ak}{d:aZ}{x:TxL}{z:SeL}(h:Sv K q d x z)(w:ay)(hw:bQ (w.bG.map ay.lf)≤1048576)(t:Int):
 Tot (Q20 w t a q d x z) (fun r=>(r.1≠0∧r.2=x)∨(r.1=0∧aI w.dP x=none∧(∀y∈w.bG,Q73 y t a q d x z=some 0)∧r.2=eF w.dP ⟨t,w.bG.map yP⟩ x∧w.bG.Pairwise fun u y=>clash y u=false)):=by
 have hb:=dM w
 have hlw:=jI w.bG
 have htx:=h.bd.tx
 have h5:∀(l:List ay) (v:Int) (y:ay),aU y.lf1≤1048576→l.length≤1048576→(∀u∈l,aU u.lf1≤1048576)→aee l a q d x z t w v y 0=some (bif l.any (clash y) then .inl () else .inr ()):=fun l v y hy hl hlb=>by
  refine XM l (by omega) _ _ (fun k u hx=>?_) ?_
  ·have hu:=hlb u (gK hx)
   have h1:=dM u
   have h2:=dM y
   unfold Af
   simp only[RJ,Mo.den,aN,aG,aH,aK,aJ,ltt hx,gid hx,cond_true,Option.bind_some,XK (a:=y.dL) (b:=u.dL) (by omega) (by omega)]
   unfold clash
   cases decide (y.aT=u.aT) with
   |false=>rfl
   |true=>cases eqB y.dL u.dL<;>rfl
  unfold Af
  simp only[Mo.den,aN,aG,aH,aK,aJ,ltn,cond_false]
 have hL:Tot (XA a q d x z t w 0 []) (fun r=>match r with
  |.inl e=>e≠0
  |.inr l=>l=w.bG.map yP∧(∀y∈w.bG,Q73 y t a q d x z=some 0)∧w.bG.Pairwise fun u y=>clash y u=false):=by
  refine T.lY w.bG.length (by omega) (fun k s=>s.1=(k:Int)∧s.2=(w.bG.take k).map yP∧(∀y∈w.bG.take k,Q73 y t a q d x z=some 0)∧(w.bG.take k).Pairwise fun u y=>clash y u=false) _ ⟨rfl,rfl,(fun y hy=>by cases hy),List.Pairwise.nil⟩ ?_ ?_
  ·rintro k ⟨i,s⟩ hk ⟨h1,h2,h3,h0⟩
   obtain rfl:i=(k:Int):=h1
   obtain rfl:s=(w.bG.take k).map yP:=h2
   obtain⟨u,hx⟩:∃u,w.bG[k]?=some u:=⟨_,List.getElem?_eq_getElem hk⟩
   have hm:=kV (gK hx)
   have hy:=dM u
   have hln:((w.bG.take k).map yP).length≤k:=by rw[List.length_map,List.length_take];omega
   have hcp1:=gZ u.dL (by omega)
   have hcp2:=gZ u.bC (by omega)
   unfold wP
   simp only[Mo.den, aN, aG, aH, aK, aJ, ltt hx, gid hx, cond_true, Option.bind_some, hcp1, hcp2, h5 _ (k:Int) u (show aU u.lf1≤1048576 by omega) (show((w.bG.take k).map yP).length≤1048576 by omega) (fun v hu=>by
    obtain⟨y,hy,rfl⟩:=List.mem_map.1 hu
    have:=kV (List.mem_of_mem_take hy)
    have:=KJ y
    omega)]
   obtain⟨e,he,-⟩:=GK (a:=a) (q:=q) hK h.bd u (show aU u.lf1≤1048576 by omega) t
   rw[he,Option.bind_some]
   refine T.ite (fun h4=>T.ret (show e≠0 by simpa using h4)) (fun h4=>?_)
   have h4:e=0:=by simpa using h4
   subst h4
   cases hcl:((w.bG.take k).map yP).any (clash u) with
   |true=>exact T.ret (show(28:Int)≠0 by decide)
   |false=>
    show Tot (if _ then _ else _) _
    rw[if_pos (by simp only[List.length_cons,List.length_nil];omega)]
    refine T.ret ⟨inc k (by omega),?_,?_,?_⟩
    ·show(w.bG.take k).map yP++[yP u]=_
     rw[take_snoc hx,List.map_append];rfl
    ·intro y hy
     rw[take_snoc hx] at hy
     rcases List.mem_append.1 hy with hy|hy
     ·exact h3 y hy
     rw[List.mem_singleton.1 hy];exact he
    rw[take_snoc hx,List.pairwise_append]
    refine⟨h0,List.pairwise_singleton _ _,fun y hy v hv=>?_⟩
    rw[List.mem_singleton.1 hv]
    have:=List.any_eq_false.1 hcl (yP y) (List.mem_map_of_mem hy)
    exact(Bool.not_eq_true _).mp this
  rintro⟨i,s⟩ ⟨h1,h2,h3,h0⟩
  obtain rfl:i=(w.bG.length:Int):=h1
  obtain rfl:s=(w.bG.take w.bG.length).map yP:=h2
  unfold wP
  simp only[Mo.den,aN,aG,aH,aK,aJ,ltn,cond_false]
  rw[List.take_length] at h3 h0
  exact T.ret ⟨by rw[List.take_length],h3,h0⟩
 obtain⟨r,hr,hq⟩:=hL
 show Tot (Mo.den (aef w t a q d x z)) _
 simp only[aef,Mo.den,aN,aG,aH,aK,aJ,hr,Option.bind_some]
 refine T.ite (fun h1=>T.ret (.inl ⟨show(16:Int)≠0 by decide,rfl⟩)) (fun h1=>?_)
 rcases r with e|l
 ·exact T.ret (.inl ⟨hq,rfl⟩)
 obtain⟨rfl,hq,hcl⟩:=hq
 show Tot (if _ then _ else _) _
 rw[if_pos (by unfold maxLen;omega)]
 exact T.ret (.inr ⟨rfl,by simpa using h1,hq,rfl,hcl⟩)
theorem ahC{K:Nat}{q:List ak}{d:aZ}{x:TxL}{z:SeL}(h:Sv K q d x z){w:ay}(hw:aU w.lf1≤1048576){t:Int}{y:aZ×ByteArray}(ha:xQ w t d=.inr y):Sv (K+1) q y.1 x z:=by
 unfold xQ at ha
 cases hj:aI w.aT d.dir with
 |none=>grind
 |some j=>
  simp only[hj] at ha
  cases hc:(jP w.dL).2 with
  |false=>grind
  |true=>
   rw[hc] at ha
   injection ha with ha
   subst ha
   have h1:=h.put (B:=1) (Nat.le_refl _) hj (jP w.dL).1 (Dk w t) (GL hw t)
   grind
noncomputable def yQ(t:Int)(d:aZ)(w:ay):aZ:=match xQ w t d with
 |.inl _=>d
 |.inr y=>y.1
theorem ahD{K:Nat}{q:List ak}{d:aZ}{x:TxL}{z:SeL}(h:Sv K q d x z){w:ay}(hw:aU w.lf1≤1048576)(t:Int):Sv (K+1) q (yQ t d w) x z:=by
 unfold yQ
 cases ha:xQ w t d with
 |inl _=>exact h.le (Nat.le_succ K)
 |inr y=>exact ahC h hw ha
theorem Gro.fold{P:ByteArray→Int→Prop}{sp:ByteArray}{t:Int}:∀(l:List ay) (d:aZ),RWf d→(∀u∈l,(jP u.dL).2=true→u.aT=sp→P (jP u.dL).1 t)→Gro P sp d (l.foldl (yQ t) d)
 |[],d,_,_=>Gro.refl
 |u::l,d,wf,h=>by
  have h1:Gro P sp d (yQ t d u)∧RWf (yQ t d u):=by
   unfold yQ
   cases ha:xQ u t d with
   |inl _=>exact⟨Gro.refl,wf⟩
   |inr y=>exact Gro.add wf ha (h u (List.mem_cons_self ..))
  exact h1.1.trans (Gro.fold l _ h1.2 fun v hv=>h v (List.mem_cons_of_mem _ hv))
theorem Vx{K:Nat}(hK:K+1048576≤50000000){a:Int}{q:List ak}{d:aZ}{x:TxL}{z:SeL}(h:Sv K q d x z)(w:ay):
 Tot (Q35 w a q d x z) (fun r=>(r.1≠0∧r.2.1=d∧r.2.2=x)∨(r.1=0∧(∃p,aI w.dP x=some p∧p.dw≤w.bW∧r.2.1=p.bJ.foldl (yQ w.bW) d)∧r.2.2=dH w.dP x∧Sv (K+1048576) q r.2.1 r.2.2 z)):=by
 show Tot (Mo.den (aeh w a q d x z)) _
 simp only[aeh,Mo.den,aN,aG,aH,aK,aJ]
 refine T.ite (fun h1=>T.ret (.inl ⟨show(15:Int)≠0 by decide,rfl,rfl⟩)) (fun h1=>?_)
 refine T.ite (fun h2=>T.ret (.inl ⟨show(23:Int)≠0 by decide,rfl,rfl⟩)) (fun h2=>?_)
 have h2:=of_decide_eq_false h2
 obtain⟨p,hp⟩:∃p,aI w.dP x=some p:=Option.isSome_iff_exists.1 (by simpa using h1)
 have hpb:=h.bd.txw _ p hp
 have hpl:=jI p.bJ
 have eg:(aI w.dP x).getD ah.z=p:=by rw[hp];rfl
 have hL:Tot (aeg a q x z w 0 d) (fun r=>r=p.bJ.foldl (yQ w.bW) d∧Sv (K+p.bJ.length) q r x z):=by
  refine T.lY p.bJ.length (by omega) (fun k s=>s.1=(k:Int)∧s.2=(p.bJ.take k).foldl (yQ w.bW) d∧Sv (K+k) q s.2 x z) _ ⟨rfl,rfl,h⟩ ?_ ?_
  ·rintro k ⟨i,s⟩ hk ⟨k1,k2,k3⟩
   obtain rfl:i=(k:Int):=k1
   obtain⟨u,hx⟩:∃u,p.bJ[k]?=some u:=⟨_,List.getElem?_eq_getElem hk⟩
   have hm:=kV (gK hx)
   have hx':((aI w.dP x).getD ah.z).bJ[k]?=some u:=by rw[eg];exact hx
   have hadd:=XO (a:=a) (K:=K+k) (by omega) k3.bd u (show aU u.lf1≤1048576 by omega) w.bW
   have hsv:=ahD k3 (w:=u) (by omega) w.bW
   unfold Ag
   simp only[RN,Mo.den,aN,aG,aH,aK,aJ,ltt hx',gid hx',cond_true,Option.bind_some]
   have hadd':Q34 u w.bW a q s x z=some (xQ u w.bW s):=hadd
   rw[hadd']
   have e:yQ w.bW s u=match xQ u w.bW s with|.inl _=>s|.inr y=>y.1:=rfl
   have k2':s=(p.bJ.take k).foldl (yQ w.bW) d:=k2
   have ef:(p.bJ.take (k+1)).foldl (yQ w.bW) d=yQ w.bW s u:=by
    rw[take_snoc hx,List.foldl_append,←k2'];rfl
   have hsv:Sv (K+k+1) q (yQ w.bW s u) x z:=hsv
   rw[e] at ef hsv
   generalize xQ u w.bW s=av at ef hsv ⊢
   cases av with
   |inl _=>exact T.ret ⟨inc k (by omega),ef.symm,hsv⟩
   |inr y=>exact T.ret ⟨inc k (by omega),ef.symm,hsv⟩
  rintro⟨i,s⟩ ⟨k1,k2,k3⟩
  obtain rfl:i=(p.bJ.length:Int):=k1
  have en:decide (((p.bJ.length:Nat):Int)<((((aI w.dP x).getD ah.z).bJ.length:Nat):Int))=false:=by rw[eg];exact decide_eq_false (by omega)
  unfold Ag
  simp only[Mo.den,aN,aG,aH,aK,aJ,en,cond_false]
  have k2':s=(p.bJ.take p.bJ.length).foldl (yQ w.bW) d:=k2
  rw[List.take_length] at k2'
  exact T.ret ⟨k2',k3⟩
 obtain⟨r,hr,k1,k2⟩:=hL
 rw[hr,Option.bind_some]
 exact T.ret (.inr ⟨rfl,⟨p,hp,by rw[eg] at h2;omega,k1⟩,rfl,(k2.aiD _).le (by omega)⟩)
def amM(sp c:ByteArray)(s:Int)(x:TxL):Prop:=∃id p u,aI id x=some p∧u∈p.bJ∧u.aT=sp∧jP u.dL=(c,true)∧p.dw≤s
structure WrG (w:ay) (t:Int) (d:aZ) (x:TxL) (d':aZ) (x':TxL):Prop where
 gro:∀sp,(w.aB=5→w.aT≠sp)→(∀u∈w.bG,u.aB=5→u.aT≠sp)→Gro (fun c s=>s=t∨amM sp c s x) sp d d'
 txn:x'=x∨(∃s,x'=dH s x)∨(w.aB=9∧(∀y∈w.bG,holdV y.aT y.dL x=(⟨#[]⟩:ByteArray))∧x'=eF w.dP ⟨t,w.bG.map yP⟩ x)
def WrR(K:Nat)(w:ay)(t:Int)(q:List ak)(d:aZ)(x:TxL)(z:SeL)(r:Int×List ak×aZ×TxL):Prop:=(r.1≠0∧r.2.1=q∧iL d r.2.2.1∧r.2.2.2=x)∨(r.1=0∧Sv (K+1048576) r.2.1 r.2.2.1 r.2.2.2 z∧WrG w t d x r.2.2.1 r.2.2.2)
theorem aag{K:Nat}(hK:K+1048576≤50000000){a:Int}{q:List ak}{d:aZ}{x:TxL}{z:SeL}(h:Sv K q d x z)(w:ay)(hw:aU w.lf1≤1048576)(t:Int):Tot (Q43 w t a q d x z) (WrR K w t q d x z):=by
 have hb:=dM w
 have hJ0:U5 a q d x z t w=some (w.aB==1||w.aB==12):=by
  unfold U5 RP
  simp only[Mo.den,aN,aG,aH,aK,aJ,ifk]
 show Tot (Mo.den (aei w t a q d x z)) _
 simp only[aei,Mo.den,aN,aG,aH,aK,aJ,hJ0,Option.bind_some]
 refine T.ite (fun h1=>T.ret (.inr ⟨rfl,h.le (by omega),⟨fun _ _ _=>Gro.refl,.inl rfl⟩⟩)) (fun h1=>?_)
 refine T.ite (fun h8=>?_) (fun h8=>?_)
 ·refine T.bind (aae (a:=a) h w.bG (by omega) (by omega) t) fun r hr=>T.ret ?_
  rcases hr with⟨r1,r2,r3⟩|⟨r1,r2,r3⟩
  ·exact .inl ⟨r1,r2,r3,rfl⟩
  exact .inr ⟨r1,r2.le (by omega),⟨fun sp _ k=>(r3 sp k).mono fun _ _ e=>.inl e,.inl rfl⟩⟩
 refine T.ite (fun h9=>?_) (fun h9=>?_)
 ·refine T.bind (SQ (K:=K) (by omega) h w (by omega) t) fun r hr=>T.ret ?_
  rcases hr with⟨r1,r2⟩|⟨r1,-,r4,r3,-⟩
  ·exact .inl ⟨r1,rfl,iL.refl d,r2⟩
  refine .inr ⟨r1, ?_, ⟨fun _ _ _=>Gro.refl, .inr (.inr ⟨by simpa using h9, fun y hy=>?_, r3⟩)⟩⟩
  case refine_2=>exact(Vw (K:=K) (by omega) h.bd (by have:=kV hy;omega) (r4 y hy)).2.1
  show Sv _ q d r.2 z
  rw[r3]
  exact h.amL (by omega) _ _ (Nat.le_trans (GV w.bG) (by omega))
 refine T.ite (fun h10=>?_) (fun h10=>?_)
 ·refine T.bind (Vx (a:=a) hK h w) fun r hr=>T.ret ?_
  rcases hr with⟨r1,r2,r3⟩|⟨r1,⟨p,p1,p2,p3⟩,r3,r4⟩
  ·exact .inl ⟨r1,rfl,by show iL d r.2.1;rw[r2];exact iL.refl d,r3⟩
  refine .inr ⟨r1,r4,⟨fun sp _ _=>?_,.inr (.inl ⟨_,r3⟩)⟩⟩
  show Gro _ sp d r.2.1
  rw[p3]
  exact Gro.fold _ _ h.wf fun u hu hc hs=>.inr ⟨_,p,u,p1,hu,hs,by rw[←hc],p2⟩
 refine T.ite (fun h11=>?_) (fun h11=>?_)
 ·refine T.ite (fun _=>T.ret (.inl ⟨show(15:Int)≠0 by decide,rfl,iL.refl d,rfl⟩)) (fun _=>T.ret (.inr ⟨rfl,(h.aiD _).le (by omega),⟨fun _ _ _=>Gro.refl,.inr (.inl ⟨_,rfl⟩)⟩⟩))
 obtain⟨r,hr,hq⟩:=GN (K:=K) (B:=1048576) (by omega) (by omega) (a:=a) h w hw t
 unfold RQ
 simp only[Mo.den,aN,aG,aH,aK,aJ,hr,Option.bind_some]
 have hg:∀d',Grw w t d d'→WrG w t d x d' x:=fun d' k=>⟨fun sp k1 _=>(k sp k1).mono fun _ _ e=>.inl e,.inl rfl⟩
 rcases r with e|_|y|c|c|c
 ·exact T.ret (.inl ⟨hq,rfl,iL.refl d,rfl⟩)
 ·exact T.ret (.inr ⟨rfl,h.le (by omega),⟨fun _ _ _=>Gro.refl,.inl rfl⟩⟩)
 ·exact T.ret (.inr ⟨rfl,hq.1.le (by omega),hg _ hq.2.2⟩)
 ·exact T.ret (.inr ⟨rfl,hq.1.le (by omega),hg _ hq.2.2⟩)
 ·exact T.ret (.inr ⟨rfl,hq.1.le (by omega),hg _ hq.2.2⟩)
 exact T.ret (.inr ⟨rfl,hq.1.le (by omega),hg _ hq.2.2⟩)
def ApR(K:Nat)(e:bD)(a:Int)(q:List ak)(d:aZ)(x:TxL)(z:SeL)(r:Int×Int×List ak×aZ×TxL×SeL):Prop:=(r.1≠0∧r.2.1=a∧r.2.2.1=q∧iL d r.2.2.2.1∧r.2.2.2.2.1=x∧r.2.2.2.2.2=z)∨(r.1=0∧r.2.1=e.bW∧a<e.bW∧Sv (K+1048577) r.2.2.1 r.2.2.2.1 r.2.2.2.2.1 r.2.2.2.2.2∧Q66 e=some 0∧WrG e.dZ e.bW d x r.2.2.2.1 r.2.2.2.2.1)
theorem aah{K:Nat}(hK:K+1048577≤50000000){a:Int}{q:List ak}{d:aZ}{x:TxL}{z:SeL}(h:Sv K q d x z)(e:bD)(he:aU e.lf1≤1048576):Tot (Q54 e a q d x z) (ApR K e a q d x z):=by
 have hb:=lN e
 have hw:=dM e.dZ
 obtain⟨v,hv,-⟩:=DF e (by omega)
 obtain⟨r,hr,hq⟩:=aag (K:=K) (by omega) (a:=a) h e.dZ (by omega) e.bW
 show Tot (Mo.den (aej e a q d x z)) _
 simp only[aej,RS,Mo.den,aN,aG,aH,aK,aJ,hv,hr,Option.bind_some]
 refine T.ite (fun h1=>T.ret (.inl ⟨by simpa using h1,rfl,rfl,iL.refl d,rfl,rfl⟩)) (fun h1=>?_)
 refine T.ite (fun h2=>T.ret (.inl ⟨show(23:Int)≠0 by decide,rfl,rfl,iL.refl d,rfl,rfl⟩)) (fun h2=>?_)
 have h2:=of_decide_eq_false h2
 have h1:v=0:=by simpa using h1
 subst h1
 rcases hq with⟨q1,q2,q3,q4⟩|⟨q1,q2,q3⟩
 ·rw[show(r.1 != 0)=true by simpa using q1]
  exact T.ret (.inl ⟨q1,rfl,q2,q3,q4,rfl⟩)
 rw[show(r.1 != 0)=false by simpa using q1]
 have hs:=h.bd.ses
 simp only[cond_false]
 cases hc:!decide ((e.eU:ByteArray)=(⟨#[]⟩:ByteArray)) with
 |true=>
  simp only[cond_true]
  rw[if_pos (by unfold maxLen;omega),Option.bind_some]
  exact T.ret (.inr ⟨rfl,rfl,by omega,q2.akT (B:=1) (Nat.le_refl _) _ _,hv,q3⟩)
 |false=>
  simp only[cond_false,Option.bind_some]
  exact T.ret (.inr ⟨rfl,rfl,by omega,q2.le (by omega),hv,q3⟩)
theorem sv0:Sv 0 [] (⟨[],[]⟩:aZ) [] [] where
 bd:=⟨Nat.le_refl _,Nat.le_refl _,fun _ _ h=>(by cases h),fun _ _ _ _ h=>(by cases h),fun _ _ _ _ h=>(by cases h),Nat.le_refl _,fun _ _ h=>(by cases h),Nat.le_refl _⟩
 wf:=⟨fun _ _ h=>(by cases h),fun _ _ _ h=>(by cases h),jY.nil,fun _ _ h=>by cases h⟩
 asc:=jY.nil
 nod:=List.nodup_nil
 nam:=fun n=>⟨fun h=>(by cases h),fun h=>by cases h⟩
 ne:=fun _ _ _ _ h=>by cases h
theorem aak{K:Nat}{q:List ak}{d:aZ}{x:TxL}{z:SeL}(h:Bd K q d x z)(sp:ByteArray)(key:aj)(t:Int):aU (uD sp key t d x).1.lf1≤1048576:=by
 have hm:aU AP.lf1≤1048576:=by rw[bZ];decide
 have hr:=AQ (t:=t) (h.NQ sp (jP key).1).2
 unfold uD
 cases !tV d sp with
 |true=>exact hm
 |false=>
  simp only[cond_false]
  cases (bif !decide (holdV sp key x=(⟨#[]⟩:ByteArray)) then decide ((oI x (holdV sp key x)).dw≤t) else false) with
  |true=>exact hm
  |false=>
   simp only[cond_false]
   cases !(jP key).2 with
   |true=>exact hm
   |false=>exact hr
theorem wu8(x:Int):IntKind.wrap .u8 x=x%256:=by
 rfl
def xo(n:Int):Int:=gW .xor .u64 (IntKind.wrap .u64 n) 9223372036854775808
theorem aeW(n:Int):xo n=((BitVec.ofInt 64 n^^^ BitVec.ofInt 64 9223372036854775808).toNat:Int):=by
 have e:BitVec.ofInt 64 (n%18446744073709551616)=BitVec.ofInt 64 n:=by
  apply BitVec.eq_of_toNat_eq
  simp
 unfold xo gW
 show IntKind.u64.wrap ((BitVec.ofInt 64 (IntKind.u64.wrap n)^^^ BitVec.ofInt 64 9223372036854775808).toNat:Int)=_
 rw[vH,vH,e]
 omega
theorem aiE(n:Int):0≤xo n∧xo n<18446744073709551616:=by
 rw[aeW]
 omega
theorem akU{a b:Int}(ha:I64 a)(hb:I64 b)(h:xo a=xo b):a=b:=by
 rw[aeW,aeW] at h
 have h1:BitVec.ofInt 64 a^^^ BitVec.ofInt 64 9223372036854775808=BitVec.ofInt 64 b^^^ BitVec.ofInt 64 9223372036854775808:=BitVec.eq_of_toNat_eq (by omega)
 have h2:BitVec.ofInt 64 a=BitVec.ofInt 64 b:=by
  simp_all
 have h3:=congrArg BitVec.toNat h2
 simp only[BitVec.toNat_ofInt] at h3
 unfold I64 at ha hb
 omega
theorem vO(n:Int)(k:Nat)(hk:k<64):shB n (k:Int)=xo n/2^k%256:=by
 unfold shB qy
 rw[wu8,show gW .xor .u64 (IntKind.wrap .u64 n) 9223372036854775808=xo n from rfl]
 rw[show min ((k:Int).toNat) (IntKind.bits .u64)=k by rw[Int.toNat_natCast];show min k 64=k;omega]
 grind
theorem akV{a b:Int}(ha:I64 a)(hb:I64 b)(h:n8 a=n8 b):a=b:=by
 refine akU ha hb ?_
 have e:∀n:Int,n8 n=[xo n/2^56%256,xo n/2^48%256,xo n/2^40%256,xo n/2^32%256,xo n/2^24%256,xo n/2^16%256,xo n/2^8%256,xo n/2^0%256]:=fun n=>by
  show [shB n ((56:Nat):Int),shB n ((48:Nat):Int),shB n ((40:Nat):Int),shB n ((32:Nat):Int),shB n ((24:Nat):Int),shB n ((16:Nat):Int),shB n ((8:Nat):Int),shB n ((0:Nat):Int)]=_
  rw[vO _ _ (by omega),vO _ _ (by omega),vO _ _ (by omega),vO _ _ (by omega),vO _ _ (by omega),vO _ _ (by omega),vO _ _ (by omega),vO _ _ (by omega)]
 rw[e,e] at h
 obtain⟨h1,h2,h3,h4,h5,h6,h7,h8⟩:xo a/2^56%256=xo b/2^56%256∧xo a/2^48%256=xo b/2^48%256∧xo a/2^40%256=xo b/2^40%256∧xo a/2^32%256=xo b/2^32%256∧xo a/2^24%256=xo b/2^24%256∧xo a/2^16%256=xo b/2^16%256∧xo a/2^8%256=xo b/2^8%256∧xo a/2^0%256=xo b/2^0%256:=by
  grind
 have la:=aiE a
 have lb:=aiE b
 grind
theorem AX(b:UInt8):ktB b=if b=0 then [0,255] else [(b.toNat:Int)]:=by
 unfold ktB
 by_cases h:b=0
 ·subst h;rfl
 rw[if_neg h,show((b.toNat:Int)==0)=false by
  simp only[beq_eq_false_iff_ne,ne_eq]
  exact fun e=>h (UInt8.toNat_inj.1 (by show b.toNat=0;omega))]
 rfl
theorem aal{b c:UInt8}{r s:List Int}(h:ktB b++r=ktB c++s):b=c∧r=s:=by
 have inj:∀{b c:UInt8},(b.toNat:Int)=(c.toNat:Int)→b=c:=fun e=>UInt8.toNat_inj.1 (by omega)
 rw[AX,AX] at h
 split at h
 ·rename_i hb
  split at h
  ·grind
  rename_i hc
  injection h with h _
  exact absurd (inj (b:=c) (c:=0) h.symm) hc
 rename_i hb
 split at h
 ·rename_i hc
  injection h with h _
  exact absurd (inj (b:=b) (c:=0) h) hb
 grind
theorem KL:∀{l m:List UInt8} {r s:List Int},(l.map ktB).flatten++(0::0::r)=(m.map ktB).flatten++(0::0::s)→l=m∧r=s
 |[],[],r,s,h=>by
  grind
 |[],c::m,r,s,h=>by
  rw[List.map_cons,List.flatten_cons,List.append_assoc,AX] at h
  split at h
  ·grind
  rename_i hc
  injection h with h _
  exact absurd (UInt8.toNat_inj.1 (show c.toNat=(0:UInt8).toNat by show c.toNat=0;omega)) hc
 |b::l,[],r,s,h=>by
  rw[List.map_cons,List.flatten_cons,List.append_assoc,AX] at h
  split at h
  ·grind
  rename_i hc
  injection h with h _
  exact absurd (UInt8.toNat_inj.1 (show b.toNat=(0:UInt8).toNat by show b.toNat=0;omega)) hc
 |b::l,c::m,r,s,h=>by
  rw[List.map_cons,List.flatten_cons,List.append_assoc,List.map_cons,List.flatten_cons,List.append_assoc] at h
  obtain⟨rfl,h2⟩:=aal h
  obtain⟨rfl,h3⟩:=KL h2
  grind
theorem aeX{a b:ByteArray}{r s:List Int}(h:kt a++[0,0]++r=kt b++[0,0]++s):a=b∧r=s:=by
 rw[List.append_assoc,List.append_assoc] at h
 obtain⟨h1,h2⟩:=KL h
 exact⟨oN h1,h2⟩
theorem GX:∀{l m:List UInt8} {r s:List Int},(∀b∈l,b≠0)→(∀b∈m,b≠0)→l.map (fun b=>(b.toNat:Int))++(0::r)=m.map (fun b=>(b.toNat:Int))++(0::s)→l=m∧r=s
 |[],[],r,s,_,_,h=>by injection h with _ h;exact⟨rfl,h⟩
 |[],c::m,r,s,_,hm,h=>by
  injection h with h _
  have h:(0:Int)=(c.toNat:Int):=h
  exact absurd (UInt8.toNat_inj.1 (show c.toNat=(0:UInt8).toNat by show c.toNat=0;omega)) (hm c (List.mem_cons_self ..))
 |b::l,[],r,s,hl,_,h=>by
  injection h with h _
  have h:(b.toNat:Int)=(0:Int):=h
  exact absurd (UInt8.toNat_inj.1 (show b.toNat=(0:UInt8).toNat by show b.toNat=0;omega)) (hl b (List.mem_cons_self ..))
 |b::l,c::m,r,s,hl,hm,h=>by
  injection h with h1 h2
  have h1:(b.toNat:Int)=(c.toNat:Int):=h1
  obtain rfl:b=c:=UInt8.toNat_inj.1 (by omega)
  obtain⟨rfl,h3⟩:=GX (fun x hx=>hl x (List.mem_cons_of_mem _ hx)) (fun x hx=>hm x (List.mem_cons_of_mem _ hx)) h2
  grind
theorem XQ{n:ByteArray}(h:nameB n=true):∀b∈n.data.toList,b≠0:=by
 intro b hb
 unfold nameB OV at h
 split at h
 ·cases h
 rename_i c r hc
 simp only[Bool.and_eq_true] at h
 have:=List.all_eq_true.1 h.2 b hb
 unfold oW at this
 simp only[Bool.and_eq_true,decide_eq_true_eq] at this
 rintro rfl
 grind
theorem SV{v:aj}(h:v.snd=true):1≤v.aB∧v.aB≤11:=by
 rw[yH] at h
 simp only[Bool.and_eq_true] at h
 have h:=h.1.2
 unfold Ez at h
 grind
theorem SX{v:aj}(h:v.snd=true):(v.aB=3∨v.aB=9∨v.aB=10∨v.dG=0)∧(v.aB=4∨v.aB=7∨v.aB=8∨v.fText=(⟨#[]⟩:ByteArray))∧(v.aB=6∨v.aX=[])∧(v.aB=5∨v.bC=[]):=by
 rw[yH] at h
 simp only[Bool.and_eq_true] at h
 have h:=h.1.1
 unfold Ey at h
 simp only[Bool.and_eq_true,Bool.or_eq_true,beq_iff_eq,decide_eq_true_eq] at h
 obtain⟨⟨⟨h1,h2⟩,h3⟩,h4⟩:=h
 refine⟨by omega,?_,?_,?_⟩
 ·rcases h2 with((h2|h2)|h2)|h2
  ·exact .inl h2
  ·omega
  ·omega
  refine .inr (.inr (.inr (oN (List.eq_nil_of_length_eq_zero ?_))))
  exact h2
 all_goals grind
theorem CB:∀{l:List aF} {seen:List ByteArray},aF.lZ seen l=true→∀f∈l,nameB f.fName=true∧f.fValue.snd=true
 |[],_,_,f,hf=>by cases hf
 |.mk n x::r,seen,h,f,hf=>by
  rw[Gn] at h
  simp only[Bool.and_eq_true] at h
  rcases List.mem_cons.1 hf with rfl|hf
  ·exact⟨h.1.1,h.2.1⟩
  exact CB h.2.2 f hf
inductive qL:aj→Prop where
 |mk {v:aj}:I64 v.dG→(∀x∈v.aX,qL x)→(∀f∈v.bC,qL f.fValue)→qL v
theorem AY{v u:aj}(h1:v.aB=u.aB)(h2:v.dG=u.dG)(h3:v.fText=u.fText)(h4:v.aX=u.aX)(h5:v.bC=u.bC):v=u:=by
 cases v;cases u
 simp only[aj.aB,aj.dG,aj.fText,aj.aX,aj.bC] at h1 h2 h3 h4 h5
 grind
theorem KN{P Q:aj→Prop}(hs:∀(v:aj) (u:aj) (r s:List Int),P v→Q u→kb v++r=kb u++s→v=u∧r=s):∀{l m:List aj} {r s:List Int},(∀x∈l,P x)→(∀x∈m,Q x)→(l.map kbE).flatten++(0::r)=(m.map kbE).flatten++(0::s)→l=m∧r=s
 |[],[],r,s,_,_,h=>by injection h with _ h;exact⟨rfl,h⟩
 |[],u::m,r,s,_,_,h=>by injection h with h _;cases h
 |v::l,[],r,s,_,_,h=>by injection h with h _;cases h
 |v::l,u::m,r,s,hl,hm,h=>by
  rw[List.map_cons,List.flatten_cons,List.append_assoc,List.map_cons,List.flatten_cons,List.append_assoc] at h
  injection h with _ h
  obtain⟨rfl,h2⟩:=hs v u _ _ (hl v (List.mem_cons_self ..)) (hm u (List.mem_cons_self ..)) h
  obtain⟨rfl,h3⟩:=KN hs (fun x hx=>hl x (List.mem_cons_of_mem _ hx)) (fun x hx=>hm x (List.mem_cons_of_mem _ hx)) h2
  grind
theorem KO{P Q:aj→Prop}(hs:∀(v:aj) (u:aj) (r s:List Int),P v→Q u→kb v++r=kb u++s→v=u∧r=s):∀{l m:List aF} {r s:List Int},(∀f∈l,nameB f.fName=true∧P f.fValue)→(∀f∈m,nameB f.fName=true∧Q f.fValue)→(l.map kbF).flatten++(0::r)=(m.map kbF).flatten++(0::s)→l=m∧r=s
 |[],[],r,s,_,_,h=>by injection h with _ h;exact⟨rfl,h⟩
 |[],u::m,r,s,_,_,h=>by injection h with h _;cases h
 |v::l,[],r,s,_,_,h=>by injection h with h _;cases h
 |.mk n v::l,.mk k u::m,r,s,hl,hm,h=>by
  have hv:=hl _ (List.mem_cons_self ..)
  have hu:=hm _ (List.mem_cons_self ..)
  rw[List.map_cons,List.flatten_cons,List.append_assoc,List.map_cons,List.flatten_cons,List.append_assoc] at h
  injection h with _ h
  have h:numsOf n++(0::kb v)++((l.map kbF).flatten++0::r)=numsOf k++(0::kb u)++((m.map kbF).flatten++0::s):=h
  rw[List.append_assoc,List.append_assoc] at h
  obtain⟨h1,h2⟩:=GX (XQ hv.1) (XQ hu.1) h
  obtain rfl:n=k:=oN h1
  obtain⟨rfl,h3⟩:=hs v u _ _ hv.2 hu.2 h2
  obtain⟨rfl,h4⟩:=KO hs (fun x hx=>hl x (List.mem_cons_of_mem _ hx)) (fun x hx=>hm x (List.mem_cons_of_mem _ hx)) h3
  grind
theorem aeY(n:Nat):∀(v u:aj) (r s:List Int),aU v.lf1<n→v.snd=true→u.snd=true→qL v→qL u→kb v++r=kb u++s→v=u∧r=s:=by
 induction n with
 |zero=>simp
 |succ n ih=>
  intro v u r s hb hv hu fv fu h
  have kv:=SV hv
  have ku:=SV hu
  have bv:=bZ v
  obtain⟨v1,v2,v3,v4⟩:=SX hv
  obtain⟨u1,u2,u3,u4⟩:=SX hu
  rw[SH,SH] at h
  injection h with hk h
  rw[wu8,wu8] at hk
  have hk:v.aB=u.aB:=by omega
  rw[←hk] at h u1 u2 u3 u4
  obtain⟨fi,fl,fd⟩:=fv
  obtain⟨gi,gl,gd⟩:=fu
  have sl:∀x∈v.aX,x.snd=true:=by
   rw[yH] at hv;simp only[Bool.and_eq_true] at hv
   rw[Ar] at hv
   grind
  have tl:∀x∈u.aX,x.snd=true:=by
   rw[yH] at hu;simp only[Bool.and_eq_true] at hu
   rw[Ar] at hu
   grind
  have sd:∀f∈v.bC,nameB f.fName=true∧f.fValue.snd=true:=by
   rw[yH] at hv;simp only[Bool.and_eq_true] at hv
   exact CB hv.2.2
  have td:∀f∈u.bC,nameB f.fName=true∧f.fValue.snd=true:=by
   rw[yH] at hu;simp only[Bool.and_eq_true] at hu
   exact CB hu.2.2
  clear hv hu
  have q1:(v.aB==3||(v.aB==9||v.aB==10))=true↔(v.aB=3∨v.aB=9∨v.aB=10):=by simp
  have q2:(v.aB==4||(v.aB==7||v.aB==8))=true↔(v.aB=4∨v.aB=7∨v.aB=8):=by simp
  generalize (v.aB==3||(v.aB==9||v.aB==10))=c1 at *
  generalize (v.aB==4||(v.aB==7||v.aB==8))=c2 at *
  cases c1 with
  |true=>
   have k1:=q1.1 rfl
   simp only[cond_true] at h
   obtain⟨h1,h2⟩:=List.append_inj h (by rw[Vm,Vm])
   refine⟨AY hk (akV fi gi h1) ?_ ?_ ?_,h2⟩
   all_goals grind
  |false=>
  have k1:¬(v.aB=3∨v.aB=9∨v.aB=10):=fun e=>by have:=q1.2 e;cases this
  have ei:v.dG=u.dG:=by omega
  simp only[cond_false] at h
  cases c2 with
  |true=>
   have k2:=q2.1 rfl
   simp only[cond_true] at h
   obtain⟨h1,h2⟩:=aeX h
   refine⟨AY hk ei h1 ?_ ?_,h2⟩
   all_goals grind
  |false=>
  have k2:¬(v.aB=4∨v.aB=7∨v.aB=8):=fun e=>by have:=q2.2 e;cases this
  have et:v.fText=u.fText:=by rw[v2.resolve_left (by omega) |>.resolve_left (by omega) |>.resolve_left (by omega),u2.resolve_left (by omega) |>.resolve_left (by omega) |>.resolve_left (by omega)]
  simp only[cond_false] at h
  cases e6:v.aB==6 with
  |true=>
   have k6:v.aB=6:=by simpa using e6
   rw[e6] at h
   simp only[cond_true] at h
   have h:(v.aX.map kbE).flatten++[0]++r=(u.aX.map kbE).flatten++[0]++s:=h
   rw[List.append_assoc,List.append_assoc] at h
   have h:(v.aX.map kbE).flatten++(0::r)=(u.aX.map kbE).flatten++(0::s):=h
   obtain⟨h1,h2⟩:=KN (P:=fun x=>aU x.lf1<n∧x.snd=true∧qL x) (Q:=fun x=>x.snd=true∧qL x) (fun x y r s hx hy e=>ih x y r s hx.1 hx.2.1 hy.1 hx.2.2 hy.2 e) (fun x hx=>⟨by have:=iK hx;omega,sl x hx,fl x hx⟩) (fun x hx=>⟨tl x hx,gl x hx⟩) h
   exact⟨AY hk ei et h1 (by rw[v4.resolve_left (by omega),u4.resolve_left (by omega)]),h2⟩
  |false=>
  rw[e6] at h
  simp only[cond_false] at h
  cases e5:v.aB==5 with
  |true=>
   have k5:v.aB=5:=by simpa using e5
   rw[e5] at h
   simp only[cond_true] at h
   have h:(v.bC.map kbF).flatten++[0]++r=(u.bC.map kbF).flatten++[0]++s:=h
   rw[List.append_assoc,List.append_assoc] at h
   have h:(v.bC.map kbF).flatten++(0::r)=(u.bC.map kbF).flatten++(0::s):=h
   obtain⟨h1,h2⟩:=KO (P:=fun x=>aU x.lf1<n∧x.snd=true∧qL x) (Q:=fun x=>x.snd=true∧qL x) (fun x y r s hx hy e=>ih x y r s hx.1 hx.2.1 hy.1 hx.2.2 hy.2 e) (fun f hf=>⟨(sd f hf).1,by have:=eH hf;have:=dR f;omega,(sd f hf).2,fd f hf⟩) (fun f hf=>⟨(td f hf).1,(td f hf).2,gd f hf⟩) h
   exact⟨AY hk ei et (by rw[v3.resolve_left (by omega),u3.resolve_left (by omega)]) h1,h2⟩
  |false=>
   rw[e5] at h
   simp only[cond_false,List.nil_append] at h
   have k6:v.aB≠6:=by simpa using e6
   have k5:v.aB≠5:=by simpa using e5
   exact⟨AY hk ei et (by rw[v3.resolve_left k6,u3.resolve_left k6]) (by rw[v4.resolve_left k5,u4.resolve_left k5]),h⟩
theorem KP:∀{a b:List UInt8},Hr a b=0↔a=b
 |[],[]=>by simp[Hr,Lib.compareBytes]
 |[],_::_=>by simp[Hr,Lib.compareBytes]
 |_::_,[]=>by simp[Hr,Lib.compareBytes]
 |x::a,y::b=>by
  have ih:=KP (a:=a) (b:=b)
  unfold Hr Lib.compareBytes
  unfold Hr at ih
  grind
theorem CG{a b:ByteArray}:yC a b=0↔a=b:=by
 unfold yC
 rw[KP]
 exact⟨oN,fun h=>by rw[h]⟩
def VB(x y:Int):Int:=bif decide (x<y) then -1 else bif decide (y<x) then 1 else 0
theorem aeZ(x y:Int):Q95 x y=some (VB x y):=by
 show Mo.den (Xe x y)=_
 have e:∀z:Int,ajL z=some false:=fun z=>by
  show some (z != z)=some false
  simp
 simp only[Xe,Mo.den,aN,aG,aH,aK,aJ,e,cond_false,Option.bind_some]
 unfold VB
 grind
theorem CJ{x y:Int}:VB x y=0↔x=y:=by
 unfold VB
 grind
def cIs(k:Int):Bool:=k==3||(k==9||k==10)
def cTs(k:Int):Bool:=k==4||(k==7||k==8)
mutual
def core:aj→aj
 |.mk k i t l d=>.mk k (bif cIs k then i else 0) (bif cIs k then⟨#[]⟩ else bif cTs k then t else⟨#[]⟩) (bif cIs k||cTs k then [] else bif k==6 then cores l else []) (bif cIs k||cTs k then [] else bif k==6 then [] else bif k==5 then SY d else [])
def cores:List aj→List aj
 |[]=>[]
 |x::r=>core x::cores r
def SY:List aF→List aF
 |[]=>[]
 |.mk n v::r=>.mk n (core v)::SY r
end
theorem S9:∀l,cores l=l.map core
 |[]=>by rw[cores];rfl
 |x::r=>by rw[cores,S9 r];rfl
def yc(f:aF):aF:=.mk f.fName (core f.fValue)
theorem Tc:∀l,SY l=l.map yc
 |[]=>by rw[SY];rfl
 |.mk n v::r=>by rw[SY,Tc r];rfl
theorem D8(v:aj):core v=.mk v.aB (bif cIs v.aB then v.dG else 0) (bif cIs v.aB then⟨#[]⟩ else bif cTs v.aB then v.fText else⟨#[]⟩) (bif cIs v.aB||cTs v.aB then [] else bif v.aB==6 then v.aX.map core else []) (bif cIs v.aB||cTs v.aB then [] else bif v.aB==6 then [] else bif v.aB==5 then v.bC.map yc else []):=by
 cases v
 rw[core,S9,Tc];rfl
theorem ae0{α:Type}(l m:List α)(hl:l.length≤100000000)(hm:m.length≤100000000)(f:α→α)(T0:Int→Option (Int⊕(Int⊕Unit)))
 (h1:∀(k:Nat) x y,l[k]?=some x→m[k]?=some y→∃c,T0 (k:Int)=some (bif c != 0 then .inr (.inl c) else .inl (IntKind.wrap .i64 ((k:Int)+1)))∧(c=0↔f x=f y))
 (h2:T0 ((min l.length m.length:Nat):Int)=some (.inr (.inr ()))):
 Tot (dA T0 FU 0) (fun r=>match r with
  |.inl c=>c≠0∧l.map f≠m.map f
  |.inr _=>(l.take (min l.length m.length)).map f=(m.take (min l.length m.length)).map f):=by
 refine T.lY (min l.length m.length) (by omega) (fun k s=>s=(k:Int)∧(l.take k).map f=(m.take k).map f) _ ⟨rfl,by simp⟩ ?_ ?_
 ·rintro k s hk ⟨rfl,he⟩
  obtain⟨x,hx⟩:∃x,l[k]?=some x:=⟨_,List.getElem?_eq_getElem (by omega)⟩
  obtain⟨y,hy⟩:∃y,m[k]?=some y:=⟨_,List.getElem?_eq_getElem (by omega)⟩
  obtain⟨c,h3,h4⟩:=h1 k x y hx hy
  rw[h3]
  cases hc:c != 0 with
  |true=>
   have hc:c≠0:=by simpa using hc
   refine T.ret ⟨hc,fun e=>hc (h4.2 ?_)⟩
   have:=congrArg (·[k]?) e
   grind
  |false=>
   have hc:c=0:=by simpa using hc
   exact T.ret ⟨inc k (by omega),by rw[take_snoc hx,take_snoc hy,List.map_append,List.map_append,he,List.map_singleton,List.map_singleton,h4.1 hc]⟩
 rintro s ⟨rfl,he⟩
 rw[h2]
 exact T.ret he
theorem Td{α:Type}{l m:List α}{f:α→α}(h:(l.take (min l.length m.length)).map f=(m.take (min l.length m.length)).map f):VB (l.length:Int) (m.length:Int)=0↔l.map f=m.map f:=by
 rw[CJ]
 constructor
 ·grind
 intro e
 have:=congrArg List.length e
 grind
theorem NW(a b:Nat):(if(b:Int)<(a:Int) then(b:Int) else(a:Int))=((min a b:Nat):Int):=by
 omega
theorem ae1(n:Nat):∀(F:Nat) (a b:aj),aU a.lf1<n→n≤F→aU a.lf1≤100000000→aU b.lf1≤100000000→Tot ((lg F).m1 a b) (fun c=>c=0↔core a=core b):=by
 induction n with
 |zero=>simp
 |succ n ih=>
  intro F a b hlt hF ha hb
  obtain⟨F,rfl⟩:∃K,F=K+1:=⟨F-1,by omega⟩
  have pa:=bZ a
  have pb:=bZ b
  have la:=gI a.aX
  have lb:=gI b.aX
  have da:=eY a.bC
  have db:=eY b.bC
  have hL:Tot (Xf (lg F) a b 0) (fun r=>match r with
   |.inl c=>c≠0∧a.aX.map core≠b.aX.map core
   |.inr _=>(a.aX.take (min a.aX.length b.aX.length)).map core=(b.aX.take (min a.aX.length b.aX.length)).map core):=by
   refine ae0 a.aX b.aX (by omega) (by omega) core _ (fun k x y hx hy=>?_) ?_
   ·have mx:=iK (gK hx)
    have my:=iK (gK hy)
    have kx:=nC hx
    have ky:=nC hy
    obtain⟨c,hc,hq⟩:=ih F x y (by omega) (by omega) (by omega) (by omega)
    refine⟨c,?_,hq⟩
    simp only[qW,Mo.den,aN,aG,aH,aK,aJ,NW,decide_eq_true (show(k:Int)<((min a.aX.length b.aX.length:Nat):Int) by omega),cond_true,gid hx,gid hy,hc,Option.bind_some]
    cases c != 0<;>rfl
   simp only[qW,Mo.den,aN,aG,aH,aK,aJ,NW,decide_eq_false (show ¬((min a.aX.length b.aX.length:Nat):Int)<((min a.aX.length b.aX.length:Nat):Int) by omega),cond_false]
  have hD:Tot (Xg (lg F) a b 0) (fun r=>match r with
   |.inl c=>c≠0∧a.bC.map yc≠b.bC.map yc
   |.inr _=>(a.bC.take (min a.bC.length b.bC.length)).map yc=(b.bC.take (min a.bC.length b.bC.length)).map yc):=by
   refine ae0 a.bC b.bC (by omega) (by omega) yc _ (fun k x y hx hy=>?_) ?_
   ·have mx:=eH (gK hx)
    have my:=eH (gK hy)
    have bx:=dR x
    have bY:=dR y
    have kx:=nC hx
    have ky:=nC hy
    obtain⟨c,hc,hq⟩:=ih F x.fValue y.fValue (by omega) (by omega) (by omega) (by omega)
    refine⟨bif yC x.fName y.fName != 0 then yC x.fName y.fName else c,?_,?_⟩
    ·simp only[qX, Mo.den, aN, aG, aH, aK, aJ, NW, decide_eq_true (show(k:Int)<((min a.bC.length b.bC.length:Nat):Int) by omega), cond_true, gid hx, gid hy, Au, hc, Option.bind_some]
     cases h0:yC x.fName y.fName != 0 with
     |true=>simp only[cond_true,h0]
     |false=>
      simp only[cond_false]
      cases c != 0<;>rfl
    have e:yc x=yc y↔x.fName=y.fName∧core x.fValue=core y.fValue:=by
     unfold yc
     constructor
     ·intro h;injection h with h1 h2;exact⟨h1,h2⟩
     rintro⟨h1,h2⟩;rw[h1,h2]
    rw[e]
    cases h0:yC x.fName y.fName != 0 with
    |true=>
     have h0:yC x.fName y.fName≠0:=by simpa using h0
     exact⟨fun h=>absurd h h0,fun h=>absurd (CG.2 h.1) h0⟩
    |false=>
     have h0:yC x.fName y.fName=0:=by simpa using h0
     exact⟨fun h=>⟨CG.1 h0,hq.1 h⟩,fun h=>hq.2 h.2⟩
   simp only[qX,Mo.den,aN,aG,aH,aK,aJ,NW,decide_eq_false (show ¬((min a.bC.length b.bC.length:Nat):Int)<((min a.bC.length b.bC.length:Nat):Int) by omega),cond_false]
  obtain⟨rl,el,ql⟩:=hL
  obtain⟨rd,ed,qd⟩:=hD
  show Tot (Mo.den (Qh (lg F) a b)) _
  have j0:UN (lg F) a b=some (cIs a.aB):=by
   unfold UN Fg cIs
   simp only[Mo.den,aN,aG,aH,aK,aJ]
   grind
  have j5:UO (lg F) a b=some (cTs a.aB):=by
   unfold UO Fh cTs
   simp only[Mo.den,aN,aG,aH,aK,aJ]
   grind
  simp only[Qh,Mo.den,aN,aG,aH,aK,aJ,j0,j5,el,ed,aeZ,Au,Option.bind_some]
  have inj:core a=core b→a.aB=b.aB:=fun h=>by
   rw[D8,D8] at h;injection h
  refine T.ite (fun h1=>T.ret ?_) (fun h1=>?_)
  ·have h1:a.aB≠b.aB:=by simpa using h1
   exact⟨fun h=>absurd (CJ.1 h) h1,fun h=>absurd (inj h) h1⟩
  have h1:a.aB=b.aB:=by simpa using h1
  rw[D8 a,D8 b,←h1]
  refine T.ite (fun h2=>T.ret ?_) (fun h2=>?_)
  ·rw[h2]
   simp only[cond_true,Bool.true_or,CJ]
   simp
  rw[h2]
  refine T.ite (fun h3=>T.ret ?_) (fun h3=>?_)
  ·rw[h3]
   simp only[cond_true,cond_false,Bool.or_true,CG]
   simp
  rw[h3]
  simp only[cond_false,Bool.or_false]
  refine T.ite (fun h4=>?_) (fun h4=>?_)
  ·rw[h4]
   simp only[cond_true]
   rcases rl with c|u
   ·exact T.ret ⟨fun h=>absurd h ql.1,fun h=>by injection h with _ _ _ h _;exact absurd h ql.2⟩
   refine T.ret ?_
   show VB _ _=0↔_
   rw[Td ql]
   simp
  rw[h4]
  simp only[cond_false]
  refine T.ite (fun h5=>?_) (fun h5=>?_)
  ·rw[h5]
   simp only[cond_true]
   rcases rd with c|u
   ·exact T.ret ⟨fun h=>absurd h qd.1,fun h=>by injection h with _ _ _ _ h;exact absurd h qd.2⟩
   refine T.ret ?_
   show VB _ _=0↔_
   rw[Td qd]
   simp
  rw[h5]
  exact T.ret ⟨fun _=>rfl,fun _=>rfl⟩
theorem ahF{a b:aj}(ha:aU a.lf1≤100000000)(hb:aU b.lf1≤100000000):eqB a b=true↔core a=core b:=by
 obtain⟨c,hc,hq⟩:=ae1 FU FU a b (by have:=gq;omega) (Nat.le_refl _) ha hb
 have e:YW a b=some (c==0):=by
  have hc:Q12 a b=some c:=hc
  show Mo.den (MW a b)=_
  simp only[MW,Mo.den,aN,aG,aH,aK,aJ,hc,Option.bind_some]
 unfold eqB
 grind
theorem amN:∃u,aki 9=some u∧u.zy=true:=by
 refine⟨_,rfl,rfl⟩
theorem aam{e:bD}(hb:aU e.lf1≤100000000)(h:Q66 e=some 0)(hk:e.dZ.aB=9):nameB e.dZ.dP=true:=by
 cases hn:nameB e.dZ.dP with
 |true=>rfl
 |false=>
  exfalso
  have be:=lN e
  have key:∀w:ay,aU w.lf1≤100000000→w.aB=9→nameB w.dP=false→∀lo hi,Q8 w lo hi≠some 0:=by
   intro w hw hk hn lo hi h0
   obtain⟨u,hu,ht⟩:=amN
   obtain⟨G,hG⟩:∃G,FU=G+1:=⟨FU-1,by have:=gq;omega⟩
   obtain⟨b,hu2,-⟩:=pW w
   unfold Q8 at h0
   rw[hG] at h0
   have h0:Mo.den (aed (jM G) w lo hi)=some 0:=h0
   simp only[aed,Nz,NC,F6,F7,F8,F9,Mo.den,aN,aG,aH,aK,aJ,hk,hu,hu2,ht,oM,hn,Gx,Option.bind_some,cond_true,Bool.not_false] at h0
   have hs:(bif bif u.lK then !nameB w.aT else false then true else true)=true:=by cases (bif u.lK then !nameB w.aT else false)<;>rfl
   rw[hs] at h0
   simp only[cond_true] at h0
   generalize (bif bif bif decide (9<lo) then true else decide (hi<9) then true else !b then true else bif u.bJ then((w.bG.length:Int))==0 else false)=c1 at h0
   cases c1 with
   |true=>cases h0
   |false=>
    grind
  obtain⟨o,ho,-⟩:=nV e.dZ 1 12 (by omega)
  have h1:=key e.dZ (by omega) hk hn
  have h:Mo.den (Xz e)=some 0:=h
  simp only[Xz,RH,RI,Ko,Mo.den,aN,aG,aH,aK,aJ,oM,Gx,Option.bind_some] at h
  grind
theorem XR{sp:ByteArray}{key:aj}{w:ay}(hk:aU key.lf1≤100000000)(hw:aU w.dL.lf1≤100000000):wrB sp key w=true↔w.aT=sp∧core w.dL=core key:=by
 unfold wrB
 rw[←ahF hw hk]
 simp
def Holds(sp:ByteArray)(c:aj)(p:ah):Prop:=∃w∈p.bJ,w.aT=sp∧core w.dL=c
theorem XT{sp:ByteArray}{key:aj}{p:ah}(hk:aU key.lf1≤100000000)(hp:bQ (p.bJ.map ay.lf)≤1048576):p.bJ.any (wrB sp key)=true↔Holds sp (core key) p:=by
 rw[List.any_eq_true]
 constructor
 ·rintro⟨w,hw,h⟩
  have h1:=kV hw
  have h2:=dM w
  exact⟨w,hw,(XR hk (by omega)).1 h⟩
 rintro⟨w,hw,h⟩
 have h1:=kV hw
 have h2:=dM w
 exact⟨w,hw,(XR hk (by omega)).2 h⟩
structure Uq (x:TxL):Prop where
 nam:∀s p,aI s x=some p→s≠(⟨#[]⟩:ByteArray)
 one:∀s t p r sp c,aI s x=some p→aI t x=some r→Holds sp c p→Holds sp c r→s=t
theorem Uq.del{x:TxL}(h:Uq x)(s:ByteArray):Uq (dH s x):=by
 have key:∀t p,aI t (dH s x)=some p→aI t x=some p:=fun t p hp=>by
  by_cases e:s=t
  ·subst e;rw[fZ] at hp;cases hp
  rw[gU e] at hp;exact hp
 exact⟨fun t p hp=>h.nam t p (key t p hp),fun t u p r sp c hp hr h1 h2=>h.one t u p r sp c (key t p hp) (key u r hr) h1 h2⟩
end Go.Proofs.YtpdlghcgekojlaaGreatDoor
namespace Go.Proofs.YtpdlghcgekojlaaGreatDoor
mutual
def CO:Lf→Prop
 |.int k n=>(Lit.int k n).wf=true
 |.str s=>s.size≤maxLen
 |.bool _=>True
 |.rows _ l=>l.length≤maxLen∧Dl l
def nY:List Lf→Prop
 |[]=>True
 |x::r=>CO x∧nY r
def Dl:List (List Lf)→Prop
 |[]=>True
 |r::q=>nY r∧Dl q
end
mutual
theorem LRp.fit {I:Gh}:∀(x:Lf) (v:Value),LRp I x v→CO x
 |.int k n,v,h=>by unfold CO;exact h.int.2
 |.str s,v,h=>by unfold CO;exact h.str.2
 |.bool b,v,h=>by unfold CO;trivial
 |.rows n l,v,h=>by
  unfold LRp at h
  unfold CO
  obtain⟨a,c,h1,h2,h3,h4⟩:=h
  refine⟨Nat.le_trans h2 h3,?_⟩
  cases l with
  |nil=>unfold Dl;trivial
  |cons r q=>
   obtain⟨b,off,e,hr⟩:=h4 (by simp)
   exact RRp.fit b n off (r::q) hr
theorem RRp.fit {I:Gh} (b n:Nat):∀(o:Nat) (l:List (List Lf)),RRp I b n o l→Dl l
 |_,[],_=>by unfold Dl;trivial
 |o,r::q,hl=>by
  unfold RRp at hl
  unfold Dl
  exact⟨CRp.fit b o r hl.2.1,RRp.fit b n (o+n) q hl.2.2⟩
theorem CRp.fit {I:Gh} (b:Nat):∀(o:Nat) (r:List Lf),CRp I b o r→nY r
 |_,[],_=>by unfold nY;trivial
 |o,x::r,hl=>by
  unfold CRp at hl
  unfold nY
  obtain⟨⟨v,h1,h2⟩,h3⟩:=hl
  exact⟨LRp.fit x v h2,CRp.fit b (o+1) r h3⟩
end
theorem bV.fit{I:Gh}:∀(r:List Lf) (cs:List Value),bV I r cs→nY r
 |[],_,_=>by unfold nY;trivial
 |x::r,_,h=>by
  obtain⟨c,q,e,h1,h2⟩:=h
  unfold nY
  exact⟨h1.fit,bV.fit r q h2⟩
theorem ae2:nY []:=by unfold nY;trivial
theorem wZ{x:Lf}{r:List Lf}:nY (x::r)↔CO x∧nY r:=by rw[nY]
theorem vP{l m:List Lf}:nY (l++m)↔nY l∧nY m:=by
 induction l with
 |nil=>exact⟨fun h=>⟨ae2,h⟩,fun h=>h.2⟩
 |cons x r ih=>rw[List.cons_append,wZ,wZ,ih];exact⟨fun⟨a,b,c⟩=>⟨⟨a,b⟩,c⟩,fun⟨⟨a,b⟩,c⟩=>⟨a,b,c⟩⟩
theorem aan{l:List (List Lf)}(h:Dl l):∀r∈l,nY r:=by
 induction l with
 |nil=>simp
 |cons x q ih=>
  rw[Dl] at h
  grind
theorem vS{α:Type}{n:Nat}{lf:α→List Lf}{l:List α}(h:CO (.rows n (l.map lf))){x:α}(hx:x∈l):nY (lf x):=by
 rw[CO] at h
 exact aan h.2 _ (List.mem_map_of_mem hx)
theorem ahG{n:Int}(h:CO (.int .i64 n)) : -9223372036854775808≤n∧n≤9223372036854775807:=by
 rw[CO] at h
 exact bounds_i64 h
theorem aao{w:ay}(h:nY w.lf1):nY w.gy.fV.lf1∧∀x∈w.bG,nY x.lf1:=by
 unfold ay.lf1 ak.lf1 at h
 simp only[vP,wZ] at h
 obtain⟨_,_,_,_,⟨_,a1,_⟩,_,_,_,a2,_⟩:=h
 refine⟨a1,fun x hx=>?_⟩
 have h2:=vS a2 hx
 rw[ay.aY] at h2;exact h2
theorem aap{e:bD}(h:nY e.lf1):nY e.dZ.lf1:=by
 unfold bD.lf1 at h
 exact(vP.1 h).2
end Go.Proofs.YtpdlghcgekojlaaGreatDoor
namespace Go.Proofs.YtpdlghcgekojlaaGreatDoor
open Go.RowKit
theorem XU(n:Nat):∀v:aj,aU v.lf1<n→nY v.lf1→qL v:=by
 induction n with
 |zero=>simp
 |succ n ih=>
  intro v hb h
  have hbv:=bZ v
  unfold aj.lf1 at h
  simp only[wZ] at h
  obtain⟨_,a2,_,a4,a5,_⟩:=h
  refine .mk (by have:=ahG a2;unfold I64;omega) (fun x hx=>?_) (fun f hf=>?_)
  ·have h2:=vS a4 hx
   rw[aj.aY] at h2
   have:=iK hx
   grind
  have h2:=vS a5 hf
  rw[aF.aY] at h2
  unfold aF.lf1 at h2
  have:=eH hf
  have:=dR f
  exact ih f.fValue (by omega) (vP.1 h2).2
def Byt(l:List Int):Prop:=∀b∈l,0≤b∧b<256
theorem Byt.app{l m:List Int}(h:Byt l)(k:Byt m):Byt (l++m):=fun b hb=>(List.mem_append.1 hb).elim (h b) (k b)
theorem Byt.cons{x:Int}{m:List Int}(h:0≤x∧x<256)(k:Byt m):Byt (x::m):=fun b hb=>(List.mem_cons.1 hb).elim (fun e=>by rw[e];exact h) (k b)
theorem Byt.nil:Byt []:=fun b hb=>by cases hb
theorem Byt.flat{α:Type}{f:α→List Int}{l:List α}(h:∀x∈l,Byt (f x)):Byt (l.map f).flatten:=fun b hb=>by
 obtain⟨m,hm,hb⟩:=List.mem_flatten.1 hb
 obtain⟨x,hx,rfl⟩:=List.mem_map.1 hm
 exact h x hx b hb
theorem ae3(b:UInt8):0≤(b.toNat:Int)∧(b.toNat:Int)<256:=by have:=b.toNat_lt;omega
theorem ae4(s:ByteArray):Byt (numsOf s):=fun b hb=>by
 unfold numsOf at hb
 obtain⟨x,_,rfl⟩:=List.mem_map.1 hb
 exact ae3 x
theorem ae5(n:Nat):∀v:aj,aU v.lf1<n→Byt (kb v):=by
 induction n with
 |zero=>simp
 |succ n ih=>
  intro v hb
  have hbv:=bZ v
  have ite:∀(c:Bool) (a b:List Int),Byt a→Byt b→Byt (bif c then a else b):=fun c a b h k=>by cases c<;>assumption
  have one:Byt [0]:=Byt.cons (by omega) Byt.nil
  rw[SH]
  refine Byt.cons (by rw[wu8];omega) (ite _ _ _ ?_ (ite _ _ _ ?_ (ite _ _ _ ?_ (ite _ _ _ ?_ Byt.nil))))
  ·refine Byt.flat fun j _=>Byt.cons ?_ Byt.nil
   unfold shB
   rw[wu8];omega
  ·refine Byt.app (Byt.flat fun b _=>?_) (Byt.cons (by omega) one)
   rw[AX]
   split
   ·exact Byt.cons (by omega) (Byt.cons (by omega) Byt.nil)
   exact Byt.cons (ae3 b) Byt.nil
  ·refine Byt.app (Byt.flat fun x hx=>Byt.cons (by omega) ?_) one
   have:=iK hx
   grind
  refine Byt.app (Byt.flat fun f hf=>Byt.cons (by omega) (Byt.app (ae4 _) (Byt.cons (by omega) ?_))) one
  have:=eH hf
  have:=dR f
  grind
theorem str_inj{l m:List Int}(hl:Byt l)(hm:Byt m)(h:strOfNums l=strOfNums m):l=m:=by
 have key:∀l,Byt l→numsOf (strOfNums l)=l:=fun l h=>by
  unfold numsOf
  rw[strOfNums_data,List.map_map]
  conv=>rhs;rw[←List.map_id l]
  refine List.map_congr_left fun x hx=>?_
  have:=h x hx
  show((UInt8.ofNat x.toNat).toNat:Int)=x
  rw[UInt8.toNat_ofNat'];omega
 grind
theorem KQ{v:aj}{c:ByteArray}(h:jP v=(c,true)):v.snd=true∧c=strOfNums (kb v):=by
 unfold jP at h
 cases h1:v.aB==0 with
 |true=>grind
 |false=>
  rw[h1] at h
  cases h2:BU v with
  |false=>grind
  |true=>
   rw[h2] at h
   injection h with h _
   unfold BU at h2
   grind
theorem code_inj{a b:aj}{c:ByteArray}(fa:qL a)(fb:qL b)(ha:jP a=(c,true))(hb:jP b=(c,true)):a=b:=by
 obtain⟨sa,ea⟩:=KQ ha
 obtain⟨sb,eb⟩:=KQ hb
 have h:=str_inj (ae5 _ a (Nat.lt_succ_self _)) (ae5 _ b (Nat.lt_succ_self _)) (ea.symm.trans eb)
 exact(aeY _ a b [] [] (Nat.lt_succ_self _) sa sb fa fb (by rw[h])).1
theorem srtB_mem'{l:List ByteArray}{b:ByteArray}(hb:b∈l):b∈kR l:=by
 unfold kR Ul
 refine List.mem_map.2 ⟨b.data.toList,(oK _).mem_iff.2 (List.mem_map.2 ⟨b,hb,rfl⟩),?_⟩
 rfl
theorem GY{K:Nat}{q:List ak}{d:aZ}{x:TxL}{z:SeL}(h:Sv K q d x z)(u:Uq x){sp:ByteArray}{key:aj}(hk:aU key.lf1≤100000000):
 (holdV sp key x=(⟨#[]⟩:ByteArray)∧∀s p,aI s x=some p→¬Holds sp (core key) p)∨(∃p,holdV sp key x≠(⟨#[]⟩:ByteArray)∧aI (holdV sp key x) x=some p∧Holds sp (core key) p):=by
 unfold holdV
 cases hf:(kR (x.map fun p=>p.1)).find? (fun s=>(oI x s).bJ.any (wrB sp key)) with
 |none=>
  refine .inl ⟨rfl,fun s p hs ho=>?_⟩
  have h1:=List.find?_eq_none.1 hf s (srtB_mem' (List.mem_map.2 ⟨(s,p),kQ hs,rfl⟩))
  have e:oI x s=p:=by unfold oI;rw[hs];rfl
  rw[e] at h1
  exact h1 ((XT hk (h.bd.txw s p hs)).2 ho)
 |some s=>
  refine .inr ?_
  have hm:=List.mem_of_find?_eq_some hf
  obtain⟨⟨s',p⟩,hp,e1⟩:=List.mem_map.1 (Pg hm)
  obtain rfl:s'=s:=e1
  have hs:=wW h.asc hp
  have h1:=List.find?_some hf
  have e:oI x s'=p:=by
   unfold oI
   grind
  rw[e] at h1
  exact⟨p,u.nam s' p hs,hs,(XT hk (h.bd.txw s' p hs)).1 h1⟩
theorem Uq.put{x:TxL}(u:Uq x){s:ByteArray}{p:ah}(hs:s≠(⟨#[]⟩:ByteArray))(hf:∀t r sp c,aI t x=some r→Holds sp c r→¬Holds sp c p):Uq (eF s p x):=by
 have key:∀t r,aI t (eF s p x)=some r→(t=s∧r=p)∨aI t x=some r:=fun t r h=>by
  by_cases e:s=t
  ·subst e;rw[fH] at h;injection h with h;exact .inl ⟨rfl,h.symm⟩
  rw[gV e] at h;exact .inr h
 refine⟨fun t r h=>?_,fun t t' r r' sp c h h' k k'=>?_⟩
 ·rcases key t r h with⟨rfl,_⟩|h
  ·exact hs
  exact u.nam t r h
 rcases key t r h with⟨rfl,rfl⟩|g
 ·grind
 rcases key t' r' h' with⟨rfl,rfl⟩|g'
 ·grind
 exact u.one t t' r r' sp c g g' k k'
end Go.Proofs.YtpdlghcgekojlaaGreatDoor
namespace Go.Proofs.YtpdlghcgekojlaaGreatDoor
open Go.RowKit
structure Ti (K:Nat) (q:List ak) (d:aZ) (x:TxL) (z:SeL):Prop where
 sv:Sv K q d x z
 uq:Uq x
 fit:∀s p,aI s x=some p→∀u∈p.bJ,qL u.dL
theorem aaq{K:Nat}{q:List ak}{d:aZ}{x:TxL}{z:SeL}(I:Ti K q d x z){sp:ByteArray}{key:aj}(hk:aU key.lf1≤100000000)(h:holdV sp key x=(⟨#[]⟩:ByteArray))(s:ByteArray)(p:ah)(hs:aI s x=some p):¬Holds sp (core key) p:=by
 rcases GY I.sv I.uq (sp:=sp) hk with⟨_,e⟩|⟨_,e,_⟩
 all_goals grind
section
variable {K K':Nat} {q q':List ak} {d d':aZ} {x x':TxL} {z z':SeL}
theorem Ti.step(I:Ti K q d x z){e:bD}(he:aU e.lf1≤1048576)(hv:Q66 e=some 0)(hs:Sv K' q' d' x' z')(g:WrG e.dZ e.bW d x d' x')(hf:∀u∈e.dZ.bG,qL u.dL):Ti K' q' d' x' z':=by
 have be:=lN e
 have bw:=dM e.dZ
 rcases g.txn with h|⟨s,h⟩|⟨h9,hh,h⟩
 ·subst h;exact⟨hs,I.uq,I.fit⟩
 ·subst h
  refine⟨hs,I.uq.del s,fun t p hp=>?_⟩
  by_cases k:s=t
  ·subst k;rw[fZ] at hp;cases hp
  rw[gU k] at hp;exact I.fit t p hp
 subst h
 have hn:e.dZ.dP≠(⟨#[]⟩:ByteArray):=fun k=>by
  have:=aam (by omega) hv h9
  rw[k] at this;cases this
 refine⟨hs,I.uq.put hn fun t r sp c hr k1 k2=>?_,fun t p hp=>?_⟩
 ·obtain⟨w,hw,e1,e2⟩:=k2
  obtain⟨y,hy,rfl⟩:=List.mem_map.1 hw
  have e1:y.aT=sp:=e1
  have e2:core y.dL=c:=e2
  have hm:=kV hy
  have hb:=dM y
  subst e1 e2
  exact aaq I (by omega) (hh y hy) t r hr k1
 by_cases k:e.dZ.dP=t
 ·subst k
  rw[fH] at hp
  injection hp with hp
  subst hp
  intro u hu
  obtain⟨y,hy,rfl⟩:=List.mem_map.1 hu
  exact hf y hy
 rw[gV k] at hp;exact I.fit t p hp
variable {w:ay} {t T:Int} {sp:ByteArray} {key:aj}
end
end Go.Proofs.YtpdlghcgekojlaaGreatDoor
namespace Go.Proofs.YtpdlghcgekojlaaGreatDoor
open Go.RowKit
structure aoH (t:Int) (d:aZ) (x:TxL) (w:ay):Prop where
 kind:w.aB=2∨w.aB=3
 has:tV d w.aT=true
 free:holdV w.aT w.dL x=(⟨#[]⟩:ByteArray)
 last:SK w.aT w.dL d<t
 enc:(jP w.dL).2=true
section
variable {K:Nat} {a t:Int} {q:List ak} {d:aZ} {x:TxL} {z:SeL} {w:ay}
theorem aoz(hK:K≤50000000)(h:Bd K q d x z)(hw:aU w.lf1≤1048576)(p:aoH t d x w):Q73 w t a q d x z=some 0:=by
 have hb:=dM w
 have h1:(aI w.aT d.dir).isSome=true:=p.has
 have h3:=p.last
 show Mo.den (ade w t a q d x z)=_
 simp only[ade,Mo.den,aN,aG,aH,aK,aJ,yO hK h w.aT (key:=w.dL) (by omega),SL hK h w.aT (key:=w.dL) (by omega),Option.bind_some,h1,p.free,decide_true,Bool.not_true,cond_false,decide_eq_false (show ¬t≤SK w.aT w.dL d by omega)]
theorem aod(h1:tV d w.aT=true)(h2:(jP w.dL).2=true)(t:Int):∃j,aI w.aT d.dir=some j∧xQ w t d=.inr (d.put j (jP w.dL).1 (rwV d w.aT (jP w.dL).1++[Dk w t]),(jP w.dL).1):=by
 obtain⟨j,hj⟩:=Option.isSome_iff_exists.1 h1
 refine⟨j,hj,?_⟩
 unfold xQ
 simp only[hj,h2,cond_true]
 unfold rwV
 rw[hj]
theorem an3(h1:tV d w.aT=true)(h2:(jP w.dL).2=true)(t:Int):∃j,aI w.aT d.dir=some j∧yQ t d w=d.put j (jP w.dL).1 (rwV d w.aT (jP w.dL).1++[Dk w t]):=by
 obtain⟨j,hj,e⟩:=aod h1 h2 t
 exact⟨j,hj,by unfold yQ;rw[e]⟩
theorem anW(h1:tV d w.aT=true)(h2:(jP w.dL).2=true)(t:Int)(sp:ByteArray):tV (yQ t d w) sp=tV d sp:=by
 obtain⟨j,hj,e⟩:=an3 h1 h2 t
 rw[e];rfl
theorem aoO(wf:RWf d)(h1:tV d w.aT=true)(h2:(jP w.dL).2=true)(t:Int):RWf (yQ t d w):=by
 obtain⟨j,hj,e⟩:=an3 h1 h2 t
 rw[e];exact wf.put ..
theorem aoe(wf:RWf d)(h1:tV d w.aT=true)(h2:(jP w.dL).2=true)(t:Int)(sp c:ByteArray):rwV (yQ t d w) sp c=if w.aT=sp∧(jP w.dL).1=c then rwV d sp c++[Dk w t] else rwV d sp c:=by
 obtain⟨j,hj,e⟩:=an3 h1 h2 t
 rw[e,ahy wf hj]
 split
 ·rename_i h;rw[←h.1,←h.2]
 rfl
theorem aoo(hK:K≤50000000)(h:Bd K q d x z)(hw:aU w.lf1≤1048576)(p:aoH t d x w):∃c,Q3 w t a q d x z=some (.inr (.inr (.inl (yQ t d w,c)))):=by
 obtain⟨j,hj,e⟩:=aod p.has p.enc t
 refine⟨(jP w.dL).1,?_⟩
 have h0:(w.aB==2||w.aB==3)=true:=by rcases p.kind with k|k<;>rw[k]<;>rfl
 have hJ:Nk a q d x z t w=some (.inr (.inr (.inl (yQ t d w,(jP w.dL).1)))):=by
  unfold Nk FB
  simp only[Xm,Mo.den,aN,aG,aH,aK,aJ,ifk,h0,aoz hK h hw p,XO hK h w hw t,e,cond_true,cond_false,Option.bind_some,bne_self_eq_false]
  unfold yQ
  rw[e]
 show Mo.den (ajV w t a q d x z)=_
 simp only[ajV,Mo.den,aN,aG,aH,aK,aJ,hJ,Option.bind_some]
end
def Apart(w u:ay):Prop:=¬(w.aT=u.aT∧(jP w.dL).1=(jP u.dL).1)
theorem an4{a t:Int}{q:List ak}{x:TxL}{z:SeL}:∀(l:List ay) (K:Nat) (us:List Und) (d:aZ),K+l.length≤50000000→Sv K q d x z→(∀w∈l,aU w.lf1≤1048576)→(∀w∈l,aoH t d x w)→l.Pairwise Apart→yF a x z t l us q d=some (0,q,l.foldl (yQ t) d)
 |[],_,_,_,_,_,_,_,_=>rfl
 |w::l,K,us,d,hK,h,hw,hp,ha=>by
  have p:=hp w (List.mem_cons_self ..)
  have hb:=hw w (List.mem_cons_self ..)
  obtain⟨a1,a2⟩:=List.pairwise_cons.1 ha
  rw[List.length_cons] at hK
  obtain⟨c,e⟩:=aoo (a:=a) (K:=K) (by omega) h.bd hb p
  unfold yF
  rw[e]
  refine an4 l (K+1) _ (yQ t d w) (by omega) (ahD h hb t) (fun u hu=>hw u (List.mem_cons_of_mem _ hu)) (fun u hu=>?_) a2
  have pu:=hp u (List.mem_cons_of_mem _ hu)
  refine⟨pu.kind,by rw[anW p.has p.enc];exact pu.has,pu.free,?_,pu.enc⟩
  have:=pu.last
  unfold SK at this ⊢
  rw[aoe h.wf p.has p.enc,if_neg (a1 u hu)]
  exact this
theorem anX{t:Int}:∀(l:List ay) (d:aZ),RWf d→(∀w∈l,tV d w.aT=true∧(jP w.dL).2=true)→∀sp c,tV (l.foldl (yQ t) d) sp=tV d sp∧∃suf,rwV (l.foldl (yQ t) d) sp c=rwV d sp c++suf∧(∀v∈suf,v.dw=t)∧∀w∈l,w.aT=sp→(jP w.dL).1=c→suf≠[]
 |[],d,_,_,sp,c=>⟨rfl,[],by rw[List.append_nil];rfl,fun v hv=>(by cases hv),fun w hw=>by cases hw⟩
 |w::l,d,wf,hp,sp,c=>by
  obtain⟨h1,h2⟩:=hp w (List.mem_cons_self ..)
  obtain⟨i0,s2,i1,i2,i3⟩:=anX (t:=t) l (yQ t d w) (aoO wf h1 h2 t) (fun u hu=>by rw[anW h1 h2];exact hp u (List.mem_cons_of_mem _ hu)) sp c
  rw[anW h1 h2] at i0
  rw[aoe wf h1 h2] at i1
  refine⟨i0,?_⟩
  show ∃suf,rwV (l.foldl (yQ t) (yQ t d w)) sp c=_∧_
  rw[i1]
  split
  ·refine⟨Dk w t::s2, by rw[List.append_assoc];rfl, fun v hv=>?_, fun _ _ _ _ e=>by cases e⟩
   rcases List.mem_cons.1 hv with rfl|hv
   ·rfl
   exact i2 v hv
  rename_i hn
  refine⟨s2,rfl,i2,fun u hu e1 e2=>?_⟩
  rcases List.mem_cons.1 hu with rfl|hu
  ·exact absurd ⟨e1,e2⟩ hn
  exact i3 u hu e1 e2
theorem aoA{t:Int}{l:List ay}{d:aZ}(wf:RWf d)(hp:∀w∈l,tV d w.aT=true∧(jP w.dL).2=true){w:ay}(hw:w∈l):SK w.aT w.dL (l.foldl (yQ t) d)=t:=by
 obtain⟨_,suf,i1,i2,i3⟩:=anX (t:=t) l d wf hp w.aT (jP w.dL).1
 have hne:=i3 w hw rfl rfl
 unfold SK
 rw[(hp w hw).2,i1]
 simp only[Bool.not_true,cond_false]
 rw[List.getLast?_append,List.getLast?_eq_some_getLast hne]
 exact i2 _ (List.getLast_mem hne)
theorem aoI(t:Int)(d:aZ)(w:ay):yQ t d (yP w)=yQ t d w:=by
 unfold yQ xQ
 rfl
theorem aof(t:Int):∀(l:List ay) (d:aZ),(l.map yP).foldl (yQ t) d=l.foldl (yQ t) d
 |[],_=>rfl
 |w::l,d=>by
  rw[List.map_cons,List.foldl_cons,List.foldl_cons,aoI]
  exact aof t l _
end Go.Proofs.YtpdlghcgekojlaaGreatDoor
