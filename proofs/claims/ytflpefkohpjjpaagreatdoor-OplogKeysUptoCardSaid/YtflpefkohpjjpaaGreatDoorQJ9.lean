/- Which models come to an end (printed by totgen.py). -/
import Derived.Test.YtflpefkohpjjpaaGreatDoorQJ8
import Derived.Test.YtflpefkohpjjpaaGreatDoorQJ7
set_option linter.unusedSimpArgs false
set_option linter.unusedVariables false
namespace Go.Proofs.YtflpefkohpjjpaaGreatDoor
open Go.RowKit
theorem Lu(p_a:List ByteArray)(p_b:List ByteArray)(h_p_a:bK (p_a.map lfS)≤100000000)(h_p_b:bK (p_b.map lfS)≤100000000):Tot (an0 p_a p_b) Any:=by
 have:=dM p_a
 have:=dM p_b
 show MT (aeL p_a p_b) Any
 refine MT.say (MT.ite (fun c14056=>?_) (fun c14056=>?_))
 ·have c14056':¬((p_a.length:Int)=(p_b.length:Int)):=by simpa using c14056
  (repeat refine MT.say ?_);exact MT.any
 ·have c14056':(p_a.length:Int)=(p_b.length:Int):=by simpa using c14056
  refine MT.say (MT.jE (R:=Any) ?_ ?_ ?_)
  ·refine T.cnt (fun _=>True) ?_
   intro k1 hk1
   show MT (uj p_a p_b ((k1:Nat):Int)) _
   refine MT.say (MT.ite (fun c14092=>?_) (fun c14092=>?_))
   ·have c14092':=of_decide_eq_true c14092
    refine MT.say (MT.ask (dF p_a ((k1:Nat):Int) (by omega) (by omega)) (fun x14093 _ hx2=>?_))
    have:=lH hx2
    refine MT.say (MT.ask (dF p_b ((k1:Nat):Int) (by omega) (by omega)) (fun x14095 _ hx3=>?_))
    have:=lH hx3
    refine MT.say (MT.ite (fun c14097=>?_) (fun c14097=>?_))
    ·(repeat refine MT.say ?_);exact(MT.ret trivial)
    ·(repeat refine MT.say ?_);exact(MT.ret ⟨rfl,by omega⟩)
   ·have c14092':=of_decide_eq_false c14092
    (repeat refine MT.say ?_);exact(MT.ret trivial)
  ·intro o14100 h14099 _
   (repeat refine MT.say ?_);exact MT.any
  ·intro o14101 h14099 _
   (repeat refine MT.say ?_);exact MT.any
theorem EZ(p_l:List bn)(h_p_l:bK (p_l.map bn.lf)≤100000000):Tot (an1 p_l) Any:=by
 have:=ni p_l
 show MT (aeM p_l) Any
 refine MT.say (MT.ite (fun c14036=>?_) (fun c14036=>?_))
 ·have c14036':=of_decide_eq_true c14036
  (repeat refine MT.say ?_);exact MT.any
 ·have c14036':=of_decide_eq_false c14036
  refine MT.say (MT.jE (R:=Any) ?_ ?_ ?_)
  ·refine T.cnt (fun _=>True) ?_
   intro k4 hk4
   show MT (Hu p_l ((k4:Nat):Int)) _
   refine MT.say (MT.ite (fun c14240=>?_) (fun c14240=>?_))
   ·have c14240':=of_decide_eq_true c14240
    refine MT.say (MT.ask (dF p_l ((k4:Nat):Int) (by omega) (by omega)) (fun x14241 _ hx5=>?_))
    have:=mV hx5
    have:=kD x14241
    have:=dM x14241.cZ
    refine MT.say (MT.ask (R:=Any) ?_ ?_)
    ·exact T.wk (T.val (yw x14241.cZ))
    ·intro r14243 h14244 _
     refine MT.say (MT.ite (fun c14245=>?_) (fun c14245=>?_))
     ·(repeat refine MT.say ?_);exact(MT.ret trivial)
     ·refine MT.say (MT.jE (R:=Any) ?_ ?_ ?_)
      ·refine T.cnt (fun _=>True) ?_
       intro k6 hk6
       show MT (Ht p_l ((k4:Nat):Int) ((k6:Nat):Int)) _
       refine MT.ite (fun c14255=>?_) (fun c14255=>?_)
       ·have c14255':=of_decide_eq_true c14255
        refine MT.say (MT.ask (dF p_l ((k4:Nat):Int) (by omega) (by omega)) (fun x14256 _ hx7=>?_))
        have:=mV hx7
        have:=kD x14256
        have:=dM x14256.cZ
        refine MT.say (MT.ask (dF p_l ((k6:Nat):Int) (by omega) (by omega)) (fun x14258 _ hx8=>?_))
        have:=mV hx8
        have:=kD x14258
        have:=dM x14258.cZ
        refine MT.say (MT.ask (R:=Any) ?_ ?_)
        ·exact T.wk (Lu x14256.cZ x14258.cZ (by first|omega|(simp;done)|decide) (by first|omega|(simp;done)|decide))
        ·intro r14260 h14261 _
         refine MT.say (MT.ite (fun c14262=>?_) (fun c14262=>?_))
         ·(repeat refine MT.say ?_);exact(MT.ret trivial)
         ·(repeat refine MT.say ?_);exact(MT.ret ⟨rfl,by omega⟩)
       ·have c14255':=of_decide_eq_false c14255
        (repeat refine MT.say ?_);exact(MT.ret trivial)
      ·intro o14265 h14264 _
       (repeat refine MT.say ?_);exact(MT.ret trivial)
      ·intro o14266 h14264 _
       (repeat refine MT.say ?_);exact(MT.ret ⟨rfl,by omega⟩)
   ·have c14240':=of_decide_eq_false c14240
    (repeat refine MT.say ?_);exact(MT.ret trivial)
  ·intro o14270 h14269 _
   (repeat refine MT.say ?_);exact MT.any
  ·intro o14271 h14269 _
   (repeat refine MT.say ?_);exact MT.any
theorem Em(n_:Nat):∀(p_p:aN) (p_levels:Int) (p_left:Int),aP p_p.lf1<n_→aP p_p.lf1≤100000000→Tot ((qJ n_).m1 p_p p_levels p_left) Any:=by
 induction n_ with
 |zero=>intro p_p p_levels p_left h;omega
 |succ n_ ih=>
  intro p_p p_levels p_left h_ h_p_p
  have:=iC p_p
  have:=lq p_p.bM
  show MT (aeN (qJ n_) p_p p_levels p_left) Any
  refine MT.ask (R:=fun b_=>(b_=true→True)∧(b_=false→¬(p_levels=0)∧¬((p_left:Int)≤0)∧True)) ?_ ?_
  ·show MT (Ou (qJ n_) p_left p_levels p_p) _
   refine MT.ite (fun c14297=>?_) (fun c14297=>?_)
   ·have c14297':p_levels=0:=by simpa using c14297
    (repeat refine MT.say ?_);exact(MT.ret ⟨(fun _=>trivial),(fun h_=>by cases h_)⟩)
   ·have c14297':¬(p_levels=0):=by simpa using c14297
    (repeat refine MT.say ?_);exact(MT.ret ⟨(fun _=>trivial),(fun h_=>⟨(by first|assumption|omega),(of_decide_eq_false h_),trivial⟩)⟩)
  ·intro r14299 h14300 f_r14299
   refine MT.say (MT.ite (fun c14302=>?_) (fun c14302=>?_))
   ·(repeat refine MT.say ?_);exact MT.any
   ·have q9:=f_r14299.2 (c14302)
    refine MT.say (MT.ask (R:=Any) ?_ ?_)
    ·refine T.amF (fun _=>True) ?_
     intro v14346 k10 hk10
     show MT (Hw (qJ n_) p_levels p_p (v14346,((k10:Nat):Int))) _
     refine MT.ask (R:=fun b_=>(b_=true→(((k10:Nat):Int):Int)<(p_p.bM.length:Int)∧(0:Int)≤v14346∧True)∧(b_=false→True)) ?_ ?_
     ·show MT (Ov (qJ n_) p_levels p_p v14346 ((k10:Nat):Int)) _
      refine MT.say (MT.ite (fun c14348=>?_) (fun c14348=>?_))
      ·have c14348':=of_decide_eq_true c14348
       (repeat refine MT.say ?_);exact(MT.ret ⟨(fun h_=>⟨(by first|assumption|omega),(of_decide_eq_true h_),trivial⟩),(fun _=>trivial)⟩)
      ·have c14348':=of_decide_eq_false c14348
       (repeat refine MT.say ?_);exact(MT.ret ⟨(fun h_=>by cases h_),(fun _=>trivial)⟩)
     ·intro r14350 h14351 f_r14350
      refine MT.say (MT.ite (fun c14352=>?_) (fun c14352=>?_))
      ·have q11:=f_r14350.1 (c14352)
       refine MT.say (MT.ask (dF p_p.bM ((k10:Nat):Int) (by omega) (by omega)) (fun x14353 _ hx12=>?_))
       have:=sD hx12
       have:=iC x14353
       refine MT.say (MT.ask (R:=Any) ?_ ?_)
       ·exact(ih x14353 (IntKind.wrap .i64 (p_levels-1)) v14346 (by omega) (by first|omega|(simp;done)|decide))
       ·intro r14355 h14356 _
        (repeat refine MT.say ?_);exact(MT.ret ⟨rfl,by omega⟩)
      ·(repeat refine MT.say ?_);exact(MT.ret trivial)
    ·intro r14359 h14360 _
     (repeat refine MT.say ?_);exact MT.any
theorem E5(p_p:aN)(p_levels:Int)(p_left:Int)(h_p_p:aP p_p.lf1≤100000000):Tot (Q60 p_p p_levels p_left) Any:=Em FU p_p p_levels p_left (by have:=gX;omega) h_p_p
theorem LC(p_p:aN)(h_p_p:aP p_p.lf1≤100000000):Tot (an2 p_p) Any:=by
 have:=iC p_p
 have:=lq p_p.bM
 show MT (aeO p_p) Any
 repeat' (first|exact MT.any|refine MT.say ?_|refine MT.ite (fun _=>?_) (fun _=>?_)|refine MT.sF ?_ (fun _ _=>?_)|refine⟨(show MT _ Any from ?_)⟩)
theorem lZ(p_op:Int):Tot (an3 p_op) Any:=by
 show MT (aeP p_op) Any
 repeat' (first|exact MT.any|refine MT.say ?_|refine MT.ite (fun _=>?_) (fun _=>?_))
theorem Ag(p_p:aN)(h_p_p:aP p_p.lf1≤100000000):Tot (Q76 p_p) Any:=by
 have:=iC p_p
 show MT (ajE p_p) Any
 repeat' (first|exact MT.any|refine MT.say ?_|refine MT.ite (fun _=>?_) (fun _=>?_)|refine MT.sF ?_ (fun _ _=>?_)|refine⟨(show MT _ Any from ?_)⟩)
theorem sJ(p_op:Int):Tot (an4 p_op) Any:=by
 show MT (aeS p_op) Any
 repeat' (first|exact MT.any|refine MT.say ?_|refine MT.ite (fun _=>?_) (fun _=>?_))
theorem qR(p_op:Int):Tot (an5 p_op) Any:=by
 show MT (aeT p_op) Any
 repeat' (first|exact MT.any|refine MT.say ?_|refine MT.ite (fun _=>?_) (fun _=>?_))
theorem sK(p_op:Int):Tot (an6 p_op) Any:=by
 show MT (aeU p_op) Any
 repeat' (first|exact MT.any|refine MT.say ?_|refine MT.ite (fun _=>?_) (fun _=>?_)|refine MT.sF ?_ (fun _ _=>?_)|exact⟨T.wk (qR _)⟩)
theorem En(p_n:Int):Tot (an7 p_n) Any:=by
 show MT (aeV p_n) Any
 repeat' (first|exact MT.any|refine MT.say ?_|refine MT.ite (fun _=>?_) (fun _=>?_))
theorem Uf(p_p:bT)(h_p_p:aP p_p.lf1≤100000000):Tot (an8 p_p) Any:=by
 have:=vM p_p
 show MT (aeW p_p) Any
 repeat' (first|exact MT.any|refine MT.say ?_|refine MT.ite (fun _=>?_) (fun _=>?_)|refine MT.sF ?_ (fun _ _=>?_)|exact⟨T.wk (En _)⟩)
theorem E8(p_s:dJ)(h_p_s:aP p_s.lf1≤100000000):Tot (Q43 p_s) Any:=by
 have:=kE p_s
 have:=lg p_s.cO
 show MT (ajF p_s) Any
 refine MT.say (MT.ite (fun c14693=>?_) (fun c14693=>?_))
 ·have c14693':=of_decide_eq_true c14693
  (repeat refine MT.say ?_);exact MT.any
 ·have c14693':=of_decide_eq_false c14693
  refine MT.say (MT.jE (R:=Any) ?_ ?_ ?_)
  ·refine T.cnt (fun _=>True) ?_
   intro k13 hk13
   show MT (Ox p_s ((k13:Nat):Int)) _
   refine MT.ite (fun c14735=>?_) (fun c14735=>?_)
   ·have c14735':=of_decide_eq_true c14735
    refine MT.say (MT.ask (dF p_s.cO ((k13:Nat):Int) (by omega) (by omega)) (fun x14736 _ hx14=>?_))
    have:=vM x14736
    refine MT.say (MT.ask (R:=Any) ?_ ?_)
    ·exact T.wk (Uf x14736 (by first|omega|(simp;done)|decide))
    ·intro r14738 h14739 _
     refine MT.say (MT.ite (fun c14740=>?_) (fun c14740=>?_))
     ·(repeat refine MT.say ?_);exact(MT.ret trivial)
     ·(repeat refine MT.say ?_);exact(MT.ret ⟨rfl,by omega⟩)
   ·have c14735':=of_decide_eq_false c14735
    (repeat refine MT.say ?_);exact(MT.ret trivial)
  ·intro o14743 h14742 _
   (repeat refine MT.say ?_);exact MT.any
  ·intro o14744 h14742 _
   refine MT.say (MT.ask (R:=fun b_=>(b_=true→p_s.au=1∧(p_s.cO.length:Int)=2∧True)∧(b_=false→True)) ?_ ?_)
   ·show MT (Oy p_s) _
    refine MT.ite (fun c14771=>?_) (fun c14771=>?_)
    ·have c14771':p_s.au=1:=by simpa using c14771
     (repeat refine MT.say ?_);exact(MT.ret ⟨(fun h_=>⟨(by first|assumption|omega),(by simpa using h_),trivial⟩),(fun _=>trivial)⟩)
    ·have c14771':¬(p_s.au=1):=by simpa using c14771
     (repeat refine MT.say ?_);exact(MT.ret ⟨(fun h_=>by cases h_),(fun _=>trivial)⟩)
   ·intro r14773 h14774 f_r14773
    refine MT.say (MT.ask (R:=fun b_=>(b_=true→r14773=true∧p_s.fR=0∧True)∧(b_=false→True)) ?_ ?_)
    ·show MT (Hy p_s r14773) _
     refine MT.ite (fun c14775=>?_) (fun c14775=>?_)
     ·have q15:=f_r14773.1 (c14775)
      (repeat refine MT.say ?_);exact(MT.ret ⟨(fun h_=>⟨(by first|assumption|omega),(by simpa using h_),trivial⟩),(fun _=>trivial)⟩)
     ·(repeat refine MT.say ?_);exact(MT.ret ⟨(fun h_=>by cases h_),(fun _=>trivial)⟩)
    ·intro r14777 h14778 f_r14777
     refine MT.say (MT.ask (R:=fun b_=>(b_=true→True)∧(b_=false→r14777=false∧True)) ?_ ?_)
     ·show MT (Hz p_s r14777) _
      refine MT.ite (fun c14779=>?_) (fun c14779=>?_)
      ·have q16:=f_r14777.1 (c14779)
       have q17:=f_r14773.1 (q16.1)
       (repeat refine MT.say ?_);exact(MT.ret ⟨(fun _=>trivial),(fun h_=>by cases h_)⟩)
      ·refine MT.say (MT.ite (fun c14780=>?_) (fun c14780=>?_))
       ·have c14780':p_s.au=2:=by simpa using c14780
        refine MT.say (MT.ite (fun c14781=>?_) (fun c14781=>?_))
        ·have c14781':(p_s.cO.length:Int)=1:=by simpa using c14781
         refine MT.say (MT.ask (R:=Any) ?_ ?_)
         ·exact T.wk (En p_s.fR )
         ·intro r14782 h14783 _
          (repeat refine MT.say ?_);exact(MT.ret ⟨(fun _=>trivial),(fun h_=>⟨(by first|assumption|omega),trivial⟩)⟩)
        ·have c14781':¬((p_s.cO.length:Int)=1):=by simpa using c14781
         (repeat refine MT.say ?_);exact(MT.ret ⟨(fun h_=>by cases h_),(fun h_=>⟨(by first|assumption|omega),trivial⟩)⟩)
       ·have c14780':¬(p_s.au=2):=by simpa using c14780
        (repeat refine MT.say ?_);exact(MT.ret ⟨(fun h_=>by cases h_),(fun h_=>⟨(by first|assumption|omega),trivial⟩)⟩)
     ·intro r14785 h14786 f_r14785
      refine MT.say (MT.ask (R:=fun b_=>(b_=true→True)∧(b_=false→r14785=false∧True)) ?_ ?_)
      ·show MT (HY p_s r14785) _
       refine MT.ite (fun c14787=>?_) (fun c14787=>?_)
       ·(repeat refine MT.say ?_);exact(MT.ret ⟨(fun _=>trivial),(fun h_=>by cases h_)⟩)
       ·have q18:=f_r14785.2 (c14787)
        refine MT.say (MT.ite (fun c14788=>?_) (fun c14788=>?_))
        ·have c14788':p_s.au=3:=by simpa using c14788
         refine MT.say (MT.ite (fun c14789=>?_) (fun c14789=>?_))
         ·have c14789':=of_decide_eq_true c14789
          (repeat refine MT.say ?_);exact(MT.ret ⟨(fun _=>trivial),(fun h_=>⟨(by first|assumption|omega),trivial⟩)⟩)
         ·have c14789':=of_decide_eq_false c14789
          (repeat refine MT.say ?_);exact(MT.ret ⟨(fun h_=>by cases h_),(fun h_=>⟨(by first|assumption|omega),trivial⟩)⟩)
        ·have c14788':¬(p_s.au=3):=by simpa using c14788
         (repeat refine MT.say ?_);exact(MT.ret ⟨(fun h_=>by cases h_),(fun h_=>⟨(by first|assumption|omega),trivial⟩)⟩)
      ·intro r14795 h14796 f_r14795
       refine MT.say (MT.ite (fun c14798=>?_) (fun c14798=>?_))
       ·(repeat refine MT.say ?_);exact MT.any
       ·have q19:=f_r14795.2 (c14798)
        have q20:=f_r14785.2 (q19.1)
        (repeat refine MT.say ?_);exact MT.any
theorem Ah(p_s:dJ)(h_p_s:aP p_s.lf1≤100000000):Tot (an9 p_s) Any:=by
 have:=kE p_s
 have:=lg p_s.cO
 show MT (aeX p_s) Any
 repeat' (first|exact MT.any|refine MT.say ?_|refine MT.ite (fun _=>?_) (fun _=>?_)|refine MT.sF ?_ (fun _ _=>?_)|refine⟨(show MT _ Any from ?_)⟩)
theorem Eo(p_e:aO)(h_p_e:aP p_e.lf1≤100000000):Tot (Q56 p_e) Any:=by
 have:=gK p_e
 have:=dM p_e.cZ
 have:=dM p_e.eG
 have:=bQ p_e.fArg
 have:=kF p_e.bM
 show MT (ajG p_e) Any
 repeat' (first|exact MT.any|refine MT.say ?_|refine MT.ite (fun _=>?_) (fun _=>?_)|refine MT.sF ?_ (fun _ _=>?_)|exact⟨T.wk (T.val (kG _))⟩|refine⟨(show MT _ Any from ?_)⟩)
theorem Ep(p_p:aN)(h_p_p:aP p_p.lf1≤100000000):Tot (Q26 p_p) Any:=by
 have:=iC p_p
 have:=dM p_p.cZ
 have:=bQ p_p.fArg
 have:=fG p_p.fArgs
 have:=kE p_p.dO
 have:=gK p_p.fExpr
 show MT (ajH p_p) Any
 repeat' (first|exact MT.any|refine MT.say ?_|refine MT.ite (fun _=>?_) (fun _=>?_)|refine MT.sF ?_ (fun _ _=>?_)|exact⟨T.wk (T.val (kG _))⟩|exact⟨T.wk (sJ _)⟩|exact⟨T.wk (sK _)⟩|exact⟨T.wk (lZ _)⟩|exact⟨T.wk (Eo _ (by first|omega|decide))⟩|exact⟨T.wk (Ah _ (by first|omega|decide))⟩|refine⟨(show MT _ Any from ?_)⟩)
theorem LD(p_op:Int):Tot (Q82 p_op) Any:=by
 show MT (ajI p_op) Any
 repeat' (first|exact MT.any|refine MT.say ?_|refine MT.ite (fun _=>?_) (fun _=>?_)|refine MT.sF ?_ (fun _ _=>?_)|refine⟨(show MT _ Any from ?_)⟩)
theorem Fa(p_l:List ByteArray)(h_p_l:bK (p_l.map lfS)≤100000000):Tot (Q86 p_l) Any:=by
 have:=dM p_l
 show MT (ajJ p_l) Any
 refine MT.jE (R:=Any) ?_ ?_ ?_
 ·refine T.cnt (fun _=>True) ?_
  intro k21 hk21
  show MT (Oz p_l ((k21:Nat):Int)) _
  refine MT.say (MT.ite (fun c15343=>?_) (fun c15343=>?_))
  ·have c15343':=of_decide_eq_true c15343
   refine MT.say (MT.ask (dF p_l ((k21:Nat):Int) (by omega) (by omega)) (fun x15344 _ hx22=>?_))
   have:=lH hx22
   refine MT.say (MT.ask (R:=Any) ?_ ?_)
   ·exact T.wk (T.val (lS x15344))
   ·intro r15346 h15347 _
    refine MT.say (MT.ite (fun c15348=>?_) (fun c15348=>?_))
    ·(repeat refine MT.say ?_);exact(MT.ret trivial)
    ·refine MT.say (MT.jE (R:=Any) ?_ ?_ ?_)
     ·refine T.cnt (fun _=>True) ?_
      intro k23 hk23
      show MT (yc p_l ((k21:Nat):Int) ((k23:Nat):Int)) _
      refine MT.ite (fun c15356=>?_) (fun c15356=>?_)
      ·have c15356':=of_decide_eq_true c15356
       refine MT.say (MT.ask (dF p_l ((k23:Nat):Int) (by omega) (by omega)) (fun x15357 _ hx24=>?_))
       have:=lH hx24
       refine MT.say (MT.ask (dF p_l ((k21:Nat):Int) (by omega) (by omega)) (fun x15359 _ hx25=>?_))
       have:=lH hx25
       refine MT.say (MT.ite (fun c15361=>?_) (fun c15361=>?_))
       ·(repeat refine MT.say ?_);exact(MT.ret trivial)
       ·(repeat refine MT.say ?_);exact(MT.ret ⟨rfl,by omega⟩)
      ·have c15356':=of_decide_eq_false c15356
       (repeat refine MT.say ?_);exact(MT.ret trivial)
     ·intro o15364 h15363 _
      (repeat refine MT.say ?_);exact(MT.ret trivial)
     ·intro o15365 h15363 _
      (repeat refine MT.say ?_);exact(MT.ret ⟨rfl,by omega⟩)
  ·have c15343':=of_decide_eq_false c15343
   (repeat refine MT.say ?_);exact(MT.ret trivial)
 ·intro o15368 h15367 _
  (repeat refine MT.say ?_);exact MT.any
 ·intro o15369 h15367 _
  (repeat refine MT.say ?_);exact MT.any
theorem Fb(n_:Nat):∀(p_a:ah) (p_b:ah),aP p_a.lf1<n_→aP p_a.lf1≤100000000→aP p_b.lf1≤100000000→Tot ((kW n_).m1 p_a p_b) Any:=by
 induction n_ with
 |zero=>intro p_a p_b h;omega
 |succ n_ ih=>
  intro p_a p_b h_ h_p_a h_p_b
  have:=bQ p_a
  have:=fG p_a.aU
  have:=fH p_a.aT
  have:=bQ p_b
  have:=fG p_b.aU
  have:=fH p_b.aT
  show MT (ae5 (kW n_) p_a p_b) Any
  refine MT.ask (R:=fun b_=>(b_=true→True)∧(b_=false→p_a.au=p_b.au∧p_a.dD=p_b.dD∧True)) ?_ ?_
  ·show MT (OA (kW n_) p_a p_b) _
   refine MT.ite (fun c15437=>?_) (fun c15437=>?_)
   ·have c15437':¬(p_a.au=p_b.au):=by simpa using c15437
    (repeat refine MT.say ?_);exact(MT.ret ⟨(fun _=>trivial),(fun h_=>by cases h_)⟩)
   ·have c15437':p_a.au=p_b.au:=by simpa using c15437
    (repeat refine MT.say ?_);exact(MT.ret ⟨(fun _=>trivial),(fun h_=>⟨(by first|assumption|omega),(by simpa using h_),trivial⟩)⟩)
  ·intro r15439 h15440 f_r15439
   refine MT.say (MT.ask (R:=fun b_=>(b_=true→True)∧(b_=false→r15439=false∧True)) ?_ ?_)
   ·show MT (OB (kW n_) p_a p_b r15439) _
    refine MT.ite (fun c15441=>?_) (fun c15441=>?_)
    ·(repeat refine MT.say ?_);exact(MT.ret ⟨(fun _=>trivial),(fun h_=>by cases h_)⟩)
    ·have q26:=f_r15439.2 (c15441)
     (repeat refine MT.say ?_);exact(MT.ret ⟨(fun _=>trivial),(fun h_=>⟨(by first|assumption|omega),trivial⟩)⟩)
   ·intro r15443 h15444 f_r15443
    refine MT.say (MT.ask (R:=fun b_=>(b_=true→True)∧(b_=false→r15443=false∧(p_a.aU.length:Int)=(p_b.aU.length:Int)∧True)) ?_ ?_)
    ·show MT (H6 (kW n_) p_a p_b r15443) _
     refine MT.ite (fun c15445=>?_) (fun c15445=>?_)
     ·(repeat refine MT.say ?_);exact(MT.ret ⟨(fun _=>trivial),(fun h_=>by cases h_)⟩)
     ·have q27:=f_r15443.2 (c15445)
      have q28:=f_r15439.2 (q27.1)
      (repeat refine MT.say ?_);exact(MT.ret ⟨(fun _=>trivial),(fun h_=>⟨(by first|assumption|omega),(by simpa using h_),trivial⟩)⟩)
    ·intro r15447 h15448 f_r15447
     refine MT.say (MT.ask (R:=fun b_=>(b_=true→True)∧(b_=false→r15447=false∧(p_a.aT.length:Int)=(p_b.aT.length:Int)∧True)) ?_ ?_)
     ·show MT (H7 (kW n_) p_a p_b r15447) _
      refine MT.ite (fun c15449=>?_) (fun c15449=>?_)
      ·(repeat refine MT.say ?_);exact(MT.ret ⟨(fun _=>trivial),(fun h_=>by cases h_)⟩)
      ·have q29:=f_r15447.2 (c15449)
       have q30:=f_r15443.2 (q29.1)
       have q31:=f_r15439.2 (q30.1)
       (repeat refine MT.say ?_);exact(MT.ret ⟨(fun _=>trivial),(fun h_=>⟨(by first|assumption|omega),(by simpa using h_),trivial⟩)⟩)
     ·intro r15451 h15452 f_r15451
      refine MT.say (MT.ite (fun c15454=>?_) (fun c15454=>?_))
      ·(repeat refine MT.say ?_);exact MT.any
      ·have q32:=f_r15451.2 (c15454)
       have q33:=f_r15447.2 (q32.1)
       have q34:=f_r15443.2 (q33.1)
       have q35:=f_r15439.2 (q34.1)
       refine MT.say (MT.jE (R:=Any) ?_ ?_ ?_)
       ·refine T.cnt (fun _=>True) ?_
        intro k36 hk36
        show MT (H8 (kW n_) p_a p_b ((k36:Nat):Int)) _
        refine MT.say (MT.ite (fun c15500=>?_) (fun c15500=>?_))
        ·have c15500':=of_decide_eq_true c15500
         refine MT.say (MT.ask (dF p_a.aU ((k36:Nat):Int) (by omega) (by omega)) (fun x15501 _ hx37=>?_))
         have:=iK hx37
         have:=bQ x15501
         refine MT.say (MT.ask (dF p_b.aU ((k36:Nat):Int) (by omega) (by omega)) (fun x15503 _ hx38=>?_))
         have:=iK hx38
         have:=bQ x15503
         refine MT.say (MT.ask (R:=Any) ?_ ?_)
         ·exact(ih x15501 x15503 (by omega) (by first|omega|(simp;done)|decide) (by first|omega|(simp;done)|decide))
         ·intro r15505 h15506 _
          refine MT.say (MT.ite (fun c15507=>?_) (fun c15507=>?_))
          ·(repeat refine MT.say ?_);exact(MT.ret trivial)
          ·(repeat refine MT.say ?_);exact(MT.ret ⟨rfl,by omega⟩)
        ·have c15500':=of_decide_eq_false c15500
         (repeat refine MT.say ?_);exact(MT.ret trivial)
       ·intro o15510 h15509 _
        (repeat refine MT.say ?_);exact MT.any
       ·intro o15511 h15509 _
        refine MT.say (MT.jE (R:=Any) ?_ ?_ ?_)
        ·refine T.cnt (fun _=>True) ?_
         intro k39 hk39
         show MT (Ia (kW n_) p_a p_b ((k39:Nat):Int)) _
         refine MT.say (MT.ite (fun c15594=>?_) (fun c15594=>?_))
         ·have c15594':=of_decide_eq_true c15594
          refine MT.say (MT.ask (R:=Any) ?_ ?_)
          ·show MT (H9 (kW n_) p_a p_b ((k39:Nat):Int)) Any
           refine MT.say (MT.ask (dF p_a.aT ((k39:Nat):Int) (by omega) (by omega)) (fun x15595 _ hx40=>?_))
           have:=fE hx40
           have:=dY x15595
           refine MT.say (MT.ask (dF p_b.aT ((k39:Nat):Int) (by omega) (by omega)) (fun x15597 _ hx41=>?_))
           have:=fE hx41
           have:=dY x15597
           refine MT.say (MT.ite (fun c15599=>?_) (fun c15599=>?_))
           ·(repeat refine MT.say ?_);exact MT.any
           ·refine MT.say (MT.ask (dF p_a.aT ((k39:Nat):Int) (by omega) (by omega)) (fun x15600 _ hx42=>?_))
            have:=fE hx42
            have:=dY x15600
            have:=bQ x15600.fValue
            refine MT.say (MT.ask (dF p_b.aT ((k39:Nat):Int) (by omega) (by omega)) (fun x15602 _ hx43=>?_))
            have:=fE hx43
            have:=dY x15602
            have:=bQ x15602.fValue
            refine MT.say (MT.ask (R:=Any) ?_ ?_)
            ·exact(ih x15600.fValue x15602.fValue (by omega) (by first|omega|(simp;done)|decide) (by first|omega|(simp;done)|decide))
            ·intro r15604 h15605 _
             (repeat refine MT.say ?_);exact MT.any
          ·intro r15607 h15608 _
           refine MT.say (MT.ite (fun c15609=>?_) (fun c15609=>?_))
           ·(repeat refine MT.say ?_);exact(MT.ret trivial)
           ·(repeat refine MT.say ?_);exact(MT.ret ⟨rfl,by omega⟩)
         ·have c15594':=of_decide_eq_false c15594
          (repeat refine MT.say ?_);exact(MT.ret trivial)
        ·intro o15612 h15611 _
         (repeat refine MT.say ?_);exact MT.any
        ·intro o15613 h15611 _
         (repeat refine MT.say ?_);exact MT.any
theorem mP(p_a:ah)(p_b:ah)(h_p_a:aP p_a.lf1≤100000000)(h_p_b:aP p_b.lf1≤100000000):Tot (Q18 p_a p_b) Any:=Fb FU p_a p_b (by have:=gX;omega) h_p_a h_p_b
theorem LG(p_e:aO)(h_p_e:aP p_e.lf1≤100000000):Tot (Q13 p_e) Any:=by
 have:=gK p_e
 have:=dM p_e.cZ
 have:=dM p_e.eG
 have:=bQ p_e.fArg
 have:=kF p_e.bM
 show MT (ajK p_e) Any
 repeat' (first|exact MT.any|refine MT.say ?_|refine MT.ite (fun _=>?_) (fun _=>?_)|refine MT.sF ?_ (fun _ _=>?_)|exact⟨T.wk (T.val (lS _))⟩|exact⟨T.wk (mP _ _ (by first|omega|decide) (by first|omega|decide))⟩|exact⟨T.wk (kH _ (by first|omega|decide))⟩|exact⟨T.wk (T.val (yw _))⟩|exact⟨T.wk (LD _)⟩|exact⟨T.wk (Fa _ (by first|omega|decide))⟩|refine⟨(show MT _ Any from ?_)⟩)
theorem Es(n_:Nat):∀(p_e:aO) (p_number:Int) (p_level:Int),aP p_e.lf1<n_→aP p_e.lf1≤100000000→Tot ((su n_).m1 p_e p_number p_level) Any:=by
 induction n_ with
 |zero=>intro p_e p_number p_level h;omega
 |succ n_ ih=>
  intro p_e p_number p_level h_ h_p_e
  have:=gK p_e
  have:=kF p_e.bM
  show MT (ae9 (su n_) p_e p_number p_level) Any
  refine MT.ask (R:=fun b_=>(b_=true→True)∧(b_=false→¬((16:Int)<p_level)∧¬((256:Int)<p_number)∧True)) ?_ ?_
  ·show MT (OC (su n_) p_e p_level p_number) _
   refine MT.ite (fun c14972=>?_) (fun c14972=>?_)
   ·have c14972':=of_decide_eq_true c14972
    (repeat refine MT.say ?_);exact(MT.ret ⟨(fun _=>trivial),(fun h_=>by cases h_)⟩)
   ·have c14972':=of_decide_eq_false c14972
    (repeat refine MT.say ?_);exact(MT.ret ⟨(fun _=>trivial),(fun h_=>⟨(by first|assumption|omega),(of_decide_eq_false h_),trivial⟩)⟩)
  ·intro r14974 h14975 f_r14974
   refine MT.say (MT.ite (fun c14977=>?_) (fun c14977=>?_))
   ·(repeat refine MT.say ?_);exact MT.any
   ·have q44:=f_r14974.2 (c14977)
    refine MT.say (MT.ask (R:=Any) ?_ ?_)
    ·exact T.wk (LG p_e (by first|omega|(simp;done)|decide))
    ·intro r15660 h15661 _
     refine MT.say (MT.ite (fun c15663=>?_) (fun c15663=>?_))
     ·have c15663':¬(r15660=0):=by simpa using c15663
      (repeat refine MT.say ?_);exact MT.any
     ·have c15663':r15660=0:=by simpa using c15663
      refine MT.say (MT.jE (R:=Any) ?_ ?_ ?_)
      ·refine T.amF (fun _=>True) ?_
       intro v15705 k45 hk45
       show MT (OD (su n_) p_e p_level (v15705,((k45:Nat):Int))) _
       refine MT.say (MT.ite (fun c15707=>?_) (fun c15707=>?_))
       ·have c15707':=of_decide_eq_true c15707
        refine MT.say (MT.ask (dF p_e.bM ((k45:Nat):Int) (by omega) (by omega)) (fun x15708 _ hx46=>?_))
        have:=pI hx46
        have:=gK x15708
        refine MT.say (MT.ask (R:=Any) ?_ ?_)
        ·exact(ih x15708 (IntKind.wrap .i64 (v15705+1)) (IntKind.wrap .i64 (p_level+1)) (by omega) (by first|omega|(simp;done)|decide))
        ·intro r15710 h15711 _
         refine MT.say (MT.ite (fun c15712=>?_) (fun c15712=>?_))
         ·have c15712':¬(r15710.2=0):=by simpa using c15712
          (repeat refine MT.say ?_);exact(MT.ret trivial)
         ·have c15712':r15710.2=0:=by simpa using c15712
          (repeat refine MT.say ?_);exact(MT.ret ⟨rfl,by omega⟩)
       ·have c15707':=of_decide_eq_false c15707
        (repeat refine MT.say ?_);exact(MT.ret trivial)
      ·intro o15721 h15720 _
       (repeat refine MT.say ?_);exact MT.any
      ·intro o15722 h15720 _
       (repeat refine MT.say ?_);exact MT.any
theorem Fe(p_e:aO)(p_number:Int)(p_level:Int)(h_p_e:aP p_e.lf1≤100000000):Tot (Q79 p_e p_number p_level) Any:=Es FU p_e p_number p_level (by have:=gX;omega) h_p_e
theorem Fg(p_e:aO)(h_p_e:aP p_e.lf1≤100000000):Tot (aoa p_e) Any:=by
 have:=gK p_e
 show MT (afa p_e) Any
 repeat' (first|exact MT.any|refine MT.say ?_|refine MT.ite (fun _=>?_) (fun _=>?_)|refine MT.sF ?_ (fun _ _=>?_)|exact⟨T.wk (Fe _ _ _ (by first|omega|decide))⟩)
theorem Fh(n_:Nat):∀(p_p:aN) (p_elem:Bool),aP p_p.lf1<n_→aP p_p.lf1≤100000000→Tot ((jF n_).m1 p_p p_elem) Any:=by
 induction n_ with
 |zero=>intro p_p p_elem h;omega
 |succ n_ ih=>
  intro p_p p_elem h_ h_p_p
  have:=iC p_p
  have:=dM p_p.cZ
  have:=bQ p_p.fArg
  have:=fG p_p.fArgs
  have:=kE p_p.dO
  have:=gK p_p.fExpr
  have:=lq p_p.bM
  show MT (amr (jF n_) p_p p_elem) Any
  refine MT.ask (R:=fun b_=>(b_=true→True)∧(b_=false→¬((p_p.fOp:Int)<1)∧¬((24:Int)<p_p.fOp)∧True)) ?_ ?_
  ·show MT (V6 (jF n_) p_elem p_p) _
   refine MT.ite (fun c14534=>?_) (fun c14534=>?_)
   ·have c14534':=of_decide_eq_true c14534
    (repeat refine MT.say ?_);exact(MT.ret ⟨(fun _=>trivial),(fun h_=>by cases h_)⟩)
   ·have c14534':=of_decide_eq_false c14534
    (repeat refine MT.say ?_);exact(MT.ret ⟨(fun _=>trivial),(fun h_=>⟨(by first|assumption|omega),(of_decide_eq_false h_),trivial⟩)⟩)
  ·intro r14536 h14537 f_r14536
   refine MT.say (MT.ask (R:=fun b_=>(b_=true→True)∧(b_=false→r14536=false∧True)) ?_ ?_)
   ·show MT (V7 (jF n_) p_elem p_p r14536) _
    refine MT.ite (fun c14538=>?_) (fun c14538=>?_)
    ·(repeat refine MT.say ?_);exact(MT.ret ⟨(fun _=>trivial),(fun h_=>by cases h_)⟩)
    ·have q47:=f_r14536.2 (c14538)
     refine MT.say (MT.ask (R:=Any) ?_ ?_)
     ·exact T.wk (LC p_p (by first|omega|(simp;done)|decide))
     ·intro r14539 h14540 _
      (repeat refine MT.say ?_);exact(MT.ret ⟨(fun _=>trivial),(fun h_=>⟨(by first|assumption|omega),trivial⟩)⟩)
   ·intro r14542 h14543 f_r14542
    refine MT.say (MT.ask (R:=fun b_=>(b_=true→True)∧(b_=false→r14542=false∧True)) ?_ ?_)
    ·show MT (OE (jF n_) p_elem p_p r14542) _
     refine MT.ite (fun c14544=>?_) (fun c14544=>?_)
     ·(repeat refine MT.say ?_);exact(MT.ret ⟨(fun _=>trivial),(fun h_=>by cases h_)⟩)
     ·have q48:=f_r14542.2 (c14544)
      have q49:=f_r14536.2 (q48.1)
      refine MT.say (MT.ask (R:=Any) ?_ ?_)
      ·exact T.wk (lZ p_p.fOp )
      ·intro r14545 h14546 _
       refine MT.say (MT.ite (fun c14547=>?_) (fun c14547=>?_))
       ·(repeat refine MT.say ?_);exact(MT.ret ⟨(fun _=>trivial),(fun h_=>⟨(by first|assumption|omega),trivial⟩)⟩)
       ·(repeat refine MT.say ?_);exact(MT.ret ⟨(fun h_=>by cases h_),(fun h_=>⟨(by first|assumption|omega),trivial⟩)⟩)
    ·intro r14549 h14550 f_r14549
     refine MT.say (MT.ask (R:=fun b_=>(b_=true→True)∧(b_=false→r14549=false∧True)) ?_ ?_)
     ·show MT (OG (jF n_) p_elem p_p r14549) _
      refine MT.ite (fun c14551=>?_) (fun c14551=>?_)
      ·(repeat refine MT.say ?_);exact(MT.ret ⟨(fun _=>trivial),(fun h_=>by cases h_)⟩)
      ·have q50:=f_r14549.2 (c14551)
       have q51:=f_r14542.2 (q50.1)
       have q52:=f_r14536.2 (q51.1)
       refine MT.say (MT.ask (R:=Any) ?_ ?_)
       ·exact T.wk (Ag p_p (by first|omega|(simp;done)|decide))
       ·intro r14552 h14553 _
        (repeat refine MT.say ?_);exact(MT.ret ⟨(fun _=>trivial),(fun h_=>⟨(by first|assumption|omega),trivial⟩)⟩)
     ·intro r14555 h14556 f_r14555
      refine MT.say (MT.ite (fun c14558=>?_) (fun c14558=>?_))
      ·(repeat refine MT.say ?_);exact MT.any
      ·have q53:=f_r14555.2 (c14558)
       have q54:=f_r14549.2 (q53.1)
       have q55:=f_r14542.2 (q54.1)
       have q56:=f_r14536.2 (q55.1)
       refine MT.say (MT.ask (R:=Any) ?_ ?_)
       ·show MT (OH (jF n_) p_elem p_p) Any
        refine MT.ask (R:=Any) ?_ ?_
        ·exact T.wk (sJ p_p.fOp )
        ·intro r14573 h14574 _
         refine MT.say (MT.ite (fun c14575=>?_) (fun c14575=>?_))
         ·refine MT.say (MT.ask (R:=Any) ?_ ?_)
          ·exact T.wk (T.val (yw p_p.cZ))
          ·intro r14576 h14577 _
           (repeat refine MT.say ?_);exact MT.any
         ·(repeat refine MT.say ?_);exact MT.any
       ·intro r14579 h14580 _
        refine MT.say (MT.ask (R:=fun b_=>(b_=true→r14579=true∧True)∧(b_=false→True)) ?_ ?_)
        ·show MT (OI (jF n_) p_elem p_p r14579) _
         refine MT.ite (fun c14581=>?_) (fun c14581=>?_)
         ·refine MT.say (MT.ite (fun c14582=>?_) (fun c14582=>?_))
          ·(repeat refine MT.say ?_);exact(MT.ret ⟨(fun h_=>⟨(by first|assumption|omega),trivial⟩),(fun _=>trivial)⟩)
          ·(repeat refine MT.say ?_);exact(MT.ret ⟨(fun h_=>⟨(by first|assumption|omega),trivial⟩),(fun h_=>by cases h_)⟩)
         ·(repeat refine MT.say ?_);exact(MT.ret ⟨(fun h_=>by cases h_),(fun _=>trivial)⟩)
        ·intro r14584 h14585 f_r14584
         refine MT.say (MT.ite (fun c14587=>?_) (fun c14587=>?_))
         ·have q57:=f_r14584.1 (c14587)
          (repeat refine MT.say ?_);exact MT.any
         ·refine MT.say (MT.ask (R:=Any) ?_ ?_)
          ·show MT (OJ (jF n_) p_elem p_p) Any
           refine MT.ask (R:=Any) ?_ ?_
           ·exact T.wk (sK p_p.fOp )
           ·intro r14605 h14606 _
            refine MT.say (MT.ite (fun c14607=>?_) (fun c14607=>?_))
            ·refine MT.say (MT.ask (R:=Any) ?_ ?_)
             ·exact T.wk (kH p_p.fArg (by first|omega|(simp;done)|decide))
             ·intro r14608 h14609 _
              refine MT.say (MT.ite (fun c14610=>?_) (fun c14610=>?_))
              ·(repeat refine MT.say ?_);exact MT.any
              ·refine MT.say (MT.ask (R:=Any) ?_ ?_)
               ·exact T.wk (qR p_p.fOp )
               ·intro r14611 h14612 _
                refine MT.say (MT.ite (fun c14613=>?_) (fun c14613=>?_))
                ·(repeat refine MT.say ?_);exact MT.any
                ·(repeat refine MT.say ?_);exact MT.any
            ·(repeat refine MT.say ?_);exact MT.any
          ·intro r14615 h14616 _
           refine MT.say (MT.ite (fun c14618=>?_) (fun c14618=>?_))
           ·(repeat refine MT.say ?_);exact MT.any
           ·refine MT.say (MT.jE (R:=Any) ?_ ?_ ?_)
            ·refine T.cnt (fun _=>True) ?_
             intro k58 hk58
             show MT (OM (jF n_) p_elem p_p ((k58:Nat):Int)) _
             refine MT.ask (R:=fun b_=>(b_=true→(((k58:Nat):Int):Int)<(p_p.fArgs.length:Int)∧True)∧(b_=false→True)) ?_ ?_
             ·show MT (OL (jF n_) p_elem p_p ((k58:Nat):Int)) _
              refine MT.say (MT.ite (fun c14675=>?_) (fun c14675=>?_))
              ·have c14675':=of_decide_eq_true c14675
               refine MT.say (MT.ask (R:=Any) ?_ ?_)
               ·exact T.wk (lZ p_p.fOp )
               ·intro r14676 h14677 _
                (repeat refine MT.say ?_);exact(MT.ret ⟨(fun h_=>⟨(by first|assumption|omega),trivial⟩),(fun _=>trivial)⟩)
              ·have c14675':=of_decide_eq_false c14675
               (repeat refine MT.say ?_);exact(MT.ret ⟨(fun h_=>by cases h_),(fun _=>trivial)⟩)
             ·intro r14679 h14680 f_r14679
              refine MT.say (MT.ite (fun c14681=>?_) (fun c14681=>?_))
              ·have q59:=f_r14679.1 (c14681)
               refine MT.say (MT.ask (dF p_p.fArgs ((k58:Nat):Int) (by omega) (by omega)) (fun x14682 _ hx60=>?_))
               have:=iK hx60
               have:=bQ x14682
               refine MT.say (MT.ask (R:=Any) ?_ ?_)
               ·exact T.wk (kH x14682 (by first|omega|(simp;done)|decide))
               ·intro r14684 h14685 _
                refine MT.say (MT.ite (fun c14686=>?_) (fun c14686=>?_))
                ·(repeat refine MT.say ?_);exact(MT.ret trivial)
                ·(repeat refine MT.say ?_);exact(MT.ret ⟨rfl,by omega⟩)
              ·(repeat refine MT.say ?_);exact(MT.ret trivial)
            ·intro o14689 h14688 _
             (repeat refine MT.say ?_);exact MT.any
            ·intro o14690 h14688 _
             refine MT.say (MT.jE (R:=Any) ?_ ?_ ?_)
             ·show MT (OO (jF n_) p_elem p_p) Any
              refine MT.ite (fun c14804=>?_) (fun c14804=>?_)
              ·have c14804':p_p.fOp=18:=by simpa using c14804
               refine MT.say (MT.ask (R:=Any) ?_ ?_)
               ·exact T.wk (E8 p_p.dO (by first|omega|(simp;done)|decide))
               ·intro r14805 h14806 _
                refine MT.say (MT.ite (fun c14807=>?_) (fun c14807=>?_))
                ·have c14807':¬(r14805=0):=by simpa using c14807
                 (repeat refine MT.say ?_);exact MT.any
                ·have c14807':r14805=0:=by simpa using c14807
                 (repeat refine MT.say ?_);exact MT.any
              ·have c14804':¬(p_p.fOp=18):=by simpa using c14804
               (repeat refine MT.say ?_);exact MT.any
             ·intro o14812 h14811 _
              (repeat refine MT.say ?_);exact MT.any
             ·intro o14813 h14811 _
              refine MT.say (MT.ask (R:=Any) ?_ ?_)
              ·exact T.wk (Ep p_p (by first|omega|(simp;done)|decide))
              ·intro r14966 h14967 _
               refine MT.say (MT.ite (fun c14969=>?_) (fun c14969=>?_))
               ·(repeat refine MT.say ?_);exact MT.any
               ·refine MT.say (MT.ite (fun c15729=>?_) (fun c15729=>?_))
                ·have c15729':p_p.fOp=24:=by simpa using c15729
                 refine MT.say (MT.ask (R:=Any) ?_ ?_)
                 ·exact T.wk (Fg p_p.fExpr (by first|omega|(simp;done)|decide))
                 ·intro r15732 h15733 _
                  (repeat refine MT.say ?_);exact MT.any
                ·have c15729':¬(p_p.fOp=24):=by simpa using c15729
                 refine MT.say (MT.jE (R:=Any) ?_ ?_ ?_)
                 ·refine T.cnt (fun _=>True) ?_
                  intro k61 hk61
                  show MT (OT (jF n_) p_elem p_p ((k61:Nat):Int)) _
                  refine MT.say (MT.ite (fun c15798=>?_) (fun c15798=>?_))
                  ·have c15798':=of_decide_eq_true c15798
                   refine MT.say (MT.ask (R:=Any) ?_ ?_)
                   ·show MT (OQ (jF n_) p_elem p_p ((k61:Nat):Int)) Any
                    refine MT.ask (dF p_p.bM ((k61:Nat):Int) (by omega) (by omega)) (fun x15799 _ hx62=>?_)
                    have:=sD hx62
                    have:=iC x15799
                    refine MT.say (MT.ite (fun c15801=>?_) (fun c15801=>?_))
                    ·refine MT.say (MT.ask (R:=Any) ?_ ?_)
                     ·exact(ih x15799 true (by omega) (by first|omega|(simp;done)|decide))
                     ·intro r15802 h15803 _
                      (repeat refine MT.say ?_);exact MT.any
                    ·refine MT.say (MT.ask (R:=Any) ?_ ?_)
                     ·exact(ih x15799 (p_p.fOp==15) (by omega) (by first|omega|(simp;done)|decide))
                     ·intro r15804 h15805 _
                      (repeat refine MT.say ?_);exact MT.any
                   ·intro r15807 h15808 _
                    refine MT.say (MT.ite (fun c15809=>?_) (fun c15809=>?_))
                    ·have c15809':¬(r15807=0):=by simpa using c15809
                     (repeat refine MT.say ?_);exact(MT.ret trivial)
                    ·have c15809':r15807=0:=by simpa using c15809
                     (repeat refine MT.say ?_);exact(MT.ret ⟨rfl,by omega⟩)
                  ·have c15798':=of_decide_eq_false c15798
                   (repeat refine MT.say ?_);exact(MT.ret trivial)
                 ·intro o15814 h15813 _
                  (repeat refine MT.say ?_);exact MT.any
                 ·intro o15815 h15813 _
                  (repeat refine MT.say ?_);exact MT.any
theorem LH(p_p:aN)(p_elem:Bool)(h_p_p:aP p_p.lf1≤100000000):Tot (Q8 p_p p_elem) Any:=Fh FU p_p p_elem (by have:=gX;omega) h_p_p
theorem Fj(p_p:aN)(h_p_p:aP p_p.lf1≤100000000):Tot (aoc p_p) Any:=by
 have:=iC p_p
 show MT (afb p_p) Any
 repeat' (first|exact MT.any|refine MT.say ?_|refine MT.ite (fun _=>?_) (fun _=>?_)|refine MT.sF ?_ (fun _ _=>?_)|exact⟨T.wk (E5 _ _ _ (by first|omega|decide))⟩|exact⟨T.wk (LH _ _ (by first|omega|decide))⟩)
theorem Et(p_a:List ByteArray)(p_b:List ByteArray)(h_p_a:bK (p_a.map lfS)≤100000000)(h_p_b:bK (p_b.map lfS)≤100000000):Tot (aod p_a p_b) Any:=by
 have:=dM p_a
 have:=dM p_b
 show MT (afc p_a p_b) Any
 refine MT.say (MT.ite (fun c15863=>?_) (fun c15863=>?_))
 ·have c15863':=of_decide_eq_true c15863
  (repeat refine MT.say ?_);exact MT.any
 ·have c15863':=of_decide_eq_false c15863
  refine MT.say (MT.jE (R:=Any) ?_ ?_ ?_)
  ·refine T.cnt (fun _=>True) ?_
   intro k63 hk63
   show MT (uj p_a p_b ((k63:Nat):Int)) _
   refine MT.say (MT.ite (fun c15899=>?_) (fun c15899=>?_))
   ·have c15899':=of_decide_eq_true c15899
    refine MT.say (MT.ask (dF p_a ((k63:Nat):Int) (by omega) (by omega)) (fun x15900 _ hx64=>?_))
    have:=lH hx64
    refine MT.say (MT.ask (dF p_b ((k63:Nat):Int) (by omega) (by omega)) (fun x15902 _ hx65=>?_))
    have:=lH hx65
    refine MT.say (MT.ite (fun c15904=>?_) (fun c15904=>?_))
    ·(repeat refine MT.say ?_);exact(MT.ret trivial)
    ·(repeat refine MT.say ?_);exact(MT.ret ⟨rfl,by omega⟩)
   ·have c15899':=of_decide_eq_false c15899
    (repeat refine MT.say ?_);exact(MT.ret trivial)
  ·intro o15907 h15906 _
   (repeat refine MT.say ?_);exact MT.any
  ·intro o15908 h15906 _
   (repeat refine MT.say ?_);exact MT.any
theorem yF(p_a:List ByteArray)(p_b:List ByteArray)(h_p_a:bK (p_a.map lfS)≤100000000)(h_p_b:bK (p_b.map lfS)≤100000000):Tot (aoe p_a p_b) Any:=by
 have:=dM p_a
 have:=dM p_b
 show MT (afd p_a p_b) Any
 repeat' (first|exact MT.any|refine MT.say ?_|refine MT.ite (fun _=>?_) (fun _=>?_)|refine MT.sF ?_ (fun _ _=>?_)|exact⟨T.wk (Et _ _ (by first|omega|decide) (by first|omega|decide))⟩)
theorem Fp(n_:Nat):∀(p_a:aO) (p_b:aO),aP p_a.lf1<n_→aP p_a.lf1≤100000000→aP p_b.lf1≤100000000→Tot ((kX n_).m1 p_a p_b) Any:=by
 induction n_ with
 |zero=>intro p_a p_b h;omega
 |succ n_ ih=>
  intro p_a p_b h_ h_p_a h_p_b
  have:=gK p_a
  have:=dM p_a.cZ
  have:=dM p_a.eG
  have:=bQ p_a.fArg
  have:=kF p_a.bM
  have:=gK p_b
  have:=dM p_b.cZ
  have:=dM p_b.eG
  have:=bQ p_b.fArg
  have:=kF p_b.bM
  show MT (afe (kX n_) p_a p_b) Any
  refine MT.ask (R:=fun b_=>(b_=true→True)∧(b_=false→p_a.fOp=p_b.fOp∧True)) ?_ ?_
  ·show MT (OU (kX n_) p_a p_b) _
   refine MT.ite (fun c15940=>?_) (fun c15940=>?_)
   ·have c15940':¬(p_a.fOp=p_b.fOp):=by simpa using c15940
    (repeat refine MT.say ?_);exact(MT.ret ⟨(fun _=>trivial),(fun h_=>by cases h_)⟩)
   ·have c15940':p_a.fOp=p_b.fOp:=by simpa using c15940
    refine MT.say (MT.ask (R:=Any) ?_ ?_)
    ·exact T.wk (yF p_a.cZ p_b.cZ (by first|omega|(simp;done)|decide) (by first|omega|(simp;done)|decide))
    ·intro r15941 h15942 _
     (repeat refine MT.say ?_);exact(MT.ret ⟨(fun _=>trivial),(fun h_=>⟨(by first|assumption|omega),trivial⟩)⟩)
  ·intro r15944 h15945 f_r15944
   refine MT.say (MT.ask (R:=fun b_=>(b_=true→True)∧(b_=false→r15944=false∧True)) ?_ ?_)
   ·show MT (OV (kX n_) p_a p_b r15944) _
    refine MT.ite (fun c15946=>?_) (fun c15946=>?_)
    ·(repeat refine MT.say ?_);exact(MT.ret ⟨(fun _=>trivial),(fun h_=>by cases h_)⟩)
    ·have q66:=f_r15944.2 (c15946)
     (repeat refine MT.say ?_);exact(MT.ret ⟨(fun _=>trivial),(fun h_=>⟨(by first|assumption|omega),trivial⟩)⟩)
   ·intro r15948 h15949 f_r15948
    refine MT.say (MT.ask (R:=fun b_=>(b_=true→True)∧(b_=false→r15948=false∧True)) ?_ ?_)
    ·show MT (Ib (kX n_) p_a p_b r15948) _
     refine MT.ite (fun c15950=>?_) (fun c15950=>?_)
     ·(repeat refine MT.say ?_);exact(MT.ret ⟨(fun _=>trivial),(fun h_=>by cases h_)⟩)
     ·have q67:=f_r15948.2 (c15950)
      have q68:=f_r15944.2 (q67.1)
      refine MT.say (MT.ask (R:=Any) ?_ ?_)
      ·exact T.wk (yF p_a.eG p_b.eG (by first|omega|(simp;done)|decide) (by first|omega|(simp;done)|decide))
      ·intro r15951 h15952 _
       (repeat refine MT.say ?_);exact(MT.ret ⟨(fun _=>trivial),(fun h_=>⟨(by first|assumption|omega),trivial⟩)⟩)
    ·intro r15954 h15955 f_r15954
     refine MT.say (MT.ask (R:=fun b_=>(b_=true→True)∧(b_=false→r15954=false∧True)) ?_ ?_)
     ·show MT (Ic (kX n_) p_a p_b r15954) _
      refine MT.ite (fun c15956=>?_) (fun c15956=>?_)
      ·(repeat refine MT.say ?_);exact(MT.ret ⟨(fun _=>trivial),(fun h_=>by cases h_)⟩)
      ·have q69:=f_r15954.2 (c15956)
       have q70:=f_r15948.2 (q69.1)
       have q71:=f_r15944.2 (q70.1)
       refine MT.say (MT.ask (R:=Any) ?_ ?_)
       ·exact T.wk (mP p_a.fArg p_b.fArg (by first|omega|(simp;done)|decide) (by first|omega|(simp;done)|decide))
       ·intro r15957 h15958 _
        (repeat refine MT.say ?_);exact(MT.ret ⟨(fun _=>trivial),(fun h_=>⟨(by first|assumption|omega),trivial⟩)⟩)
     ·intro r15960 h15961 f_r15960
      refine MT.say (MT.ask (R:=fun b_=>(b_=true→True)∧(b_=false→r15960=false∧p_a.fN=p_b.fN∧True)) ?_ ?_)
      ·show MT (Ie (kX n_) p_a p_b r15960) _
       refine MT.ite (fun c15962=>?_) (fun c15962=>?_)
       ·(repeat refine MT.say ?_);exact(MT.ret ⟨(fun _=>trivial),(fun h_=>by cases h_)⟩)
       ·have q72:=f_r15960.2 (c15962)
        have q73:=f_r15954.2 (q72.1)
        have q74:=f_r15948.2 (q73.1)
        have q75:=f_r15944.2 (q74.1)
        (repeat refine MT.say ?_);exact(MT.ret ⟨(fun _=>trivial),(fun h_=>⟨(by first|assumption|omega),(by simpa using h_),trivial⟩)⟩)
      ·intro r15964 h15965 f_r15964
       refine MT.say (MT.ask (R:=fun b_=>(b_=true→True)∧(b_=false→r15964=false∧(p_a.bM.length:Int)=(p_b.bM.length:Int)∧True)) ?_ ?_)
       ·show MT (Ig (kX n_) p_a p_b r15964) _
        refine MT.ite (fun c15966=>?_) (fun c15966=>?_)
        ·(repeat refine MT.say ?_);exact(MT.ret ⟨(fun _=>trivial),(fun h_=>by cases h_)⟩)
        ·have q76:=f_r15964.2 (c15966)
         have q77:=f_r15960.2 (q76.1)
         have q78:=f_r15954.2 (q77.1)
         have q79:=f_r15948.2 (q78.1)
         have q80:=f_r15944.2 (q79.1)
         (repeat refine MT.say ?_);exact(MT.ret ⟨(fun _=>trivial),(fun h_=>⟨(by first|assumption|omega),(by simpa using h_),trivial⟩)⟩)
       ·intro r15968 h15969 f_r15968
        refine MT.say (MT.ite (fun c15971=>?_) (fun c15971=>?_))
        ·(repeat refine MT.say ?_);exact MT.any
        ·have q81:=f_r15968.2 (c15971)
         have q82:=f_r15964.2 (q81.1)
         have q83:=f_r15960.2 (q82.1)
         have q84:=f_r15954.2 (q83.1)
         have q85:=f_r15948.2 (q84.1)
         have q86:=f_r15944.2 (q85.1)
         refine MT.say (MT.jE (R:=Any) ?_ ?_ ?_)
         ·refine T.cnt (fun _=>True) ?_
          intro k87 hk87
          show MT (Ih (kX n_) p_a p_b ((k87:Nat):Int)) _
          refine MT.say (MT.ite (fun c16017=>?_) (fun c16017=>?_))
          ·have c16017':=of_decide_eq_true c16017
           refine MT.say (MT.ask (dF p_a.bM ((k87:Nat):Int) (by omega) (by omega)) (fun x16018 _ hx88=>?_))
           have:=pI hx88
           have:=gK x16018
           refine MT.say (MT.ask (dF p_b.bM ((k87:Nat):Int) (by omega) (by omega)) (fun x16020 _ hx89=>?_))
           have:=pI hx89
           have:=gK x16020
           refine MT.say (MT.ask (R:=Any) ?_ ?_)
           ·exact(ih x16018 x16020 (by omega) (by first|omega|(simp;done)|decide) (by first|omega|(simp;done)|decide))
           ·intro r16022 h16023 _
            refine MT.say (MT.ite (fun c16024=>?_) (fun c16024=>?_))
            ·(repeat refine MT.say ?_);exact(MT.ret trivial)
            ·(repeat refine MT.say ?_);exact(MT.ret ⟨rfl,by omega⟩)
          ·have c16017':=of_decide_eq_false c16017
           (repeat refine MT.say ?_);exact(MT.ret trivial)
         ·intro o16027 h16026 _
          (repeat refine MT.say ?_);exact MT.any
         ·intro o16028 h16026 _
          (repeat refine MT.say ?_);exact MT.any
theorem LJ(p_a:aO)(p_b:aO)(h_p_a:aP p_a.lf1≤100000000)(h_p_b:aP p_b.lf1≤100000000):Tot (Q25 p_a p_b) Any:=Fp FU p_a p_b (by have:=gX;omega) h_p_a h_p_b
theorem LK(p_p:aN)(h_p_p:aP p_p.lf1≤100000000):Tot (Q32 p_p) Any:=by
 have:=iC p_p
 have:=dM p_p.cZ
 have:=bQ p_p.fArg
 have:=fG p_p.fArgs
 have:=kE p_p.dO
 have:=lg p_p.dO.cO
 have:=gK p_p.fExpr
 have:=lq p_p.bM
 show MT (ajL p_p) Any
 repeat' (first|exact MT.any|refine MT.say ?_|refine MT.ite (fun _=>?_) (fun _=>?_)|refine MT.sF ?_ (fun _ _=>?_)|exact⟨T.wk (mP _ _ (by first|omega|decide) (by first|omega|decide))⟩|exact⟨T.wk (LJ _ _ (by first|omega|decide) (by first|omega|decide))⟩|refine⟨(show MT _ Any from ?_)⟩)
theorem uP(p_x:aQ)(h_p_x:aP p_x.lf1≤100000000):Tot (Q97 p_x) Any:=by
 have:=iE p_x
 have:=ni p_x.fJ
 have:=iC p_x.bF
 show MT (ajM p_x) Any
 refine MT.ask (R:=Any) ?_ ?_
 ·exact T.wk (T.val (lS p_x.fName))
 ·intro r14024 h14025 _
  refine MT.say (MT.ite (fun c14027=>?_) (fun c14027=>?_))
  ·(repeat refine MT.say ?_);exact MT.any
  ·refine MT.say (MT.ask (R:=fun b_=>(b_=true→True)∧(b_=false→¬((p_x.au:Int)<1)∧¬((3:Int)<p_x.au)∧True)) ?_ ?_)
   ·show MT (OW p_x) _
    refine MT.ite (fun c14029=>?_) (fun c14029=>?_)
    ·have c14029':=of_decide_eq_true c14029
     (repeat refine MT.say ?_);exact(MT.ret ⟨(fun _=>trivial),(fun h_=>by cases h_)⟩)
    ·have c14029':=of_decide_eq_false c14029
     (repeat refine MT.say ?_);exact(MT.ret ⟨(fun _=>trivial),(fun h_=>⟨(by first|assumption|omega),(of_decide_eq_false h_),trivial⟩)⟩)
   ·intro r14031 h14032 f_r14031
    refine MT.say (MT.ite (fun c14034=>?_) (fun c14034=>?_))
    ·(repeat refine MT.say ?_);exact MT.any
    ·have q90:=f_r14031.2 (c14034)
     refine MT.say (MT.ask (R:=Any) ?_ ?_)
     ·exact T.wk (EZ p_x.fJ (by first|omega|(simp;done)|decide))
     ·intro r14274 h14275 _
      refine MT.say (MT.ite (fun c14277=>?_) (fun c14277=>?_))
      ·have c14277':¬(r14274=0):=by simpa using c14277
       (repeat refine MT.say ?_);exact MT.any
      ·have c14277':r14274=0:=by simpa using c14277
       refine MT.say (MT.ask (R:=fun b_=>(b_=true→True)∧(b_=false→¬((p_x.fJ.length:Int)=0)∧True)) ?_ ?_)
       ·show MT (OX p_x) _
        refine MT.say (MT.ite (fun c14284=>?_) (fun c14284=>?_))
        ·have c14284':(p_x.fJ.length:Int)=0:=by simpa using c14284
         (repeat refine MT.say ?_);exact(MT.ret ⟨(fun _=>trivial),(fun h_=>by cases h_)⟩)
        ·have c14284':¬((p_x.fJ.length:Int)=0):=by simpa using c14284
         refine MT.say (MT.ite (fun c14285=>?_) (fun c14285=>?_))
         ·have c14285':¬(p_x.au=1):=by simpa using c14285
          refine MT.say (MT.ite (fun c14286=>?_) (fun c14286=>?_))
          ·have c14286':=of_decide_eq_true c14286
           (repeat refine MT.say ?_);exact(MT.ret ⟨(fun _=>trivial),(fun h_=>by cases h_)⟩)
          ·have c14286':=of_decide_eq_false c14286
           refine MT.say (MT.ask (dF p_x.fJ 0 (by omega) (by omega)) (fun x14287 _ hx91=>?_))
           have:=mV hx91
           have:=kD x14287
           refine MT.say (MT.ite (fun c14289=>?_) (fun c14289=>?_))
           ·(repeat refine MT.say ?_);exact(MT.ret ⟨(fun _=>trivial),(fun h_=>by cases h_)⟩)
           ·(repeat refine MT.say ?_);exact(MT.ret ⟨(fun _=>trivial),(fun h_=>⟨(by first|assumption|omega),trivial⟩)⟩)
         ·have c14285':p_x.au=1:=by simpa using c14285
          (repeat refine MT.say ?_);exact(MT.ret ⟨(fun h_=>by cases h_),(fun h_=>⟨(by first|assumption|omega),trivial⟩)⟩)
       ·intro r14291 h14292 f_r14291
        refine MT.say (MT.ite (fun c14294=>?_) (fun c14294=>?_))
        ·(repeat refine MT.say ?_);exact MT.any
        ·have q92:=f_r14291.2 (c14294)
         refine MT.say (MT.ite (fun c15820=>?_) (fun c15820=>?_))
         ·refine MT.say (MT.ask (R:=Any) ?_ ?_)
          ·exact T.wk (Fj p_x.bF (by first|omega|(simp;done)|decide))
          ·intro r15823 h15824 _
           (repeat refine MT.say ?_);exact MT.any
         ·refine MT.say (MT.ask (R:=Any) ?_ ?_)
          ·exact T.wk (LK p_x.bF (by first|omega|(simp;done)|decide))
          ·intro r16044 h16045 _
           refine MT.say (MT.ite (fun c16047=>?_) (fun c16047=>?_))
           ·(repeat refine MT.say ?_);exact MT.any
           ·(repeat refine MT.say ?_);exact MT.any
theorem Ug(p_l:List aQ)(p_name:ByteArray)(h_p_l:bK (p_l.map aQ.lf)≤100000000)(h_p_name:p_name.size≤100000000):Tot (aof p_l p_name) Any:=by
 have:=lN p_l
 show MT (afi p_l p_name) Any
 refine MT.jE (R:=Any) ?_ ?_ ?_
 ·refine T.cnt (fun _=>True) ?_
  intro k93 hk93
  show MT (Ii p_l p_name ((k93:Nat):Int)) _
  refine MT.say (MT.ite (fun c16084=>?_) (fun c16084=>?_))
  ·have c16084':=of_decide_eq_true c16084
   refine MT.say (MT.ask (dF p_l ((k93:Nat):Int) (by omega) (by omega)) (fun x16085 _ hx94=>?_))
   have:=pJ hx94
   have:=iE x16085
   refine MT.say (MT.ite (fun c16087=>?_) (fun c16087=>?_))
   ·(repeat refine MT.say ?_);exact(MT.ret trivial)
   ·(repeat refine MT.say ?_);exact(MT.ret ⟨rfl,by omega⟩)
  ·have c16084':=of_decide_eq_false c16084
   (repeat refine MT.say ?_);exact(MT.ret trivial)
 ·intro o16091 h16090 _
  (repeat refine MT.say ?_);exact MT.any
 ·intro o16092 h16090 _
  (repeat refine MT.say ?_);exact MT.any
theorem nX(p_l:List ByteArray)(h_p_l:bK (p_l.map lfS)≤100000000):Tot (aog p_l) Any:=by
 have:=dM p_l
 show MT (afj p_l) Any
 refine MT.jE (R:=Any) ?_ ?_ ?_
 ·refine T.cnt (fun _=>True) ?_
  intro k95 hk95
  show MT (Ij p_l ((k95:Nat):Int)) _
  refine MT.say (MT.ite (fun c16369=>?_) (fun c16369=>?_))
  ·have c16369':=of_decide_eq_true c16369
   refine MT.say (MT.ask (dF p_l ((k95:Nat):Int) (by omega) (by omega)) (fun x16370 _ hx96=>?_))
   have:=lH hx96
   refine MT.say (MT.ask (R:=Any) ?_ ?_)
   ·exact T.wk (T.val (lS x16370))
   ·intro r16372 h16373 _
    refine MT.say (MT.ite (fun c16374=>?_) (fun c16374=>?_))
    ·(repeat refine MT.say ?_);exact(MT.ret trivial)
    ·refine MT.say (MT.jE (R:=Any) ?_ ?_ ?_)
     ·refine T.cnt (fun _=>True) ?_
      intro k97 hk97
      show MT (yc p_l ((k95:Nat):Int) ((k97:Nat):Int)) _
      refine MT.ite (fun c16382=>?_) (fun c16382=>?_)
      ·have c16382':=of_decide_eq_true c16382
       refine MT.say (MT.ask (dF p_l ((k97:Nat):Int) (by omega) (by omega)) (fun x16383 _ hx98=>?_))
       have:=lH hx98
       refine MT.say (MT.ask (dF p_l ((k95:Nat):Int) (by omega) (by omega)) (fun x16385 _ hx99=>?_))
       have:=lH hx99
       refine MT.say (MT.ite (fun c16387=>?_) (fun c16387=>?_))
       ·(repeat refine MT.say ?_);exact(MT.ret trivial)
       ·(repeat refine MT.say ?_);exact(MT.ret ⟨rfl,by omega⟩)
      ·have c16382':=of_decide_eq_false c16382
       (repeat refine MT.say ?_);exact(MT.ret trivial)
     ·intro o16390 h16389 _
      (repeat refine MT.say ?_);exact(MT.ret trivial)
     ·intro o16391 h16389 _
      (repeat refine MT.say ?_);exact(MT.ret ⟨rfl,by omega⟩)
  ·have c16369':=of_decide_eq_false c16369
   (repeat refine MT.say ?_);exact(MT.ret trivial)
 ·intro o16394 h16393 _
  (repeat refine MT.say ?_);exact MT.any
 ·intro o16395 h16393 _
  (repeat refine MT.say ?_);exact MT.any
theorem sO(p_has:Bool)(p_v:ah)(h_p_v:aP p_v.lf1≤100000000):Tot (Q92 p_has p_v) Any:=by
 have:=bQ p_v
 show MT (ajN p_has p_v) Any
 repeat' (first|exact MT.any|refine MT.say ?_|refine MT.ite (fun _=>?_) (fun _=>?_)|refine MT.sF ?_ (fun _ _=>?_)|exact⟨T.wk (mP _ _ (by first|omega|decide) (by first|omega|decide))⟩|exact⟨T.wk (kH _ (by first|omega|decide))⟩|refine⟨(show MT _ Any from ?_)⟩)
theorem Eu(p_s:aH)(h_p_s:aP p_s.lf1≤100000000):Tot (Q11 p_s) Any:=by
 have:=gQ p_s
 have:=bQ p_s.jK
 have:=bQ p_s.jL
 have:=fG p_s.jS
 have:=dM p_s.eY
 have:=mQ p_s.dR
 have:=lQ p_s.fB
 show MT (ajO p_s) Any
 refine MT.say (MT.ask (R:=fun r_:List ByteArray=>bK (r_.map lfS)≤100000000) (EY p_s (by omega)) (fun r16236 _ r16236'=>?_))
 refine MT.say (MT.ask (R:=Any) ?_ ?_)
 ·show MT (OY p_s r16236) Any
  refine MT.ask (R:=Any) ?_ ?_
  ·exact T.wk (nX p_s.eY (by first|omega|(simp;done)|decide))
  ·intro r16401 h16402 _
   refine MT.say (MT.ite (fun c16403=>?_) (fun c16403=>?_))
   ·(repeat refine MT.say ?_);exact MT.any
   ·refine MT.say (MT.ask (R:=Any) ?_ ?_)
    ·exact T.wk (nX r16236 (by first|omega|(simp;done)|decide))
    ·intro r16404 h16405 _
     (repeat refine MT.say ?_);exact MT.any
 ·intro r16408 h16409 _
  refine MT.say (MT.ite (fun c16411=>?_) (fun c16411=>?_))
  ·(repeat refine MT.say ?_);exact MT.any
  ·refine MT.say (MT.ask (R:=fun b_=>(b_=true→True)∧(b_=false→¬((p_s.ji:Int)<0)∧¬((Int.tmod p_s.ji 2)=1)∧True)) ?_ ?_)
   ·show MT (Ik p_s) _
    refine MT.ite (fun c16432=>?_) (fun c16432=>?_)
    ·have c16432':=of_decide_eq_true c16432
     (repeat refine MT.say ?_);exact(MT.ret ⟨(fun _=>trivial),(fun h_=>by cases h_)⟩)
    ·have c16432':=of_decide_eq_false c16432
     (repeat refine MT.say ?_);exact(MT.ret ⟨(fun _=>trivial),(fun h_=>⟨(by first|assumption|omega),(by simpa using h_),trivial⟩)⟩)
   ·intro r16434 h16435 f_r16434
    refine MT.say (MT.ask (R:=fun b_=>(b_=true→True)∧(b_=false→r16434=false∧¬((4096:Int)≤p_s.ji)∧True)) ?_ ?_)
    ·show MT (Il p_s r16434) _
     refine MT.ite (fun c16436=>?_) (fun c16436=>?_)
     ·(repeat refine MT.say ?_);exact(MT.ret ⟨(fun _=>trivial),(fun h_=>by cases h_)⟩)
     ·have q100:=f_r16434.2 (c16436)
      (repeat refine MT.say ?_);exact(MT.ret ⟨(fun _=>trivial),(fun h_=>⟨(by first|assumption|omega),(of_decide_eq_false h_),trivial⟩)⟩)
    ·intro r16438 h16439 f_r16438
     refine MT.say (MT.ask (R:=fun b_=>(b_=true→True)∧(b_=false→r16438=false∧¬((p_s.jo:Int)<0)∧True)) ?_ ?_)
     ·show MT (Io p_s r16438) _
      refine MT.ite (fun c16440=>?_) (fun c16440=>?_)
      ·(repeat refine MT.say ?_);exact(MT.ret ⟨(fun _=>trivial),(fun h_=>by cases h_)⟩)
      ·have q101:=f_r16438.2 (c16440)
       have q102:=f_r16434.2 (q101.1)
       (repeat refine MT.say ?_);exact(MT.ret ⟨(fun _=>trivial),(fun h_=>⟨(by first|assumption|omega),(of_decide_eq_false h_),trivial⟩)⟩)
     ·intro r16442 h16443 f_r16442
      refine MT.say (MT.ask (R:=fun b_=>(b_=true→True)∧(b_=false→r16442=false∧¬((p_s.jq:Int)<(-1))∧True)) ?_ ?_)
      ·show MT (Ip p_s r16442) _
       refine MT.ite (fun c16444=>?_) (fun c16444=>?_)
       ·(repeat refine MT.say ?_);exact(MT.ret ⟨(fun _=>trivial),(fun h_=>by cases h_)⟩)
       ·have q103:=f_r16442.2 (c16444)
        have q104:=f_r16438.2 (q103.1)
        have q105:=f_r16434.2 (q104.1)
        (repeat refine MT.say ?_);exact(MT.ret ⟨(fun _=>trivial),(fun h_=>⟨(by first|assumption|omega),(of_decide_eq_false h_),trivial⟩)⟩)
      ·intro r16446 h16447 f_r16446
       refine MT.say (MT.ask (R:=fun b_=>(b_=true→True)∧(b_=false→r16446=false∧¬((1:Int)<(p_s.fB.length:Int))∧True)) ?_ ?_)
       ·show MT (Iq p_s r16446) _
        refine MT.ite (fun c16448=>?_) (fun c16448=>?_)
        ·(repeat refine MT.say ?_);exact(MT.ret ⟨(fun _=>trivial),(fun h_=>by cases h_)⟩)
        ·have q106:=f_r16446.2 (c16448)
         have q107:=f_r16442.2 (q106.1)
         have q108:=f_r16438.2 (q107.1)
         have q109:=f_r16434.2 (q108.1)
         (repeat refine MT.say ?_);exact(MT.ret ⟨(fun _=>trivial),(fun h_=>⟨(by first|assumption|omega),(of_decide_eq_false h_),trivial⟩)⟩)
       ·intro r16450 h16451 f_r16450
        refine MT.say (MT.ite (fun c16453=>?_) (fun c16453=>?_))
        ·(repeat refine MT.say ?_);exact MT.any
        ·have q110:=f_r16450.2 (c16453)
         have q111:=f_r16446.2 (q110.1)
         have q112:=f_r16442.2 (q111.1)
         have q113:=f_r16438.2 (q112.1)
         have q114:=f_r16434.2 (q113.1)
         refine MT.say (MT.ask (R:=Any) ?_ ?_)
         ·show MT (Ir p_s) Any
          refine MT.ask (R:=Any) ?_ ?_
          ·exact T.wk (sO p_s.jl p_s.jK (by first|omega|(simp;done)|decide))
          ·intro r16477 h16478 _
           refine MT.say (MT.ite (fun c16479=>?_) (fun c16479=>?_))
           ·(repeat refine MT.say ?_);exact MT.any
           ·refine MT.say (MT.ask (R:=Any) ?_ ?_)
            ·exact T.wk (sO p_s.jm p_s.jL (by first|omega|(simp;done)|decide))
            ·intro r16480 h16481 _
             (repeat refine MT.say ?_);exact MT.any
         ·intro r16483 h16484 _
          refine MT.say (MT.ite (fun c16486=>?_) (fun c16486=>?_))
          ·(repeat refine MT.say ?_);exact MT.any
          ·refine MT.say (MT.jE (R:=Any) ?_ ?_ ?_)
           ·refine T.cnt (fun _=>True) ?_
            intro k115 hk115
            show MT (Iu p_s ((k115:Nat):Int)) _
            refine MT.say (MT.ite (fun c16522=>?_) (fun c16522=>?_))
            ·have c16522':=of_decide_eq_true c16522
             refine MT.say (MT.ask (dF p_s.jS ((k115:Nat):Int) (by omega) (by omega)) (fun x16523 _ hx116=>?_))
             have:=iK hx116
             have:=bQ x16523
             refine MT.say (MT.ask (R:=Any) ?_ ?_)
             ·exact T.wk (kH x16523 (by first|omega|(simp;done)|decide))
             ·intro r16525 h16526 _
              refine MT.say (MT.ite (fun c16527=>?_) (fun c16527=>?_))
              ·(repeat refine MT.say ?_);exact(MT.ret trivial)
              ·(repeat refine MT.say ?_);exact(MT.ret ⟨rfl,by omega⟩)
            ·have c16522':=of_decide_eq_false c16522
             (repeat refine MT.say ?_);exact(MT.ret trivial)
           ·intro o16530 h16529 _
            (repeat refine MT.say ?_);exact MT.any
           ·intro o16531 h16529 _
            (repeat refine MT.say ?_);exact MT.any
theorem Ew(n_:Nat):∀(p_s:aH) (p_number:Int) (p_level:Int),aP p_s.lf1<n_→aP p_s.lf1≤100000000→Tot ((qK n_).m1 p_s p_number p_level) Any:=by
 induction n_ with
 |zero=>intro p_s p_number p_level h;omega
 |succ n_ ih=>
  intro p_s p_number p_level h_ h_p_s
  have:=gQ p_s
  have:=mQ p_s.dR
  have:=lQ p_s.fB
  show MT (afn (qK n_) p_s p_number p_level) Any
  refine MT.ask (R:=fun b_=>(b_=true→True)∧(b_=false→¬((16:Int)<p_level)∧¬((64:Int)<p_number)∧True)) ?_ ?_
  ·show MT (OZ (qK n_) p_level p_number p_s) _
   refine MT.ite (fun c16181=>?_) (fun c16181=>?_)
   ·have c16181':=of_decide_eq_true c16181
    (repeat refine MT.say ?_);exact(MT.ret ⟨(fun _=>trivial),(fun h_=>by cases h_)⟩)
   ·have c16181':=of_decide_eq_false c16181
    (repeat refine MT.say ?_);exact(MT.ret ⟨(fun _=>trivial),(fun h_=>⟨(by first|assumption|omega),(of_decide_eq_false h_),trivial⟩)⟩)
  ·intro r16183 h16184 f_r16183
   refine MT.say (MT.ite (fun c16186=>?_) (fun c16186=>?_))
   ·(repeat refine MT.say ?_);exact MT.any
   ·have q117:=f_r16183.2 (c16186)
    refine MT.say (MT.ask (R:=Any) ?_ ?_)
    ·exact T.wk (Eu p_s (by first|omega|(simp;done)|decide))
    ·intro r16534 h16535 _
     refine MT.say (MT.ite (fun c16537=>?_) (fun c16537=>?_))
     ·have c16537':¬(r16534=0):=by simpa using c16537
      (repeat refine MT.say ?_);exact MT.any
     ·have c16537':r16534=0:=by simpa using c16537
      refine MT.say (MT.jE (R:=Any) ?_ ?_ ?_)
      ·refine T.amF (fun _=>True) ?_
       intro v16606 k118 hk118
       show MT (Iw (qK n_) p_level p_s (v16606,((k118:Nat):Int))) _
       refine MT.say (MT.ite (fun c16608=>?_) (fun c16608=>?_))
       ·have c16608':=of_decide_eq_true c16608
        rw[w64 (by omega) (by omega)] at c16608'
        refine MT.say (MT.ask (R:=fun b_=>aP b_.lf1<n_∧aP b_.lf1≤100000000) ?_ (fun r16615 _ f_r16615=>?_))
        ·show MT (O1 (qK n_) p_level p_s v16606 ((k118:Nat):Int)) _
         refine MT.ite (fun c16609=>?_) (fun c16609=>?_)
         ·have c16609':=of_decide_eq_true c16609
          refine MT.say (MT.ask (dF p_s.dR ((k118:Nat):Int) (by omega) (by omega)) (fun x16610 _ hx119=>?_))
          have:=yh hx119
          have:=pG x16610
          have:=gQ x16610.bC
          (repeat refine MT.say ?_);exact(MT.ret ⟨by omega,by omega⟩)
         ·have c16609':=of_decide_eq_false c16609
          refine MT.say (MT.ask (dF p_s.fB (IntKind.wrap .i64 (((k118:Nat):Int)-(p_s.dR.length:Int))) (by rw[w64 (by omega) (by omega)];omega) (by rw[w64 (by omega) (by omega)];omega)) (fun x16612 _ hx120=>?_))
          have:=qL hx120
          have:=gQ x16612
          (repeat refine MT.say ?_);exact(MT.ret ⟨by omega,by omega⟩)
        ·have f_r16615':=f_r16615.1
         have f_r16615'':=f_r16615.2
         refine MT.say (MT.ask (R:=Any) ?_ ?_)
         ·exact(ih r16615 (IntKind.wrap .i64 (v16606+1)) (IntKind.wrap .i64 (p_level+1)) (by omega) (by first|omega|(simp;done)|decide))
         ·intro r16617 h16618 _
          refine MT.say (MT.ite (fun c16619=>?_) (fun c16619=>?_))
          ·have c16619':¬(r16617.2=0):=by simpa using c16619
           (repeat refine MT.say ?_);exact(MT.ret trivial)
          ·have c16619':r16617.2=0:=by simpa using c16619
           (repeat refine MT.say ?_);exact(MT.ret ⟨rfl,by omega⟩)
       ·have c16608':=of_decide_eq_false c16608
        rw[w64 (by omega) (by omega)] at c16608'
        (repeat refine MT.say ?_);exact(MT.ret trivial)
      ·intro o16628 h16627 _
       (repeat refine MT.say ?_);exact MT.any
      ·intro o16629 h16627 _
       (repeat refine MT.say ?_);exact MT.any
theorem Fq(p_s:aH)(p_number:Int)(p_level:Int)(h_p_s:aP p_s.lf1≤100000000):Tot (Q61 p_s p_number p_level) Any:=Ew FU p_s p_number p_level (by have:=gX;omega) h_p_s
theorem Fv(p_s:aH)(h_p_s:aP p_s.lf1≤100000000):Tot (aoh p_s) Any:=by
 have:=gQ p_s
 show MT (afo p_s) Any
 repeat' (first|exact MT.any|refine MT.say ?_|refine MT.ite (fun _=>?_) (fun _=>?_)|refine MT.sF ?_ (fun _ _=>?_)|exact⟨T.wk (Fq _ _ _ (by first|omega|decide))⟩)
theorem Fz(p_d:bU)(h_p_d:aP p_d.lf1≤100000000):Tot (Q78 p_d) Any:=by
 have:=kY p_d
 have:=lN p_d.dw
 have:=gQ p_d.bC
 show MT (ajP p_d) Any
 refine MT.ask (R:=Any) ?_ ?_
 ·exact T.wk (T.val (lS p_d.fName))
 ·intro r14012 h14013 _
  refine MT.say (MT.ite (fun c14015=>?_) (fun c14015=>?_))
  ·(repeat refine MT.say ?_);exact MT.any
  ·refine MT.say (MT.ite (fun c14017=>?_) (fun c14017=>?_))
   ·have c14017':=of_decide_eq_true c14017
    (repeat refine MT.say ?_);exact MT.any
   ·have c14017':=of_decide_eq_false c14017
    refine MT.say (MT.jE (R:=Any) ?_ ?_ ?_)
    ·refine T.cnt (fun _=>True) ?_
     intro k121 hk121
     show MT (O4 p_d ((k121:Nat):Int)) _
     refine MT.say (MT.ite (fun c16142=>?_) (fun c16142=>?_))
     ·have c16142':=of_decide_eq_true c16142
      refine MT.say (MT.ask (dF p_d.dw ((k121:Nat):Int) (by omega) (by omega)) (fun x16143 _ hx122=>?_))
      have:=pJ hx122
      have:=iE x16143
      refine MT.say (MT.ask (R:=Any) ?_ ?_)
      ·exact T.wk (uP x16143 (by first|omega|(simp;done)|decide))
      ·intro r16145 h16146 _
       refine MT.say (MT.ite (fun c16147=>?_) (fun c16147=>?_))
       ·have c16147':¬(r16145=0):=by simpa using c16147
        (repeat refine MT.say ?_);exact(MT.ret trivial)
       ·have c16147':r16145=0:=by simpa using c16147
        refine MT.say (MT.ask (dF p_d.dw ((k121:Nat):Int) (by omega) (by omega)) (fun x16148 _ hx123=>?_))
        have:=pJ hx123
        have:=iE x16148
        refine MT.say (MT.ask (R:=Any) ?_ ?_)
        ·exact T.wk (Ug p_d.dw x16148.fName (by first|omega|(simp;done)|decide) (by first|omega|(simp;done)|decide))
        ·intro r16150 h16151 _
         refine MT.say (MT.ite (fun c16152=>?_) (fun c16152=>?_))
         ·have c16152':¬(r16150=((k121:Nat):Int)):=by simpa using c16152
          (repeat refine MT.say ?_);exact(MT.ret trivial)
         ·have c16152':r16150=((k121:Nat):Int):=by simpa using c16152
          (repeat refine MT.say ?_);exact(MT.ret ⟨rfl,by omega⟩)
     ·have c16142':=of_decide_eq_false c16142
      (repeat refine MT.say ?_);exact(MT.ret trivial)
    ·intro o16158 h16157 _
     (repeat refine MT.say ?_);exact MT.any
    ·intro o16159 h16157 _
     refine MT.say (MT.ask (R:=fun b_=>(b_=true→True)∧(b_=false→¬((p_d.ku:Int)<0)∧¬((2:Int)<p_d.ku)∧True)) ?_ ?_)
     ·show MT (O5 p_d) _
      refine MT.ite (fun c16169=>?_) (fun c16169=>?_)
      ·have c16169':=of_decide_eq_true c16169
       (repeat refine MT.say ?_);exact(MT.ret ⟨(fun _=>trivial),(fun h_=>by cases h_)⟩)
      ·have c16169':=of_decide_eq_false c16169
       (repeat refine MT.say ?_);exact(MT.ret ⟨(fun _=>trivial),(fun h_=>⟨(by first|assumption|omega),(of_decide_eq_false h_),trivial⟩)⟩)
     ·intro r16171 h16172 f_r16171
      refine MT.say (MT.ask (R:=fun b_=>(b_=true→True)∧(b_=false→r16171=false∧True)) ?_ ?_)
      ·show MT (Iy p_d r16171) _
       refine MT.ite (fun c16173=>?_) (fun c16173=>?_)
       ·(repeat refine MT.say ?_);exact(MT.ret ⟨(fun _=>trivial),(fun h_=>by cases h_)⟩)
       ·have q124:=f_r16171.2 (c16173)
        refine MT.say (MT.ite (fun c16174=>?_) (fun c16174=>?_))
        ·have c16174':¬(p_d.jr=0):=by simpa using c16174
         (repeat refine MT.say ?_);exact(MT.ret ⟨(fun _=>trivial),(fun h_=>⟨(by first|assumption|omega),trivial⟩)⟩)
        ·have c16174':p_d.jr=0:=by simpa using c16174
         (repeat refine MT.say ?_);exact(MT.ret ⟨(fun h_=>by cases h_),(fun h_=>⟨(by first|assumption|omega),trivial⟩)⟩)
      ·intro r16176 h16177 f_r16176
       refine MT.say (MT.ite (fun c16179=>?_) (fun c16179=>?_))
       ·(repeat refine MT.say ?_);exact MT.any
       ·have q125:=f_r16176.2 (c16179)
        have q126:=f_r16171.2 (q125.1)
        refine MT.say (MT.ask (R:=Any) ?_ ?_)
        ·exact T.wk (Fv p_d.bC (by first|omega|(simp;done)|decide))
        ·intro r16634 h16635 _
         (repeat refine MT.say ?_);exact MT.any
theorem Ey(p_kind:Int):Tot (al7 p_kind) Any:=by
 show MT (Tq p_kind) Any
 repeat' (first|exact MT.any|refine MT.say ?_|refine MT.ite (fun _=>?_) (fun _=>?_))
theorem sQ(p_kind:Int):Tot (al8 p_kind) Any:=by
 show MT (aey p_kind) Any
 repeat' (first|exact MT.any|refine MT.say ?_|refine MT.ite (fun _=>?_) (fun _=>?_)|refine MT.sF ?_ (fun _ _=>?_)|exact⟨T.wk (Ey _)⟩)
theorem nD(p_kind:Int):Tot (aez p_kind) Any:=by
 show MT (Tt p_kind) Any
 repeat' (first|exact MT.any|refine MT.say ?_|refine MT.ite (fun _=>?_) (fun _=>?_))
theorem uQ(p_kind:Int):Tot (amb p_kind) Any:=by
 show MT (Tv p_kind) Any
 repeat' (first|exact MT.any|refine MT.say ?_|refine MT.ite (fun _=>?_) (fun _=>?_))
theorem l9(p_kind:Int):Tot (anX p_kind) Any:=by
 show MT (aeC p_kind) Any
 repeat' (first|exact MT.any|refine MT.say ?_|refine MT.ite (fun _=>?_) (fun _=>?_))
theorem Ez(p_w:ak)(h_p_w:aP p_w.lf1≤100000000):Tot (Q7 p_w) Any:=by
 have:=fK p_w
 have:=bQ p_w.fO
 have:=bQ p_w.aT
 have:=bQ p_w.dG
 have:=kY p_w.dh
 have:=iE p_w.bf
 have:=iM p_w.aY
 have:=ny p_w.dK
 show MT (amc p_w) Any
 refine MT.ask (R:=fun b_=>aP b_.lf1≤100000000) ?_ (fun r12448 _ f_r12448=>?_)
 ·show MT (VX p_w) _
  refine MT.ite (fun c12446=>?_) (fun c12446=>?_)
  ·have c12446':p_w.au=7:=by simpa using c12446
   (repeat refine MT.say ?_);exact(MT.ret (by first|omega|(refine Nat.le_trans (Ej _) ?_;omega)))
  ·have c12446':¬(p_w.au=7):=by simpa using c12446
   (repeat refine MT.say ?_);exact(MT.ret (by first|omega|(refine Nat.le_trans (Ej _) ?_;omega)))
 ·have f_r12448':=f_r12448
  refine MT.say (MT.ask (R:=Any) ?_ ?_)
  ·show MT (VY p_w r12448) Any
   refine MT.ask (R:=Any) ?_ ?_
   ·exact T.wk (sQ p_w.au )
   ·intro r12454 h12455 _
    refine MT.say (MT.ite (fun c12456=>?_) (fun c12456=>?_))
    ·(repeat refine MT.say ?_);exact MT.any
    ·(repeat refine MT.say ?_);exact MT.any
  ·intro r12458 h12459 _
   refine MT.say (MT.ask (R:=fun b_=>(b_=true→r12458=true∧True)∧(b_=false→True)) ?_ ?_)
   ·show MT (N8 p_w r12448 r12458) _
    refine MT.ite (fun c12460=>?_) (fun c12460=>?_)
    ·refine MT.say (MT.ask (R:=Any) ?_ ?_)
     ·exact T.wk (nD p_w.au )
     ·intro r12462 h12463 _
      refine MT.say (MT.ite (fun c12464=>?_) (fun c12464=>?_))
      ·(repeat refine MT.say ?_);exact(MT.ret ⟨(fun h_=>⟨(by first|assumption|omega),trivial⟩),(fun h_=>by cases h_)⟩)
      ·refine MT.say (MT.ask (R:=Any) ?_ ?_)
       ·exact T.wk (T.val (kG p_w.fO))
       ·intro r12465 h12466 _
        refine MT.say (MT.ite (fun c12467=>?_) (fun c12467=>?_))
        ·refine MT.say (MT.ask (R:=Any) ?_ ?_)
         ·exact T.wk (T.val (kG p_w.dG))
         ·intro r12468 h12469 _
          refine MT.say (MT.ite (fun c12470=>?_) (fun c12470=>?_))
          ·(repeat refine MT.say ?_);exact(MT.ret ⟨(fun h_=>⟨(by first|assumption|omega),trivial⟩),(fun _=>trivial)⟩)
          ·(repeat refine MT.say ?_);exact(MT.ret ⟨(fun h_=>by cases h_),(fun _=>trivial)⟩)
        ·(repeat refine MT.say ?_);exact(MT.ret ⟨(fun h_=>by cases h_),(fun _=>trivial)⟩)
    ·(repeat refine MT.say ?_);exact(MT.ret ⟨(fun h_=>by cases h_),(fun _=>trivial)⟩)
   ·intro r12472 h12473 f_r12472
    refine MT.say (MT.ask (R:=fun b_=>(b_=true→r12472=true∧True)∧(b_=false→True)) ?_ ?_)
    ·show MT (N9 p_w r12448 r12472) _
     refine MT.ite (fun c12474=>?_) (fun c12474=>?_)
     ·have q127:=f_r12472.1 (c12474)
      refine MT.say (MT.ite (fun c12475=>?_) (fun c12475=>?_))
      ·have c12475':p_w.au=2:=by simpa using c12475
       (repeat refine MT.say ?_);exact(MT.ret ⟨(fun h_=>⟨(by first|assumption|omega),trivial⟩),(fun h_=>by cases h_)⟩)
      ·have c12475':¬(p_w.au=2):=by simpa using c12475
       refine MT.say (MT.ask (R:=Any) ?_ ?_)
       ·exact T.wk (T.val (kG p_w.aT))
       ·intro r12476 h12477 _
        (repeat refine MT.say ?_);exact(MT.ret ⟨(fun h_=>⟨(by first|assumption|omega),trivial⟩),(fun _=>trivial)⟩)
     ·(repeat refine MT.say ?_);exact(MT.ret ⟨(fun h_=>by cases h_),(fun _=>trivial)⟩)
    ·intro r12479 h12480 f_r12479
     refine MT.say (MT.ask (R:=fun b_=>(b_=true→r12479=true∧True)∧(b_=false→True)) ?_ ?_)
     ·show MT (Oa p_w r12448 r12479) _
      refine MT.ite (fun c12481=>?_) (fun c12481=>?_)
      ·have q128:=f_r12479.1 (c12481)
       have q129:=f_r12472.1 (q128.1)
       refine MT.say (MT.ite (fun c12482=>?_) (fun c12482=>?_))
       ·have c12482':p_w.au=4:=by simpa using c12482
        (repeat refine MT.say ?_);exact(MT.ret ⟨(fun h_=>⟨(by first|assumption|omega),trivial⟩),(fun h_=>by cases h_)⟩)
       ·have c12482':¬(p_w.au=4):=by simpa using c12482
        refine MT.say (MT.ask (R:=Any) ?_ ?_)
        ·exact T.wk (Qi p_w.dh (by first|omega|(simp;done)|decide))
        ·intro r12498 h12499 _
         (repeat refine MT.say ?_);exact(MT.ret ⟨(fun h_=>⟨(by first|assumption|omega),trivial⟩),(fun _=>trivial)⟩)
      ·(repeat refine MT.say ?_);exact(MT.ret ⟨(fun h_=>by cases h_),(fun _=>trivial)⟩)
     ·intro r12501 h12502 f_r12501
      refine MT.say (MT.ask (R:=fun b_=>(b_=true→r12501=true∧True)∧(b_=false→True)) ?_ ?_)
      ·show MT (Oc p_w r12448 r12501) _
       refine MT.ite (fun c12503=>?_) (fun c12503=>?_)
       ·have q130:=f_r12501.1 (c12503)
        have q131:=f_r12479.1 (q130.1)
        have q132:=f_r12472.1 (q131.1)
        refine MT.say (MT.ite (fun c12504=>?_) (fun c12504=>?_))
        ·have c12504':p_w.au=6:=by simpa using c12504
         (repeat refine MT.say ?_);exact(MT.ret ⟨(fun h_=>⟨(by first|assumption|omega),trivial⟩),(fun h_=>by cases h_)⟩)
        ·have c12504':¬(p_w.au=6):=by simpa using c12504
         refine MT.say (MT.ask (R:=Any) ?_ ?_)
         ·exact T.wk (Qj r12448 (by first|omega|(simp;done)|decide))
         ·intro r12513 h12514 _
          (repeat refine MT.say ?_);exact(MT.ret ⟨(fun h_=>⟨(by first|assumption|omega),trivial⟩),(fun _=>trivial)⟩)
       ·(repeat refine MT.say ?_);exact(MT.ret ⟨(fun h_=>by cases h_),(fun _=>trivial)⟩)
      ·intro r12519 h12520 f_r12519
       refine MT.say (MT.ask (R:=fun b_=>(b_=true→r12519=true∧True)∧(b_=false→True)) ?_ ?_)
       ·show MT (Oe p_w r12519) _
        refine MT.ite (fun c12521=>?_) (fun c12521=>?_)
        ·have q133:=f_r12519.1 (c12521)
         have q134:=f_r12501.1 (q133.1)
         have q135:=f_r12479.1 (q134.1)
         have q136:=f_r12472.1 (q135.1)
         refine MT.say (MT.ask (R:=Any) ?_ ?_)
         ·exact T.wk (l9 p_w.au )
         ·intro r12523 h12524 _
          refine MT.say (MT.ite (fun c12525=>?_) (fun c12525=>?_))
          ·(repeat refine MT.say ?_);exact(MT.ret ⟨(fun h_=>⟨(by first|assumption|omega),trivial⟩),(fun h_=>by cases h_)⟩)
          ·(repeat refine MT.say ?_);exact(MT.ret ⟨(fun h_=>⟨(by first|assumption|omega),trivial⟩),(fun _=>trivial)⟩)
        ·(repeat refine MT.say ?_);exact(MT.ret ⟨(fun h_=>by cases h_),(fun _=>trivial)⟩)
       ·intro r12527 h12528 f_r12527
        refine MT.say (MT.ask (R:=fun b_=>(b_=true→r12527=true∧True)∧(b_=false→True)) ?_ ?_)
        ·show MT (DK p_w r12527) _
         refine MT.ite (fun c12529=>?_) (fun c12529=>?_)
         ·have q137:=f_r12527.1 (c12529)
          have q138:=f_r12519.1 (q137.1)
          have q139:=f_r12501.1 (q138.1)
          have q140:=f_r12479.1 (q139.1)
          have q141:=f_r12472.1 (q140.1)
          refine MT.say (MT.ite (fun c12530=>?_) (fun c12530=>?_))
          ·have c12530':p_w.au=10:=by simpa using c12530
           (repeat refine MT.say ?_);exact(MT.ret ⟨(fun h_=>⟨(by first|assumption|omega),trivial⟩),(fun h_=>by cases h_)⟩)
          ·have c12530':¬(p_w.au=10):=by simpa using c12530
           refine MT.say (MT.ite (fun c12531=>?_) (fun c12531=>?_))
           ·have c12531':p_w.au=12:=by simpa using c12531
            (repeat refine MT.say ?_);exact(MT.ret ⟨(fun h_=>⟨(by first|assumption|omega),trivial⟩),(fun h_=>by cases h_)⟩)
           ·have c12531':¬(p_w.au=12):=by simpa using c12531
            (repeat refine MT.say ?_);exact(MT.ret ⟨(fun h_=>⟨(by first|assumption|omega),trivial⟩),(fun _=>trivial)⟩)
         ·(repeat refine MT.say ?_);exact(MT.ret ⟨(fun h_=>by cases h_),(fun _=>trivial)⟩)
        ·intro r12533 h12534 f_r12533
         refine MT.say (MT.ask (R:=fun b_=>(b_=true→r12533=true∧True)∧(b_=false→True)) ?_ ?_)
         ·show MT (DL p_w r12533) _
          refine MT.ite (fun c12535=>?_) (fun c12535=>?_)
          ·have q142:=f_r12533.1 (c12535)
           have q143:=f_r12527.1 (q142.1)
           have q144:=f_r12519.1 (q143.1)
           have q145:=f_r12501.1 (q144.1)
           have q146:=f_r12479.1 (q145.1)
           have q147:=f_r12472.1 (q146.1)
           refine MT.say (MT.ask (R:=Any) ?_ ?_)
           ·exact T.wk (uQ p_w.au )
           ·intro r12537 h12538 _
            refine MT.say (MT.ite (fun c12539=>?_) (fun c12539=>?_))
            ·(repeat refine MT.say ?_);exact(MT.ret ⟨(fun h_=>⟨(by first|assumption|omega),trivial⟩),(fun h_=>by cases h_)⟩)
            ·(repeat refine MT.say ?_);exact(MT.ret ⟨(fun h_=>⟨(by first|assumption|omega),trivial⟩),(fun _=>trivial)⟩)
          ·(repeat refine MT.say ?_);exact(MT.ret ⟨(fun h_=>by cases h_),(fun _=>trivial)⟩)
         ·intro r12541 h12542 f_r12541
          refine MT.say (MT.ask (R:=fun b_=>(b_=true→r12541=true∧True)∧(b_=false→True)) ?_ ?_)
          ·show MT (DN p_w r12541) _
           refine MT.ite (fun c12543=>?_) (fun c12543=>?_)
           ·have q148:=f_r12541.1 (c12543)
            have q149:=f_r12533.1 (q148.1)
            have q150:=f_r12527.1 (q149.1)
            have q151:=f_r12519.1 (q150.1)
            have q152:=f_r12501.1 (q151.1)
            have q153:=f_r12479.1 (q152.1)
            have q154:=f_r12472.1 (q153.1)
            refine MT.say (MT.ite (fun c12544=>?_) (fun c12544=>?_))
            ·have c12544':p_w.au=12:=by simpa using c12544
             (repeat refine MT.say ?_);exact(MT.ret ⟨(fun h_=>⟨(by first|assumption|omega),trivial⟩),(fun h_=>by cases h_)⟩)
            ·have c12544':¬(p_w.au=12):=by simpa using c12544
             (repeat refine MT.say ?_);exact(MT.ret ⟨(fun h_=>⟨(by first|assumption|omega),trivial⟩),(fun _=>trivial)⟩)
           ·(repeat refine MT.say ?_);exact(MT.ret ⟨(fun h_=>by cases h_),(fun _=>trivial)⟩)
          ·intro r12549 h12550 f_r12549
           refine MT.say (MT.ask (R:=Any) ?_ ?_)
           ·show MT (Og r12549) Any
            exact MT.any
           ·intro r12551 h12552 _
            (repeat refine MT.say ?_);exact MT.any
theorem EC(p_l:List Int)(h_p_l:bK (p_l.map lfI)≤100000000):Tot (anZ p_l) Any:=by
 have:=ny p_l
 show MT (aeD p_l) Any
 refine MT.jE (R:=Any) ?_ ?_ ?_
 ·refine T.cnt (fun _=>True) ?_
  intro k155 hk155
  show MT (G6 p_l ((k155:Nat):Int)) _
  refine MT.say (MT.ite (fun c12737=>?_) (fun c12737=>?_))
  ·have c12737':=of_decide_eq_true c12737
   refine MT.say (MT.ask (R:=Any) ?_ ?_)
   ·show MT (G5 p_l ((k155:Nat):Int)) Any
    refine MT.say (MT.ask (dF p_l ((k155:Nat):Int) (by omega) (by omega)) (fun x12738 _ hx156=>?_))
    refine MT.say (MT.ite (fun c12740=>?_) (fun c12740=>?_))
    ·have c12740':=of_decide_eq_true c12740
     (repeat refine MT.say ?_);exact MT.any
    ·have c12740':=of_decide_eq_false c12740
     refine MT.say (MT.ask (dF p_l ((k155:Nat):Int) (by omega) (by omega)) (fun x12741 _ hx157=>?_))
     refine MT.say (MT.ite (fun c12743=>?_) (fun c12743=>?_))
     ·have c12743':=of_decide_eq_true c12743
      (repeat refine MT.say ?_);exact MT.any
     ·have c12743':=of_decide_eq_false c12743
      refine MT.say (MT.ite (fun c12744=>?_) (fun c12744=>?_))
      ·have c12744':=of_decide_eq_true c12744
       refine MT.say (MT.ask (dF p_l (IntKind.wrap .i64 (((k155:Nat):Int)-1)) (by rw[w64 (by omega) (by omega)];omega) (by rw[w64 (by omega) (by omega)];omega)) (fun x12745 _ hx158=>?_))
       refine MT.say (MT.ask (dF p_l ((k155:Nat):Int) (by omega) (by omega)) (fun x12747 _ hx159=>?_))
       (repeat refine MT.say ?_);exact MT.any
      ·have c12744':=of_decide_eq_false c12744
       (repeat refine MT.say ?_);exact MT.any
   ·intro r12750 h12751 _
    refine MT.say (MT.ite (fun c12752=>?_) (fun c12752=>?_))
    ·(repeat refine MT.say ?_);exact(MT.ret trivial)
    ·(repeat refine MT.say ?_);exact(MT.ret ⟨rfl,by omega⟩)
  ·have c12737':=of_decide_eq_false c12737
   (repeat refine MT.say ?_);exact(MT.ret trivial)
 ·intro o12755 h12754 _
  (repeat refine MT.say ?_);exact MT.any
 ·intro o12756 h12754 _
  (repeat refine MT.say ?_);exact MT.any
theorem vS(p_v:ah)(h_p_v:aP p_v.lf1≤100000000):Tot (Q41 p_v) Any:=by
 have:=bQ p_v
 show MT (aeE p_v) Any
 repeat' (first|exact MT.any|refine MT.say ?_|refine MT.ite (fun _=>?_) (fun _=>?_)|refine MT.sF ?_ (fun _ _=>?_)|exact⟨T.wk (kH _ (by first|omega|decide))⟩|refine⟨(show MT _ Any from ?_)⟩)
theorem zZ(p_w:ak)(p_lo:Int)(p_hi:Int)(h_p_w:aP p_w.lf1≤100000000):Tot (Q2 p_w p_lo p_hi) Any:=by
 have:=fK p_w
 have:=bQ p_w.fO
 have:=bQ p_w.aT
 have:=bQ p_w.dG
 have:=kY p_w.dh
 have:=iE p_w.bf
 have:=iM p_w.aY
 have:=ny p_w.dK
 show MT (amA p_w p_lo p_hi) Any
 refine MT.ask (R:=fun b_=>(b_=true→True)∧(b_=false→¬((p_w.au:Int)<p_lo)∧¬((p_hi:Int)<p_w.au)∧True)) ?_ ?_
 ·show MT (Wh p_hi p_lo p_w) _
  refine MT.ite (fun c12818=>?_) (fun c12818=>?_)
  ·have c12818':=of_decide_eq_true c12818
   (repeat refine MT.say ?_);exact(MT.ret ⟨(fun _=>trivial),(fun h_=>by cases h_)⟩)
  ·have c12818':=of_decide_eq_false c12818
   (repeat refine MT.say ?_);exact(MT.ret ⟨(fun _=>trivial),(fun h_=>⟨(by first|assumption|omega),(of_decide_eq_false h_),trivial⟩)⟩)
 ·intro r12820 h12821 f_r12820
  refine MT.say (MT.ask (R:=fun b_=>(b_=true→True)∧(b_=false→r12820=false∧True)) ?_ ?_)
  ·show MT (KY p_w r12820) _
   refine MT.ite (fun c12822=>?_) (fun c12822=>?_)
   ·(repeat refine MT.say ?_);exact(MT.ret ⟨(fun _=>trivial),(fun h_=>by cases h_)⟩)
   ·have q160:=f_r12820.2 (c12822)
    refine MT.say (MT.ask (R:=Any) ?_ ?_)
    ·exact T.wk (Ez p_w (by first|omega|(simp;done)|decide))
    ·intro r12823 h12824 _
     (repeat refine MT.say ?_);exact(MT.ret ⟨(fun _=>trivial),(fun h_=>⟨(by first|assumption|omega),trivial⟩)⟩)
  ·intro r12826 h12827 f_r12826
   refine MT.say (MT.ask (R:=fun b_=>(b_=true→True)∧(b_=false→r12826=false∧True)) ?_ ?_)
   ·show MT (DR p_w r12826) _
    refine MT.ite (fun c12828=>?_) (fun c12828=>?_)
    ·(repeat refine MT.say ?_);exact(MT.ret ⟨(fun _=>trivial),(fun h_=>by cases h_)⟩)
    ·have q161:=f_r12826.2 (c12828)
     have q162:=f_r12820.2 (q161.1)
     refine MT.say (MT.ask (R:=Any) ?_ ?_)
     ·exact T.wk (uQ p_w.au )
     ·intro r12829 h12830 _
      refine MT.say (MT.ite (fun c12831=>?_) (fun c12831=>?_))
      ·(repeat refine MT.say ?_);exact(MT.ret ⟨(fun _=>trivial),(fun h_=>⟨(by first|assumption|omega),trivial⟩)⟩)
      ·(repeat refine MT.say ?_);exact(MT.ret ⟨(fun h_=>by cases h_),(fun h_=>⟨(by first|assumption|omega),trivial⟩)⟩)
   ·intro r12833 h12834 f_r12833
    refine MT.say (MT.ask (R:=Any) ?_ ?_)
    ·show MT (O6 p_w r12833) Any
     exact MT.any
    ·intro r12835 h12836 _
     refine MT.say (MT.ite (fun c12897=>?_) (fun c12897=>?_))
     ·(repeat refine MT.say ?_);exact MT.any
     ·have q163:=f_r12833.2 (c12897)
      have q164:=f_r12826.2 (q163.1)
      have q165:=f_r12820.2 (q164.1)
      refine MT.say (MT.ite (fun c12957=>?_) (fun c12957=>?_))
      ·have c12957':=of_decide_eq_true c12957
       (repeat refine MT.say ?_);exact MT.any
      ·have c12957':=of_decide_eq_false c12957
       refine MT.say (MT.ask (R:=Any) ?_ ?_)
       ·show MT (DT p_w) Any
        refine MT.ask (R:=Any) ?_ ?_
        ·exact T.wk (sQ p_w.au )
        ·intro r12958 h12959 _
         refine MT.say (MT.ite (fun c12960=>?_) (fun c12960=>?_))
         ·refine MT.say (MT.ask (R:=Any) ?_ ?_)
          ·exact T.wk (T.val (pK p_w.fC))
          ·intro r12961 h12962 _
           (repeat refine MT.say ?_);exact MT.any
         ·(repeat refine MT.say ?_);exact MT.any
       ·intro r12964 h12965 _
        refine MT.say (MT.ask (R:=fun b_=>(b_=true→True)∧(b_=false→r12964=false∧True)) ?_ ?_)
        ·show MT (DU p_w r12964) _
         refine MT.ite (fun c12966=>?_) (fun c12966=>?_)
         ·(repeat refine MT.say ?_);exact(MT.ret ⟨(fun _=>trivial),(fun h_=>by cases h_)⟩)
         ·refine MT.say (MT.ask (R:=Any) ?_ ?_)
          ·exact T.wk (l9 p_w.au )
          ·intro r12967 h12968 _
           refine MT.say (MT.ite (fun c12969=>?_) (fun c12969=>?_))
           ·refine MT.say (MT.ask (R:=Any) ?_ ?_)
            ·exact T.wk (T.val (pK p_w.nN))
            ·intro r12970 h12971 _
             (repeat refine MT.say ?_);exact(MT.ret ⟨(fun _=>trivial),(fun h_=>⟨(by first|assumption|omega),trivial⟩)⟩)
           ·(repeat refine MT.say ?_);exact(MT.ret ⟨(fun h_=>by cases h_),(fun h_=>⟨(by first|assumption|omega),trivial⟩)⟩)
        ·intro r12973 h12974 f_r12973
         refine MT.say (MT.ask (R:=fun b_=>(b_=true→True)∧(b_=false→r12973=false∧True)) ?_ ?_)
         ·show MT (DV p_w r12973) _
          refine MT.ite (fun c12975=>?_) (fun c12975=>?_)
          ·(repeat refine MT.say ?_);exact(MT.ret ⟨(fun _=>trivial),(fun h_=>by cases h_)⟩)
          ·have q166:=f_r12973.2 (c12975)
           refine MT.say (MT.ite (fun c12976=>?_) (fun c12976=>?_))
           ·have c12976':p_w.au=7:=by simpa using c12976
            refine MT.say (MT.ask (R:=Any) ?_ ?_)
            ·exact T.wk (T.val (pK p_w.bf.fName))
            ·intro r12977 h12978 _
             (repeat refine MT.say ?_);exact(MT.ret ⟨(fun _=>trivial),(fun h_=>⟨(by first|assumption|omega),trivial⟩)⟩)
           ·have c12976':¬(p_w.au=7):=by simpa using c12976
            (repeat refine MT.say ?_);exact(MT.ret ⟨(fun h_=>by cases h_),(fun h_=>⟨(by first|assumption|omega),trivial⟩)⟩)
         ·intro r12980 h12981 f_r12980
          refine MT.say (MT.ask (R:=Any) ?_ ?_)
          ·show MT (O7 p_w r12980) Any
           exact MT.any
          ·intro r12982 h12983 _
           refine MT.say (MT.ite (fun c13016=>?_) (fun c13016=>?_))
           ·(repeat refine MT.say ?_);exact MT.any
           ·have q167:=f_r12980.2 (c13016)
            have q168:=f_r12973.2 (q167.1)
            refine MT.say (MT.ask (R:=fun b_=>(b_=true→p_w.au=10∧(p_w.eU:Int)<1∧True)∧(b_=false→True)) ?_ ?_)
            ·show MT (O8 p_w) _
             refine MT.ite (fun c13017=>?_) (fun c13017=>?_)
             ·have c13017':p_w.au=10:=by simpa using c13017
              (repeat refine MT.say ?_);exact(MT.ret ⟨(fun h_=>⟨(by first|assumption|omega),(of_decide_eq_true h_),trivial⟩),(fun _=>trivial)⟩)
             ·have c13017':¬(p_w.au=10):=by simpa using c13017
              (repeat refine MT.say ?_);exact(MT.ret ⟨(fun h_=>by cases h_),(fun _=>trivial)⟩)
            ·intro r13019 h13020 f_r13019
             refine MT.say (MT.ask (R:=fun b_=>(b_=true→True)∧(b_=false→r13019=false∧¬((p_w.eU:Int)<0)∧True)) ?_ ?_)
             ·show MT (O9 p_w r13019) _
              refine MT.ite (fun c13021=>?_) (fun c13021=>?_)
              ·have q169:=f_r13019.1 (c13021)
               (repeat refine MT.say ?_);exact(MT.ret ⟨(fun _=>trivial),(fun h_=>by cases h_)⟩)
              ·(repeat refine MT.say ?_);exact(MT.ret ⟨(fun _=>trivial),(fun h_=>⟨(by first|assumption|omega),(of_decide_eq_false h_),trivial⟩)⟩)
             ·intro r13023 h13024 f_r13023
              refine MT.say (MT.ask (R:=fun b_=>(b_=true→True)∧(b_=false→r13023=false∧¬((1099511627776:Int)<p_w.eU)∧True)) ?_ ?_)
              ·show MT (Pe p_w r13023) _
               refine MT.ite (fun c13025=>?_) (fun c13025=>?_)
               ·(repeat refine MT.say ?_);exact(MT.ret ⟨(fun _=>trivial),(fun h_=>by cases h_)⟩)
               ·have q170:=f_r13023.2 (c13025)
                (repeat refine MT.say ?_);exact(MT.ret ⟨(fun _=>trivial),(fun h_=>⟨(by first|assumption|omega),(of_decide_eq_false h_),trivial⟩)⟩)
              ·intro r13027 h13028 f_r13027
               refine MT.say (MT.ask (R:=fun b_=>(b_=true→True)∧(b_=false→r13027=false∧True)) ?_ ?_)
               ·show MT (Pg p_w r13027) _
                refine MT.ite (fun c13029=>?_) (fun c13029=>?_)
                ·(repeat refine MT.say ?_);exact(MT.ret ⟨(fun _=>trivial),(fun h_=>by cases h_)⟩)
                ·have q171:=f_r13027.2 (c13029)
                 have q172:=f_r13023.2 (q171.1)
                 refine MT.say (MT.ite (fun c13030=>?_) (fun c13030=>?_))
                 ·have c13030':p_w.au=12:=by simpa using c13030
                  refine MT.say (MT.ask (R:=Any) ?_ ?_)
                  ·exact T.wk (EC p_w.dK (by first|omega|(simp;done)|decide))
                  ·intro r13031 h13032 _
                   (repeat refine MT.say ?_);exact(MT.ret ⟨(fun _=>trivial),(fun h_=>⟨(by first|assumption|omega),trivial⟩)⟩)
                 ·have c13030':¬(p_w.au=12):=by simpa using c13030
                  (repeat refine MT.say ?_);exact(MT.ret ⟨(fun h_=>by cases h_),(fun h_=>⟨(by first|assumption|omega),trivial⟩)⟩)
               ·intro r13034 h13035 f_r13034
                refine MT.say (MT.ask (R:=Any) ?_ ?_)
                ·show MT (Ph p_w r13034) Any
                 exact MT.any
                ·intro r13036 h13037 _
                 refine MT.say (MT.ite (fun c13048=>?_) (fun c13048=>?_))
                 ·(repeat refine MT.say ?_);exact MT.any
                 ·have q173:=f_r13034.2 (c13048)
                  have q174:=f_r13027.2 (q173.1)
                  have q175:=f_r13023.2 (q174.1)
                  refine MT.say (MT.ask (R:=Any) ?_ ?_)
                  ·show MT (DW p_w) Any
                   refine MT.ask (R:=Any) ?_ ?_
                   ·exact T.wk (nD p_w.au )
                   ·intro r13049 h13050 _
                    refine MT.say (MT.ite (fun c13051=>?_) (fun c13051=>?_))
                    ·refine MT.say (MT.ask (R:=Any) ?_ ?_)
                     ·exact T.wk (vS p_w.fO (by first|omega|(simp;done)|decide))
                     ·intro r13052 h13053 _
                      (repeat refine MT.say ?_);exact MT.any
                    ·(repeat refine MT.say ?_);exact MT.any
                  ·intro r13055 h13056 _
                   refine MT.say (MT.ite (fun c13058=>?_) (fun c13058=>?_))
                   ·(repeat refine MT.say ?_);exact MT.any
                   ·refine MT.say (MT.jE (R:=Any) ?_ ?_ ?_)
                    ·show MT (Pj p_w) Any
                     refine MT.ite (fun c13970=>?_) (fun c13970=>?_)
                     ·have c13970':p_w.au=2:=by simpa using c13970
                      refine MT.say (MT.ask (R:=Any) ?_ ?_)
                      ·exact T.wk (Ei p_w.aT p_w.fO (by first|omega|(simp;done)|decide) (by first|omega|(simp;done)|decide))
                      ·intro r13971 h13972 _
                       refine MT.say (MT.ite (fun c13973=>?_) (fun c13973=>?_))
                       ·have c13973':¬(r13971=0):=by simpa using c13973
                        (repeat refine MT.say ?_);exact MT.any
                       ·have c13973':r13971=0:=by simpa using c13973
                        (repeat refine MT.say ?_);exact MT.any
                     ·have c13970':¬(p_w.au=2):=by simpa using c13970
                      (repeat refine MT.say ?_);exact MT.any
                    ·intro o13978 h13977 _
                     (repeat refine MT.say ?_);exact MT.any
                    ·intro o13979 h13977 _
                     refine MT.say (MT.ask (R:=Any) ?_ ?_)
                     ·show MT (Pm p_w) Any
                      refine MT.ask (R:=Any) ?_ ?_
                      ·exact T.wk (nD p_w.au )
                      ·intro r13985 h13986 _
                       refine MT.say (MT.ite (fun c13987=>?_) (fun c13987=>?_))
                       ·refine MT.say (MT.ask (R:=Any) ?_ ?_)
                        ·exact T.wk (T.val (kG p_w.dG))
                        ·intro r13988 h13989 _
                         (repeat refine MT.say ?_);exact MT.any
                       ·(repeat refine MT.say ?_);exact MT.any
                     ·intro r13991 h13992 _
                      refine MT.say (MT.jE (R:=Any) ?_ ?_ ?_)
                      ·show MT (Pn p_w r13991) Any
                       refine MT.ite (fun c13999=>?_) (fun c13999=>?_)
                       ·refine MT.say (MT.ask (R:=Any) ?_ ?_)
                        ·exact T.wk (Ei p_w.dG p_w.fO (by first|omega|(simp;done)|decide) (by first|omega|(simp;done)|decide))
                        ·intro r14000 h14001 _
                         refine MT.say (MT.ite (fun c14002=>?_) (fun c14002=>?_))
                         ·have c14002':¬(r14000=0):=by simpa using c14002
                          (repeat refine MT.say ?_);exact MT.any
                         ·have c14002':r14000=0:=by simpa using c14002
                          (repeat refine MT.say ?_);exact MT.any
                       ·(repeat refine MT.say ?_);exact MT.any
                      ·intro o14007 h14006 _
                       (repeat refine MT.say ?_);exact MT.any
                      ·intro o14008 h14006 _
                       refine MT.say (MT.ite (fun c16638=>?_) (fun c16638=>?_))
                       ·have c16638':p_w.au=4:=by simpa using c16638
                        refine MT.say (MT.ask (R:=Any) ?_ ?_)
                        ·exact T.wk (Fz p_w.dh (by first|omega|(simp;done)|decide))
                        ·intro r16641 h16642 _
                         (repeat refine MT.say ?_);exact MT.any
                       ·have c16638':¬(p_w.au=4):=by simpa using c16638
                        refine MT.say (MT.ite (fun c16646=>?_) (fun c16646=>?_))
                        ·have c16646':p_w.au=6:=by simpa using c16646
                         refine MT.say (MT.ask (R:=Any) ?_ ?_)
                         ·exact T.wk (uP p_w.bf (by first|omega|(simp;done)|decide))
                         ·intro r16649 h16650 _
                          (repeat refine MT.say ?_);exact MT.any
                        ·have c16646':¬(p_w.au=6):=by simpa using c16646
                         (repeat refine MT.say ?_);exact MT.any
theorem FB(p_e:bG)(h_p_e:aP p_e.lf1≤100000000):Tot (Q23 p_e) Any:=by
 have:=kZ p_e
 have:=fK p_e.dA
 have:=iM p_e.dA.aY
 show MT (afp p_e) Any
 refine MT.ite (fun c12412=>?_) (fun c12412=>?_)
 ·have c12412':=of_decide_eq_true c12412
  (repeat refine MT.say ?_);exact MT.any
 ·have c12412':=of_decide_eq_false c12412
  refine MT.say (MT.ask (R:=fun b_=>(b_=true→True)∧(b_=false→¬((p_e.eU:Int)<1)∧¬((1099511627776:Int)<p_e.eU)∧True)) ?_ ?_)
  ·show MT (Po p_e) _
   refine MT.ite (fun c12413=>?_) (fun c12413=>?_)
   ·have c12413':=of_decide_eq_true c12413
    (repeat refine MT.say ?_);exact(MT.ret ⟨(fun _=>trivial),(fun h_=>by cases h_)⟩)
   ·have c12413':=of_decide_eq_false c12413
    (repeat refine MT.say ?_);exact(MT.ret ⟨(fun _=>trivial),(fun h_=>⟨(by first|assumption|omega),(of_decide_eq_false h_),trivial⟩)⟩)
  ·intro r12415 h12416 f_r12415
   refine MT.say (MT.ask (R:=fun b_=>(b_=true→True)∧(b_=false→r12415=false∧¬((p_e.ql:Int)<0)∧True)) ?_ ?_)
   ·show MT (Pq p_e r12415) _
    refine MT.ite (fun c12417=>?_) (fun c12417=>?_)
    ·(repeat refine MT.say ?_);exact(MT.ret ⟨(fun _=>trivial),(fun h_=>by cases h_)⟩)
    ·have q176:=f_r12415.2 (c12417)
     (repeat refine MT.say ?_);exact(MT.ret ⟨(fun _=>trivial),(fun h_=>⟨(by first|assumption|omega),(of_decide_eq_false h_),trivial⟩)⟩)
   ·intro r12419 h12420 f_r12419
    refine MT.say (MT.ask (R:=Any) ?_ ?_)
    ·show MT (Iz p_e r12419) Any
     exact MT.any
    ·intro r12421 h12422 _
     refine MT.say (MT.ite (fun c12431=>?_) (fun c12431=>?_))
     ·(repeat refine MT.say ?_);exact MT.any
     ·have q177:=f_r12419.2 (c12431)
      have q178:=f_r12415.2 (q177.1)
      refine MT.say (MT.ask (R:=Any) ?_ ?_)
      ·show MT (IB p_e) Any
       refine MT.ite (fun c12432=>?_) (fun c12432=>?_)
       ·refine MT.say (MT.ask (R:=Any) ?_ ?_)
        ·exact T.wk (T.val (pK p_e.jV))
        ·intro r12433 h12434 _
         (repeat refine MT.say ?_);exact MT.any
       ·(repeat refine MT.say ?_);exact MT.any
      ·intro r12436 h12437 _
       refine MT.say (MT.ite (fun c12439=>?_) (fun c12439=>?_))
       ·(repeat refine MT.say ?_);exact MT.any
       ·refine MT.say (MT.ask (R:=Any) ?_ ?_)
        ·exact T.wk (zZ p_e.dA 1 12 (by first|omega|(simp;done)|decide))
        ·intro r16653 h16654 _
         refine MT.say (MT.ite (fun c16656=>?_) (fun c16656=>?_))
         ·have c16656':¬(r16653=0):=by simpa using c16656
          (repeat refine MT.say ?_);exact MT.any
         ·have c16656':r16653=0:=by simpa using c16656
          refine MT.say (MT.ask (R:=Any) ?_ ?_)
          ·show MT (IC p_e) Any
           refine MT.ite (fun c16658=>?_) (fun c16658=>?_)
           ·have c16658':p_e.dA.au=9:=by simpa using c16658
            (repeat refine MT.say ?_);exact MT.any
           ·have c16658':¬(p_e.dA.au=9):=by simpa using c16658
            (repeat refine MT.say ?_);exact MT.any
          ·intro r16660 h16661 _
           refine MT.say (MT.jE (R:=Any) ?_ ?_ ?_)
           ·refine T.cnt (fun _=>True) ?_
            intro k179 hk179
            show MT (pF p_e r16660 ((k179:Nat):Int)) _
            refine MT.say (MT.ite (fun c16699=>?_) (fun c16699=>?_))
            ·have c16699':=of_decide_eq_true c16699
             refine MT.say (MT.ask (dF p_e.dA.aY ((k179:Nat):Int) (by omega) (by omega)) (fun x16700 _ hx180=>?_))
             have:=jR hx180
             have:=fK x16700
             refine MT.say (MT.ask (R:=Any) ?_ ?_)
             ·exact T.wk (zZ x16700 2 r16660 (by first|omega|(simp;done)|decide))
             ·intro r16702 h16703 _
              refine MT.say (MT.ite (fun c16704=>?_) (fun c16704=>?_))
              ·have c16704':¬(r16702=0):=by simpa using c16704
               (repeat refine MT.say ?_);exact(MT.ret trivial)
              ·have c16704':r16702=0:=by simpa using c16704
               (repeat refine MT.say ?_);exact(MT.ret ⟨rfl,by omega⟩)
            ·have c16699':=of_decide_eq_false c16699
             (repeat refine MT.say ?_);exact(MT.ret trivial)
           ·intro o16709 h16708 _
            (repeat refine MT.say ?_);exact MT.any
           ·intro o16710 h16708 _
            (repeat refine MT.say ?_);exact MT.any
end Go.Proofs.YtflpefkohpjjpaaGreatDoor
set_option linter.unusedSimpArgs false
set_option linter.unusedVariables false
namespace Go.Proofs.YtflpefkohpjjpaaGreatDoor
open Go.RowKit
theorem jD{α:Type}(l:List α)(c:α→Option α)(z:List α)(T0:Int×List α→Option ((Int×List α)⊕List α))(hz:z.length=l.length)(hl:l.length≤1000000000)(hc:∀x∈l,c x=some x)
 (hT:∀(k:Nat) (s:List α),T0 ((k:Int),s)=bif decide ((k:Int)<(l.length:Int)) then(ig l (k:Int)).bind fun x=>(c x).bind fun r=>(ig s (k:Int)).bind fun _=>some (.inl (IntKind.wrap .i64 ((k:Int)+1),s.set (k:Int).toNat r)) else some (.inr s)):
 bP T0 FU (0,z)=some l:=by
 have:Tot (bP T0 FU (0,z)) (fun r=>r=l):=by
  refine T.kL l.length hl (fun k s=>s.1=(k:Int)∧s.2.length=l.length∧∀j,j<k→s.2[j]?=l[j]?) _ ⟨rfl,hz,fun j h=>by omega⟩ ?_ ?_
  ·rintro k ⟨i,s⟩ hk ⟨h1,h2,h3⟩
   obtain rfl:i=(k:Int):=h1
   have h2:s.length=l.length:=h2
   have hx:=List.getElem?_eq_getElem hk
   have hy:=List.getElem?_eq_getElem (show k<s.length by omega)
   rw[hT]
   simp only[ltt hx,gid hx,gid hy,cond_true,Option.bind_some,hc _ (iU hx),Int.toNat_natCast]
   refine T.ret ⟨inc k (by omega),by simp[h2],fun j hj=>?_⟩
   show(s.set k l[k])[j]?=l[j]?
   rcases Nat.lt_succ_iff_lt_or_eq.1 hj with h|rfl
   ·rw[List.getElem?_set_ne (by omega)];exact h3 j h
   ·rw[List.getElem?_set_self (by omega),hx]
  ·rintro⟨i,s⟩ ⟨h1,h2,h3⟩
   obtain rfl:i=(l.length:Int):=h1
   have h2:s.length=l.length:=h2
   rw[hT]
   simp only[ltn,cond_false]
   refine T.ret (show s=l from List.ext_getElem? fun j=>?_)
   by_cases hj:j<l.length
   ·exact h3 j hj
   ·rw[List.getElem?_eq_none (by omega),List.getElem?_eq_none (by omega)]
 obtain⟨r,h,rfl⟩:=this
 exact h
theorem iL{α:Type}(l:List α)(p:Prop)[Decidable p](hp:p):(bif ((l.length:Int)==0) then some [] else if p then(some l).bind (fun a=>some a) else none)=some l:=by
 rw[if_pos hp]
 cases l with
 |nil=>rfl
 |cons x r=>
  rw[show(((x::r).length:Int)==0)=false by simp;omega]
  rfl
end Go.Proofs.YtflpefkohpjjpaaGreatDoor
set_option linter.unusedSimpArgs false
set_option linter.unusedVariables false
namespace Go.Proofs.YtflpefkohpjjpaaGreatDoor
open Go.RowKit
theorem mg(n_:Nat):(∀p_v:ah,4*aP p_v.lf1+0<n_→aP p_v.lf1≤100000000→(iJ n_).m1 p_v=some p_v)∧(∀p_l:List ah,4*bK (p_l.map ah.lf)+1<n_→bK (p_l.map ah.lf)≤100000000→(iJ n_).m2 p_l=some p_l)∧(∀p_l:List ay,4*bK (p_l.map ay.lf)+2<n_→bK (p_l.map ay.lf)≤100000000→(iJ n_).m3 p_l=some p_l)∧(∀p_f:ay,4*aP p_f.lf1+1<n_→aP p_f.lf1≤100000000→(iJ n_).m4 p_f=some p_f):=by
 induction n_ with
 |zero=>exact⟨fun _ h=>by omega,fun _ h=>by omega,fun _ h=>by omega,fun _ h=>by omega⟩
 |succ n_ ih=>
  refine⟨?_,?_,?_,?_⟩
  ·intro p_v h_ h2_
   have hbv:=bQ p_v
   have:=fH p_v.aT
   have:=fG p_v.aU
   have e0:=(ih.2.1 p_v.aU (by omega) (by omega))
   have e1:=(ih.2.2.1 p_v.aT (by omega) (by omega))
   simp only[iJ,SK,Mo.den,aB,aG,aF,aJ,e0,e1,Option.bind_some,List.length_nil]
   all_goals (cases p_v;rfl)
  ·intro p_l h_ h2_
   have hl:=fG p_l
   have h1:adP (iJ n_) p_l 0 (List.replicate (p_l.length:Int).toNat (ah.mk 0 0 ⟨#[]⟩ [] []))=some p_l:=jD p_l (fun x=>(iJ n_).m1 x) _ _ (by simp) (by omega) (fun x hx=>ih.1 x (by have:=iK hx;omega) (by have:=iK hx;omega)) (fun k s=>by simp only[Du,Mo.den,aB,aG,aF,aJ])
   simp only[iJ,adQ,Mo.den,aB,aG,aF,aJ,h1]
   exact iL p_l _ ⟨by omega,by omega,by unfold maxLen;omega⟩
  ·intro p_l h_ h2_
   have hl:=fH p_l
   have h1:adR (iJ n_) p_l 0 (List.replicate (p_l.length:Int).toNat (ay.mk ⟨#[]⟩ (ah.mk 0 0 ⟨#[]⟩ [] [])))=some p_l:=jD p_l (fun x=>(iJ n_).m4 x) _ _ (by simp) (by omega) (fun x hx=>ih.2.2.2 x (by have:=fE hx;omega) (by have:=fE hx;omega)) (fun k s=>by simp only[Dv,Mo.den,aB,aG,aF,aJ])
   simp only[iJ,adS,Mo.den,aB,aG,aF,aJ,h1]
   exact iL p_l _ ⟨by omega,by omega,by unfold maxLen;omega⟩
  ·intro p_f h_ h2_
   have hbv:=dY p_f
   have:=bQ p_f.fValue
   have e0:=(ih.1 p_f.fValue (by omega) (by omega))
   simp only[iJ,SL,Mo.den,aB,aG,aF,aJ,e0,Option.bind_some,List.length_nil]
   all_goals (cases p_f;rfl)
theorem fP(p_v:ah)(h_:aP p_v.lf1≤100000000):anR p_v=some p_v:=(mg FU).1 p_v (mZ (by omega)) h_
theorem jP(p_l:List ah)(h_:bK (p_l.map ah.lf)≤100000000):Q47 p_l=some p_l:=(mg FU).2.1 p_l (mZ (by omega)) h_
theorem iq(p_l:List ByteArray)(h_:bK (p_l.map lfS)≤100000000):alT p_l=some p_l:=by
 have hl:=dM p_l
 simp only[alT,adV,Mo.den,aB,aG,aF,aJ,Option.bind_some,List.length_nil]
 rw[if_pos (by omega)]
 try rfl
theorem vT(p_o:bn)(h_:aP p_o.lf1≤100000000):ahZ p_o=some p_o:=by
 have hbv:=kD p_o
 have:=dM p_o.cZ
 have e0:=(iq p_o.cZ (by omega))
 simp only[ahZ,adW,Mo.den,aB,aG,aF,aJ,e0,Option.bind_some,List.length_nil]
 all_goals (cases p_o;rfl)
theorem nG(p_l:List bn)(h_:bK (p_l.map bn.lf)≤100000000):Q72 p_l=some p_l:=by
 have hl:=ni p_l
 have h1:adX p_l 0 (List.replicate (p_l.length:Int).toNat (bn.mk [] false))=some p_l:=jD p_l (fun x=>ahZ x) _ _ (by simp) (by omega) (fun x hx=>vT x (by have:=mV hx;omega)) (fun k s=>by simp only[Dw,Mo.den,aB,aG,aF,aJ])
 simp only[Q72,aju,Mo.den,aB,aG,aF,aJ,h1]
 exact iL p_l _ ⟨by omega,by omega,by unfold maxLen;omega⟩
theorem vU(n_:Nat):(∀p_e:aO,4*aP p_e.lf1+0<n_→aP p_e.lf1≤100000000→(lV n_).m1 p_e=some p_e)∧(∀p_l:List aO,4*bK (p_l.map aO.lf)+1<n_→bK (p_l.map aO.lf)≤100000000→(lV n_).m2 p_l=some p_l):=by
 induction n_ with
 |zero=>exact⟨fun _ h=>by omega,fun _ h=>by omega⟩
 |succ n_ ih=>
  refine⟨?_,?_⟩
  ·intro p_e h_ h2_
   have hbv:=gK p_e
   have:=bQ p_e.fArg
   have:=kF p_e.bM
   have:=dM p_e.eG
   have:=dM p_e.cZ
   have e0:=(iq p_e.cZ (by omega))
   have e1:=(iq p_e.eG (by omega))
   have e2:=(fP p_e.fArg (by omega))
   have e3:=(ih.2 p_e.bM (by omega) (by omega))
   simp only[lV,SQ,Mo.den,aB,aG,aF,aJ,e0,e1,e2,e3,Option.bind_some,List.length_nil]
   all_goals (cases p_e;rfl)
  ·intro p_l h_ h2_
   have hl:=kF p_l
   have h1:adZ (lV n_) p_l 0 (List.replicate (p_l.length:Int).toNat aO.z)=some p_l:=jD p_l (fun x=>(lV n_).m1 x) _ _ (by simp) (by omega) (fun x hx=>ih.1 x (by have:=pI hx;omega) (by have:=pI hx;omega)) (fun k s=>by simp only[Dx,Mo.den,aB,aG,aF,aJ])
   simp only[lV,ad1,Mo.den,aB,aG,aF,aJ,h1]
   exact iL p_l _ ⟨by omega,by omega,by unfold maxLen;omega⟩
theorem yG(p_e:aO)(h_:aP p_e.lf1≤100000000):anS p_e=some p_e:=(vU FU).1 p_e (mZ (by omega)) h_
theorem vV(n_:Nat):(∀p_p:aN,4*aP p_p.lf1+0<n_→aP p_p.lf1≤100000000→(lX n_).m1 p_p=some p_p)∧(∀p_l:List aN,4*bK (p_l.map aN.lf)+1<n_→bK (p_l.map aN.lf)≤100000000→(lX n_).m2 p_l=some p_l):=by
 induction n_ with
 |zero=>exact⟨fun _ h=>by omega,fun _ h=>by omega⟩
 |succ n_ ih=>
  refine⟨?_,?_⟩
  ·intro p_p h_ h2_
   have hbv:=iC p_p
   have:=bQ p_p.fArg
   have:=fG p_p.fArgs
   have:=gK p_p.fExpr
   have:=lq p_p.bM
   have:=dM p_p.cZ
   have:=kE p_p.dO
   have:=lg p_p.dO.cO
   have:=lg p_p.dO.cO
   have e0:=(iq p_p.cZ (by omega))
   have e1:=(fP p_p.fArg (by omega))
   have e2:=(jP p_p.fArgs (by omega))
   have e3:=(yG p_p.fExpr (by omega))
   have e4:=(ih.2 p_p.bM (by omega) (by omega))
   simp only[lX,SV,Mo.den,aB,aG,aF,aJ,e0,e1,e2,e3,e4,Option.bind_some,List.length_nil]
   rw[if_pos (by omega)]
   all_goals (cases p_p;rfl)
  ·intro p_l h_ h2_
   have hl:=lq p_l
   have h1:ad3 (lX n_) p_l 0 (List.replicate (p_l.length:Int).toNat aN.z)=some p_l:=jD p_l (fun x=>(lX n_).m1 x) _ _ (by simp) (by omega) (fun x hx=>ih.1 x (by have:=sD hx;omega) (by have:=sD hx;omega)) (fun k s=>by simp only[Dy,Mo.den,aB,aG,aF,aJ])
   simp only[lX,ad4,Mo.den,aB,aG,aF,aJ,h1]
   exact iL p_l _ ⟨by omega,by omega,by unfold maxLen;omega⟩
theorem yH(p_p:aN)(h_:aP p_p.lf1≤100000000):alV p_p=some p_p:=(vV FU).1 p_p (mZ (by omega)) h_
theorem nH(p_x:aQ)(h_:aP p_x.lf1≤100000000):ah5 p_x=some p_x:=by
 have hbv:=iE p_x
 have:=ni p_x.fJ
 have:=iC p_x.bF
 have e0:=(nG p_x.fJ (by omega))
 have e1:=(yH p_x.bF (by omega))
 simp only[ah5,ad5,Mo.den,aB,aG,aF,aJ,e0,e1,Option.bind_some,List.length_nil]
 all_goals (cases p_x;rfl)
theorem nI(p_l:List aQ)(h_:bK (p_l.map aQ.lf)≤100000000):Q73 p_l=some p_l:=by
 have hl:=lN p_l
 have h1:ad6 p_l 0 (List.replicate (p_l.length:Int).toNat aQ.z)=some p_l:=jD p_l (fun x=>ah5 x) _ _ (by simp) (by omega) (fun x hx=>nH x (by have:=pJ hx;omega)) (fun k s=>by simp only[Dz,Mo.den,aB,aG,aF,aJ])
 simp only[Q73,ajv,Mo.den,aB,aG,aF,aJ,h1]
 exact iL p_l _ ⟨by omega,by omega,by unfold maxLen;omega⟩
theorem sS(n_:Nat):(∀p_s:aH,4*aP p_s.lf1+0<n_→aP p_s.lf1≤100000000→(iT n_).m1 p_s=some p_s)∧(∀p_l:List bD,4*bK (p_l.map bD.lf)+2<n_→bK (p_l.map bD.lf)≤100000000→(iT n_).m2 p_l=some p_l)∧(∀p_l:List aH,4*bK (p_l.map aH.lf)+1<n_→bK (p_l.map aH.lf)≤100000000→(iT n_).m3 p_l=some p_l)∧(∀p_p:bD,4*aP p_p.lf1+1<n_→aP p_p.lf1≤100000000→(iT n_).m4 p_p=some p_p):=by
 induction n_ with
 |zero=>exact⟨fun _ h=>by omega,fun _ h=>by omega,fun _ h=>by omega,fun _ h=>by omega⟩
 |succ n_ ih=>
  refine⟨?_,?_,?_,?_⟩
  ·intro p_s h_ h2_
   have hbv:=gQ p_s
   have:=fG p_s.jS
   have:=lQ p_s.fB
   have:=bQ p_s.jL
   have:=bQ p_s.jK
   have:=mQ p_s.dR
   have:=dM p_s.eY
   have e0:=(fP p_s.jK (by omega))
   have e1:=(fP p_s.jL (by omega))
   have e2:=(jP p_s.jS (by omega))
   have e3:=(iq p_s.eY (by omega))
   have e4:=(ih.2.1 p_s.dR (by omega) (by omega))
   have e5:=(ih.2.2.1 p_s.fB (by omega) (by omega))
   simp only[iT,SX,Mo.den,aB,aG,aF,aJ,e0,e1,e2,e3,e4,e5,Option.bind_some,List.length_nil]
   all_goals (cases p_s;rfl)
  ·intro p_l h_ h2_
   have hl:=mQ p_l
   have h1:VI (iT n_) p_l 0 (List.replicate (p_l.length:Int).toNat (bD.mk ⟨#[]⟩ aH.z))=some p_l:=jD p_l (fun x=>(iT n_).m4 x) _ _ (by simp) (by omega) (fun x hx=>ih.2.2.2 x (by have:=yh hx;omega) (by have:=yh hx;omega)) (fun k s=>by simp only[zF,Mo.den,aB,aG,aF,aJ])
   simp only[iT,SY,Mo.den,aB,aG,aF,aJ,h1]
   exact iL p_l _ ⟨by omega,by omega,by unfold maxLen;omega⟩
  ·intro p_l h_ h2_
   have hl:=lQ p_l
   have h1:ad9 (iT n_) p_l 0 (List.replicate (p_l.length:Int).toNat aH.z)=some p_l:=jD p_l (fun x=>(iT n_).m1 x) _ _ (by simp) (by omega) (fun x hx=>ih.1 x (by have:=qL hx;omega) (by have:=qL hx;omega)) (fun k s=>by simp only[DC,Mo.den,aB,aG,aF,aJ])
   simp only[iT,aea,Mo.den,aB,aG,aF,aJ,h1]
   exact iL p_l _ ⟨by omega,by omega,by unfold maxLen;omega⟩
  ·intro p_p h_ h2_
   have hbv:=pG p_p
   have:=gQ p_p.bC
   have e0:=(ih.1 p_p.bC (by omega) (by omega))
   simp only[iT,S9,Mo.den,aB,aG,aF,aJ,e0,Option.bind_some,List.length_nil]
   all_goals (cases p_p;rfl)
theorem uH(p_s:aH)(h_:aP p_s.lf1≤100000000):alX p_s=some p_s:=(sS FU).1 p_s (mZ (by omega)) h_
theorem vW(p_d:bU)(h_:aP p_d.lf1≤100000000):alY p_d=some p_d:=by
 have hbv:=kY p_d
 have:=lN p_d.dw
 have:=gQ p_d.bC
 have e0:=(nI p_d.dw (by omega))
 have e1:=(uH p_d.bC (by omega))
 simp only[alY,aec,Mo.den,aB,aG,aF,aJ,e0,e1,Option.bind_some,List.length_nil]
 all_goals (cases p_d;rfl)
theorem uI(n_:Nat):(∀p_w:ak,4*aP p_w.lf1+0<n_→aP p_w.lf1≤100000000→(lY n_).m1 p_w=some p_w)∧(∀p_l:List ak,4*bK (p_l.map ak.lf)+1<n_→bK (p_l.map ak.lf)≤100000000→(lY n_).m2 p_l=some p_l):=by
 induction n_ with
 |zero=>exact⟨fun _ h=>by omega,fun _ h=>by omega⟩
 |succ n_ ih=>
  refine⟨?_,?_⟩
  ·intro p_w h_ h2_
   have hbv:=fK p_w
   have:=bQ p_w.dG
   have:=kY p_w.dh
   have:=bQ p_w.aT
   have:=iE p_w.bf
   have:=bQ p_w.fO
   have:=ny p_w.dK
   have:=ny p_w.dK
   have:=ny p_w.dK
   have:=iM p_w.aY
   have e0:=(fP p_w.fO (by omega))
   have e1:=(fP p_w.aT (by omega))
   have e2:=(fP p_w.dG (by omega))
   have e3:=(vW p_w.dh (by omega))
   have e4:=(nH p_w.bf (by omega))
   have e5:=(ih.2 p_w.aY (by omega) (by omega))
   simp only[lY,Td,Mo.den,aB,aG,aF,aJ,e0,e1,e2,e3,e4,e5,Option.bind_some,List.length_nil]
   rw[if_pos (by omega)]
   all_goals (cases p_w;rfl)
  ·intro p_l h_ h2_
   have hl:=iM p_l
   have h1:aee (lY n_) p_l 0 (List.replicate (p_l.length:Int).toNat ak.z)=some p_l:=jD p_l (fun x=>(lY n_).m1 x) _ _ (by simp) (by omega) (fun x hx=>ih.1 x (by have:=jR hx;omega) (by have:=jR hx;omega)) (fun k s=>by simp only[DF,Mo.den,aB,aG,aF,aJ])
   simp only[lY,aef,Mo.den,aB,aG,aF,aJ,h1]
   exact iL p_l _ ⟨by omega,by omega,by unfold maxLen;omega⟩
theorem nJ(p_w:ak)(h_:aP p_w.lf1≤100000000):aia p_w=some p_w:=(uI FU).1 p_w (mZ (by omega)) h_
theorem nK(p_l:List ak)(h_:bK (p_l.map ak.lf)≤100000000):Q63 p_l=some p_l:=by
 have hl:=iM p_l
 have h1:aeg p_l 0 (List.replicate (p_l.length:Int).toNat ak.z)=some p_l:=jD p_l (fun x=>aia x) _ _ (by simp) (by omega) (fun x hx=>nJ x (by have:=jR hx;omega)) (fun k s=>by simp only[DI,Mo.den,aB,aG,aF,aJ])
 simp only[Q63,ajw,Mo.den,aB,aG,aF,aJ,h1]
 exact iL p_l _ ⟨by omega,by omega,by unfold maxLen;omega⟩
end Go.Proofs.YtflpefkohpjjpaaGreatDoor
set_option linter.unusedSimpArgs false
set_option linter.unusedVariables false
namespace Go.Proofs.YtflpefkohpjjpaaGreatDoor
open Go.RowKit
theorem agb{w:ak}{lo hi:Int}(hb:aP w.lf1≤100000000)(h:Q2 w lo hi=some 0):(chg w=true→Ee w)∧(¬w.au=8→¬w.au=9→w.aY=[])∧w.aY.length≤1000:=by
 have hp:=fK w
 unfold Q2 amA at h
 simp only[Mo.den,aB,aG,aK,aF,aJ] at h
 obtain⟨b0,e0,h⟩:=bV h
 obtain⟨b1,e1,h⟩:=bV h
 obtain⟨b2,e2,h⟩:=bV h
 obtain⟨_,_,h⟩:=bV h
 cases b2 with
 |true=>
  have h:some (11:Int)=some 0:=h
  cases h
 |false=>
 have hb1:b1=false:=by
  simp only[DR,Mo.den,aB,aG,aK,aF,aJ] at e2
  cases b1 with
  |false=>rfl
  |true=>cases e2
 have hun:Q7 w=some true:=by
  rw[hb1] at e1
  simp only[KY,Mo.den,aB,aG,aK,aF,aJ] at e1
  cases b0 with
  |true=>cases e1
  |false=>
   simp only[cond_false] at e1
   obtain⟨o,ho,e1⟩:=bV e1
   cases o with
   |false=>cases e1
   |true=>exact ho
 cases hn2:decide ((256:Int)<(w.aY.length:Int)) with
 |true=>rw[hn2] at h;have h:some (2:Int)=some 0:=h;cases h
 |false=>
 refine⟨fun hc=>?_,(Ud w hun).2,by have:=of_decide_eq_false hn2;omega⟩
 rw[hn2] at h
 simp only[cond_false] at h
 obtain⟨n1,e20,h⟩:=bV h
 obtain⟨n2,e25,h⟩:=bV h
 obtain⟨n3,e30,h⟩:=bV h
 obtain⟨_,_,h⟩:=bV h
 cases n3 with
 |true=>have h:some (9:Int)=some 0:=h;cases h
 |false=>
 simp only[cond_false] at h
 have hn2':n2=false:=by
  simp only[DV,Mo.den,aB,aG,aK,aF,aJ] at e30
  cases n2 with
  |false=>rfl
  |true=>cases e30
 have hn1:n1=false:=by
  rw[hn2'] at e25
  simp only[DU,Mo.den,aB,aG,aK,aF,aJ] at e25
  cases n1 with
  |false=>rfl
  |true=>cases e25
 obtain⟨_,_,h⟩:=bV h
 obtain⟨_,_,h⟩:=bV h
 obtain⟨_,_,h⟩:=bV h
 obtain⟨s4,_,h⟩:=bV h
 obtain⟨_,_,h⟩:=bV h
 cases s4 with
 |true=>have h:some (1:Int)=some 0:=h;cases h
 |false=>
 simp only[cond_false] at h
 obtain⟨c1,e65,h⟩:=bV h
 cases c1 with
 |true=>have h:some (8:Int)=some 0:=h;cases h
 |false=>
 have hk:w.au=2∨w.au=3:=by
  unfold chg at hc
  simpa using hc
 have hsp:al8 w.au=some true:=by rcases hk with hk|hk<;>rw[hk]<;>kernel_rfl
 have hch:aez w.au=some true:=by rcases hk with hk|hk<;>rw[hk]<;>kernel_rfl
 rw[hn1] at e20
 simp only[DT,Mo.den,aB,aG,aK,aF,aJ,hsp,pK,Option.bind_some,cond_true] at e20
 simp only[DW,Mo.den,aB,aG,aK,aF,aJ,hch,Uc w.fO (by omega),Option.bind_some,cond_true] at e65
 have e20:=Option.some.inj e20
 have e65:=Option.some.inj e65
 have n1':nameB w.fC=true:=by simpa using e20
 refine⟨ai5 n1',?_⟩
 have e65':(!(w.fO.au==6)&&(!(w.fO.au==1)&&(!(w.fO.au==11)&&pO w.fO)))=true:=by
  rw[←Bool.not_not (!(w.fO.au==6)&&_),e65];rfl
 simp only[Bool.and_eq_true] at e65'
 exact e65'.2.2.2
theorem aaH{e:bG}(hb:aP e.lf1≤100000000)(h:Q23 e=some 0):(∀x∈[e.dA]++e.dA.aY,chg x=true→Ee x)∧(¬e.dA.au=8→¬e.dA.au=9→e.dA.aY=[])∧e.dA.aY.length≤1000:=by
 have hp:=kZ e
 have hp2:=fK e.dA
 have hl:=iM e.dA.aY
 unfold Q23 afp at h
 simp only[Mo.den,aB,aG,aK,aF,aJ] at h
 cases h1:decide (e.rD<0) with
 |true=>rw[h1] at h;have h:some (24:Int)=some 0:=h;cases h
 |false=>
 rw[h1] at h
 simp only[cond_false] at h
 obtain⟨_,_,h⟩:=bV h
 obtain⟨c1,_,h⟩:=bV h
 obtain⟨_,_,h⟩:=bV h
 cases c1 with
 |true=>have h:some (1:Int)=some 0:=h;cases h
 |false=>
 simp only[cond_false] at h
 obtain⟨c2,_,h⟩:=bV h
 cases c2 with
 |true=>have h:some (9:Int)=some 0:=h;cases h
 |false=>
 simp only[cond_false] at h
 obtain⟨o,ho,h⟩:=bV h
 cases ho0:o != 0 with
 |true=>
  rw[ho0] at h
  have h:o=0:=Option.some.inj h
  rw[h] at ho0;cases ho0
 |false=>
 obtain rfl:o=0:=by simpa using ho0
 rw[ho0] at h
 simp only[cond_false] at h
 obtain⟨g,_,h⟩:=bV h
 obtain⟨z,hz,h⟩:=bV h
 obtain⟨w1,w2⟩:=agb (by omega) ho
 have key:=af7 e.dA.aY (fun x=>chg x=true→Ee x) (fun e:Int=>e≠0) (fun k v=>v=(k:Int)) (fun v_=>(pF e g v_).den) ?_ ?_ e.dA.aY.length 0 FU 0 z (by omega) rfl hz
 ·rcases key with⟨q,rfl,hq⟩|⟨q,rfl,hq⟩
  ·exact absurd (Option.some.inj h) hq
  ·refine⟨fun x hx=>?_,w2⟩
   rcases List.mem_append.1 hx with hx|hx
   ·rw[List.mem_singleton] at hx;subst hx;exact w1
   ·exact hq x hx
 ·rintro k y v r2 hy rfl h2
  have hm:=jR (iU hy)
  have hky:=lu hy
  unfold pF at h2
  simp only[Mo.den,aB,aG,aK,aF,aJ,ltt hy,gid hy,cond_true,Option.bind_some] at h2
  obtain⟨z2,hz2,h2⟩:=bV h2
  cases hz0:z2 != 0 with
  |true=>
   simp only[hz0,cond_true] at h2
   exact .inr ⟨_,(Option.some.inj h2).symm,by simpa using hz0⟩
  |false=>
   simp only[hz0,cond_false] at h2
   obtain rfl:z2=0:=by simpa using hz0
   exact .inl ⟨_,(Option.some.inj h2).symm,inc k (by omega),(agb (by omega) hz2).1⟩
 ·rintro v r2 rfl h2
  unfold pF at h2
  simp only[Mo.den,aB,aG,aK,aF,aJ,ltn,cond_false] at h2
  exact⟨_,(Option.some.inj h2).symm⟩
theorem aaI(w:ak)(hb:aP w.lf1≤100000000):∃l,aib w=some l∧amJ w=some l∧l.length≤100000000∧∀x∈l,aP x.lf1≤aP w.lf1:=by
 have hp:=fK w
 have hl:=iM w.aY
 have h1:=nJ w hb
 have h2:=nK w.aY (by omega)
 simp only[aib,aeh,GX,Mo.den,aB,aG,aK,aF,aJ,amJ,afE,Mo.den,aB,aG,aK,aF,aJ,al7,Tq,Mo.den,aB,aG,aK,aF,aJ,h1,h2,Option.bind_some,jc]
 cases w.au==8 with
 |true=>exact⟨w.aY,rfl,rfl,by omega,fun x hx=>by have:=jR hx;omega⟩
 |false=>
  simp only[cond_false]
  cases hq:(bif decide (2≤w.au) then decide (w.au≤7) else false) with
  |true=>exact⟨[w],rfl,rfl,by simp,fun x hx=>by rw[List.mem_singleton] at hx;subst hx;exact Nat.le_refl _⟩
  |false=>exact⟨[],rfl,rfl,by simp,fun x hx=>by cases hx⟩
theorem amY(l:List ak)(hl:l.length≤100000000)(hb:∀x∈l,aP x.lf1≤100000000-10):amM l l=some true:=by
 have hS:∀x∈l,amK x x=some true:=fun x hx=>by
  have hbx:=hb x hx
  have hbe:=kZ (bG.mk 0 0 ⟨#[]⟩ 0 x)
  have hbe:aP (bG.mk 0 0 ⟨#[]⟩ 0 x).lf1≤100000000:=by
   rw[hbe]
   show _+aP x.lf1≤_
   have e0:(⟨#[]⟩:ByteArray).size=0:=rfl
   simp only[bG.jV,e0]
   omega
  simp only[amK,afF,Mo.den,aB,aG,aK,aF,aJ,anQ,adN,Mo.den,aB,aG,aK,aF,aJ,aga _ hbe,Option.bind_some,decide_true]
 have hL:Lh l l 0=some (.inr ()):=by
  have key:Tot (Lh l l 0) (fun r=>r=.inr ()):=by
   try unfold Lh
   refine T.kL l.length (by omega) (fun k v=>v=(k:Int)) _ rfl ?_ ?_
   ·rintro k v hk rfl
    have hx:=List.getElem?_eq_getElem hk
    unfold yB
    simp only[Mo.den,aB,aG,aK,aF,aJ,ltt hx,gid hx,cond_true,Option.bind_some,hS _ (iU hx),Bool.not_true,cond_false]
    exact T.ret (inc k (by omega))
   ·rintro v rfl
    unfold yB
    simp only[Mo.den,aB,aG,aK,aF,aJ,ltn,cond_false]
    exact T.ret rfl
  obtain⟨r,hr,rfl⟩:=key
  exact hr
 simp only[amM,afG,Q46,ajR,Mo.den,aB,aG,aK,aF,aJ,bne_self_eq_false,cond_false,hL,Option.bind_some]
theorem equalS(l:List ByteArray)(hl:l.length≤100000000):Q69 l l=some true:=by
 have hL:JD l l 0=some (.inr ()):=by
  have key:Tot (JD l l 0) (fun r=>r=.inr ()):=by
   try unfold JD
   refine T.kL l.length (by omega) (fun k v=>v=(k:Int)) _ rfl ?_ ?_
   ·rintro k v hk rfl
    have hx:=List.getElem?_eq_getElem hk
    unfold wX
    simp only[Mo.den,aB,aG,aK,aF,aJ,ltt hx,gid hx,cond_true,Option.bind_some,decide_true,Bool.not_true,cond_false]
    exact T.ret (inc k (by omega))
   ·rintro v rfl
    unfold wX
    simp only[Mo.den,aB,aG,aK,aF,aJ,ltn,cond_false]
    exact T.ret rfl
  obtain⟨r,hr,rfl⟩:=key
  exact hr
 simp only[Q69,ajd,Mo.den,aB,aG,aK,aF,aJ,bne_self_eq_false,cond_false,hL,Option.bind_some]
theorem FC(e f:bG)(hb:aP e.lf1≤40000000):Q74 e f=some true:=by
 have hp:=kZ e
 have hp2:=fK e.dA
 have hln:=iM e.dA.aY
 obtain⟨b,hb2⟩:=ai6 e (by omega)
 obtain⟨v,hv,_⟩:=FB e (by omega)
 obtain⟨l,hF1,hF2,hl1,hl2⟩:=aaI e.dA (by omega)
 have hF3:∀x∈l,aP x.lf1≤100000000-10:=fun x hx=>by have:=hl2 x hx;omega
 have hsame:=amY l hl1 hF3
 obtain⟨nw,hn1,hn2⟩:∃c,al2 e f=some c∧amT e f=some c:=by
  simp only[al2,aes,ug,uf,Mo.den,aB,aG,aK,aF,aJ,amT,afM,ug,uf,Mo.den,aB,aG,aK,aF,aJ,jc,Option.bind_some]
  exact⟨_,rfl,rfl⟩
 have hJ:TW e f=some (bif !b then true else v != 0):=by
  simp only[TW,PX,Mo.den,aB,aG,aK,aF,aJ,hb2,hv,Option.bind_some,jc]
 unfold Q74 ajW
 simp only[Mo.den,aB,aG,aK,aF,aJ,hJ,aaE,hF1,hF2,hsame,hn1,hn2,Option.bind_some]
 cases hq:(bif !b then true else v != 0) with
 |true=>rfl
 |false=>
  simp only[cond_false,cond_true]
  have hv0:v=0:=by
   cases b with
   |false=>cases hq
   |true=>simpa using hq
  subst hv0
  obtain⟨k1,k2,hn⟩:=aaH (by omega) hv
  have hlk:∀s,jY (lookW e.dA) s↔jY ([e.dA]++e.dA.aY) s:=fun s=>by
   unfold lookW
   cases h89:e.dA.au==8||e.dA.au==9 with
   |true=>
    have hcf:chg e.dA=false:=by
     unfold chg
     simp only[Bool.or_eq_true,beq_iff_eq] at h89
     rw[Bool.or_eq_false_iff,beq_eq_false_iff_ne,beq_eq_false_iff_ne]
     omega
    unfold jY
    constructor
    ·rintro⟨x,hx,h⟩
     exact⟨x,List.mem_append_right _ hx,h⟩
    ·rintro⟨x,hx,h⟩
     rcases List.mem_append.1 hx with hx|hx
     ·rw[List.mem_singleton] at hx;subst hx;rw[hcf] at h;cases h.1
     ·exact⟨x,hx,h⟩
   |false=>
    rw[Bool.or_eq_false_iff,beq_eq_false_iff_ne,beq_eq_false_iff_ne] at h89
    rw[k2 h89.1 h89.2,List.append_nil];exact Iff.rfl
  have hK:∀x∈lookW e.dA,chg x=true→Ee x:=fun x hx=>k1 x (by
   unfold lookW at hx
   cases h89:e.dA.au==8||e.dA.au==9 with
   |true=>rw[h89] at hx;exact List.mem_append_right _ hx
   |false=>rw[h89] at hx;exact List.mem_append_left _ hx)
  obtain⟨r1,g1,g2,g3,hlr⟩:=aaD e.dA (by omega) hn hK
  obtain⟨r2,g4,g5,g6⟩:=aaC e.dA (by omega) hn k1
  obtain rfl:r1=r2:=ai4 g2 g5 fun s=>(g3 s).trans ((hlk s).trans (g6 s).symm)
  simp only[g1,g4,equalS r1 (by omega),Option.bind_some,cond_true,beq_self_eq_true]
end Go.Proofs.YtflpefkohpjjpaaGreatDoor
