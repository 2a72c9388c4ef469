/- Which of the program's models come to an end (printed by totgen.py). -/
import Derived.Test.YtflpefkohpjjpaaGreatDoorQY7
import Derived.Test.YtflpefkohpjjpaaGreatDoorQYR1b
import Derived.Test.YtflpefkohpjjpaaGreatDoorQYNumP
import Derived.Test.YtflpefkohpjjpaaGreatDoorQYRdP
set_option linter.unusedSimpArgs false
set_option linter.unusedVariables false
namespace Go.Proofs.YtflpefkohpjjpaaGreatDoor
open Go.RowKit
theorem rX(p_kind:Int):Tot (akz p_kind) Any:=by
 show MT (UF p_kind) Any
 repeat' (first|exact MT.any|refine MT.say ?_|refine MT.ite (fun _=>?_) (fun _=>?_))
theorem jg(p_v:ah):Tot (Q0 p_v) Any:=by
 show MT (agC p_v) Any
 repeat' (first|exact MT.any|refine MT.say ?_|refine MT.ite (fun _=>?_) (fun _=>?_)|refine MT.lC ?_ (fun _ _=>?_)|refine⟨(show MT _ Any from ?_)⟩)
theorem vI(p_s:aI):Tot (Q12 p_s) Any:=by
 show MT (abS p_s) Any
 repeat' (first|exact MT.any|refine MT.say ?_|refine MT.ite (fun _=>?_) (fun _=>?_)|refine MT.lC ?_ (fun _ _=>?_)|exact⟨T.wk (jg _)⟩|refine⟨(show MT _ Any from ?_)⟩)
theorem xk(p_d:bY):Tot (Q55 p_d) Any:=by
 show MT (abT p_d) Any
 repeat' (first|exact MT.any|refine MT.say ?_|refine MT.ite (fun _=>?_) (fun _=>?_)|refine MT.lC ?_ (fun _ _=>?_)|exact⟨T.wk (vI _)⟩|refine⟨(show MT _ Any from ?_)⟩)
theorem yJ(p_e:aS):Tot (Q16 p_e) Any:=by
 show MT (abU p_e) Any
 repeat' (first|exact MT.any|refine MT.say ?_|refine MT.ite (fun _=>?_) (fun _=>?_)|refine MT.lC ?_ (fun _ _=>?_)|exact⟨T.wk (jg _)⟩|refine⟨(show MT _ Any from ?_)⟩)
theorem yK(p_p:aO):Tot (Q8 p_p) Any:=by
 show MT (akD p_p) Any
 repeat' (first|exact MT.any|refine MT.say ?_|refine MT.ite (fun _=>?_) (fun _=>?_)|refine MT.lC ?_ (fun _ _=>?_)|exact⟨T.wk (yJ _)⟩|exact⟨T.wk (jg _)⟩|refine⟨(show MT _ Any from ?_)⟩)
theorem xq(p_x:aQ):Tot (Q30 p_x) Any:=by
 show MT (abV p_x) Any
 repeat' (first|exact MT.any|refine MT.say ?_|refine MT.ite (fun _=>?_) (fun _=>?_)|refine MT.lC ?_ (fun _ _=>?_)|exact⟨T.wk (yK _)⟩|refine⟨(show MT _ Any from ?_)⟩)
theorem xu(p_w:au):Tot (Q17 p_w) Any:=by
 show MT (abW p_w) Any
 repeat' (first|exact MT.any|refine MT.say ?_|refine MT.ite (fun _=>?_) (fun _=>?_)|refine MT.lC ?_ (fun _ _=>?_)|exact⟨T.wk (xq _)⟩|exact⟨T.wk (xk _)⟩|exact⟨T.wk (jg _)⟩|refine⟨(show MT _ Any from ?_)⟩)
theorem yL(p_w:au):Tot (Q11 p_w) Any:=by
 show MT (abX p_w) Any
 refine MT.ask (R:=Any) ?_ ?_
 ·exact T.wk (rX p_w.ay)
 ·intro r269 h270 _
  refine MT.say (MT.ask (R:=Any) ?_ ?_)
  ·show MT (FY p_w r269) Any
   refine MT.ite (fun c272=>?_) (fun c272=>?_)
   ·exact MT.say MT.any
   ·exact MT.say MT.any
  ·intro r274 h275 _
   refine MT.say (MT.ask (R:=Any) ?_ ?_)
   ·show MT (FZ r269 r274) Any
    refine MT.ite (fun c277=>?_) (fun c277=>?_)
    ·exact MT.say MT.any
    ·exact MT.say MT.any
   ·intro r279 h280 _
    refine MT.say (MT.ask (R:=Any) ?_ ?_)
    ·show MT (Cb r269 r279) Any
     refine MT.ite (fun c282=>?_) (fun c282=>?_)
     ·exact MT.say MT.any
     ·exact MT.say MT.any
    ·intro r284 h285 _
     refine MT.say (MT.ask (R:=Any) ?_ ?_)
     ·show MT (Cc r269 r284) Any
      refine MT.ite (fun c287=>?_) (fun c287=>?_)
      ·exact MT.say MT.any
      ·exact MT.say MT.any
     ·intro r289 h290 _
      refine MT.say (MT.ask (R:=Any) ?_ ?_)
      ·show MT (Ce r269 r289) Any
       refine MT.ite (fun c292=>?_) (fun c292=>?_)
       ·exact MT.say MT.any
       ·exact MT.say MT.any
      ·intro r294 h295 _
       refine MT.say (MT.ask (R:=Any) ?_ ?_)
       ·show MT (Ci r269 r294) Any
        refine MT.ite (fun c297=>?_) (fun c297=>?_)
        ·exact MT.say MT.any
        ·exact MT.say MT.any
       ·intro r299 h300 _
        refine MT.say (MT.ask (R:=Any) ?_ ?_)
        ·show MT (Cj r269 r299) Any
         refine MT.ite (fun c302=>?_) (fun c302=>?_)
         ·exact MT.say MT.any
         ·exact MT.say MT.any
        ·intro r304 h305 _
         refine MT.say (MT.ask (R:=Any) ?_ ?_)
         ·show MT (Cm r269 r304) Any
          refine MT.ite (fun c307=>?_) (fun c307=>?_)
          ·exact MT.say MT.any
          ·exact MT.say MT.any
         ·intro r309 h310 _
          refine MT.say (MT.ask (R:=Any) ?_ ?_)
          ·show MT (CB r269 r309) Any
           refine MT.ite (fun c312=>?_) (fun c312=>?_)
           ·exact MT.say MT.any
           ·exact MT.say MT.any
          ·intro r314 h315 _
           refine MT.say (MT.ask (R:=Any) ?_ ?_)
           ·show MT (CG r269 r314) Any
            refine MT.ite (fun c317=>?_) (fun c317=>?_)
            ·exact MT.say MT.any
            ·exact MT.say MT.any
           ·intro r319 h320 _
            refine MT.say (MT.ask (R:=Any) ?_ ?_)
            ·exact T.wk (xu r319)
            ·intro r585 h586 _
             exact MT.say MT.any
theorem vJ(p_w:au):Tot (amy p_w) Any:=by
 show MT (abY p_w) Any
 repeat' (first|exact MT.any|refine MT.say ?_|refine MT.ite (fun _=>?_) (fun _=>?_)|refine MT.lC ?_ (fun _ _=>?_)|refine⟨(show MT _ Any from ?_)⟩)
theorem uh(p_l:List Int)(h_p_l:bP (p_l.map lfI)≤100000000):Tot (Q75 p_l) Any:=by
 have:=vG p_l
 show MT (aje p_l) Any
 refine MT.say (MT.kL (R:=Any) ?_ ?_ ?_)
 ·refine T.cnt (fun _=>True) ?_
  intro k1 hk1
  show MT (Jy p_l ((k1:Nat):Int)) _
  refine MT.ite (fun c752=>?_) (fun c752=>?_)
  ·have c752':=of_decide_eq_true c752
   refine MT.say (MT.ask (dW p_l ((k1:Nat):Int) (by omega) (by omega)) (fun x753 _ hx2=>?_))
   refine MT.say (MT.ask (R:=fun b_=>(b_=true→True)∧(b_=false→¬((x753:Int)<0)∧¬((8:Int)≤x753)∧True)) ?_ ?_)
   ·show MT (QJ p_l ((k1:Nat):Int) x753) _
    refine MT.ite (fun c755=>?_) (fun c755=>?_)
    ·have c755':=of_decide_eq_true c755
     exact MT.say (MT.ret ⟨(fun _=>trivial),(fun h_=>by cases h_)⟩)
    ·have c755':=of_decide_eq_false c755
     exact MT.say (MT.ret ⟨(fun _=>trivial),(fun h_=>⟨(by first|assumption|omega),(of_decide_eq_false h_),trivial⟩)⟩)
   ·intro r757 h758 f_r757
    refine MT.say (MT.ask (R:=fun b_=>(b_=true→True)∧(b_=false→r757=false∧True)) ?_ ?_)
    ·show MT (QK p_l r757 ((k1:Nat):Int) x753) _
     refine MT.ite (fun c759=>?_) (fun c759=>?_)
     ·exact MT.say (MT.ret ⟨(fun _=>trivial),(fun h_=>by cases h_)⟩)
     ·have q3:=f_r757.2 (c759)
      refine MT.say (MT.ite (fun c760=>?_) (fun c760=>?_))
      ·have c760':=of_decide_eq_true c760
       refine MT.say (MT.ask (dW p_l (IntKind.wrap .i64 (((k1:Nat):Int)-1)) (by rw[w64 (by omega) (by omega)];omega) (by rw[w64 (by omega) (by omega)];omega)) (fun x761 _ hx4=>?_))
       exact MT.say (MT.ret ⟨(fun _=>trivial),(fun h_=>⟨(by first|assumption|omega),trivial⟩)⟩)
      ·have c760':=of_decide_eq_false c760
       exact MT.say (MT.ret ⟨(fun h_=>by cases h_),(fun h_=>⟨(by first|assumption|omega),trivial⟩)⟩)
    ·intro r764 h765 f_r764
     refine MT.say (MT.ite (fun c766=>?_) (fun c766=>?_))
     ·exact MT.say (MT.ret trivial)
     ·have q5:=f_r764.2 (c766)
      have q6:=f_r757.2 (q5.1)
      exact MT.say (MT.ret ⟨rfl,by omega⟩)
  ·have c752':=of_decide_eq_false c752
   exact MT.say (MT.ret trivial)
 ·intro o769 h768 _
  exact MT.say MT.any
 ·intro o770 h768 _
  first|exact MT.say MT.any|exact MT.say (MT.say MT.any)
theorem tH(p_v:ah)(h_p_v:aP p_v.lf1≤100000000):Tot (amC p_v) Any:=by
 have:=dh p_v
 show MT (acj p_v) Any
 repeat' (first|exact MT.any|refine MT.say ?_|refine MT.ite (fun _=>?_) (fun _=>?_)|refine MT.lC ?_ (fun _ _=>?_)|exact⟨T.wk (iw _ (by first|omega|decide))⟩|refine⟨(show MT _ Any from ?_)⟩)
theorem AU(p_x:Int):Tot (amD p_x) Any:=by
 show MT (acn p_x) Any
 repeat' (first|exact MT.any|refine MT.say ?_|refine MT.ite (fun _=>?_) (fun _=>?_))
theorem jO(p_x:Int)(p_y:Int):Tot (amE p_x p_y) Any:=by
 show MT (aco p_x p_y) Any
 repeat' (first|exact MT.any|refine MT.say ?_|refine MT.ite (fun _=>?_) (fun _=>?_)|refine MT.lC ?_ (fun _ _=>?_)|exact⟨T.wk (AU _)⟩)
theorem yM(n_:Nat):∀(p_a:ah) (p_b:ah),aP p_a.lf1<n_→aP p_a.lf1≤100000000→aP p_b.lf1≤100000000→Tot ((xU n_).m1 p_a p_b) Any:=by
 induction n_ with
 |zero=>intro p_a p_b h;omega
 |succ n_ ih=>
  intro p_a p_b h_ h_p_a h_p_b
  have:=dh p_a
  have:=gV p_a.aU
  have:=fZ p_a.aY
  have:=dh p_b
  have:=gV p_b.aU
  have:=fZ p_b.aY
  show MT (acp (xU n_) p_a p_b) Any
  refine MT.ite (fun c1664=>?_) (fun c1664=>?_)
  ·have c1664':¬(p_a.ay=p_b.ay):=by simpa using c1664
   refine MT.say (MT.ask (R:=Any) ?_ ?_)
   ·exact T.wk (jO p_a.ay p_b.ay )
   ·intro r1667 h1668 _
    exact MT.say MT.any
  ·have c1664':p_a.ay=p_b.ay:=by simpa using c1664
   refine MT.say (MT.ask (R:=Any) ?_ ?_)
   ·show MT (QV (xU n_) p_a p_b) Any
    refine MT.ite (fun c1867=>?_) (fun c1867=>?_)
    ·have c1867':p_a.ay=3:=by simpa using c1867
     exact MT.say MT.any
    ·have c1867':¬(p_a.ay=3):=by simpa using c1867
     refine MT.say (MT.ite (fun c1868=>?_) (fun c1868=>?_))
     ·have c1868':p_a.ay=9:=by simpa using c1868
      exact MT.say MT.any
     ·have c1868':¬(p_a.ay=9):=by simpa using c1868
      exact MT.say MT.any
   ·intro r1870 h1871 _
    refine MT.say (MT.ite (fun c1953=>?_) (fun c1953=>?_))
    ·refine MT.say (MT.ask (R:=Any) ?_ ?_)
     ·exact T.wk (jO p_a.dG p_b.dG )
     ·intro r1956 h1957 _
      exact MT.say MT.any
    ·refine MT.say (MT.ask (R:=Any) ?_ ?_)
     ·show MT (QW (xU n_) p_a p_b) Any
      refine MT.ite (fun c1958=>?_) (fun c1958=>?_)
      ·have c1958':p_a.ay=4:=by simpa using c1958
       exact MT.say MT.any
      ·have c1958':¬(p_a.ay=4):=by simpa using c1958
       refine MT.say (MT.ite (fun c1959=>?_) (fun c1959=>?_))
       ·have c1959':p_a.ay=7:=by simpa using c1959
        exact MT.say MT.any
       ·have c1959':¬(p_a.ay=7):=by simpa using c1959
        exact MT.say MT.any
     ·intro r1961 h1962 _
      refine MT.say (MT.ite (fun c2036=>?_) (fun c2036=>?_))
      ·refine MT.say (MT.ask (R:=Any) ?_ ?_)
       ·exact T.wk (T.val (Tt p_a.fText p_b.fText))
       ·intro r2039 h2040 _
        exact MT.say MT.any
      ·refine MT.say (MT.ite (fun c2111=>?_) (fun c2111=>?_))
       ·have c2111':p_a.ay=6:=by simpa using c2111
        refine MT.say (MT.kL (R:=Any) ?_ ?_ ?_)
        ·refine T.cnt (fun _=>True) ?_
         intro k7 hk7
         show MT (JK (xU n_) p_a p_b ((k7:Nat):Int)) _
         refine MT.ite (fun c2121=>?_) (fun c2121=>?_)
         ·have c2121':=of_decide_eq_true c2121
          refine MT.say (MT.ask (dW p_a.aU ((k7:Nat):Int) (by omega) (by omega)) (fun x2122 _ hx8=>?_))
          have:=jm hx8
          have:=dh x2122
          refine MT.say (MT.ask (dW p_b.aU ((k7:Nat):Int) (by omega) (by omega)) (fun x2124 _ hx9=>?_))
          have:=jm hx9
          have:=dh x2124
          refine MT.say (MT.ask (R:=Any) ?_ ?_)
          ·exact(ih x2122 x2124 (by omega) (by first|omega|(simp;done)|decide) (by first|omega|(simp;done)|decide))
          ·intro r2126 h2127 _
           refine MT.say (MT.ite (fun c2128=>?_) (fun c2128=>?_))
           ·have c2128':¬(r2126=0):=by simpa using c2128
            exact MT.say (MT.ret trivial)
           ·have c2128':r2126=0:=by simpa using c2128
            exact MT.say (MT.ret ⟨rfl,by omega⟩)
         ·have c2121':=of_decide_eq_false c2121
          exact MT.say (MT.ret trivial)
        ·intro o2134 h2133 _
         exact MT.say MT.any
        ·intro o2135 h2133 _
         refine MT.say (MT.ask (R:=Any) ?_ ?_)
         ·exact T.wk (jO (p_a.aU.length:Int) (p_b.aU.length:Int) )
         ·intro r2138 h2139 _
          exact MT.say MT.any
       ·have c2111':¬(p_a.ay=6):=by simpa using c2111
        refine MT.say (MT.ite (fun c2183=>?_) (fun c2183=>?_))
        ·have c2183':p_a.ay=5:=by simpa using c2183
         refine MT.say (MT.kL (R:=Any) ?_ ?_ ?_)
         ·refine T.cnt (fun _=>True) ?_
          intro k10 hk10
          show MT (JL (xU n_) p_a p_b ((k10:Nat):Int)) _
          refine MT.ite (fun c2200=>?_) (fun c2200=>?_)
          ·have c2200':=of_decide_eq_true c2200
           refine MT.say (MT.ask (dW p_a.aY ((k10:Nat):Int) (by omega) (by omega)) (fun x2201 _ hx11=>?_))
           have:=gq hx11
           have:=eF x2201
           refine MT.say (MT.ask (dW p_b.aY ((k10:Nat):Int) (by omega) (by omega)) (fun x2203 _ hx12=>?_))
           have:=gq hx12
           have:=eF x2203
           refine MT.say (MT.ask (R:=Any) ?_ ?_)
           ·exact T.wk (T.val (Tt x2201.fName x2203.fName))
           ·intro r2205 h2206 _
            refine MT.say (MT.ite (fun c2207=>?_) (fun c2207=>?_))
            ·have c2207':¬(r2205=0):=by simpa using c2207
             exact MT.say (MT.ret trivial)
            ·have c2207':r2205=0:=by simpa using c2207
             refine MT.say (MT.ask (dW p_a.aY ((k10:Nat):Int) (by omega) (by omega)) (fun x2208 _ hx13=>?_))
             have:=gq hx13
             have:=eF x2208
             have:=dh x2208.fValue
             refine MT.say (MT.ask (dW p_b.aY ((k10:Nat):Int) (by omega) (by omega)) (fun x2210 _ hx14=>?_))
             have:=gq hx14
             have:=eF x2210
             have:=dh x2210.fValue
             refine MT.say (MT.ask (R:=Any) ?_ ?_)
             ·exact(ih x2208.fValue x2210.fValue (by omega) (by first|omega|(simp;done)|decide) (by first|omega|(simp;done)|decide))
             ·intro r2212 h2213 _
              refine MT.say (MT.ite (fun c2214=>?_) (fun c2214=>?_))
              ·have c2214':¬(r2212=0):=by simpa using c2214
               exact MT.say (MT.ret trivial)
              ·have c2214':r2212=0:=by simpa using c2214
               exact MT.say (MT.ret ⟨rfl,by omega⟩)
          ·have c2200':=of_decide_eq_false c2200
           exact MT.say (MT.ret trivial)
         ·intro o2222 h2221 _
          exact MT.say MT.any
         ·intro o2223 h2221 _
          refine MT.say (MT.ask (R:=Any) ?_ ?_)
          ·exact T.wk (jO (p_a.aY.length:Int) (p_b.aY.length:Int) )
          ·intro r2226 h2227 _
           exact MT.say MT.any
        ·have c2183':¬(p_a.ay=5):=by simpa using c2183
         exact MT.say MT.any
theorem AX(p_a:ah)(p_b:ah)(h_p_a:aP p_a.lf1≤100000000)(h_p_b:aP p_b.lf1≤100000000):Tot (Q67 p_a p_b) Any:=yM FU p_a p_b (by have:=iZ;omega) h_p_a h_p_b
theorem Em(p_a:ah)(p_b:ah)(h_p_a:aP p_a.lf1≤100000000)(h_p_b:aP p_b.lf1≤100000000):Tot (akN p_a p_b) Any:=by
 have:=dh p_a
 have:=dh p_b
 show MT (acr p_a p_b) Any
 repeat' (first|exact MT.any|refine MT.say ?_|refine MT.ite (fun _=>?_) (fun _=>?_)|refine MT.lC ?_ (fun _ _=>?_)|exact⟨T.wk (AX _ _ (by first|omega|decide) (by first|omega|decide))⟩)
theorem AY(n_:Nat):∀(p_v:ah),aP p_v.lf1<n_→aP p_v.lf1≤100000000→Tot ((uM n_).m1 p_v) Any:=by
 induction n_ with
 |zero=>intro p_v h;omega
 |succ n_ ih=>
  intro p_v h_ h_p_v
  have:=dh p_v
  have:=gV p_v.aU
  have:=fZ p_v.aY
  show MT (acs (uM n_) p_v) Any
  refine MT.ask (R:=Any) ?_ ?_
  ·show MT (JQ (uM n_) p_v) Any
   refine MT.ask (R:=Any) ?_ ?_
   ·show MT (QX (uM n_) p_v) Any
    refine MT.ite (fun c2355=>?_) (fun c2355=>?_)
    ·have c2355':p_v.ay=3:=by simpa using c2355
     exact MT.say MT.any
    ·have c2355':¬(p_v.ay=3):=by simpa using c2355
     exact MT.say MT.any
   ·intro r2357 h2358 _
    refine MT.say (MT.ite (fun c2359=>?_) (fun c2359=>?_))
    ·refine MT.say (MT.ask (R:=Any) ?_ ?_)
     ·exact T.wk (jf p_v.dG )
     ·intro r2360 h2361 _
      exact MT.say MT.any
    ·refine MT.say (MT.ite (fun c2362=>?_) (fun c2362=>?_))
     ·have c2362':p_v.ay=9:=by simpa using c2362
      exact MT.say MT.any
     ·have c2362':¬(p_v.ay=9):=by simpa using c2362
      refine MT.say (MT.ask (R:=Any) ?_ ?_)
      ·show MT (QY (uM n_) p_v) Any
       refine MT.ite (fun c2363=>?_) (fun c2363=>?_)
       ·have c2363':p_v.ay=4:=by simpa using c2363
        exact MT.say MT.any
       ·have c2363':¬(p_v.ay=4):=by simpa using c2363
        exact MT.say MT.any
      ·intro r2365 h2366 _
       refine MT.say (MT.ite (fun c2367=>?_) (fun c2367=>?_))
       ·refine MT.say (MT.ask (R:=Any) ?_ ?_)
        ·exact T.wk (jf (p_v.fText.size:Int) )
        ·intro r2368 h2369 _
         exact MT.say MT.any
       ·refine MT.say (MT.ite (fun c2370=>?_) (fun c2370=>?_))
        ·have c2370':p_v.ay=8:=by simpa using c2370
         exact MT.say MT.any
        ·have c2370':¬(p_v.ay=8):=by simpa using c2370
         refine MT.say (MT.ite (fun c2371=>?_) (fun c2371=>?_))
         ·have c2371':p_v.ay=6:=by simpa using c2371
          refine MT.say (MT.ask (R:=Any) ?_ ?_)
          ·exact T.wk (jf (p_v.aU.length:Int) )
          ·intro r2372 h2373 _
           refine MT.say (MT.ask (R:=Any) ?_ ?_)
           ·refine T.anj (fun _=>True) ?_
            intro v2379 k15 hk15
            show MT (JM (uM n_) p_v (v2379,((k15:Nat):Int))) _
            refine MT.ite (fun c2381=>?_) (fun c2381=>?_)
            ·have c2381':=of_decide_eq_true c2381
             refine MT.say (MT.ask (dW p_v.aU ((k15:Nat):Int) (by omega) (by omega)) (fun x2382 _ hx16=>?_))
             have:=jm hx16
             have:=dh x2382
             refine MT.say (MT.ask (R:=Any) ?_ ?_)
             ·exact(ih x2382 (by omega) (by first|omega|(simp;done)|decide))
             ·intro r2384 h2385 _
              exact MT.say (MT.ret ⟨rfl,by omega⟩)
            ·have c2381':=of_decide_eq_false c2381
             exact MT.say (MT.ret trivial)
           ·intro r2387 h2388 _
            exact MT.say MT.any
         ·have c2371':¬(p_v.ay=6):=by simpa using c2371
          refine MT.say (MT.ite (fun c2389=>?_) (fun c2389=>?_))
          ·have c2389':p_v.ay=5:=by simpa using c2389
           refine MT.say (MT.ask (R:=Any) ?_ ?_)
           ·exact T.wk (jf (p_v.aY.length:Int) )
           ·intro r2390 h2391 _
            refine MT.say (MT.ask (R:=Any) ?_ ?_)
            ·refine T.anj (fun _=>True) ?_
             intro v2399 k17 hk17
             show MT (JO (uM n_) p_v (v2399,((k17:Nat):Int))) _
             refine MT.ite (fun c2401=>?_) (fun c2401=>?_)
             ·have c2401':=of_decide_eq_true c2401
              refine MT.say (MT.ask (dW p_v.aY ((k17:Nat):Int) (by omega) (by omega)) (fun x2402 _ hx18=>?_))
              have:=gq hx18
              have:=eF x2402
              have:=dh x2402.fValue
              refine MT.say (MT.ask (R:=Any) ?_ ?_)
              ·exact T.wk (jf (x2402.fName.size:Int) )
              ·intro r2404 h2405 _
               refine MT.say (MT.ask (R:=Any) ?_ ?_)
               ·exact(ih x2402.fValue (by omega) (by first|omega|(simp;done)|decide))
               ·intro r2406 h2407 _
                exact MT.say (MT.ret ⟨rfl,by omega⟩)
             ·have c2401':=of_decide_eq_false c2401
              exact MT.say (MT.ret trivial)
            ·intro r2409 h2410 _
             exact MT.say MT.any
          ·have c2389':¬(p_v.ay=5):=by simpa using c2389
           exact MT.say MT.any
  ·intro r2417 h2418 _
   exact MT.say MT.any
theorem Dn(p_v:ah)(h_p_v:aP p_v.lf1≤100000000):Tot (Q56 p_v) Any:=AY FU p_v (by have:=iZ;omega) h_p_v
theorem Dp(p_v:ah)(h_p_v:aP p_v.lf1≤100000000):Tot (amF p_v) Any:=by
 have:=dh p_v
 show MT (acu p_v) Any
 repeat' (first|exact MT.any|refine MT.say ?_|refine MT.ite (fun _=>?_) (fun _=>?_)|refine MT.lC ?_ (fun _ _=>?_)|exact⟨T.wk (Dn _ (by first|omega|decide))⟩|exact⟨T.wk (iw _ (by first|omega|decide))⟩)
theorem yN(p_doc:ah)(p_key:ah)(h_p_doc:aP p_doc.lf1≤100000000)(h_p_key:aP p_key.lf1≤100000000):Tot (Q88 p_doc p_key) Any:=by
 have:=dh p_doc
 have:=fZ p_doc.aY
 have:=dh p_key
 show MT (ajg p_doc p_key) Any
 refine MT.ask (R:=fun b_=>(b_=true→True)∧(b_=false→p_doc.ay=5∧True)) ?_ ?_
 ·show MT (QZ p_doc p_key) _
  refine MT.ite (fun c1625=>?_) (fun c1625=>?_)
  ·have c1625':¬(p_doc.ay=5):=by simpa using c1625
   exact MT.say (MT.ret ⟨(fun _=>trivial),(fun h_=>by cases h_)⟩)
  ·have c1625':p_doc.ay=5:=by simpa using c1625
   refine MT.say (MT.ask (R:=Any) ?_ ?_)
   ·exact T.wk (iw p_doc (by first|omega|(simp;done)|decide))
   ·intro r1626 h1627 _
    exact MT.say (MT.ret ⟨(fun _=>trivial),(fun h_=>⟨(by first|assumption|omega),trivial⟩)⟩)
 ·intro r1629 h1630 f_r1629
  refine MT.say (MT.ask (R:=fun b_=>(b_=true→True)∧(b_=false→r1629=false∧¬((p_doc.aY.length:Int)=0)∧True)) ?_ ?_)
  ·show MT (Rf p_doc p_key r1629) _
   refine MT.ite (fun c1631=>?_) (fun c1631=>?_)
   ·exact MT.say (MT.ret ⟨(fun _=>trivial),(fun h_=>by cases h_)⟩)
   ·have q19:=f_r1629.2 (c1631)
    first|exact MT.say (MT.ret ⟨(fun _=>trivial),(fun h_=>⟨(by first|assumption|omega),(by simpa using h_),trivial⟩)⟩)|exact MT.say (MT.say (MT.ret ⟨(fun _=>trivial),(fun h_=>⟨(by first|assumption|omega),(by simpa using h_),trivial⟩)⟩))
  ·intro r1633 h1634 f_r1633
   refine MT.say (MT.ite (fun c1636=>?_) (fun c1636=>?_))
   ·exact MT.say MT.any
   ·have q20:=f_r1633.2 (c1636)
    have q21:=f_r1629.2 (q20.1)
    refine MT.say (MT.ask (R:=Any) ?_ ?_)
    ·show MT (JR p_doc p_key) Any
     refine MT.ask (dW p_doc.aY 0 (by omega) (by omega)) (fun x2232 _ hx22=>?_)
     have:=gq hx22
     have:=eF x2232
     refine MT.say (MT.ite (fun c2234=>?_) (fun c2234=>?_))
     ·exact MT.say MT.any
     ·refine MT.say (MT.ask (dW p_doc.aY 0 (by omega) (by omega)) (fun x2235 _ hx23=>?_))
      have:=gq hx23
      have:=eF x2235
      have:=dh x2235.fValue
      refine MT.say (MT.ask (R:=Any) ?_ ?_)
      ·exact T.wk (Em x2235.fValue p_key (by first|omega|(simp;done)|decide) (by first|omega|(simp;done)|decide))
      ·intro r2237 h2238 _
       exact MT.say MT.any
    ·intro r2242 h2243 _
     refine MT.say (MT.ite (fun c2245=>?_) (fun c2245=>?_))
     ·exact MT.say MT.any
     ·refine MT.say (MT.ask (R:=Any) ?_ ?_)
      ·exact T.wk (Dp p_doc (by first|omega|(simp;done)|decide))
      ·intro r2423 h2424 _
       refine MT.say (MT.ite (fun c2426=>?_) (fun c2426=>?_))
       ·have c2426':¬(r2423.2=0):=by simpa using c2426
        exact MT.say MT.any
       ·have c2426':r2423.2=0:=by simpa using c2426
        refine MT.say (MT.ite (fun c2428=>?_) (fun c2428=>?_))
        ·have c2428':=of_decide_eq_true c2428
         exact MT.say MT.any
        ·have c2428':=of_decide_eq_false c2428
         exact MT.say MT.any
theorem xw(p_w:au)(h_p_w:aP p_w.lf1≤100000000):Tot (amG p_w) Any:=by
 have:=jv p_w
 have:=dh p_w.ig
 have:=dh p_w.aY
 have:=dh p_w.dF
 show MT (acw p_w) Any
 repeat' (first|exact MT.any|refine MT.say ?_|refine MT.ite (fun _=>?_) (fun _=>?_)|refine MT.lC ?_ (fun _ _=>?_)|refine MT.ajQ ?_ (fun _ _=>?_) (fun _ _=>?_)|exact⟨T.wk (tH _ (by first|omega|decide))⟩|exact⟨T.wk (yN _ _ (by first|omega|decide) (by first|omega|decide))⟩|exact⟨T.wk (jg _)⟩|refine⟨(show MT _ Any from ?_)⟩)
theorem rY(p_s1:List ByteArray)(p_s2:List ByteArray)(h_p_s1:bP (p_s1.map lfS)≤100000000)(h_p_s2:bP (p_s2.map lfS)≤100000000):Tot (amH p_s1 p_s2) Any:=by
 have:=gJ p_s1
 have:=gJ p_s2
 show MT (acB p_s1 p_s2) Any
 refine MT.say (MT.ite (fun c2833=>?_) (fun c2833=>?_))
 ·have c2833':¬((p_s1.length:Int)=(p_s2.length:Int)):=by simpa using c2833
  exact MT.say MT.any
 ·have c2833':(p_s1.length:Int)=(p_s2.length:Int):=by simpa using c2833
  refine MT.say (MT.kL (R:=Any) ?_ ?_ ?_)
  ·refine T.cnt (fun _=>True) ?_
   intro k24 hk24
   show MT (JX p_s1 p_s2 ((k24:Nat):Int)) _
   refine MT.ite (fun c2869=>?_) (fun c2869=>?_)
   ·have c2869':=of_decide_eq_true c2869
    refine MT.say (MT.ask (dW p_s1 ((k24:Nat):Int) (by omega) (by omega)) (fun x2870 _ hx25=>?_))
    have:=EM hx25
    refine MT.say (MT.ask (dW p_s2 ((k24:Nat):Int) (by omega) (by omega)) (fun x2872 _ hx26=>?_))
    have:=EM hx26
    refine MT.say (MT.ite (fun c2874=>?_) (fun c2874=>?_))
    ·exact MT.say (MT.ret trivial)
    ·exact MT.say (MT.ret ⟨rfl,by omega⟩)
   ·have c2869':=of_decide_eq_false c2869
    exact MT.say (MT.ret trivial)
  ·intro o2877 h2876 _
   exact MT.say MT.any
  ·intro o2878 h2876 _
   exact MT.say MT.any
theorem En(p_l:List bf)(h_p_l:bP (p_l.map bf.lf)≤100000000):Tot (amI p_l) Any:=by
 have:=mJ p_l
 show MT (acC p_l) Any
 refine MT.say (MT.ite (fun c2811=>?_) (fun c2811=>?_))
 ·have c2811':=of_decide_eq_true c2811
  exact MT.say MT.any
 ·have c2811':=of_decide_eq_false c2811
  refine MT.say (MT.kL (R:=Any) ?_ ?_ ?_)
  ·refine T.cnt (fun _=>True) ?_
   intro k27 hk27
   have:=iK bf.lf p_l (((k27:Nat):Int).toNat)
   have:=mJ (p_l.take ((k27:Nat):Int).toNat)
   show MT (JZ p_l ((k27:Nat):Int)) _
   refine MT.ite (fun c2996=>?_) (fun c2996=>?_)
   ·have c2996':=of_decide_eq_true c2996
    refine MT.say (MT.ask (dW p_l ((k27:Nat):Int) (by omega) (by omega)) (fun x2997 _ hx28=>?_))
    have:=wS hx28
    have:=lu x2997
    have:=gJ x2997.cZ
    refine MT.say (MT.ask (R:=Any) ?_ ?_)
    ·exact T.wk (T.val (rW x2997.cZ))
    ·intro r2999 h3000 _
     refine MT.say (MT.ite (fun c3001=>?_) (fun c3001=>?_))
     ·exact MT.say (MT.ret trivial)
     ·refine MT.say (MT.grd (by omega) (fun _=>?_))
      refine MT.say (MT.kL (R:=Any) ?_ ?_ ?_)
      ·refine T.cnt (fun _=>True) ?_
       intro k29 hk29
       have:=iK bf.lf p_l (((k27:Nat):Int).toNat)
       have:=mJ (p_l.take ((k27:Nat):Int).toNat)
       show MT (JY p_l ((k27:Nat):Int) x2997 ((k29:Nat):Int)) _
       refine MT.ite (fun c3010=>?_) (fun c3010=>?_)
       ·have c3010':=of_decide_eq_true c3010
        refine MT.say (MT.ask (dW (p_l.take ((k27:Nat):Int).toNat) ((k29:Nat):Int) (by omega) (by omega)) (fun x3011 _ hx30=>?_))
        have:=iK bf.lf p_l (((k27:Nat):Int).toNat)
        have:=wS hx30
        have:=lu x3011
        have:=gJ x3011.cZ
        refine MT.say (MT.ask (R:=Any) ?_ ?_)
        ·exact T.wk (rY x3011.cZ x2997.cZ (by first|omega|(simp;done)|decide) (by first|omega|(simp;done)|decide))
        ·intro r3013 h3014 _
         refine MT.say (MT.ite (fun c3015=>?_) (fun c3015=>?_))
         ·exact MT.say (MT.ret trivial)
         ·exact MT.say (MT.ret ⟨rfl,by omega⟩)
       ·have c3010':=of_decide_eq_false c3010
        exact MT.say (MT.ret trivial)
      ·intro o3018 h3017 _
       exact MT.say (MT.ret trivial)
      ·intro o3019 h3017 _
       exact MT.say (MT.ret ⟨rfl,by omega⟩)
   ·have c2996':=of_decide_eq_false c2996
    exact MT.say (MT.ret trivial)
  ·intro o3023 h3022 _
   exact MT.say MT.any
  ·intro o3024 h3022 _
   exact MT.say MT.any
theorem xA(n_:Nat):∀(p_p:aO) (p_level:Int) (p_b0:Int),aP p_p.lf1<n_→aP p_p.lf1≤100000000→Tot ((uO n_).m1 p_p p_level p_b0) Any:=by
 induction n_ with
 |zero=>intro p_p p_level p_b0 h;omega
 |succ n_ ih=>
  intro p_p p_level p_b0 h_ h_p_p
  have:=gZ p_p
  have:=mQ p_p.bV
  show MT (Rn (uO n_) p_p p_level p_b0) Any
  refine MT.ask (R:=fun b_=>(b_=true→True)∧(b_=false→¬((16:Int)<p_level)∧¬(p_b0=256)∧True)) ?_ ?_
  ·show MT (F8 (uO n_) p_b0 p_level p_p) _
   refine MT.ite (fun c3050=>?_) (fun c3050=>?_)
   ·have c3050':=of_decide_eq_true c3050
    exact MT.say (MT.ret ⟨(fun _=>trivial),(fun h_=>by cases h_)⟩)
   ·have c3050':=of_decide_eq_false c3050
    exact MT.say (MT.ret ⟨(fun _=>trivial),(fun h_=>⟨(by first|assumption|omega),(by simpa using h_),trivial⟩)⟩)
  ·intro r3052 h3053 f_r3052
   refine MT.say (MT.ite (fun c3055=>?_) (fun c3055=>?_))
   ·exact MT.say MT.any
   ·have q31:=f_r3052.2 (c3055)
    refine MT.say (MT.kL (R:=Any) ?_ ?_ ?_)
    ·refine T.Ih (fun _=>True) ?_
     intro k32 v3094 hk32
     show MT (uN (uO n_) p_level p_p (((k32:Nat):Int),v3094)) _
     refine MT.ite (fun c3095=>?_) (fun c3095=>?_)
     ·have c3095':=of_decide_eq_true c3095
      refine MT.say (MT.ask (dW p_p.bV ((k32:Nat):Int) (by omega) (by omega)) (fun x3096 _ hx33=>?_))
      have:=vH hx33
      have:=gZ x3096
      refine MT.say (MT.ask (R:=Any) ?_ ?_)
      ·exact(ih x3096 (IntKind.wrap .i64 (p_level+1)) v3094 (by omega) (by first|omega|(simp;done)|decide))
      ·intro r3098 h3099 _
       refine MT.say (MT.ite (fun c3100=>?_) (fun c3100=>?_))
       ·exact MT.say (MT.ret trivial)
       ·exact MT.say (MT.ret ⟨rfl,by omega⟩)
     ·have c3095':=of_decide_eq_false c3095
      exact MT.say (MT.ret trivial)
    ·intro o3105 h3104 _
     exact MT.say MT.any
    ·intro o3106 h3104 _
     exact MT.say MT.any
theorem yO(p_p:aO)(p_level:Int)(p_b0:Int)(h_p_p:aP p_p.lf1≤100000000):Tot (Q63 p_p p_level p_b0) Any:=xA FU p_p p_level p_b0 (by have:=iZ;omega) h_p_p
theorem uj(p_op:Int)(p_n:Int):Tot (amJ p_op p_n) Any:=by
 show MT (acD p_op p_n) Any
 repeat' (first|exact MT.any|refine MT.say ?_|refine MT.ite (fun _=>?_) (fun _=>?_)|refine MT.lC ?_ (fun _ _=>?_)|refine⟨(show MT _ Any from ?_)⟩)
theorem jo(p_op:Int):Tot (agZ p_op) Any:=by
 show MT (acE p_op) Any
 repeat' (first|exact MT.any|refine MT.say ?_|refine MT.ite (fun _=>?_) (fun _=>?_))
theorem um(p_p:aO)(h_p_p:aP p_p.lf1≤100000000):Tot (Q85 p_p) Any:=by
 have:=gZ p_p
 show MT (ajk p_p) Any
 repeat' (first|exact MT.any|refine MT.say ?_|refine MT.ite (fun _=>?_) (fun _=>?_)|refine MT.lC ?_ (fun _ _=>?_)|refine⟨(show MT _ Any from ?_)⟩)
theorem lD(p_op:Int):Tot (ag0 p_op) Any:=by
 show MT (acH p_op) Any
 repeat' (first|exact MT.any|refine MT.say ?_|refine MT.ite (fun _=>?_) (fun _=>?_))
theorem nP(p_op:Int):Tot (amK p_op) Any:=by
 show MT (acI p_op) Any
 repeat' (first|exact MT.any|refine MT.say ?_|refine MT.ite (fun _=>?_) (fun _=>?_))
theorem kP(p_op:Int):Tot (ag1 p_op) Any:=by
 show MT (acJ p_op) Any
 repeat' (first|exact MT.any|refine MT.say ?_|refine MT.ite (fun _=>?_) (fun _=>?_)|refine MT.lC ?_ (fun _ _=>?_)|exact⟨T.wk (nP _)⟩)
theorem oH(p_n:Int):Tot (amL p_n) Any:=by
 show MT (acK p_n) Any
 repeat' (first|exact MT.any|refine MT.say ?_|refine MT.ite (fun _=>?_) (fun _=>?_))
theorem Eo(p_p:bM)(h_p_p:aP p_p.lf1≤100000000):Tot (amM p_p) Any:=by
 have:=qo p_p
 show MT (acL p_p) Any
 repeat' (first|exact MT.any|refine MT.say ?_|refine MT.ite (fun _=>?_) (fun _=>?_)|refine MT.lC ?_ (fun _ _=>?_)|exact⟨T.wk (oH _)⟩)
theorem Io(p_s:dZ)(h_p_s:aP p_s.lf1≤100000000):Tot (amN p_s) Any:=by
 have:=nV p_s
 have:=sZ p_s.dD
 show MT (acM p_s) Any
 refine MT.say (MT.ask (R:=Any) ?_ ?_)
 ·show MT (J3 p_s) Any
  refine MT.ite (fun c3440=>?_) (fun c3440=>?_)
  ·have c3440':p_s.ay=1:=by simpa using c3440
   refine MT.say (MT.ite (fun c3441=>?_) (fun c3441=>?_))
   ·have c3441':(p_s.dD.length:Int)=2:=by simpa using c3441
    exact MT.say MT.any
   ·have c3441':¬((p_s.dD.length:Int)=2):=by simpa using c3441
    exact MT.say MT.any
  ·have c3440':¬(p_s.ay=1):=by simpa using c3440
   refine MT.say (MT.ite (fun c3442=>?_) (fun c3442=>?_))
   ·have c3442':p_s.ay=2:=by simpa using c3442
    refine MT.say (MT.ite (fun c3443=>?_) (fun c3443=>?_))
    ·have c3443':(p_s.dD.length:Int)=1:=by simpa using c3443
     refine MT.say (MT.ask (R:=Any) ?_ ?_)
     ·exact T.wk (oH p_s.fR )
     ·intro r3444 h3445 _
      exact MT.say MT.any
    ·have c3443':¬((p_s.dD.length:Int)=1):=by simpa using c3443
     exact MT.say MT.any
   ·have c3442':¬(p_s.ay=2):=by simpa using c3442
    refine MT.say (MT.ite (fun c3446=>?_) (fun c3446=>?_))
    ·have c3446':p_s.ay=3:=by simpa using c3446
     refine MT.say (MT.ite (fun c3447=>?_) (fun c3447=>?_))
     ·have c3447':=of_decide_eq_true c3447
      refine MT.say (MT.ite (fun c3448=>?_) (fun c3448=>?_))
      ·have c3448':=of_decide_eq_true c3448
       exact MT.say MT.any
      ·have c3448':=of_decide_eq_false c3448
       exact MT.say MT.any
     ·have c3447':=of_decide_eq_false c3447
      exact MT.say MT.any
    ·have c3446':¬(p_s.ay=3):=by simpa using c3446
     exact MT.say MT.any
 ·intro r3450 h3451 _
  refine MT.say (MT.ite (fun c3453=>?_) (fun c3453=>?_))
  ·exact MT.say MT.any
  ·refine MT.say (MT.kL (R:=Any) ?_ ?_ ?_)
   ·refine T.cnt (fun _=>True) ?_
    intro k34 hk34
    show MT (J4 p_s ((k34:Nat):Int)) _
    refine MT.ite (fun c3494=>?_) (fun c3494=>?_)
    ·have c3494':=of_decide_eq_true c3494
     refine MT.say (MT.ask (dW p_s.dD ((k34:Nat):Int) (by omega) (by omega)) (fun x3495 _ hx35=>?_))
     have:=qo x3495
     refine MT.say (MT.ask (R:=Any) ?_ ?_)
     ·exact T.wk (Eo x3495 (by first|omega|(simp;done)|decide))
     ·intro r3497 h3498 _
      refine MT.say (MT.ite (fun c3499=>?_) (fun c3499=>?_))
      ·exact MT.say (MT.ret trivial)
      ·exact MT.say (MT.ret ⟨rfl,by omega⟩)
    ·have c3494':=of_decide_eq_false c3494
     exact MT.say (MT.ret trivial)
   ·intro o3502 h3501 _
    exact MT.say MT.any
   ·intro o3503 h3501 _
    exact MT.say MT.any
theorem oI(p_v:ah):Tot (ag4 p_v) Any:=by
 show MT (UQ p_v) Any
 repeat' (first|exact MT.any|refine MT.say ?_|refine MT.ite (fun _=>?_) (fun _=>?_)|refine MT.lC ?_ (fun _ _=>?_)|refine⟨(show MT _ Any from ?_)⟩)
theorem xB(p_op:Int):Tot (Q74 p_op) Any:=by
 show MT (acN p_op) Any
 repeat' (first|exact MT.any|refine MT.say ?_|refine MT.ite (fun _=>?_) (fun _=>?_)|refine MT.lC ?_ (fun _ _=>?_)|refine⟨(show MT _ Any from ?_)⟩)
theorem rF(p_e:aS):Tot (Q94 p_e) Any:=by
 show MT (acO p_e) Any
 repeat' (first|exact MT.any|refine MT.say ?_|refine MT.ite (fun _=>?_) (fun _=>?_)|refine MT.lC ?_ (fun _ _=>?_)|exact⟨T.wk (oI _)⟩|refine⟨(show MT _ Any from ?_)⟩)
theorem xC(p_p:aO):Tot (Q3 p_p) Any:=by
 show MT (akX p_p) Any
 repeat' (first|exact MT.any|refine MT.say ?_|refine MT.ite (fun _=>?_) (fun _=>?_)|refine MT.lC ?_ (fun _ _=>?_)|refine MT.ajQ ?_ (fun _ _=>?_) (fun _ _=>?_)|exact⟨T.wk (oI _)⟩|exact⟨T.wk (rF _)⟩|exact⟨T.wk (lD _)⟩|exact⟨T.wk (kP _)⟩|exact⟨T.wk (jo _)⟩|exact⟨T.wk (xB _)⟩|refine⟨(show MT _ Any from ?_)⟩)
theorem G9(p_op:Int):Tot (akY p_op) Any:=by
 show MT (acP p_op) Any
 repeat' (first|exact MT.any|refine MT.say ?_|refine MT.ite (fun _=>?_) (fun _=>?_)|refine MT.lC ?_ (fun _ _=>?_)|refine⟨(show MT _ Any from ?_)⟩)
theorem Dq(p_shape:Int)(p_n:Int):Tot (akZ p_shape p_n) Any:=by
 show MT (acQ p_shape p_n) Any
 repeat' (first|exact MT.any|refine MT.say ?_|refine MT.ite (fun _=>?_) (fun _=>?_)|refine MT.lC ?_ (fun _ _=>?_)|refine⟨(show MT _ Any from ?_)⟩)
theorem tV(p_s:ByteArray)(h_p_s:p_s.size≤100000000):Tot (amP p_s) Any:=by
 show MT (acR p_s) Any
 repeat' (first|exact MT.any|refine MT.say ?_|refine MT.ite (fun _=>?_) (fun _=>?_)|refine MT.lC ?_ (fun _ _=>?_)|exact⟨T.wk (T.val (rW _))⟩)
theorem tJ(p_l:List ByteArray)(h_p_l:bP (p_l.map lfS)≤100000000):Tot (amQ p_l) Any:=by
 have:=gJ p_l
 show MT (acS p_l) Any
 refine MT.say (MT.kL (R:=Any) ?_ ?_ ?_)
 ·refine T.al2 (fun _=>True) ?_
  intro k36 m4094 hk36 hmk36
  show MT (J8 p_l (((k36:Nat):Int),m4094)) _
  refine MT.ite (fun c4095=>?_) (fun c4095=>?_)
  ·have c4095':=of_decide_eq_true c4095
   refine MT.say (MT.ask (dW p_l ((k36:Nat):Int) (by omega) (by omega)) (fun x4096 _ hx37=>?_))
   have:=EM hx37
   refine MT.say (MT.ask (R:=Any) ?_ ?_)
   ·show MT (J7 m4094 p_l ((k36:Nat):Int) x4096) Any
    refine MT.ask (R:=Any) ?_ ?_
    ·exact T.wk (tV x4096 (by first|omega|(simp;done)|decide))
    ·intro r4098 h4099 _
     refine MT.say (MT.ite (fun c4100=>?_) (fun c4100=>?_))
     ·exact MT.say MT.any
     ·first|exact MT.say MT.any|exact MT.say (MT.say MT.any)
   ·intro r4102 h4103 _
    refine MT.say (MT.ite (fun c4104=>?_) (fun c4104=>?_))
    ·exact MT.say (MT.ret trivial)
    ·refine MT.say (MT.grd (by unfold maxLen;omega) (fun _=>?_))
     exact MT.say (MT.ret ⟨rfl,by first|omega|(simp only[List.length_cons];omega),by omega⟩)
  ·have c4095':=of_decide_eq_false c4095
   exact MT.say (MT.ret trivial)
 ·intro o4108 h4107 _
  exact MT.say MT.any
 ·intro o4109 h4107 _
  exact MT.say MT.any
theorem Ep(p_v:ah):Tot (amR p_v) Any:=by
 show MT (acT p_v) Any
 repeat' (first|exact MT.any|refine MT.say ?_|refine MT.ite (fun _=>?_) (fun _=>?_)|refine MT.lC ?_ (fun _ _=>?_)|refine⟨(show MT _ Any from ?_)⟩)
theorem yP(p_e:aS)(h_p_e:aP p_e.lf1≤100000000):Tot (Q26 p_e) Any:=by
 have:=jU p_e
 have:=gJ p_e.cZ
 have:=gJ p_e.fK
 have:=dh p_e.fArg
 have:=pX p_e.bV
 show MT (ajl p_e) Any
 repeat' (first|exact MT.any|refine MT.say ?_|refine MT.ite (fun _=>?_) (fun _=>?_)|refine MT.lC ?_ (fun _ _=>?_)|exact⟨T.wk (tJ _ (by first|omega|decide))⟩|exact⟨T.wk (Dq _ _)⟩|exact⟨T.wk (tV _ (by first|omega|decide))⟩|exact⟨T.wk (Ep _)⟩|exact⟨T.wk (G9 _)⟩|exact⟨T.wk (T.val (rW _))⟩|exact⟨T.wk (iw _ (by first|omega|decide))⟩|refine⟨(show MT _ Any from ?_)⟩)
theorem Es(n_:Nat):∀(p_e:aS) (p_level:Int) (p_b0:Int),aP p_e.lf1<n_→aP p_e.lf1≤100000000→Tot ((uQ n_).m1 p_e p_level p_b0) Any:=by
 induction n_ with
 |zero=>intro p_e p_level p_b0 h;omega
 |succ n_ ih=>
  intro p_e p_level p_b0 h_ h_p_e
  have:=jU p_e
  have:=pX p_e.bV
  show MT (RG (uQ n_) p_e p_level p_b0) Any
  refine MT.ask (R:=fun b_=>(b_=true→True)∧(b_=false→¬((16:Int)<p_level)∧¬(p_b0=256)∧True)) ?_ ?_
  ·show MT (Gf (uQ n_) p_b0 p_e p_level) _
   refine MT.ite (fun c3727=>?_) (fun c3727=>?_)
   ·have c3727':=of_decide_eq_true c3727
    exact MT.say (MT.ret ⟨(fun _=>trivial),(fun h_=>by cases h_)⟩)
   ·have c3727':=of_decide_eq_false c3727
    exact MT.say (MT.ret ⟨(fun _=>trivial),(fun h_=>⟨(by first|assumption|omega),(by simpa using h_),trivial⟩)⟩)
  ·intro r3729 h3730 f_r3729
   refine MT.say (MT.ite (fun c3732=>?_) (fun c3732=>?_))
   ·exact MT.say MT.any
   ·have q38:=f_r3729.2 (c3732)
    refine MT.say (MT.ask (R:=Any) ?_ ?_)
    ·exact T.wk (yP p_e (by first|omega|(simp;done)|decide))
    ·intro r4219 h4220 _
     refine MT.say (MT.ite (fun c4222=>?_) (fun c4222=>?_))
     ·have c4222':¬(r4219=0):=by simpa using c4222
      exact MT.say MT.any
     ·have c4222':r4219=0:=by simpa using c4222
      refine MT.say (MT.kL (R:=Any) ?_ ?_ ?_)
      ·refine T.Ih (fun _=>True) ?_
       intro k39 v4262 hk39
       show MT (uP (uQ n_) p_e p_level (((k39:Nat):Int),v4262)) _
       refine MT.ite (fun c4263=>?_) (fun c4263=>?_)
       ·have c4263':=of_decide_eq_true c4263
        refine MT.say (MT.ask (dW p_e.bV ((k39:Nat):Int) (by omega) (by omega)) (fun x4264 _ hx40=>?_))
        have:=GZ hx40
        have:=jU x4264
        refine MT.say (MT.ask (R:=Any) ?_ ?_)
        ·exact(ih x4264 (IntKind.wrap .i64 (p_level+1)) v4262 (by omega) (by first|omega|(simp;done)|decide))
        ·intro r4266 h4267 _
         refine MT.say (MT.ite (fun c4268=>?_) (fun c4268=>?_))
         ·have c4268':¬(r4266.1=0):=by simpa using c4268
          exact MT.say (MT.ret trivial)
         ·have c4268':r4266.1=0:=by simpa using c4268
          exact MT.say (MT.ret ⟨rfl,by omega⟩)
       ·have c4263':=of_decide_eq_false c4263
        exact MT.say (MT.ret trivial)
      ·intro o4274 h4273 _
       exact MT.say MT.any
      ·intro o4275 h4273 _
       exact MT.say MT.any
theorem He(p_e:aS)(p_level:Int)(p_b0:Int)(h_p_e:aP p_e.lf1≤100000000):Tot (Q87 p_e p_level p_b0) Any:=Es FU p_e p_level p_b0 (by have:=iZ;omega) h_p_e
theorem Hf(p_e:aS)(h_p_e:aP p_e.lf1≤100000000):Tot (ag9 p_e) Any:=by
 have:=jU p_e
 show MT (UZ p_e) Any
 repeat' (first|exact MT.any|refine MT.say ?_|refine MT.ite (fun _=>?_) (fun _=>?_)|refine MT.lC ?_ (fun _ _=>?_)|exact⟨T.wk (He _ _ _ (by first|omega|decide))⟩)
theorem rZ(p_p:aO)(p_inside:Bool)(h_p_p:aP p_p.lf1≤100000000):Tot (Q9 p_p p_inside) Any:=by
 have:=gZ p_p
 have:=gJ p_p.cZ
 have:=dh p_p.fArg
 have:=gV p_p.fArgs
 have:=nV p_p.dH
 have:=jU p_p.fExpr
 have:=mQ p_p.bV
 show MT (ak2 p_p p_inside) Any
 refine MT.ask (R:=fun b_=>(b_=true→True)∧(b_=false→¬((p_p.fOp:Int)<1)∧¬((24:Int)<p_p.fOp)∧True)) ?_ ?_
 ·show MT (Xn p_inside p_p) _
  refine MT.ite (fun c3156=>?_) (fun c3156=>?_)
  ·have c3156':=of_decide_eq_true c3156
   exact MT.say (MT.ret ⟨(fun _=>trivial),(fun h_=>by cases h_)⟩)
  ·have c3156':=of_decide_eq_false c3156
   exact MT.say (MT.ret ⟨(fun _=>trivial),(fun h_=>⟨(by first|assumption|omega),(of_decide_eq_false h_),trivial⟩)⟩)
 ·intro r3158 h3159 f_r3158
  refine MT.say (MT.ask (R:=fun b_=>(b_=true→True)∧(b_=false→r3158=false∧True)) ?_ ?_)
  ·show MT (Xo p_inside p_p r3158) _
   refine MT.ite (fun c3160=>?_) (fun c3160=>?_)
   ·exact MT.say (MT.ret ⟨(fun _=>trivial),(fun h_=>by cases h_)⟩)
   ·have q41:=f_r3158.2 (c3160)
    refine MT.say (MT.ask (R:=Any) ?_ ?_)
    ·exact T.wk (uj p_p.fOp (p_p.bV.length:Int) )
    ·intro r3161 h3162 _
     exact MT.say (MT.ret ⟨(fun _=>trivial),(fun h_=>⟨(by first|assumption|omega),trivial⟩)⟩)
  ·intro r3164 h3165 f_r3164
   refine MT.say (MT.ite (fun c3167=>?_) (fun c3167=>?_))
   ·exact MT.say MT.any
   ·have q42:=f_r3164.2 (c3167)
    have q43:=f_r3158.2 (q42.1)
    refine MT.say (MT.ask (R:=fun b_=>(b_=true→(p_p.fArgs.length:Int)=0∧True)∧(b_=false→True)) ?_ ?_)
    ·show MT (RH p_inside p_p) _
     refine MT.ask (R:=Any) ?_ ?_
     ·exact T.wk (jo p_p.fOp )
     ·intro r3291 h3292 _
      refine MT.say (MT.ite (fun c3293=>?_) (fun c3293=>?_))
      ·first|exact MT.say (MT.ret ⟨(fun h_=>⟨(by simpa using h_),trivial⟩),(fun _=>trivial)⟩)|exact MT.say (MT.say (MT.ret ⟨(fun h_=>⟨(by simpa using h_),trivial⟩),(fun _=>trivial)⟩))
      ·exact MT.say (MT.ret ⟨(fun h_=>by cases h_),(fun _=>trivial)⟩)
    ·intro r3295 h3296 f_r3295
     refine MT.say (MT.ask (R:=fun b_=>(b_=true→True)∧(b_=false→r3295=false∧True)) ?_ ?_)
     ·show MT (RI p_inside p_p r3295) _
      refine MT.ite (fun c3297=>?_) (fun c3297=>?_)
      ·have q44:=f_r3295.1 (c3297)
       exact MT.say (MT.ret ⟨(fun _=>trivial),(fun h_=>by cases h_)⟩)
      ·refine MT.say (MT.ask (R:=Any) ?_ ?_)
       ·exact T.wk (um p_p (by first|omega|(simp;done)|decide))
       ·intro r3298 h3299 _
        exact MT.say (MT.ret ⟨(fun _=>trivial),(fun h_=>⟨(by first|assumption|omega),trivial⟩)⟩)
     ·intro r3301 h3302 f_r3301
      refine MT.say (MT.ite (fun c3304=>?_) (fun c3304=>?_))
      ·exact MT.say MT.any
      ·have q45:=f_r3301.2 (c3304)
       refine MT.say (MT.ask (R:=Any) ?_ ?_)
       ·show MT (RJ p_inside p_p) Any
        refine MT.ask (R:=Any) ?_ ?_
        ·exact T.wk (lD p_p.fOp )
        ·intro r3319 h3320 _
         refine MT.say (MT.ite (fun c3321=>?_) (fun c3321=>?_))
         ·refine MT.say (MT.ask (R:=Any) ?_ ?_)
          ·exact T.wk (T.val (rW p_p.cZ))
          ·intro r3322 h3323 _
           exact MT.say MT.any
         ·exact MT.say MT.any
       ·intro r3325 h3326 _
        refine MT.say (MT.ask (R:=fun b_=>(b_=true→r3325=true∧True)∧(b_=false→True)) ?_ ?_)
        ·show MT (RN p_inside p_p r3325) _
         refine MT.ite (fun c3327=>?_) (fun c3327=>?_)
         ·refine MT.say (MT.ite (fun c3328=>?_) (fun c3328=>?_))
          ·exact MT.say (MT.ret ⟨(fun h_=>⟨(by first|assumption|omega),trivial⟩),(fun h_=>by cases h_)⟩)
          ·first|exact MT.say (MT.ret ⟨(fun h_=>⟨(by first|assumption|omega),trivial⟩),(fun _=>trivial)⟩)|exact MT.say (MT.say (MT.ret ⟨(fun h_=>⟨(by first|assumption|omega),trivial⟩),(fun _=>trivial)⟩))
         ·exact MT.say (MT.ret ⟨(fun h_=>by cases h_),(fun _=>trivial)⟩)
        ·intro r3330 h3331 f_r3330
         refine MT.say (MT.ite (fun c3333=>?_) (fun c3333=>?_))
         ·have q46:=f_r3330.1 (c3333)
          exact MT.say MT.any
         ·refine MT.say (MT.ask (R:=Any) ?_ ?_)
          ·show MT (RP p_p) Any
           refine MT.ask (R:=Any) ?_ ?_
           ·exact T.wk (kP p_p.fOp )
           ·intro r3357 h3358 _
            refine MT.say (MT.ite (fun c3359=>?_) (fun c3359=>?_))
            ·refine MT.say (MT.ask (R:=Any) ?_ ?_)
             ·exact T.wk (iw p_p.fArg (by first|omega|(simp;done)|decide))
             ·intro r3360 h3361 _
              exact MT.say MT.any
            ·exact MT.say MT.any
          ·intro r3363 h3364 _
           refine MT.say (MT.ask (R:=fun b_=>(b_=true→True)∧(b_=false→r3363=false∧True)) ?_ ?_)
           ·show MT (RQ p_p r3363) _
            refine MT.ite (fun c3365=>?_) (fun c3365=>?_)
            ·exact MT.say (MT.ret ⟨(fun _=>trivial),(fun h_=>by cases h_)⟩)
            ·refine MT.say (MT.ask (R:=Any) ?_ ?_)
             ·exact T.wk (nP p_p.fOp )
             ·intro r3366 h3367 _
              refine MT.say (MT.ite (fun c3368=>?_) (fun c3368=>?_))
              ·exact MT.say (MT.ret ⟨(fun _=>trivial),(fun h_=>⟨(by first|assumption|omega),trivial⟩)⟩)
              ·exact MT.say (MT.ret ⟨(fun h_=>by cases h_),(fun h_=>⟨(by first|assumption|omega),trivial⟩)⟩)
           ·intro r3370 h3371 f_r3370
            refine MT.say (MT.ite (fun c3373=>?_) (fun c3373=>?_))
            ·exact MT.say MT.any
            ·have q47:=f_r3370.2 (c3373)
             refine MT.say (MT.ask (R:=Any) ?_ ?_)
             ·exact T.wk (jo p_p.fOp )
             ·intro r3376 h3377 _
              refine MT.say (MT.kL (R:=Any) ?_ ?_ ?_)
              ·show MT (RU p_p r3376) Any
               refine MT.ite (fun c3407=>?_) (fun c3407=>?_)
               ·refine MT.say (MT.kL (R:=Any) ?_ ?_ ?_)
                ·refine T.cnt (fun _=>True) ?_
                 intro k48 hk48
                 show MT (RS p_p ((k48:Nat):Int)) _
                 refine MT.ite (fun c3415=>?_) (fun c3415=>?_)
                 ·have c3415':=of_decide_eq_true c3415
                  refine MT.say (MT.ask (dW p_p.fArgs ((k48:Nat):Int) (by omega) (by omega)) (fun x3416 _ hx49=>?_))
                  have:=jm hx49
                  have:=dh x3416
                  refine MT.say (MT.ask (R:=Any) ?_ ?_)
                  ·exact T.wk (iw x3416 (by first|omega|(simp;done)|decide))
                  ·intro r3418 h3419 _
                   refine MT.say (MT.ite (fun c3420=>?_) (fun c3420=>?_))
                   ·exact MT.say (MT.ret trivial)
                   ·exact MT.say (MT.ret ⟨rfl,by omega⟩)
                 ·have c3415':=of_decide_eq_false c3415
                  exact MT.say (MT.ret trivial)
                ·intro o3423 h3422 _
                 exact MT.say MT.any
                ·intro o3424 h3422 _
                 exact MT.say MT.any
               ·exact MT.say MT.any
              ·intro o3427 h3426 _
               exact MT.say MT.any
              ·intro o3428 h3426 _
               refine MT.say (MT.kL (R:=Any) ?_ ?_ ?_)
               ·show MT (Gg p_p) Any
                refine MT.ite (fun c3509=>?_) (fun c3509=>?_)
                ·have c3509':p_p.fOp=18:=by simpa using c3509
                 refine MT.say (MT.ask (R:=Any) ?_ ?_)
                 ·exact T.wk (Io p_p.dH (by first|omega|(simp;done)|decide))
                 ·intro r3510 h3511 _
                  refine MT.say (MT.ite (fun c3512=>?_) (fun c3512=>?_))
                  ·have c3512':¬(r3510=0):=by simpa using c3512
                   exact MT.say MT.any
                  ·have c3512':r3510=0:=by simpa using c3512
                   exact MT.say MT.any
                ·have c3509':¬(p_p.fOp=18):=by simpa using c3509
                 exact MT.say MT.any
               ·intro o3517 h3516 _
                exact MT.say MT.any
               ·intro o3518 h3516 _
                refine MT.say (MT.ask (R:=Any) ?_ ?_)
                ·exact T.wk (xC p_p)
                ·intro r3721 h3722 _
                 refine MT.say (MT.ite (fun c3724=>?_) (fun c3724=>?_))
                 ·exact MT.say MT.any
                 ·refine MT.say (MT.ite (fun c4280=>?_) (fun c4280=>?_))
                  ·have c4280':p_p.fOp=24:=by simpa using c4280
                   refine MT.say (MT.ask (R:=Any) ?_ ?_)
                   ·exact T.wk (Hf p_p.fExpr (by first|omega|(simp;done)|decide))
                   ·intro r4283 h4284 _
                    exact MT.say MT.any
                  ·have c4280':¬(p_p.fOp=24):=by simpa using c4280
                   exact MT.say MT.any
theorem vK(n_:Nat):∀(p_p:aO) (p_inside:Bool),aP p_p.lf1<n_→aP p_p.lf1≤100000000→Tot ((uT n_).m1 p_p p_inside) Any:=by
 induction n_ with
 |zero=>intro p_p p_inside h;omega
 |succ n_ ih=>
  intro p_p p_inside h_ h_p_p
  have:=gZ p_p
  have:=mQ p_p.bV
  show MT (RV (uT n_) p_p p_inside) Any
  refine MT.ask (R:=Any) ?_ ?_
  ·exact T.wk (rZ p_p p_inside (by first|omega|(simp;done)|decide))
  ·intro r4287 h4288 _
   refine MT.say (MT.ite (fun c4290=>?_) (fun c4290=>?_))
   ·have c4290':¬(r4287=0):=by simpa using c4290
    exact MT.say MT.any
   ·have c4290':r4287=0:=by simpa using c4290
    refine MT.say (MT.kL (R:=Any) ?_ ?_ ?_)
    ·refine T.cnt (fun _=>True) ?_
     intro k50 hk50
     show MT (uS (uT n_) p_inside p_p ((k50:Nat):Int)) _
     refine MT.ite (fun c4363=>?_) (fun c4363=>?_)
     ·have c4363':=of_decide_eq_true c4363
      refine MT.say (MT.ask (dW p_p.bV ((k50:Nat):Int) (by omega) (by omega)) (fun x4364 _ hx51=>?_))
      have:=vH hx51
      have:=gZ x4364
      refine MT.say (MT.ask (R:=Any) ?_ ?_)
      ·show MT (Gi (uT n_) p_inside p_p ((k50:Nat):Int) x4364) Any
       refine MT.ite (fun c4366=>?_) (fun c4366=>?_)
       ·refine MT.say (MT.ask (R:=Any) ?_ ?_)
        ·exact(ih x4364 true (by omega) (by first|omega|(simp;done)|decide))
        ·intro r4367 h4368 _
         exact MT.say MT.any
       ·refine MT.say (MT.ask (R:=Any) ?_ ?_)
        ·exact(ih x4364 (p_p.fOp==15) (by omega) (by first|omega|(simp;done)|decide))
        ·intro r4369 h4370 _
         exact MT.say MT.any
      ·intro r4374 h4375 _
       refine MT.say (MT.ite (fun c4376=>?_) (fun c4376=>?_))
       ·have c4376':¬(r4374=0):=by simpa using c4376
        exact MT.say (MT.ret trivial)
       ·have c4376':r4374=0:=by simpa using c4376
        exact MT.say (MT.ret ⟨rfl,by omega⟩)
     ·have c4363':=of_decide_eq_false c4363
      exact MT.say (MT.ret trivial)
    ·intro o4381 h4380 _
     exact MT.say MT.any
    ·intro o4382 h4380 _
     exact MT.say MT.any
theorem xE(p_p:aO)(p_inside:Bool)(h_p_p:aP p_p.lf1≤100000000):Tot (Q58 p_p p_inside) Any:=vK FU p_p p_inside (by have:=iZ;omega) h_p_p
theorem xG(p_p:aO)(h_p_p:aP p_p.lf1≤100000000):Tot (ahc p_p) Any:=by
 have:=gZ p_p
 show MT (U1 p_p) Any
 repeat' (first|exact MT.any|refine MT.say ?_|refine MT.ite (fun _=>?_) (fun _=>?_)|refine MT.lC ?_ (fun _ _=>?_)|exact⟨T.wk (xE _ _ (by first|omega|decide))⟩|exact⟨T.wk (yO _ _ _ (by first|omega|decide))⟩)
theorem oJ(p_v:ah):Tot (ahe p_v) Any:=by
 show MT (U2 p_v) Any
 repeat' (first|exact MT.any|refine MT.say ?_|refine MT.ite (fun _=>?_) (fun _=>?_)|refine MT.lC ?_ (fun _ _=>?_)|refine⟨(show MT _ Any from ?_)⟩)
theorem xH(p_x:aS):Tot (ahf p_x) Any:=by
 show MT (U3 p_x) Any
 repeat' (first|exact MT.any|refine MT.say ?_|refine MT.ite (fun _=>?_) (fun _=>?_)|refine MT.lC ?_ (fun _ _=>?_)|exact⟨T.wk (oJ _)⟩|refine⟨(show MT _ Any from ?_)⟩)
theorem xI(p_p:aO):Tot (Q97 p_p) Any:=by
 show MT (acW p_p) Any
 repeat' (first|exact MT.any|refine MT.say ?_|refine MT.ite (fun _=>?_) (fun _=>?_)|refine MT.lC ?_ (fun _ _=>?_)|exact⟨T.wk (xH _)⟩|exact⟨T.wk (oJ _)⟩|refine⟨(show MT _ Any from ?_)⟩)
theorem su(p_x:aQ)(h_p_x:aP p_x.lf1≤100000000):Tot (ahh p_x) Any:=by
 have:=jr p_x
 have:=mJ p_x.fQ
 have:=gZ p_x.bF
 show MT (U4 p_x) Any
 refine MT.say (MT.ask (R:=Any) ?_ ?_)
 ·exact T.wk (T.val (rW [p_x.fName]))
 ·intro r2799 h2800 _
  refine MT.say (MT.ite (fun c2802=>?_) (fun c2802=>?_))
  ·exact MT.say MT.any
  ·refine MT.say (MT.ask (R:=fun b_=>(b_=true→True)∧(b_=false→¬((p_x.ay:Int)<1)∧¬((3:Int)<p_x.ay)∧True)) ?_ ?_)
   ·show MT (Ko p_x) _
    refine MT.ite (fun c2804=>?_) (fun c2804=>?_)
    ·have c2804':=of_decide_eq_true c2804
     exact MT.say (MT.ret ⟨(fun _=>trivial),(fun h_=>by cases h_)⟩)
    ·have c2804':=of_decide_eq_false c2804
     exact MT.say (MT.ret ⟨(fun _=>trivial),(fun h_=>⟨(by first|assumption|omega),(of_decide_eq_false h_),trivial⟩)⟩)
   ·intro r2806 h2807 f_r2806
    refine MT.say (MT.ite (fun c2809=>?_) (fun c2809=>?_))
    ·exact MT.say MT.any
    ·have q52:=f_r2806.2 (c2809)
     refine MT.say (MT.ask (R:=Any) ?_ ?_)
     ·exact T.wk (En p_x.fQ (by first|omega|(simp;done)|decide))
     ·intro r3027 h3028 _
      refine MT.say (MT.ite (fun c3030=>?_) (fun c3030=>?_))
      ·have c3030':¬(r3027=0):=by simpa using c3030
       exact MT.say MT.any
      ·have c3030':r3027=0:=by simpa using c3030
       refine MT.say (MT.ask (R:=fun b_=>(b_=true→True)∧(b_=false→¬((p_x.fQ.length:Int)=0)∧True)) ?_ ?_)
       ·show MT (Kq p_x) _
        refine MT.say (MT.ite (fun c3037=>?_) (fun c3037=>?_))
        ·have c3037':(p_x.fQ.length:Int)=0:=by simpa using c3037
         exact MT.say (MT.ret ⟨(fun _=>trivial),(fun h_=>by cases h_)⟩)
        ·have c3037':¬((p_x.fQ.length:Int)=0):=by simpa using c3037
         refine MT.say (MT.ite (fun c3038=>?_) (fun c3038=>?_))
         ·have c3038':¬(p_x.ay=1):=by simpa using c3038
          refine MT.say (MT.ite (fun c3039=>?_) (fun c3039=>?_))
          ·have c3039':=of_decide_eq_true c3039
           exact MT.say (MT.ret ⟨(fun _=>trivial),(fun h_=>by cases h_)⟩)
          ·have c3039':=of_decide_eq_false c3039
           refine MT.say (MT.ask (dW p_x.fQ 0 (by omega) (by omega)) (fun x3040 _ hx53=>?_))
           have:=wS hx53
           have:=lu x3040
           refine MT.say (MT.ite (fun c3042=>?_) (fun c3042=>?_))
           ·exact MT.say (MT.ret ⟨(fun _=>trivial),(fun h_=>by cases h_)⟩)
           ·exact MT.say (MT.ret ⟨(fun _=>trivial),(fun h_=>⟨(by first|assumption|omega),trivial⟩)⟩)
         ·have c3038':p_x.ay=1:=by simpa using c3038
          exact MT.say (MT.ret ⟨(fun h_=>by cases h_),(fun h_=>⟨(by first|assumption|omega),trivial⟩)⟩)
       ·intro r3044 h3045 f_r3044
        refine MT.say (MT.ite (fun c3047=>?_) (fun c3047=>?_))
        ·exact MT.say MT.any
        ·have q54:=f_r3044.2 (c3047)
         refine MT.say (MT.ite (fun c4387=>?_) (fun c4387=>?_))
         ·refine MT.say (MT.ask (R:=Any) ?_ ?_)
          ·exact T.wk (xG p_x.bF (by first|omega|(simp;done)|decide))
          ·intro r4390 h4391 _
           exact MT.say MT.any
         ·refine MT.say (MT.ask (R:=Any) ?_ ?_)
          ·exact T.wk (xI p_x.bF)
          ·intro r4492 h4493 _
           refine MT.say (MT.ite (fun c4495=>?_) (fun c4495=>?_))
           ·exact MT.say MT.any
           ·exact MT.say MT.any
theorem xJ(p_x:aQ)(p_b0:ByteArray)(h_p_x:aP p_x.lf1≤100000000)(h_p_b0:p_b0.size≤100000000):Tot (amT p_x p_b0) Any:=by
 have:=jr p_x
 show MT (acX p_x p_b0) Any
 repeat' (first|exact MT.any|refine MT.say ?_|refine MT.ite (fun _=>?_) (fun _=>?_))
theorem nZ(p_s:List aQ)(p_b0:ByteArray)(h_p_s:bP (p_s.map aQ.lf)≤100000000)(h_p_b0:p_b0.size≤100000000):Tot (Q98 p_s p_b0) Any:=by
 have:=jZ p_s
 show MT (ajm p_s p_b0) Any
 refine MT.say (MT.kL (R:=Any) ?_ ?_ ?_)
 ·refine T.cnt (fun _=>True) ?_
  intro k55 hk55
  show MT (RY p_b0 p_s ((k55:Nat):Int)) _
  refine MT.ite (fun c4539=>?_) (fun c4539=>?_)
  ·have c4539':=of_decide_eq_true c4539
   refine MT.say (MT.ask (dW p_s ((k55:Nat):Int) (by omega) (by omega)) (fun x4540 _ hx56=>?_))
   have:=wU hx56
   have:=jr x4540
   refine MT.say (MT.ask (R:=Any) ?_ ?_)
   ·exact T.wk (xJ x4540 p_b0 (by first|omega|(simp;done)|decide) (by first|omega|(simp;done)|decide))
   ·intro r4542 h4543 _
    refine MT.say (MT.ite (fun c4544=>?_) (fun c4544=>?_))
    ·exact MT.say (MT.ret trivial)
    ·exact MT.say (MT.ret ⟨rfl,by omega⟩)
  ·have c4539':=of_decide_eq_false c4539
   exact MT.say (MT.ret trivial)
 ·intro o4548 h4547 _
  exact MT.say MT.any
 ·intro o4549 h4547 _
  exact MT.say MT.any
theorem AZ(p_l:List aQ)(p_name:ByteArray)(h_p_l:bP (p_l.map aQ.lf)≤100000000)(h_p_name:p_name.size≤100000000):Tot (ak6 p_l p_name) Any:=by
 have:=jZ p_l
 show MT (acY p_l p_name) Any
 repeat' (first|exact MT.any|refine MT.say ?_|refine MT.ite (fun _=>?_) (fun _=>?_)|refine MT.lC ?_ (fun _ _=>?_)|exact⟨T.wk (nZ _ _ (by first|omega|decide) (by first|omega|decide))⟩)
theorem sD(p_has:Bool)(p_v:ah)(h_p_v:aP p_v.lf1≤100000000):Tot (Q96 p_has p_v) Any:=by
 have:=dh p_v
 have:=gV p_v.aU
 have:=fZ p_v.aY
 show MT (ajn p_has p_v) Any
 repeat' (first|exact MT.any|refine MT.say ?_|refine MT.ite (fun _=>?_) (fun _=>?_)|refine MT.lC ?_ (fun _ _=>?_)|exact⟨T.wk (iw _ (by first|omega|decide))⟩|refine⟨(show MT _ Any from ?_)⟩)
theorem xK(p_s:aI)(h_p_s:aP p_s.lf1≤100000000):Tot (Q25 p_s) Any:=by
 have:=iq p_s
 have:=dh p_s.kE
 have:=dh p_s.kF
 have:=gV p_s.jL
 have:=gJ p_s.dK
 have:=pY p_s.dN
 have:=mV p_s.dP
 show MT (ajo p_s) Any
 refine MT.say (MT.kL (R:=Any) ?_ ?_ ?_)
 ·refine T.al2 (fun _=>True) ?_
  intro k57 m4820 hk57 hmk57
  show MT (Si p_s (((k57:Nat):Int),m4820)) _
  refine MT.ite (fun c4821=>?_) (fun c4821=>?_)
  ·have c4821':=of_decide_eq_true c4821
   refine MT.say (MT.ask (dW p_s.dK ((k57:Nat):Int) (by omega) (by omega)) (fun x4822 _ hx58=>?_))
   have:=EM hx58
   refine MT.say (MT.ask (R:=Any) ?_ ?_)
   ·show MT (RZ m4820 p_s ((k57:Nat):Int) x4822) Any
    refine MT.ask (R:=Any) ?_ ?_
    ·exact T.wk (T.val (LD x4822))
    ·intro r4824 h4825 _
     refine MT.say (MT.ite (fun c4826=>?_) (fun c4826=>?_))
     ·exact MT.say MT.any
     ·first|exact MT.say MT.any|exact MT.say (MT.say MT.any)
   ·intro r4828 h4829 _
    refine MT.say (MT.ite (fun c4830=>?_) (fun c4830=>?_))
    ·exact MT.say (MT.ret trivial)
    ·refine MT.say (MT.grd (by unfold maxLen;omega) (fun _=>?_))
     exact MT.say (MT.ret ⟨rfl,by first|omega|(simp only[List.length_cons];omega),by omega⟩)
  ·have c4821':=of_decide_eq_false c4821
   exact MT.say (MT.ret trivial)
 ·intro o4834 h4833 _
  exact MT.say MT.any
 ·intro o4835 h4833 _
  refine MT.say (MT.kL (R:=Any) ?_ ?_ ?_)
  ·refine T.al2 (fun _=>True) ?_
   intro k59 m4894 hk59 hmk59
   show MT (Kt p_s (((k59:Nat):Int),m4894)) _
   refine MT.ite (fun c4895=>?_) (fun c4895=>?_)
   ·have c4895':=of_decide_eq_true c4895
    refine MT.say (MT.ask (dW p_s.dN ((k59:Nat):Int) (by omega) (by omega)) (fun x4896 _ hx60=>?_))
    have:=AO hx60
    have:=mP x4896
    refine MT.say (MT.ask (R:=Any) ?_ ?_)
    ·show MT (Kr m4894 p_s ((k59:Nat):Int) x4896) Any
     refine MT.ask (R:=Any) ?_ ?_
     ·exact T.wk (T.val (LD x4896.fName))
     ·intro r4898 h4899 _
      refine MT.say (MT.ite (fun c4900=>?_) (fun c4900=>?_))
      ·first|exact MT.say MT.any|exact MT.say (MT.say MT.any)
      ·first|exact MT.say MT.any|exact MT.say (MT.say MT.any)
    ·intro r4902 h4903 _
     refine MT.say (MT.ite (fun c4904=>?_) (fun c4904=>?_))
     ·exact MT.say (MT.ret trivial)
     ·refine MT.say (MT.grd (by unfold maxLen;omega) (fun _=>?_))
      exact MT.say (MT.ret ⟨rfl,by first|omega|(simp only[List.length_cons];omega),by omega⟩)
   ·have c4895':=of_decide_eq_false c4895
    exact MT.say (MT.ret trivial)
  ·intro o4908 h4907 _
   first|exact MT.say MT.any|exact MT.say (MT.say MT.any)
  ·intro o4909 h4907 _
   refine MT.say (MT.ask (R:=fun b_=>(b_=true→True)∧(b_=false→(dU .andNot .i64 p_s.jF 4094)=0∧¬((p_s.iU:Int)<0)∧True)) ?_ ?_)
   ·show MT (Ku p_s) _
    refine MT.ite (fun c4922=>?_) (fun c4922=>?_)
    ·have c4922':¬((dU .andNot .i64 p_s.jF 4094)=0):=by simpa using c4922
     exact MT.say (MT.ret ⟨(fun _=>trivial),(fun h_=>by cases h_)⟩)
    ·have c4922':(dU .andNot .i64 p_s.jF 4094)=0:=by simpa using c4922
     exact MT.say (MT.ret ⟨(fun _=>trivial),(fun h_=>⟨(by first|assumption|omega),(of_decide_eq_false h_),trivial⟩)⟩)
   ·intro r4924 h4925 f_r4924
    refine MT.say (MT.ask (R:=fun b_=>(b_=true→True)∧(b_=false→r4924=false∧¬((p_s.iV:Int)<(-1))∧True)) ?_ ?_)
    ·show MT (Kv p_s r4924) _
     refine MT.ite (fun c4926=>?_) (fun c4926=>?_)
     ·exact MT.say (MT.ret ⟨(fun _=>trivial),(fun h_=>by cases h_)⟩)
     ·have q61:=f_r4924.2 (c4926)
      exact MT.say (MT.ret ⟨(fun _=>trivial),(fun h_=>⟨(by first|assumption|omega),(of_decide_eq_false h_),trivial⟩)⟩)
    ·intro r4928 h4929 f_r4928
     refine MT.say (MT.ask (R:=fun b_=>(b_=true→True)∧(b_=false→r4928=false∧¬((1:Int)<(p_s.dP.length:Int))∧True)) ?_ ?_)
     ·show MT (Kw p_s r4928) _
      refine MT.ite (fun c4930=>?_) (fun c4930=>?_)
      ·first|exact MT.say (MT.ret ⟨(fun _=>trivial),(fun h_=>by cases h_)⟩)|exact MT.say (MT.say (MT.ret ⟨(fun _=>trivial),(fun h_=>by cases h_)⟩))
      ·have q62:=f_r4928.2 (c4930)
       have q63:=f_r4924.2 (q62.1)
       first|exact MT.say (MT.ret ⟨(fun _=>trivial),(fun h_=>⟨(by first|assumption|omega),(of_decide_eq_false h_),trivial⟩)⟩)|exact MT.say (MT.say (MT.ret ⟨(fun _=>trivial),(fun h_=>⟨(by first|assumption|omega),(of_decide_eq_false h_),trivial⟩)⟩))
     ·intro r4932 h4933 f_r4932
      refine MT.say (MT.ite (fun c4935=>?_) (fun c4935=>?_))
      ·first|exact MT.say MT.any|exact MT.say (MT.say MT.any)
      ·have q64:=f_r4932.2 (c4935)
       have q65:=f_r4928.2 (q64.1)
       have q66:=f_r4924.2 (q65.1)
       refine MT.say (MT.ask (R:=Any) ?_ ?_)
       ·show MT (Ky p_s) Any
        refine MT.ask (R:=Any) ?_ ?_
        ·exact T.wk (sD p_s.iQ p_s.kE (by first|omega|(simp;done)|decide))
        ·intro r4969 h4970 _
         refine MT.say (MT.ite (fun c4971=>?_) (fun c4971=>?_))
         ·first|exact MT.say MT.any|exact MT.say (MT.say MT.any)
         ·refine MT.say (MT.ask (R:=Any) ?_ ?_)
          ·exact T.wk (sD p_s.iR p_s.kF (by first|omega|(simp;done)|decide))
          ·intro r4972 h4973 _
           first|exact MT.say MT.any|exact MT.say (MT.say MT.any)
       ·intro r4975 h4976 _
        refine MT.say (MT.ite (fun c4978=>?_) (fun c4978=>?_))
        ·first|exact MT.say MT.any|exact MT.say (MT.say MT.any)
        ·refine MT.say (MT.kL (R:=Any) ?_ ?_ ?_)
         ·refine T.cnt (fun _=>True) ?_
          intro k67 hk67
          show MT (Kz p_s ((k67:Nat):Int)) _
          refine MT.ite (fun c5014=>?_) (fun c5014=>?_)
          ·have c5014':=of_decide_eq_true c5014
           refine MT.say (MT.ask (dW p_s.jL ((k67:Nat):Int) (by omega) (by omega)) (fun x5015 _ hx68=>?_))
           have:=jm hx68
           have:=dh x5015
           refine MT.say (MT.ask (R:=Any) ?_ ?_)
           ·exact T.wk (iw x5015 (by first|omega|(simp;done)|decide))
           ·intro r5017 h5018 _
            refine MT.say (MT.ite (fun c5019=>?_) (fun c5019=>?_))
            ·first|exact MT.say (MT.ret trivial)|exact MT.say (MT.say (MT.ret trivial))
            ·first|exact MT.say (MT.ret ⟨rfl,by omega⟩)|exact MT.say (MT.say (MT.ret ⟨rfl,by omega⟩))
          ·have c5014':=of_decide_eq_false c5014
           first|exact MT.say (MT.ret trivial)|exact MT.say (MT.say (MT.ret trivial))
         ·intro o5022 h5021 _
          first|exact MT.say MT.any|exact MT.say (MT.say MT.any)
         ·intro o5023 h5021 _
          first|exact MT.say MT.any|exact MT.say (MT.say MT.any)
theorem A8(n_:Nat):∀(p_s:aI) (p_level:Int) (p_b0:Int),aP p_s.lf1<n_→aP p_s.lf1≤100000000→Tot ((nU n_).m1 p_s p_level p_b0) Any:=by
 induction n_ with
 |zero=>intro p_s p_level p_b0 h;omega
 |succ n_ ih=>
  intro p_s p_level p_b0 h_ h_p_s
  have:=iq p_s
  have:=pY p_s.dN
  have:=mV p_s.dP
  show MT (Sj (nU n_) p_s p_level p_b0) Any
  refine MT.ask (R:=fun b_=>(b_=true→True)∧(b_=false→¬((16:Int)<p_level)∧¬(p_b0=64)∧True)) ?_ ?_
  ·show MT (Gm (nU n_) p_b0 p_level p_s) _
   refine MT.ite (fun c4629=>?_) (fun c4629=>?_)
   ·have c4629':=of_decide_eq_true c4629
    exact MT.say (MT.ret ⟨(fun _=>trivial),(fun h_=>by cases h_)⟩)
   ·have c4629':=of_decide_eq_false c4629
    exact MT.say (MT.ret ⟨(fun _=>trivial),(fun h_=>⟨(by first|assumption|omega),(by simpa using h_),trivial⟩)⟩)
  ·intro r4631 h4632 f_r4631
   refine MT.say (MT.ite (fun c4634=>?_) (fun c4634=>?_))
   ·exact MT.say MT.any
   ·have q69:=f_r4631.2 (c4634)
    refine MT.say (MT.ask (R:=Any) ?_ ?_)
    ·exact T.wk (xK p_s (by first|omega|(simp;done)|decide))
    ·intro r5026 h5027 _
     refine MT.say (MT.ite (fun c5029=>?_) (fun c5029=>?_))
     ·have c5029':¬(r5026=0):=by simpa using c5029
      exact MT.say MT.any
     ·have c5029':r5026=0:=by simpa using c5029
      refine MT.say (MT.kL (R:=Any) ?_ ?_ ?_)
      ·refine T.Ih (fun _=>True) ?_
       intro k70 v5071 hk70
       show MT (uU (nU n_) p_level p_s (((k70:Nat):Int),v5071)) _
       refine MT.ite (fun c5072=>?_) (fun c5072=>?_)
       ·have c5072':=of_decide_eq_true c5072
        refine MT.say (MT.ask (dW p_s.dN ((k70:Nat):Int) (by omega) (by omega)) (fun x5073 _ hx71=>?_))
        have:=AO hx71
        have:=mP x5073
        have:=iq x5073.aZ
        refine MT.say (MT.ask (R:=Any) ?_ ?_)
        ·exact(ih x5073.aZ (IntKind.wrap .i64 (p_level+1)) v5071 (by omega) (by first|omega|(simp;done)|decide))
        ·intro r5075 h5076 _
         refine MT.say (MT.ite (fun c5077=>?_) (fun c5077=>?_))
         ·have c5077':¬(r5075.1=0):=by simpa using c5077
          exact MT.say (MT.ret trivial)
         ·have c5077':r5075.1=0:=by simpa using c5077
          exact MT.say (MT.ret ⟨rfl,by omega⟩)
       ·have c5072':=of_decide_eq_false c5072
        exact MT.say (MT.ret trivial)
      ·intro o5085 h5084 _
       exact MT.say MT.any
      ·intro o5086 h5084 _
       refine MT.say (MT.kL (R:=Any) ?_ ?_ ?_)
       ·refine T.Ih (fun _=>True) ?_
        intro k72 v5126 hk72
        show MT (rV (nU n_) p_level p_s (((k72:Nat):Int),v5126)) _
        refine MT.ite (fun c5127=>?_) (fun c5127=>?_)
        ·have c5127':=of_decide_eq_true c5127
         refine MT.say (MT.ask (dW p_s.dP ((k72:Nat):Int) (by omega) (by omega)) (fun x5128 _ hx73=>?_))
         have:=yI hx73
         have:=iq x5128
         refine MT.say (MT.ask (R:=Any) ?_ ?_)
         ·exact(ih x5128 (IntKind.wrap .i64 (p_level+1)) v5126 (by omega) (by first|omega|(simp;done)|decide))
         ·intro r5130 h5131 _
          refine MT.say (MT.ite (fun c5132=>?_) (fun c5132=>?_))
          ·have c5132':¬(r5130.1=0):=by simpa using c5132
           exact MT.say (MT.ret trivial)
          ·have c5132':r5130.1=0:=by simpa using c5132
           exact MT.say (MT.ret ⟨rfl,by omega⟩)
        ·have c5127':=of_decide_eq_false c5127
         exact MT.say (MT.ret trivial)
       ·intro o5138 h5137 _
        exact MT.say MT.any
       ·intro o5139 h5137 _
        exact MT.say MT.any
theorem Dt(p_s:aI)(p_level:Int)(p_b0:Int)(h_p_s:aP p_s.lf1≤100000000):Tot (Q47 p_s p_level p_b0) Any:=A8 FU p_s p_level p_b0 (by have:=iZ;omega) h_p_s
theorem Du(p_s:aI)(h_p_s:aP p_s.lf1≤100000000):Tot (ak9 p_s) Any:=by
 have:=iq p_s
 show MT (U5 p_s) Any
 repeat' (first|exact MT.any|refine MT.say ?_|refine MT.ite (fun _=>?_) (fun _=>?_)|refine MT.lC ?_ (fun _ _=>?_)|exact⟨T.wk (Dt _ _ _ (by first|omega|decide))⟩)
theorem Ba(p_d:bY)(h_p_d:aP p_d.lf1≤100000000):Tot (Q69 p_d) Any:=by
 have:=mF p_d
 have:=jZ p_d.bZ
 have:=iq p_d.aZ
 show MT (ac3 p_d) Any
 refine MT.ask (R:=Any) ?_ ?_
 ·exact T.wk (T.val (aaq p_d.fName))
 ·intro r2597 h2598 _
  refine MT.say (MT.ite (fun c2600=>?_) (fun c2600=>?_))
  ·exact MT.say MT.any
  ·refine MT.say (MT.ite (fun c2602=>?_) (fun c2602=>?_))
   ·have c2602':=of_decide_eq_true c2602
    exact MT.say MT.any
   ·have c2602':=of_decide_eq_false c2602
    refine MT.say (MT.kL (R:=Any) ?_ ?_ ?_)
    ·refine T.cnt (fun _=>True) ?_
     intro k74 hk74
     have:=iK aQ.lf p_d.bZ (((k74:Nat):Int).toNat)
     have:=jZ (p_d.bZ.take ((k74:Nat):Int).toNat)
     show MT (uV p_d ((k74:Nat):Int)) _
     refine MT.ite (fun c4597=>?_) (fun c4597=>?_)
     ·have c4597':=of_decide_eq_true c4597
      refine MT.say (MT.ask (dW p_d.bZ ((k74:Nat):Int) (by omega) (by omega)) (fun x4598 _ hx75=>?_))
      have:=wU hx75
      have:=jr x4598
      refine MT.say (MT.ask (R:=Any) ?_ ?_)
      ·exact T.wk (su x4598 (by first|omega|(simp;done)|decide))
      ·intro r4600 h4601 _
       refine MT.say (MT.ite (fun c4602=>?_) (fun c4602=>?_))
       ·have c4602':¬(r4600=0):=by simpa using c4602
        exact MT.say (MT.ret trivial)
       ·have c4602':r4600=0:=by simpa using c4602
        refine MT.say (MT.grd (by omega) (fun _=>?_))
        refine MT.say (MT.ask (R:=Any) ?_ ?_)
        ·exact T.wk (AZ (p_d.bZ.take ((k74:Nat):Int).toNat) x4598.fName (Nat.le_trans (iK _ _ _) (by omega)) (by first|omega|(simp;done)|decide))
        ·intro r4604 h4605 _
         refine MT.say (MT.ite (fun c4606=>?_) (fun c4606=>?_))
         ·have c4606':=of_decide_eq_true c4606
          exact MT.say (MT.ret trivial)
         ·have c4606':=of_decide_eq_false c4606
          exact MT.say (MT.ret ⟨rfl,by omega⟩)
     ·have c4597':=of_decide_eq_false c4597
      exact MT.say (MT.ret trivial)
    ·intro o4612 h4611 _
     exact MT.say MT.any
    ·intro o4613 h4611 _
     refine MT.say (MT.ask (R:=fun b_=>(b_=true→True)∧(b_=false→¬((p_d.kG:Int)<0)∧¬((2:Int)<p_d.kG)∧True)) ?_ ?_)
     ·show MT (Sl p_d) _
      refine MT.ite (fun c4615=>?_) (fun c4615=>?_)
      ·have c4615':=of_decide_eq_true c4615
       exact MT.say (MT.ret ⟨(fun _=>trivial),(fun h_=>by cases h_)⟩)
      ·have c4615':=of_decide_eq_false c4615
       exact MT.say (MT.ret ⟨(fun _=>trivial),(fun h_=>⟨(by first|assumption|omega),(of_decide_eq_false h_),trivial⟩)⟩)
     ·intro r4617 h4618 f_r4617
      refine MT.say (MT.ite (fun c4620=>?_) (fun c4620=>?_))
      ·exact MT.say MT.any
      ·have q76:=f_r4617.2 (c4620)
       refine MT.say (MT.ask (R:=fun b_=>(b_=true→¬(p_d.iJ=0)∧¬(p_d.iJ=1)∧True)∧(b_=false→True)) ?_ ?_)
       ·show MT (KA p_d) _
        refine MT.ite (fun c4622=>?_) (fun c4622=>?_)
        ·have c4622':¬(p_d.iJ=0):=by simpa using c4622
         exact MT.say (MT.ret ⟨(fun h_=>⟨(by first|assumption|omega),(by simpa using h_),trivial⟩),(fun _=>trivial)⟩)
        ·have c4622':p_d.iJ=0:=by simpa using c4622
         exact MT.say (MT.ret ⟨(fun h_=>by cases h_),(fun _=>trivial)⟩)
       ·intro r4624 h4625 f_r4624
        refine MT.say (MT.ite (fun c4627=>?_) (fun c4627=>?_))
        ·have q77:=f_r4624.1 (c4627)
         exact MT.say MT.any
        ·refine MT.say (MT.ask (R:=Any) ?_ ?_)
         ·exact T.wk (Du p_d.aZ (by first|omega|(simp;done)|decide))
         ·intro r5142 h5143 _
          exact MT.say MT.any
theorem uo(n_:Nat):∀(p_w:au) (p_least:Int) (p_greatest:Int),aP p_w.lf1<n_→aP p_w.lf1≤100000000→Tot ((mO n_).m1 p_w p_least p_greatest) Any:=by
 induction n_ with
 |zero=>intro p_w p_least p_greatest h;omega
 |succ n_ ih=>
  intro p_w p_least p_greatest h_ h_p_w
  have:=jv p_w
  have:=mF p_w.dB
  have:=jr p_w.aX
  have:=nX p_w.bQ
  have:=vG p_w.dI
  show MT (ac4 (mO n_) p_w p_least p_greatest) Any
  refine MT.ask (R:=Any) ?_ ?_
  ·exact T.wk (rX p_w.ay)
  ·intro r260 h261 _
   refine MT.say (MT.ask (R:=fun b_=>(b_=true→True)∧(b_=false→¬((p_w.ay:Int)<p_least)∧¬((p_greatest:Int)<p_w.ay)∧True)) ?_ ?_)
   ·show MT (NG (mO n_) p_greatest p_least p_w r260) _
    refine MT.ite (fun c597=>?_) (fun c597=>?_)
    ·have c597':=of_decide_eq_true c597
     exact MT.say (MT.ret ⟨(fun _=>trivial),(fun h_=>by cases h_)⟩)
    ·have c597':=of_decide_eq_false c597
     exact MT.say (MT.ret ⟨(fun _=>trivial),(fun h_=>⟨(by first|assumption|omega),(of_decide_eq_false h_),trivial⟩)⟩)
   ·intro r599 h600 f_r599
    refine MT.say (MT.ask (R:=fun b_=>(b_=true→True)∧(b_=false→r599=false∧True)) ?_ ?_)
    ·show MT (NH (mO n_) p_greatest p_w r260 r599) _
     refine MT.ite (fun c601=>?_) (fun c601=>?_)
     ·exact MT.say (MT.ret ⟨(fun _=>trivial),(fun h_=>by cases h_)⟩)
     ·have q78:=f_r599.2 (c601)
      refine MT.say (MT.ask (R:=Any) ?_ ?_)
      ·exact T.wk (yL p_w)
      ·intro r602 h603 _
       exact MT.say (MT.ret ⟨(fun _=>trivial),(fun h_=>⟨(by first|assumption|omega),trivial⟩)⟩)
    ·intro r605 h606 f_r605
     refine MT.say (MT.ask (R:=fun b_=>(b_=true→True)∧(b_=false→r605=false∧True)) ?_ ?_)
     ·show MT (Gn (mO n_) p_greatest p_w r260 r605) _
      refine MT.ite (fun c607=>?_) (fun c607=>?_)
      ·exact MT.say (MT.ret ⟨(fun _=>trivial),(fun h_=>by cases h_)⟩)
      ·have q79:=f_r605.2 (c607)
       have q80:=f_r599.2 (q79.1)
       refine MT.say (MT.ite (fun c608=>?_) (fun c608=>?_))
       ·first|exact MT.say (MT.ret ⟨(fun _=>trivial),(fun h_=>⟨(by first|assumption|omega),trivial⟩)⟩)|exact MT.say (MT.say (MT.ret ⟨(fun _=>trivial),(fun h_=>⟨(by first|assumption|omega),trivial⟩)⟩))
       ·exact MT.say (MT.ret ⟨(fun h_=>by cases h_),(fun h_=>⟨(by first|assumption|omega),trivial⟩)⟩)
     ·intro r610 h611 f_r610
      refine MT.say (MT.ite (fun c613=>?_) (fun c613=>?_))
      ·exact MT.say MT.any
      ·have q81:=f_r610.2 (c613)
       have q82:=f_r605.2 (q81.1)
       have q83:=f_r599.2 (q82.1)
       refine MT.say (MT.ite (fun c615=>?_) (fun c615=>?_))
       ·have c615':=of_decide_eq_true c615
        exact MT.say MT.any
       ·have c615':=of_decide_eq_false c615
        refine MT.say (MT.ask (R:=Any) ?_ ?_)
        ·show MT (Sm (mO n_) p_greatest p_w r260) Any
         refine MT.ite (fun c636=>?_) (fun c636=>?_)
         ·refine MT.say (MT.ask (R:=Any) ?_ ?_)
          ·exact T.wk (T.val (wW p_w.fE))
          ·intro r637 h638 _
           exact MT.say MT.any
         ·exact MT.say MT.any
        ·intro r640 h641 _
         refine MT.say (MT.ask (R:=fun b_=>(b_=true→True)∧(b_=false→r640=false∧True)) ?_ ?_)
         ·show MT (Sr (mO n_) p_greatest p_w r260 r640) _
          refine MT.ite (fun c642=>?_) (fun c642=>?_)
          ·exact MT.say (MT.ret ⟨(fun _=>trivial),(fun h_=>by cases h_)⟩)
          ·refine MT.say (MT.ite (fun c643=>?_) (fun c643=>?_))
           ·refine MT.say (MT.ask (R:=Any) ?_ ?_)
            ·exact T.wk (T.val (wW p_w.kX))
            ·intro r644 h645 _
             exact MT.say (MT.ret ⟨(fun _=>trivial),(fun h_=>⟨(by first|assumption|omega),trivial⟩)⟩)
           ·exact MT.say (MT.ret ⟨(fun h_=>by cases h_),(fun h_=>⟨(by first|assumption|omega),trivial⟩)⟩)
         ·intro r647 h648 f_r647
          refine MT.say (MT.ask (R:=fun b_=>(b_=true→True)∧(b_=false→r647=false∧True)) ?_ ?_)
          ·show MT (Sv (mO n_) p_greatest p_w r260 r647) _
           refine MT.ite (fun c649=>?_) (fun c649=>?_)
           ·exact MT.say (MT.ret ⟨(fun _=>trivial),(fun h_=>by cases h_)⟩)
           ·have q84:=f_r647.2 (c649)
            refine MT.say (MT.ite (fun c650=>?_) (fun c650=>?_))
            ·refine MT.say (MT.ask (R:=Any) ?_ ?_)
             ·exact T.wk (T.val (wW p_w.aX.fName))
             ·intro r651 h652 _
              exact MT.say (MT.ret ⟨(fun _=>trivial),(fun h_=>⟨(by first|assumption|omega),trivial⟩)⟩)
            ·exact MT.say (MT.ret ⟨(fun h_=>by cases h_),(fun h_=>⟨(by first|assumption|omega),trivial⟩)⟩)
          ·intro r654 h655 f_r654
           refine MT.say (MT.ite (fun c657=>?_) (fun c657=>?_))
           ·exact MT.say MT.any
           ·have q85:=f_r654.2 (c657)
            have q86:=f_r647.2 (q85.1)
            refine MT.say (MT.ask (R:=Any) ?_ ?_)
            ·show MT (Sz (mO n_) p_greatest p_w r260) Any
             refine MT.ite (fun c776=>?_) (fun c776=>?_)
             ·refine MT.say (MT.ask (R:=Any) ?_ ?_)
              ·exact T.wk (vJ p_w)
              ·intro r777 h778 _
               exact MT.say MT.any
             ·exact MT.say MT.any
            ·intro r780 h781 _
             refine MT.say (MT.ask (R:=fun b_=>(b_=true→True)∧(b_=false→r780=false∧True)) ?_ ?_)
             ·show MT (SA (mO n_) p_greatest p_w r260 r780) _
              refine MT.ite (fun c782=>?_) (fun c782=>?_)
              ·exact MT.say (MT.ret ⟨(fun _=>trivial),(fun h_=>by cases h_)⟩)
              ·refine MT.say (MT.ite (fun c783=>?_) (fun c783=>?_))
               ·refine MT.say (MT.ask (R:=Any) ?_ ?_)
                ·exact T.wk (uh p_w.dI (by first|omega|(simp;done)|decide))
                ·intro r784 h785 _
                 exact MT.say (MT.ret ⟨(fun _=>trivial),(fun h_=>⟨(by first|assumption|omega),trivial⟩)⟩)
               ·exact MT.say (MT.ret ⟨(fun h_=>by cases h_),(fun h_=>⟨(by first|assumption|omega),trivial⟩)⟩)
             ·intro r787 h788 f_r787
              refine MT.say (MT.ite (fun c790=>?_) (fun c790=>?_))
              ·exact MT.say MT.any
              ·have q87:=f_r787.2 (c790)
               refine MT.say (MT.kL (R:=Any) ?_ ?_ ?_)
               ·show MT (Gp (mO n_) p_greatest p_w r260) Any
                refine MT.ite (fun c2457=>?_) (fun c2457=>?_)
                ·refine MT.say (MT.ask (R:=Any) ?_ ?_)
                 ·exact T.wk (xw p_w (by first|omega|(simp;done)|decide))
                 ·intro r2458 h2459 _
                  refine MT.say (MT.ite (fun c2460=>?_) (fun c2460=>?_))
                  ·have c2460':¬(r2458=0):=by simpa using c2460
                   exact MT.say MT.any
                  ·have c2460':r2458=0:=by simpa using c2460
                   exact MT.say MT.any
                ·exact MT.say MT.any
               ·intro o2465 h2464 _
                exact MT.say MT.any
               ·intro o2466 h2464 _
                refine MT.say (MT.kL (R:=Any) ?_ ?_ ?_)
                ·show MT (Gq (mO n_) p_greatest p_w) Any
                 refine MT.ite (fun c5151=>?_) (fun c5151=>?_)
                 ·have c5151':p_w.ay=4:=by simpa using c5151
                  refine MT.say (MT.ask (R:=Any) ?_ ?_)
                  ·exact T.wk (Ba p_w.dB (by first|omega|(simp;done)|decide))
                  ·intro r5152 h5153 _
                   exact MT.say MT.any
                 ·have c5151':¬(p_w.ay=4):=by simpa using c5151
                  refine MT.say (MT.ite (fun c5154=>?_) (fun c5154=>?_))
                  ·have c5154':p_w.ay=6:=by simpa using c5154
                   refine MT.say (MT.ask (R:=Any) ?_ ?_)
                   ·exact T.wk (su p_w.aX (by first|omega|(simp;done)|decide))
                   ·intro r5155 h5156 _
                    exact MT.say MT.any
                  ·have c5154':¬(p_w.ay=6):=by simpa using c5154
                   refine MT.say (MT.ite (fun c5157=>?_) (fun c5157=>?_))
                   ·have c5157':p_w.ay=8:=by simpa using c5157
                    exact MT.say MT.any
                   ·have c5157':¬(p_w.ay=8):=by simpa using c5157
                    refine MT.say (MT.ite (fun c5158=>?_) (fun c5158=>?_))
                    ·have c5158':p_w.ay=9:=by simpa using c5158
                     exact MT.say MT.any
                    ·have c5158':¬(p_w.ay=9):=by simpa using c5158
                     exact MT.say MT.any
                ·intro o5165 h5164 _
                 exact MT.say MT.any
                ·intro o5166 h5164 _
                 refine MT.say (MT.kL (R:=Any) ?_ ?_ ?_)
                 ·refine T.cnt (fun _=>True) ?_
                  intro k88 hk88
                  show MT (uX (mO n_) o5166 p_w ((k88:Nat):Int)) _
                  refine MT.ite (fun c5203=>?_) (fun c5203=>?_)
                  ·have c5203':=of_decide_eq_true c5203
                   refine MT.say (MT.ask (dW p_w.bQ ((k88:Nat):Int) (by omega) (by omega)) (fun x5204 _ hx89=>?_))
                   have:=Df hx89
                   have:=jv x5204
                   refine MT.say (MT.ask (R:=Any) ?_ ?_)
                   ·exact(ih x5204 2 o5166 (by omega) (by first|omega|(simp;done)|decide))
                   ·intro r5206 h5207 _
                    refine MT.say (MT.ite (fun c5208=>?_) (fun c5208=>?_))
                    ·have c5208':¬(r5206=0):=by simpa using c5208
                     exact MT.say (MT.ret trivial)
                    ·have c5208':r5206=0:=by simpa using c5208
                     exact MT.say (MT.ret ⟨rfl,by omega⟩)
                  ·have c5203':=of_decide_eq_false c5203
                   exact MT.say (MT.ret trivial)
                 ·intro o5212 h5211 _
                  exact MT.say MT.any
                 ·intro o5213 h5211 _
                  exact MT.say MT.any
theorem vM(p_w:au)(p_least:Int)(p_greatest:Int)(h_p_w:aP p_w.lf1≤100000000):Tot (Q5 p_w p_least p_greatest) Any:=uo FU p_w p_least p_greatest (by have:=iZ;omega) h_p_w
theorem Et(p_e:bW)(h_p_e:aP p_e.lf1≤100000000):Tot (Q86 p_e) Any:=by
 have:=mG p_e
 have:=jv p_e.fG
 show MT (ac7 p_e) Any
 repeat' (first|exact MT.any|refine MT.say ?_|refine MT.ite (fun _=>?_) (fun _=>?_)|refine MT.lC ?_ (fun _ _=>?_)|exact⟨T.wk (T.val (wW _))⟩|exact⟨T.wk (vM _ _ _ (by first|omega|decide))⟩|refine⟨(show MT _ Any from ?_)⟩)
end Go.Proofs.YtflpefkohpjjpaaGreatDoor
set_option linter.unusedSimpArgs false
set_option linter.unusedVariables false
namespace Go.Proofs.YtflpefkohpjjpaaGreatDoor
open Go.RowKit
end Go.Proofs.YtflpefkohpjjpaaGreatDoor
set_option linter.unusedSimpArgs false
set_option linter.unusedVariables false
namespace Go.Proofs.YtflpefkohpjjpaaGreatDoor
open Go.RowKit
end Go.Proofs.YtflpefkohpjjpaaGreatDoor
set_option linter.unusedSimpArgs false
set_option linter.unusedVariables false
namespace Go.Proofs.YtflpefkohpjjpaaGreatDoor
open Go.RowKit
def yQ{ε:Type}(f:Nat→Option ε):Nat→Nat→Option ε
 |_,0=>none
 |k,n+1=>match f k with|some e=>some e|none=>yQ f (k+1) n
def afc{ε:Type}:Option ε→ε⊕Unit
 |some e=>.inl e
 |none=>.inr ()
theorem Tv{ε:Type}{T:Int→Option (Int⊕(ε⊕Unit))}(f:Nat→Option ε)(n:Nat)(hn:n≤1000000000)(h:∀k:Nat,k<n→T (k:Int)=some (match f k with|some e=>.inr (.inl e)|none=>.inl (IntKind.wrap .i64 ((k:Int)+1))))(he:T (n:Int)=some (.inr (.inr ()))):
 ∀m k F,k+m=n→m<F→dM T F (k:Int)=some (afc (yQ f k m)):=by
 intro m
 induction m with
 |zero=>
  intro k F hk hF
  obtain⟨F,rfl⟩:∃G,F=G+1:=⟨F-1,by omega⟩
  obtain rfl:k=n:=by omega
  unfold dM
  rw[he];rfl
 |succ m ih=>
  intro k F hk hF
  obtain⟨F,rfl⟩:∃G,F=G+1:=⟨F-1,by omega⟩
  unfold dM yQ
  rw[h k (by omega)]
  cases f k with
  |some e=>rfl
  |none=>
   show dM T F (IntKind.wrap .i64 ((k:Int)+1))=_
   rw[inc k (by omega)]
   exact ih (k+1) F (by omega) (by omega)
theorem VI{ε:Type}{T:Int→Option (Int⊕(ε⊕Unit))}(f:Nat→Option ε)(n:Nat)(hn:n≤1000000000)(h:∀k:Nat,k<n→T (k:Int)=some (match f k with|some e=>.inr (.inl e)|none=>.inl (IntKind.wrap .i64 ((k:Int)+1))))(he:T (n:Int)=some (.inr (.inr ()))):
 dM T FU 0=some (afc (yQ f 0 n)):=Tv f n hn h he n 0 FU (by omega) (by have:=iZ;omega)
def hit(b:Bool):Option Unit:=bif b then some () else none
end Go.Proofs.YtflpefkohpjjpaaGreatDoor
set_option linter.unusedSimpArgs false
set_option linter.unusedVariables false
namespace Go.Proofs.YtflpefkohpjjpaaGreatDoor
open Go.RowKit
theorem LG(v:ah):ag4 v=some (kS v):=by
 simp only[ag4,UQ,eX,ni,ng,pq,o9,Mo.den,aF,aA,aB,aG,aH,kS]
 cases v.ay==0<;>cases v.dG==0<;>cases decide (v.fText=⟨#[]⟩)<;>cases (v.aU.length:Int)==0<;>rfl
theorem Yj(v:ah):ahe v=some (kS v):=by
 simp only[ahe,U2,eX,ni,ng,pq,o9,Mo.den,aF,aA,aB,aG,aH,kS]
 cases v.ay==0<;>cases v.dG==0<;>cases decide (v.fText=⟨#[]⟩)<;>cases (v.aU.length:Int)==0<;>rfl
theorem EN(v:ah):Q0 v=some (kS v):=by
 simp only[Q0,agC,eX,ni,ng,pq,o9,Mo.den,aF,aA,aB,aG,aH,kS]
 cases v.ay==0<;>cases v.dG==0<;>cases decide (v.fText=⟨#[]⟩)<;>cases (v.aU.length:Int)==0<;>rfl
def again(l:List ByteArray)(x:ByteArray)(k:Nat):Option Unit:=yQ (fun j=>match l[j]? with|some y=>hit (decide (y=x))|none=>none) 0 k
end Go.Proofs.YtflpefkohpjjpaaGreatDoor
set_option linter.unusedSimpArgs false
set_option linter.unusedVariables false
namespace Go.Proofs.YtflpefkohpjjpaaGreatDoor
open Go.RowKit
theorem jA{α:Type}(b:Bool)(x y:α):(bif b then some x else some y)=some (bif b then x else y):=by cases b<;>rfl
theorem ge1(n:Nat):decide ((1:Int)≤(n:Int))=!((n:Int)==0):=by
 cases n with
 |zero=>rfl
 |succ n=>rw[decide_eq_true (by omega),show(((n+1:Nat):Int)==0)=false by rw[beq_eq_false_iff_ne];omega];rfl
theorem gt0(n:Nat):decide ((0:Int)<(n:Int))=!((n:Int)==0):=by
 rw[←ge1];rw[decide_eq_decide];omega
end Go.Proofs.YtflpefkohpjjpaaGreatDoor
set_option linter.unusedSimpArgs false
set_option linter.unusedVariables false
namespace Go.Proofs.YtflpefkohpjjpaaGreatDoor
open Go.RowKit
def Yk{α:Type}(g:α→Nat→Int×Nat):List α→Nat→Int×Nat
 |[],n=>(0,n)
 |x::r,n=>bif (g x n).1 != 0 then g x n else Yk g r (g x n).2
end Go.Proofs.YtflpefkohpjjpaaGreatDoor
set_option linter.unusedSimpArgs false
set_option linter.unusedVariables false
namespace Go.Proofs.YtflpefkohpjjpaaGreatDoor
open Go.RowKit
structure aol {α:Type} (g:α→Nat→Int×Nat) (l:List α) (n k:Nat) (s:Int×Int):Prop where
 i:s.2=(k:Int)
 h:(∃m:Nat,m≤256∧s.1=256-(m:Int)∧Yk g l n=Yk g (l.drop k) m)∨(s.1 = -1∧((Yk g l n).1 != 0)=true)
end Go.Proofs.YtflpefkohpjjpaaGreatDoor
set_option linter.unusedSimpArgs false
set_option linter.unusedVariables false
namespace Go.Proofs.YtflpefkohpjjpaaGreatDoor
open Go.RowKit
def yR(e:aS):Bool:=e.fOp==0&&(e.cZ.length:Int)==0&&decide (e.fName=⟨#[]⟩)&&(e.fK.length:Int)==0&&kS e.fArg&&e.fN==0&&(e.bV.length:Int)==0
theorem VJ(e:aS):Q94 e=some (yR e):=by
 simp only[Q94,acO,eX,pO,pK,J6,pJ,rU,rQ,Mo.den,aF,aA,aB,aG,aH,LG,Option.bind_some,jA,yR]
 cases e.fOp==0<;>cases (e.cZ.length:Int)==0<;>cases decide (e.fName=⟨#[]⟩)<;>cases (e.fK.length:Int)==0<;>cases kS e.fArg<;>cases e.fN==0<;>rfl
theorem li1(c:Bool):(bif c then(Sum.inl ():Unit⊕Unit) else Sum.inr ())=bif !c then Sum.inr () else Sum.inl ():=by cases c<;>rfl
theorem li2(c g:Bool):(bif c then(Sum.inl ():Unit⊕Unit) else bif g then Sum.inr () else Sum.inl ())=bif !c&&g then Sum.inr () else Sum.inl ():=by cases c<;>cases g<;>rfl
theorem an9(x y:Bool):(bif x then true else y)=(x||y):=by cases x<;>rfl
theorem xW(x y:Bool):(bif x then y else false)=(x&&y):=by cases x<;>rfl
theorem al3(x y:Bool):(bif x then false else y)=(!x&&y):=by cases x<;>rfl
def Dv(a b c:Bool)(p:aO):Bool:=(a||(p.cZ.length:Int)==0)&&((b||kS p.fArg)&&((c||(p.fArgs.length:Int)==0)&&((p.fOp==10||(p.fOp==11||(p.fOp==12||(p.fOp==13||p.fN==0))))&&((p.fOp==12||p.fM==0)&&((p.fOp==18||(p.dH.ay==0&&((p.dH.dD.length:Int)==0&&p.dH.fR==0)))&&(p.fOp==24||yR p.fExpr))))))
theorem aav(p:aO){a b c:Bool}(ha:ag0 p.fOp=some a)(hb:ag1 p.fOp=some b)(hc:agZ p.fOp=some c):Q3 p=some (Dv a b c p):=by
 have hJ:NC p=some (bif Dv a b c p then .inr () else .inl ()):=by
  simp only[Xj,Xk,Ru,Rw,Rx,Ry,Rz,RD,NC,F9,Q74,acN,wQ,J5,Rq,Ro,Mo.den,aF,aA,aB,aG,aH,ha,hb,hc,LG,VJ,Option.bind_some,jA,gt0,bne,li1,li2,an9,xW,al3,Bool.not_or,Bool.not_and,Bool.not_not,Bool.and_assoc,Bool.or_assoc,Dv]
 unfold Q3 akX
 simp only[Mo.den,aF,aA,aB,aG,aH,hJ,Option.bind_some]
 cases Dv a b c p<;>rfl
end Go.Proofs.YtflpefkohpjjpaaGreatDoor
set_option linter.unusedSimpArgs false
set_option linter.unusedVariables false
namespace Go.Proofs.YtflpefkohpjjpaaGreatDoor
open Go.RowKit
end Go.Proofs.YtflpefkohpjjpaaGreatDoor
set_option linter.unusedSimpArgs false
set_option linter.unusedVariables false
namespace Go.Proofs.YtflpefkohpjjpaaGreatDoor
open Go.RowKit
theorem afd(e:aS):ahf e=some (yR e):=by
 simp only[ahf,U3,eX,pO,pK,Gj,pJ,rU,rQ,Mo.den,aF,aA,aB,aG,aH,Yj,Option.bind_some,jA,yR]
 cases e.fOp==0<;>cases (e.cZ.length:Int)==0<;>cases decide (e.fName=⟨#[]⟩)<;>cases (e.fK.length:Int)==0<;>cases kS e.fArg<;>cases e.fN==0<;>rfl
end Go.Proofs.YtflpefkohpjjpaaGreatDoor
set_option linter.unusedSimpArgs false
set_option linter.unusedVariables false
namespace Go.Proofs.YtflpefkohpjjpaaGreatDoor
mutual
def yS:Lf→Prop
 |.int k n=>(Lit.int k n).wf=true
 |.str s=>s.size≤maxLen
 |.bool _=>True
 |.rows _ l=>l.length≤maxLen∧DV l
def jY:List Lf→Prop
 |[]=>True
 |x::r=>yS x∧jY r
def DV:List (List Lf)→Prop
 |[]=>True
 |r::q=>jY r∧DV q
end
mutual
theorem LRp.fit {I:Gh}:∀(x:Lf) (v:Value),LRp I x v→yS x
 |.int k n,v,h=>by unfold yS;exact h.int.2
 |.str s,v,h=>by unfold yS;exact h.str.2
 |.bool b,v,h=>by unfold yS;trivial
 |.rows n l,v,h=>by
  unfold LRp at h
  unfold yS
  obtain⟨a,c,h1,h2,h3,h4⟩:=h
  refine⟨Nat.le_trans h2 h3,?_⟩
  cases l with
  |nil=>unfold DV;trivial
  |cons r q=>
   obtain⟨b,off,e,hr⟩:=h4 (by simp)
   exact RRp.fit b n off (r::q) hr
theorem RRp.fit {I:Gh} (b n:Nat):∀(o:Nat) (l:List (List Lf)),RRp I b n o l→DV l
 |_,[],_=>by unfold DV;trivial
 |o,r::q,hl=>by
  unfold RRp at hl
  unfold DV
  exact⟨CRp.fit b o r hl.2.1,RRp.fit b n (o+n) q hl.2.2⟩
theorem CRp.fit {I:Gh} (b:Nat):∀(o:Nat) (r:List Lf),CRp I b o r→jY r
 |_,[],_=>by unfold jY;trivial
 |o,x::r,hl=>by
  unfold CRp at hl
  unfold jY
  obtain⟨⟨v,h1,h2⟩,h3⟩:=hl
  exact⟨LRp.fit x v h2,CRp.fit b (o+1) r h3⟩
end
theorem dJ.fit{I:Gh}:∀(r:List Lf) (cs:List Value),dJ I r cs→jY r
 |[],_,_=>by unfold jY;trivial
 |x::r,_,h=>by
  obtain⟨c,q,e,h1,h2⟩:=h
  unfold jY
  exact⟨h1.fit,dJ.fit r q h2⟩
theorem afe:jY []:=by unfold jY;trivial
theorem jH{x:Lf}{r:List Lf}:jY (x::r)↔yS x∧jY r:=by rw[jY]
theorem nC{l m:List Lf}:jY (l++m)↔jY l∧jY m:=by
 induction l with
 |nil=>exact⟨fun h=>⟨afe,h⟩,fun h=>h.2⟩
 |cons x r ih=>rw[List.cons_append,jH,jH,ih];exact⟨fun⟨a,b,c⟩=>⟨⟨a,b⟩,c⟩,fun⟨⟨a,b⟩,c⟩=>⟨a,b,c⟩⟩
theorem aaw{l:List (List Lf)}(h:DV l):∀r∈l,jY r:=by
 induction l with
 |nil=>intro r hr;cases hr
 |cons x q ih=>
  rw[DV] at h
  intro r hr
  rcases List.mem_cons.1 hr with rfl|hr
  ·exact h.1
  ·exact ih h.2 r hr
theorem lF{α:Type}{n:Nat}{lf:α→List Lf}{l:List α}(h:yS (.rows n (l.map lf))){x:α}(hx:x∈l):jY (lf x):=by
 rw[yS] at h
 exact aaw h.2 _ (List.mem_map_of_mem hx)
theorem aiM{n:Int}(h:yS (.int .i64 n)) : -9223372036854775808≤n∧n≤9223372036854775807:=by
 rw[yS] at h
 exact bounds_i64 h
end Go.Proofs.YtflpefkohpjjpaaGreatDoor
set_option linter.unusedSimpArgs false
set_option linter.unusedVariables false
namespace Go.Proofs.YtflpefkohpjjpaaGreatDoor
open Go.RowKit
end Go.Proofs.YtflpefkohpjjpaaGreatDoor
set_option linter.unusedSimpArgs false
set_option linter.unusedVariables false
namespace Go.Proofs.YtflpefkohpjjpaaGreatDoor
open Go.RowKit
theorem xM(n:Int):Tot (Q44 n) (fun r=>r.length≤11):=by
 obtain⟨u,hu,hg⟩:=O1 n
 unfold Q44 ac8
 simp only[Mo.den,aF,aA,aB,aG,aH,hu,Option.bind_some]
 refine T.bind (R:=fun r=>r.2.length≤10) (T.qw 10 (by omega) (fun k s=>grp k s.1∧s.2.length=k) _ ⟨hg,rfl⟩ ?_ ?_) fun r hr=>T.grd (by simp only[List.length_cons,List.length_nil];omega) (T.ret ?_)
 ·rintro k ⟨v,m⟩ hk ⟨hv,hm⟩
  have hm:m.length=k:=hm
  simp only[oG,Mo.den,aF,aA,aB,aG,aH]
  refine T.ite (fun _=>T.grd (by simp only[List.length_cons,List.length_nil];omega) (T.ret ⟨hv.next,?_⟩)) fun _=>T.ret ?_
  ·rw[List.length_append,List.length_cons,List.length_nil];omega
  ·show m.length≤_;omega
 ·rintro⟨v,m⟩ ⟨hv,hm⟩
  have hv:grp 10 v:=hv
  have hm:m.length=10:=hm
  simp only[oG,Mo.den,aF,aA,aB,aG,aH,hv.last,cond_false]
  exact T.ret (by show m.length≤_;omega)
 ·rw[List.length_append,List.length_cons,List.length_nil];omega
noncomputable def aff(n:Int):ByteArray:=(SB n).getD ⟨#[]⟩
theorem Hg(n:Int):SB n=some (aff n)∧(aff n).size≤11:=by
 have:Tot (SB n) (fun r=>r.size≤11):=by
  simp only[SB,U7,Mo.den,aF,aA,aB,aG,aH]
  exact T.bind (xM n) fun r hr=>T.ret (by rw[strOfNums_size];exact hr)
 obtain⟨r,h,hr⟩:=this
 unfold aff
 rw[h];exact⟨rfl,hr⟩
noncomputable def dX(n:Int):List Int:=numsOf (aff n)
theorem fU(n:Int):(dX n).length≤11:=by unfold dX;rw[eu];exact(Hg n).2
noncomputable def fD(s:ByteArray):List Int:=dX (s.size:Int)++numsOf s
def iW(b:Bool):List Int:=bif b then [1] else [0]
noncomputable def gW{α:Type}(e:α→List Int)(l:List α):List Int:=dX (l.length:Int)++(l.map e).flatten
structure Wrt (F:ak→Option ak) (e:List Int) (b:Bool):Prop where
 h:∀w,w.bg.length+e.length≤100000000000→F w=some ⟨w.bg++e,w.cu||b⟩
theorem Wrt.of{F F':ak→Option ak}{e:List Int}{b:Bool}(h:∀w,F w=F' w)(k:Wrt F' e b):Wrt F e b:=⟨fun w hw=>(h w).trans (k.h w hw)⟩
theorem Wrt.bind{F G:ak→Option ak}{e e':List Int}{b b':Bool}(h:Wrt F e b)(k:Wrt G e' b'):Wrt (fun w=>(F w).bind G) (e++e') (b||b'):=⟨fun w hw=>by
 rw[List.length_append] at hw
 show(F w).bind G=_
 rw[h.h w (by omega),Option.bind_some,k.h _ (by rw[List.length_append];omega),List.append_assoc,Bool.or_assoc]⟩
theorem Wrt.last{F:ak→Option ak}{e:List Int}{b:Bool}(h:Wrt F e b):Wrt (fun w=>(F w).bind some) e b:=⟨fun w hw=>by
 show(F w).bind some=_
 rw[h.h w hw];rfl⟩
theorem gX(n:Int):Wrt (Q7 n) (dX n) false:=⟨fun w hw=>by
 simp only[Q7,amV,Mo.den,aF,aA,aB,aG,aH,(Hg n).1,Option.bind_some]
 unfold dX at hw ⊢
 rw[eu] at hw
 rw[if_pos (by omega),Bool.or_false]⟩
theorem oK(s:ByteArray):Wrt (Q80 s) (fD s) false:=⟨fun w hw=>by
 unfold fD at hw ⊢
 rw[List.length_append,eu] at hw
 simp only[Q80,ajp,Mo.den,aF,aA,aB,aG,aH,(gX (s.size:Int)).h w (by omega),Option.bind_some,Bool.or_false]
 rw[if_pos (by rw[List.length_append];omega),List.append_assoc]⟩
theorem lG(b:Bool):Wrt (Q60 b) (iW b) false:=⟨fun w hw=>by
 cases b
 ·have hw:w.bg.length+1≤100000000000:=hw
  simp only[Q60,ac9,Mo.den,aF,aA,aB,aG,aH,cond_false,iW,Bool.or_false]
  rw[if_pos (by simp only[List.length_cons,List.length_nil];omega)]
 ·have hw:w.bg.length+1≤100000000000:=hw
  simp only[Q60,ac9,Mo.den,aF,aA,aB,aG,aH,cond_true,iW,Bool.or_false]
  rw[if_pos (by simp only[List.length_cons,List.length_nil];omega)]⟩
theorem og{α:Type}(f:α→List Int){l:List α}{k:Nat}{x:α}(h:l[k]?=some x):((l.take (k+1)).map f).flatten=((l.take k).map f).flatten++f x:=by
 have hk:=oZ h
 have:l[k]=x:=by rw[List.getElem?_eq_getElem hk] at h;injection h
 rw[List.take_succ_eq_append_getElem hk,List.map_append,List.flatten_append,this];simp
theorem afg{α:Type}(f:α→Bool){l:List α}{k:Nat}{x:α}(h:l[k]?=some x):(l.take (k+1)).any f=((l.take k).any f||f x):=by
 have hk:=oZ h
 have:l[k]=x:=by rw[List.getElem?_eq_getElem hk] at h;injection h
 rw[List.take_succ_eq_append_getElem hk,List.any_append,this];simp
theorem Bc{α:Type}(f:α→List Int)(l:List α)(k:Nat):((l.take k).map f).flatten.length≤(l.map f).flatten.length:=by
 have:(l.map f).flatten=((l.take k).map f).flatten++((l.drop k).map f).flatten:=by rw[←List.flatten_append,←List.map_append,List.take_append_drop]
 rw[this,List.length_append];omega
theorem lH{α:Type}{L:(Int×Bool×List Int)→Option ((Int×Bool×List Int)⊕(Bool×List Int))}(W:α→ak→Option ak)(e:α→List Int)(b:α→Bool)(l:List α)(hl:l.length≤100000000)
 (hL:∀v bd bs,L (v,bd,bs)=bif decide ((v:Int)<(l.length:Int)) then(qc l v).bind fun x=>(W x ⟨bs,bd⟩).bind fun r=>some (.inl (IntKind.wrap .i64 (v+1),r.cu,r.bg)) else some (.inr (bd,bs)))
 (hW:∀x∈l,Wrt (W x) (e x) (b x)):Wrt (fun w=>(Q7 (l.length:Int) w).bind fun r=>(dM L FU (0,r.cu,r.bg)).bind fun q=>some ⟨q.2,q.1⟩) (gW e l) (l.any b):=⟨fun w hw=>by
 unfold gW at hw ⊢
 rw[List.length_append] at hw
 show(Q7 (l.length:Int) w).bind _=_
 rw[(gX (l.length:Int)).h w (by omega),Option.bind_some]
 have key:Tot (dM L FU (0,(w.cu||false),w.bg++dX (l.length:Int))) (fun q=>q=(w.cu||l.any b,w.bg++(dX (l.length:Int)++(l.map e).flatten))):=by
  refine T.qw l.length (by omega) (fun k s=>s=((k:Int),(w.cu||(l.take k).any b),w.bg++(dX (l.length:Int)++((l.take k).map e).flatten))) _ (by simp) ?_ ?_
  ·rintro k s hk rfl
   have hx:=List.getElem?_eq_getElem hk
   have h1:=Bc e l (k+1)
   rw[og e hx,List.length_append] at h1
   rw[hL,ltt hx,gid hx]
   simp only[cond_true,Option.bind_some]
   rw[(hW l[k] (List.getElem_mem hk)).h _ (by show(w.bg++(dX (l.length:Int)++((l.take k).map e).flatten)).length+_≤_;rw[List.length_append,List.length_append];omega),Option.bind_some]
   refine T.ret ?_
   show _=_
   rw[inc k (by omega),og e hx,afg b hx]
   simp only[Bool.or_assoc,List.append_assoc]
  ·rintro s rfl
   rw[hL,ltn,List.take_length]
   exact T.ret rfl
 obtain⟨q,h,rfl⟩:=key
 rw[h];rfl⟩
theorem Ip(v:ah):Q0 v=some (kS v):=by
 simp only[Q0,agC,eX,ni,ng,pq,o9,Mo.den,aF,aA,aB,aG,aH,kS]
 cases v.ay==0<;>cases v.dG==0<;>cases decide (v.fText=⟨#[]⟩)<;>cases (v.aU.length:Int)==0<;>rfl
theorem qN(s:ByteArray)(l:List Int)(hl:l.length+s.size≤50000000000):Tot (Q91 s l) (fun r=>r.length≤l.length+11+s.size):=by
 simp only[Q91,adb,Mo.den,aF,aA,aB,aG,aH]
 exact T.bind (fH (s.size:Int) l (by omega)) fun r hr=>T.grd (by omega) (T.ret (by rw[List.length_append,eu];omega))
theorem aoa(R:qh)(v:ah)(hb:aP v.lf1≤100000000)(hR:∀x∈v.aU,∀l:List Int,l.length+20*aP x.lf1≤10000000000→Tot (R.m2 x l) (fun r=>r.length≤l.length+20*aP x.lf1))(l:List Int)(hl:l.length+20*bP (v.aU.map ah.lf)≤10000000000):
 Tot (Xx R v 0 l) (fun r=>r.length≤l.length+20*bP (v.aU.map ah.lf)):=by
 have h0:=gV v.aU
 rw[dh] at hb
 refine T.qw v.aU.length (by omega) (fun k s=>s.1=(k:Int)∧s.2.length≤l.length+20*bP ((v.aU.take k).map ah.lf)) _ ⟨rfl,Nat.le_add_right _ _⟩ ?_ ?_
 ·rintro k ⟨i,m⟩ hk ⟨hi,hm⟩
  have hi:i=(k:Int):=hi
  have hm:m.length≤l.length+20*bP ((v.aU.take k).map ah.lf):=hm
  subst hi
  have hx:=List.getElem?_eq_getElem hk
  have e1:=tu ah.lf hx
  have e2:=iK ah.lf v.aU (k+1)
  rw[ah.aW] at e1
  simp only[pV,Mo.den,aF,aA,aB,aG,aH,ltt hx,gid hx,cond_true,Option.bind_some]
  exact T.bind (hR _ (List.getElem_mem hk) m (by omega)) fun r hr=>T.ret ⟨inc k (by omega),by show r.length≤_;omega⟩
 ·rintro⟨i,m⟩ ⟨hi,hm⟩
  have hi:i=(v.aU.length:Int):=hi
  subst hi
  simp only[pV,Mo.den,aF,aA,aB,aG,aH,ltn,cond_false]
  rw[List.take_length] at hm
  exact T.ret hm
end Go.Proofs.YtflpefkohpjjpaaGreatDoor
set_option linter.unusedSimpArgs false
set_option linter.unusedVariables false
namespace Go.Proofs.YtflpefkohpjjpaaGreatDoor
open Go.RowKit
theorem Yl{x:Int}(h1:0≤x)(h2:x<18446744073709551616):IntKind.wrap .u64 x=x:=by rw[kY];omega
theorem Ym(a b:Nat)(ha:a<18446744073709551616)(hb:b<18446744073709551616):dU .xor .u64 (a:Int) (b:Int)=((a^^^ b:Nat):Int):=by
 show IntKind.wrap .u64 (BitVec.ofInt 64 (a:Int)^^^ BitVec.ofInt 64 (b:Int)).toNat=_
 have e1:BitVec.ofInt 64 (a:Int)=BitVec.ofNat 64 a:=by apply BitVec.eq_of_toNat_eq;rw[BitVec.toNat_ofInt,BitVec.toNat_ofNat];omega
 have e2:BitVec.ofInt 64 (b:Int)=BitVec.ofNat 64 b:=by apply BitVec.eq_of_toNat_eq;rw[BitVec.toNat_ofInt,BitVec.toNat_ofNat];omega
 rw[e1,e2,BitVec.toNat_xor,BitVec.toNat_ofNat,BitVec.toNat_ofNat,Nat.mod_eq_of_lt ha,Nat.mod_eq_of_lt hb]
 have hx:a^^^ b<2^64:=Nat.xor_lt_two_pow ha hb
 exact Yl (by omega) (by omega)
theorem aob(n:Int):zf .u64 n 1=IntKind.wrap .u64 (n*2):=rfl
theorem Ho(n:Int)(h:I64 n):YV n=some ((zz n:Nat):Int):=by
 unfold I64 at h
 unfold YV UM
 simp only[Mo.den,aF,aA,aB,aG,aH]
 congr 1
 rw[aob]
 have hs:tX .i64 n 63=Int.fdiv n 9223372036854775808:=rfl
 rw[hs]
 by_cases h0:0≤n
 ·obtain⟨m,rfl⟩:=Int.eq_ofNat_of_zero_le h0
  rw[Yl (x:=(m:Int)) (by omega) (by omega),Yl (x:=(m:Int)*2) (by omega) (by omega),Int.fdiv_eq_ediv_of_nonneg _ (by omega),show(m:Int)/9223372036854775808=((0:Nat):Int) by omega,Yl (x:=((0:Nat):Int)) (by omega) (by omega),show(m:Int)*2=((m*2:Nat):Int) by omega,Ym _ _ (by omega) (by omega)]
  simp only[Nat.xor_zero,zz]
  rw[if_pos (by omega)];omega
 ·have e1:IntKind.wrap .u64 n=n+18446744073709551616:=by rw[kY];omega
  have e2:IntKind.wrap .u64 ((n+18446744073709551616)*2)=((2*n+18446744073709551616).toNat:Int):=by rw[kY];omega
  have e3:IntKind.wrap .u64 (Int.fdiv n 9223372036854775808)=((18446744073709551615:Nat):Int):=by
   rw[Int.fdiv_eq_ediv_of_nonneg _ (by omega),kY];omega
  rw[e1,e2,e3,Ym _ _ (by omega) (by omega),Nat.xor_comm,agj _ (by omega)]
  unfold zz
  rw[if_neg h0];omega
def bJ(u:Nat):List Int:=(yE u).map fun b=>(b.toNat:Int)
theorem aax{u:Nat}(h:u<128):bJ u=[(u:Int)]:=by
 unfold bJ;rw[EH h];simp only[List.map_cons,List.map_nil,abw u h]
theorem wY{u:Nat}(h:¬u<128):bJ u=((u%128+128:Nat):Int)::bJ (u/128):=by
 unfold bJ;rw[MZ h];simp only[List.map_cons]
 congr 1
 rw[UInt8.toNat_ofNat'];omega
theorem anl(u:Nat):dU .or .u8 (IntKind.wrap .u8 (u:Int)) 128=((u%128+128:Nat):Int):=by
 have h:∀x:Fin 256,dU .or .u8 (x.1:Int) 128=((x.1%128+128:Nat):Int):=by decide +kernel
 have h:=h ⟨u%256,by omega⟩
 simp only at h
 have e:IntKind.wrap .u8 (u:Int)=((u%256:Nat):Int):=by rw[IntKind.wrap_u8];omega
 rw[e,h];omega
theorem Tz(u0:Nat)(l0:List Int)(hu:u0<18446744073709551616)(hl:l0.length≤100000000000):Tot (NJ (u0:Int) l0) (fun r=>∃u:Nat,r.1=(u:Int)∧u<128∧r.2++[(u:Int)]=l0++bJ u0):=by
 refine yD (T:=fun v_=>(oG v_).den) (fun v=>∃u:Nat,v.1=(u:Int)∧v.2++bJ u=l0++bJ u0∧v.2.length+(bJ u).length≤100000000010) (fun v=>(bJ v.1.toNat).length) _ ?_ FU ((u0:Int),l0) ⟨u0,rfl,rfl,by have:=wI u0 hu;unfold bJ;rw[List.length_map];show l0.length+_≤_;omega⟩ (by have:=iZ;have:=wI u0 hu;show(bJ ((u0:Nat):Int).toNat).length<FU;rw[Int.toNat_natCast];unfold bJ;rw[List.length_map];omega)
 rintro⟨v,l⟩ ⟨u,hv,he,hn⟩
 obtain rfl:v=(u:Int):=hv
 have he:l++bJ u=l0++bJ u0:=he
 have hn:l.length+(bJ u).length≤100000000010:=hn
 by_cases h:u<128
 ·refine .inr ⟨((u:Int),l),?_,u,rfl,h,?_⟩
  ·simp only[oG,Mo.den,aF,aA,aB,aG,aH]
   rw[decide_eq_false (show ¬(128:Int)≤(u:Int) by omega)];rfl
  ·rw[←he,aax h]
 ·refine .inl ⟨(((u/128:Nat):Int),l++[((u%128+128:Nat):Int)]),?_,⟨u/128,rfl,?_,?_⟩,?_⟩
  ·rw[wY h,List.length_cons] at hn
   simp only[oG,Mo.den,aF,aA,aB,aG,aH]
   rw[decide_eq_true (show(128:Int)≤(u:Int) by omega),anl,ank (by omega),Int.toNat_natCast,if_pos (by rw[List.length_cons,List.length_nil];omega)];rfl
  ·rw[←he,wY h];simp
  ·rw[wY h,List.length_cons] at hn
   show(l++[((u%128+128:Nat):Int)]).length+_≤_
   rw[List.length_append,List.length_cons,List.length_nil];omega
  ·show(bJ ((u/128:Nat):Int).toNat).length<(bJ ((u:Nat):Int).toNat).length
   rw[Int.toNat_natCast,Int.toNat_natCast,wY h,List.length_cons];omega
theorem anm{u:Nat}(h:u<256):IntKind.wrap .u8 (u:Int)=(u:Int):=by rw[IntKind.wrap_u8];omega
theorem VK(n:Int)(h:I64 n):Q44 n=some (bJ (zz n)):=by
 have hz:zz n<18446744073709551616:=WJ n h
 obtain⟨r,hr,u,h1,h2,h3⟩:=Tz (zz n) [] hz (by rw[List.length_nil];omega)
 have hlen:r.2.length+1=(bJ (zz n)).length:=by rw[List.nil_append] at h3;rw[←h3,List.length_append];rfl
 have h10:=wI (zz n) hz
 have hb:(bJ (zz n)).length≤10:=by unfold bJ;rw[List.length_map];exact h10
 unfold Q44 ac8
 simp only[Mo.den,aF,aA,aB,aG,aH,Ho n h,Option.bind_some,hr]
 rw[if_pos (by rw[List.length_cons,List.length_nil];omega),h1,anm (by omega),h3];rfl
theorem aay(v:Int)(l:List Int):U8 v l=NJ v l:=by simp only[U8,NJ,uZ,oG,Mo.den,aF,aA,aB,aG,aH]
theorem lI(n:Int)(l:List Int)(h:I64 n)(hl:l.length≤100000000000):Q27 n l=some (l++bJ (zz n)):=by
 have hz:zz n<18446744073709551616:=WJ n h
 obtain⟨r,hr,u,h1,h2,h3⟩:=Tz (zz n) l hz hl
 have hlen:r.2.length+1=l.length+(bJ (zz n)).length:=by rw[←List.length_append,←h3,List.length_append];rfl
 have h10:=wI (zz n) hz
 have hb:(bJ (zz n)).length≤10:=by unfold bJ;rw[List.length_map];exact h10
 unfold Q27 ada
 simp only[Mo.den,aF,aA,aB,aG,aH,Ho n h,Option.bind_some,aay,hr]
 rw[if_pos (by rw[List.length_cons,List.length_nil];omega),h1,anm (by omega),h3]
theorem afh(n:Int)(h:I64 n):SB n=some (strOfNums (bJ (zz n))):=by
 simp only[SB,U7,Mo.den,aF,aA,aB,aG,aH,VK n h,Option.bind_some]
theorem aiN(n:Int)(h:I64 n):aff n=strOfNums (bJ (zz n)):=by
 have h1:=(Hg n).1
 rw[afh n h] at h1
 exact(Option.some.inj h1).symm
theorem O4(u:Nat):∀x∈bJ u,0≤x∧x<256:=by
 intro x hx
 unfold bJ at hx
 obtain⟨b,_,rfl⟩:=List.mem_map.1 hx
 have:=b.toNat_lt
 omega
theorem VL(l:List Int)(h:∀x∈l,0≤x∧x<256):numsOf (strOfNums l)=l:=by
 unfold numsOf
 rw[strOfNums_data,List.map_map]
 conv=>rhs;rw[←List.map_id l]
 refine List.map_congr_left fun x hx=>?_
 have:=h x hx
 show((UInt8.ofNat x.toNat).toNat:Int)=x
 rw[UInt8.toNat_ofNat'];omega
theorem afi(n:Int)(h:I64 n):dX n=bJ (zz n):=by
 unfold dX
 rw[aiN n h,VL _ (O4 _)]
theorem al4(a b:List Int):strOfNums (a++b)=strOfNums a++strOfNums b:=by
 apply ByteArray.ext
 apply Array.ext'
 rw[ByteArray.data_append,Array.toList_append,strOfNums_data,strOfNums_data,strOfNums_data,List.map_append]
end Go.Proofs.YtflpefkohpjjpaaGreatDoor
set_option linter.unusedSimpArgs false
set_option linter.unusedVariables false
namespace Go.Proofs.YtflpefkohpjjpaaGreatDoor
open Go.RowKit
def zlf:Lf→Bool
 |.int _ n=>n==0
 |.str s=>decide (s=⟨#[]⟩)
 |.bool b=>!b
 |.rows _ l=>(l.length:Int)==0
def zs(k:Nat):List UInt8:=List.replicate k 0
theorem iC{k:IntKind}{n:Int}(hk:k=.i64)(h:yS (.int k n)):I64 n:=by
 subst hk
 have:=aiM h
 unfold I64;omega
theorem afj(v:ah):v.lf1.all zlf=kS v:=by
 unfold ah.lf1 kS
 simp only[List.all_cons,List.all_nil,zlf,List.length_map,Bool.and_true,Bool.and_assoc]
theorem Hq(s:aI):Q12 s=some (s.lf1.all zlf):=by
 unfold aI.lf1
 simp only[Q12,abS,eX,Jf,Je,Jd,Jc,Jb,Ja,I9,I8,I7,I5,QB,QA,Mo.den,aF,aA,aB,aG,aH,EN,Option.bind_some,jA,xW,List.all_append,List.all_cons,List.all_nil,afj,zlf,List.length_map,Bool.and_true,Bool.and_assoc]
theorem Iq(d:bY):Q55 d=some (d.lf1.all zlf):=by
 unfold bY.lf1
 simp only[Q55,abT,eX,Jh,Jg,QD,QC,Mo.den,aF,aA,aB,aG,aH,Hq,Option.bind_some,jA,xW,List.all_append,List.all_cons,List.all_nil,zlf,List.length_map,Bool.and_true,Bool.and_assoc]
theorem O5(s:aS):Q16 s=some (s.lf1.all zlf):=by
 unfold aS.lf1
 simp only[Q16,abU,eX,pO,pK,Ji,pJ,rU,rQ,Mo.den,aF,aA,aB,aG,aH,EN,Option.bind_some,jA,xW,List.all_append,List.all_cons,List.all_nil,afj,zlf,List.length_map,Bool.and_true,Bool.and_assoc]
theorem O6(s:aO):Q8 s=some (s.lf1.all zlf):=by
 unfold aO.lf1 dZ.lf1
 simp only[Q8,akD,eX,zU,QE,zT,zQ,zO,zN,zM,zL,Xa,EI,Mo.den,aF,aA,aB,aG,aH,EN,O5,Option.bind_some,jA,xW,List.all_append,List.all_cons,List.all_nil,afj,zlf,List.length_map,Bool.and_true,Bool.and_assoc]
theorem Ir(x:aQ):Q30 x=some (x.lf1.all zlf):=by
 unfold aQ.lf1
 simp only[Q30,abV,eX,Jm,Jl,Jk,Jj,QG,QF,Mo.den,aF,aA,aB,aG,aH,O6,Option.bind_some,jA,xW,List.all_append,List.all_cons,List.all_nil,zlf,List.length_map,Bool.and_true,Bool.and_assoc]
end Go.Proofs.YtflpefkohpjjpaaGreatDoor
set_option linter.unusedSimpArgs false
set_option linter.unusedVariables false
namespace Go.Proofs.YtflpefkohpjjpaaGreatDoor
open Go.RowKit
theorem Dw{v:ah}(h:jY v.lf1):I64 v.dG∧(∀x∈v.aU,jY x.lf1)∧∀f∈v.aY,jY f.fValue.lf1:=by
 unfold ah.lf1 at h
 simp only[jH] at h
 obtain⟨_,a2,_,a4,a5,_⟩:=h
 refine⟨iC rfl a2,fun x hx=>?_,fun f hf=>?_⟩
 ·have h2:=lF a4 hx
  rw[ah.aW] at h2;exact h2
 ·have h2:=lF a5 hf
  rw[aJ.aW] at h2
  unfold aJ.lf1 at h2
  exact(nC.1 h2).2
theorem kT{n:Nat}(h:n≤4000000000000):I64 (n:Int):=by unfold I64;omega
theorem kN{n:Int}(h:I64 n):(bJ (zz n)).length≤10:=by unfold bJ;rw[List.length_map];exact wI (zz n) (WJ n h)
end Go.Proofs.YtflpefkohpjjpaaGreatDoor
set_option linter.unusedSimpArgs false
set_option linter.unusedVariables false
namespace Go.Proofs.YtflpefkohpjjpaaGreatDoor
open Go.RowKit
mutual
def vb:ah→List Int
 |.mk k i t l d=>IntKind.wrap .u8 k::(bif k==3||k==10 then bJ (zz i) else bif k==9 then [IntKind.wrap .u8 i] else bif k==4||k==7 then bJ (zz (t.size:Int))++numsOf t else bif k==8 then numsOf t else bif k==6 then bJ (zz (l.length:Int))++vbL l else bif k==5 then bJ (zz (d.length:Int))++vbD d else [])
def vbL:List ah→List Int
 |[]=>[]
 |x::r=>vb x++vbL r
def vbD:List aJ→List Int
 |[]=>[]
 |.mk n v::r=>(bJ (zz (n.size:Int))++numsOf n++vb v)++vbD r
end
def vbF(f:aJ):List Int:=bJ (zz (f.fName.size:Int))++numsOf f.fName++vb f.fValue
theorem afk:∀l:List ah,vbL l=(l.map vb).flatten
 |[]=>by rw[vbL];rfl
 |x::r=>by rw[vbL,afk r];rfl
theorem afl:∀l:List aJ,vbD l=(l.map vbF).flatten
 |[]=>by rw[vbD];rfl
 |.mk n v::r=>by rw[vbD,afl r];rfl
theorem TA(v:ah):vb v=IntKind.wrap .u8 v.ay::(bif v.ay==3||v.ay==10 then bJ (zz v.dG) else bif v.ay==9 then [IntKind.wrap .u8 v.dG] else bif v.ay==4||v.ay==7 then bJ (zz (v.fText.size:Int))++numsOf v.fText else bif v.ay==8 then numsOf v.fText else bif v.ay==6 then bJ (zz (v.aU.length:Int))++(v.aU.map vb).flatten else bif v.ay==5 then bJ (zz (v.aY.length:Int))++(v.aY.map vbF).flatten else []):=by
 cases v
 rw[vb,afk,afl];rfl
theorem LH{α:Type}(e:α→List Int)(lf:α→List Lf)(l:List α)(h:∀x∈l,(e x).length≤12*aP (lf x)):((l.map e).flatten).length≤12*bP (l.map lf):=by
 induction l with
 |nil=>exact Nat.zero_le _
 |cons x r ih=>
  simp only[List.map_cons,List.flatten_cons,List.length_append,bP]
  have:=h x (List.mem_cons_self ..)
  have:=ih fun y hy=>h y (List.mem_cons_of_mem _ hy)
  omega
theorem ano(n:Nat):∀v:ah,aP v.lf1<n→aP v.lf1≤100000000→jY v.lf1→(vb v).length≤12*aP v.lf1:=by
 induction n with
 |zero=>intro v h;omega
 |succ n ih=>
  intro v hlt hb hf
  have hp:=dh v
  have hl:=gV v.aU
  have hd:=fZ v.aY
  obtain⟨f1,f2,f3⟩:=Dw hf
  have bI:=kN f1
  have bT:=kN (kT (n:=v.fText.size) (by omega))
  have bL:=kN (kT (n:=v.aU.length) (by omega))
  have bD:=kN (kT (n:=v.aY.length) (by omega))
  have hL:=LH vb ah.lf v.aU fun x hx=>by
   have hm:=jm hx
   rw[ah.aW];exact ih x (by omega) (by omega) (f2 x hx)
  have hD:=LH vbF aJ.lf v.aY fun x hx=>by
   have hm:=gq hx
   rw[eF] at hm
   rw[aJ.aW,eF]
   have:=ih x.fValue (by omega) (by omega) (f3 x hx)
   have:=kN (kT (n:=x.fName.size) (by omega))
   unfold vbF
   rw[List.length_append,List.length_append,eu];omega
  rw[TA,List.length_cons]
  have key:∀(c:Bool) (a b:List Int) (m:Nat),a.length≤m→b.length≤m→(bif c then a else b).length≤m:=fun c a b m h1 h2=>by cases c<;>assumption
  have:(bif v.ay==3||v.ay==10 then bJ (zz v.dG) else bif v.ay==9 then [IntKind.wrap .u8 v.dG] else bif v.ay==4||v.ay==7 then bJ (zz (v.fText.size:Int))++numsOf v.fText else bif v.ay==8 then numsOf v.fText else bif v.ay==6 then bJ (zz (v.aU.length:Int))++(v.aU.map vb).flatten else bif v.ay==5 then bJ (zz (v.aY.length:Int))++(v.aY.map vbF).flatten else []).length≤12*aP v.lf1-1:=by
   refine key _ _ _ _ (by omega) (key _ _ _ _ (by simp only[List.length_cons,List.length_nil];omega) (key _ _ _ _ (by rw[List.length_append,eu];omega) (key _ _ _ _ (by rw[eu];omega) (key _ _ _ _ (by rw[List.length_append];omega) (key _ _ _ _ (by rw[List.length_append];omega) (by simp only[List.length_nil];omega))))))
  omega
theorem Bd{α:Type}{L:Int×List Int→Option ((Int×List Int)⊕List Int)}(l:List α)(hl:l.length≤100000000)(e:α→List Int)(B:Nat)
 (hs:∀(k:Nat) (x:α) (bs:List Int),l[k]?=some x→bs.length+(e x).length≤B→L ((k:Int),bs)=some (.inl (IntKind.wrap .i64 ((k:Int)+1),bs++e x)))
 (he:∀bs,L ((l.length:Int),bs)=some (.inr bs)) (acc:List Int) (hb:acc.length+((l.map e).flatten).length≤B):dM L FU (0,acc)=some (acc++(l.map e).flatten):=by
 have key:Tot (dM L FU (0,acc)) (fun q=>q=acc++(l.map e).flatten):=by
  refine T.qw l.length (by omega) (fun k s=>s=((k:Int),acc++((l.take k).map e).flatten)) _ (by simp) ?_ ?_
  ·rintro k s hk rfl
   have hx:=List.getElem?_eq_getElem hk
   have h1:=Bc e l (k+1)
   rw[og e hx,List.length_append] at h1
   rw[hs k _ _ hx (by rw[List.length_append];omega)]
   refine T.ret ?_
   show _=_
   rw[inc k (by omega),og e hx,List.append_assoc]
  ·rintro s rfl
   rw[he,List.take_length]
   exact T.ret rfl
 obtain⟨q,h,rfl⟩:=key
 exact h
end Go.Proofs.YtflpefkohpjjpaaGreatDoor
set_option linter.unusedSimpArgs false
set_option linter.unusedVariables false
namespace Go.Proofs.YtflpefkohpjjpaaGreatDoor
open Go.RowKit
theorem aoc(R:qh)(v:ah)(hb:aP v.lf1≤100000000)(hR:∀f∈v.aY,∀l:List Int,l.length+20*aP f.fValue.lf1≤10000000000→Tot (R.m2 f.fValue l) (fun r=>r.length≤l.length+20*aP f.fValue.lf1))(l:List Int)(hl:l.length+20*bP (v.aY.map aJ.lf)≤10000000000):
 Tot (Xy R v 0 l) (fun r=>r.length≤l.length+20*bP (v.aY.map aJ.lf)):=by
 have h0:=fZ v.aY
 rw[dh] at hb
 refine T.qw v.aY.length (by omega) (fun k s=>s.1=(k:Int)∧s.2.length≤l.length+20*bP ((v.aY.take k).map aJ.lf)) _ ⟨rfl,Nat.le_add_right _ _⟩ ?_ ?_
 ·rintro k ⟨i,m⟩ hk ⟨hi,hm⟩
  have hi:i=(k:Int):=hi
  have hm:m.length≤l.length+20*bP ((v.aY.take k).map aJ.lf):=hm
  subst hi
  have hx:=List.getElem?_eq_getElem hk
  have e1:=tu aJ.lf hx
  have e2:=iK aJ.lf v.aY (k+1)
  rw[aJ.aW,eF] at e1
  simp only[pW,Mo.den,aF,aA,aB,aG,aH,ltt hx,gid hx,cond_true,Option.bind_some]
  exact T.bind (qN _ m (by omega)) fun r hr=>T.bind (hR _ (List.getElem_mem hk) r (by omega)) fun r2 hr2=>T.ret ⟨inc k (by omega),by show r2.length≤_;omega⟩
 ·rintro⟨i,m⟩ ⟨hi,hm⟩
  have hi:i=(v.aY.length:Int):=hi
  subst hi
  simp only[pW,Mo.den,aF,aA,aB,aG,aH,ltn,cond_false]
  rw[List.take_length] at hm
  exact T.ret hm
theorem ajS:∀(F:Nat) (v:ah) (l:List Int),aP v.lf1≤F→aP v.lf1≤100000000→l.length+20*aP v.lf1≤10000000000→Tot ((jT F).m2 v l) (fun r=>r.length≤l.length+20*aP v.lf1):=by
 intro F
 induction F with
 |zero=>intro v l h;rw[dh] at h;omega
 |succ F ih=>
  intro v l hF hb hl
  have hp:=dh v
  have h1:=gV v.aU
  have h2:=fZ v.aY
  show Tot (Mo.den (KD (jT F) v l)) _
  have hL:=fun m hm=>aoa (jT F) v hb (fun x hx l' hl'=>ih x l' (by have:=jm hx;omega) (by have:=jm hx;omega) hl') m hm
  have hD:=fun m hm=>aoc (jT F) v hb (fun f hf l' hl'=>ih f.fValue l' (by have:=gq hf;rw[eF] at this;omega) (by have:=gq hf;rw[eF] at this;omega) hl') m hm
  simp only[KD,Gu,Gv,CO,Mo.den,aF,aA,aB,aG,aH]
  refine T.grd (by simp only[List.length_cons,List.length_nil];omega) ?_
  have e0:(l++[IntKind.wrap .u8 v.ay]).length=l.length+1:=by rw[List.length_append];rfl
  refine T.bind (R:=fun r=>r.length≤l.length+20*aP v.lf1) (T.bind (R:=Any) (T.ite (fun _=>T.any) fun _=>T.any) fun _ _=>T.ite (fun _=>T.bind (fH _ _ (by omega)) fun r hr=>T.ret (by omega)) fun _=>T.ite (fun _=>T.grd (by simp only[List.length_append,List.length_cons,List.length_nil];omega) (T.ret (by simp only[List.length_append,List.length_cons,List.length_nil];omega))) fun _=>T.bind (R:=Any) (T.ite (fun _=>T.any) fun _=>T.any) fun _ _=>T.ite (fun _=>T.bind (qN _ _ (by omega)) fun r hr=>T.ret (by omega)) fun _=>T.ite (fun _=>T.grd (by omega) (T.ret (by rw[List.length_append,eu];omega))) fun _=>T.ite (fun _=>T.bind (fH _ _ (by omega)) fun r hr=>T.bind (hL r (by omega)) fun r2 hr2=>T.ret (by omega)) fun _=>T.ite (fun _=>T.bind (fH _ _ (by omega)) fun r hr=>T.bind (hD r (by omega)) fun r2 hr2=>T.ret (by omega)) fun _=>T.ret (by omega)) fun r hr=>T.ret hr
end Go.Proofs.YtflpefkohpjjpaaGreatDoor
set_option linter.unusedSimpArgs false
set_option linter.unusedVariables false
namespace Go.Proofs.YtflpefkohpjjpaaGreatDoor
open Go.RowKit
theorem anp(R:qh)(v:ah)(hb:aP v.lf1≤100000000)(hR:∀x∈v.aU,∀l:List Int,l.length+20*aP x.lf1≤10000000000→Tot (R.m2 x l) (fun r=>r.length≤l.length+20*aP x.lf1))(l:List Int)(hl:l.length+20*bP (v.aU.map ah.lf)≤10000000000):
 Tot (Xv R v 0 l) (fun r=>r.length≤l.length+20*bP (v.aU.map ah.lf)):=by
 have h0:=gV v.aU
 rw[dh] at hb
 refine T.qw v.aU.length (by omega) (fun k s=>s.1=(k:Int)∧s.2.length≤l.length+20*bP ((v.aU.take k).map ah.lf)) _ ⟨rfl,Nat.le_add_right _ _⟩ ?_ ?_
 ·rintro k ⟨i,m⟩ hk ⟨hi,hm⟩
  have hi:i=(k:Int):=hi
  have hm:m.length≤l.length+20*bP ((v.aU.take k).map ah.lf):=hm
  subst hi
  have hx:=List.getElem?_eq_getElem hk
  have e1:=tu ah.lf hx
  have e2:=iK ah.lf v.aU (k+1)
  rw[ah.aW] at e1
  simp only[pR,Mo.den,aF,aA,aB,aG,aH,ltt hx,gid hx,cond_true,Option.bind_some]
  exact T.bind (hR _ (List.getElem_mem hk) m (by omega)) fun r hr=>T.ret ⟨inc k (by omega),by show r.length≤_;omega⟩
 ·rintro⟨i,m⟩ ⟨hi,hm⟩
  have hi:i=(v.aU.length:Int):=hi
  subst hi
  simp only[pR,Mo.den,aF,aA,aB,aG,aH,ltn,cond_false]
  rw[List.take_length] at hm
  exact T.ret hm
theorem anq(R:qh)(v:ah)(hb:aP v.lf1≤100000000)(hR:∀f∈v.aY,∀l:List Int,l.length+20*aP f.fValue.lf1≤10000000000→Tot (R.m2 f.fValue l) (fun r=>r.length≤l.length+20*aP f.fValue.lf1))(l:List Int)(hl:l.length+20*bP (v.aY.map aJ.lf)≤10000000000):
 Tot (Xw R v 0 l) (fun r=>r.length≤l.length+20*bP (v.aY.map aJ.lf)):=by
 have h0:=fZ v.aY
 rw[dh] at hb
 refine T.qw v.aY.length (by omega) (fun k s=>s.1=(k:Int)∧s.2.length≤l.length+20*bP ((v.aY.take k).map aJ.lf)) _ ⟨rfl,Nat.le_add_right _ _⟩ ?_ ?_
 ·rintro k ⟨i,m⟩ hk ⟨hi,hm⟩
  have hi:i=(k:Int):=hi
  have hm:m.length≤l.length+20*bP ((v.aY.take k).map aJ.lf):=hm
  subst hi
  have hx:=List.getElem?_eq_getElem hk
  have e1:=tu aJ.lf hx
  have e2:=iK aJ.lf v.aY (k+1)
  rw[aJ.aW,eF] at e1
  simp only[pU,Mo.den,aF,aA,aB,aG,aH,ltt hx,gid hx,cond_true,Option.bind_some]
  exact T.bind (qN _ m (by omega)) fun r hr=>T.bind (hR _ (List.getElem_mem hk) r (by omega)) fun r2 hr2=>T.ret ⟨inc k (by omega),by show r2.length≤_;omega⟩
 ·rintro⟨i,m⟩ ⟨hi,hm⟩
  have hi:i=(v.aY.length:Int):=hi
  subst hi
  simp only[pU,Mo.den,aF,aA,aB,aG,aH,ltn,cond_false]
  rw[List.take_length] at hm
  exact T.ret hm
theorem anr(v:ah)(hb:aP v.lf1≤100000000):Tot (Q10 v) (fun r=>r.length≤20*aP v.lf1):=by
 have hp:=dh v
 have h1:=gV v.aU
 have h2:=fZ v.aY
 obtain⟨F,hF⟩:∃F,FU=F+1:=⟨FU-1,by have:=iZ;omega⟩
 have hB:=iZ
 show Tot ((jT FU).m1 v) _
 rw[hF]
 show Tot (Mo.den (KC (jT F) v)) _
 have hL:=fun m hm=>anp (jT F) v hb (fun x hx l' hl'=>ajS F x l' (by have:=jm hx;omega) (by have:=jm hx;omega) hl') m hm
 have hD:=fun m hm=>anq (jT F) v hb (fun f hf l' hl'=>ajS F f.fValue l' (by have:=gq hf;rw[eF] at this;omega) (by have:=gq hf;rw[eF] at this;omega) hl') m hm
 simp only[KC,Gs,Gt,CJ,Mo.den,aF,aA,aB,aG,aH]
 refine T.grd (by simp only[List.length_cons,List.length_nil];omega) ?_
 have e0:([IntKind.wrap .u8 v.ay]:List Int).length=1:=rfl
 refine T.bind (R:=fun r=>r.length≤20*aP v.lf1) (T.bind (R:=Any) (T.ite (fun _=>T.any) fun _=>T.any) fun _ _=>T.ite (fun _=>T.bind (fH _ _ (by omega)) fun r hr=>T.ret (by omega)) fun _=>T.ite (fun _=>T.grd (by simp only[List.length_cons,List.length_nil];omega) (T.ret (by simp only[List.length_append,List.length_cons,List.length_nil];omega))) fun _=>T.bind (R:=Any) (T.ite (fun _=>T.any) fun _=>T.any) fun _ _=>T.ite (fun _=>T.bind (qN _ _ (by omega)) fun r hr=>T.ret (by omega)) fun _=>T.ite (fun _=>T.grd (by omega) (T.ret (by rw[List.length_append,eu];omega))) fun _=>T.ite (fun _=>T.bind (fH _ _ (by omega)) fun r hr=>T.bind (hL r (by omega)) fun r2 hr2=>T.ret (by omega)) fun _=>T.ite (fun _=>T.bind (fH _ _ (by omega)) fun r hr=>T.bind (hD r (by omega)) fun r2 hr2=>T.ret (by omega)) fun _=>T.ret (by omega)) fun r hr=>T.ret hr
noncomputable def TB(v:ah):ByteArray:=((ade v).getD (⟨#[]⟩,0)).1
theorem yT(v:ah)(hb:aP v.lf1≤100000000):ade v=some (bif Ej v then(TB v,0) else(⟨#[]⟩,8))∧(TB v).size≤20*aP v.lf1:=by
 have hp:=dh v
 unfold TB
 simp only[ade,U9,Mo.den,aF,aA,aB,aG,aH,wX v hb,Option.bind_some]
 cases Ej v with
 |false=>exact⟨rfl,Nat.zero_le _⟩
 |true=>
  obtain⟨r,h,hr⟩:=anr v hb
  rw[h]
  refine⟨rfl,?_⟩
  show(strOfNums r).size≤_
  rw[strOfNums_size];exact hr
noncomputable def gY(v:ah):List Int:=bif kS v then [0] else bif Ej v then [1]++numsOf (TB v) else []
def jc(v:ah):Bool:=!kS v&&!Ej v
theorem mW(v:ah)(hb:aP v.lf1≤100000000):(gY v).length≤20*aP v.lf1+1:=by
 unfold gY
 have:=(yT v hb).2
 cases kS v<;>cases Ej v<;>simp only[cond_true,cond_false,List.length_append,List.length_cons,List.length_nil,eu]<;>omega
theorem qO(v:ah)(hb:aP v.lf1≤100000000):Wrt (Q95 v) (gY v) (jc v):=⟨fun w hw=>by
 simp only[Q95,ajq,Mo.den,aF,aA,aB,aG,aH,Ip,wX v hb,(yT v hb).1,Option.bind_some]
 unfold gY jc at *
 cases hm:kS v with
 |true=>
  rw[hm] at hw
  have hw:w.bg.length+1≤100000000000:=hw
  simp only[cond_true]
  rw[(lG false).h w hw];rfl
 |false=>
  rw[hm] at hw
  cases hv:Ej v with
  |false=>simp
  |true=>
   rw[hv] at hw
   have hw:w.bg.length+([1]++numsOf (TB v)).length≤100000000000:=hw
   rw[List.length_append,eu] at hw
   have hw:w.bg.length+(1+(TB v).size)≤100000000000:=hw
   simp only[cond_true,cond_false,Bool.not_true,Bool.not_false,bne_self_eq_false]
   rw[(lG true).h w (by show w.bg.length+1≤_;omega)]
   simp only[Option.bind_some]
   rw[if_pos (by rw[List.length_append];show w.bg.length+1+_≤_;omega)]
   simp[iW]⟩
end Go.Proofs.YtflpefkohpjjpaaGreatDoor
set_option linter.unusedSimpArgs false
set_option linter.unusedVariables false
namespace Go.Proofs.YtflpefkohpjjpaaGreatDoor
open Go.RowKit
theorem afm(x y:Bool):(bif x then x else y)=(x||y):=by cases x<;>rfl
theorem bsm{α:Type}(x:Option α):(x.bind fun r=>some r)=x:=by cases x<;>rfl
theorem Bf(s:ByteArray):strOfNums (numsOf s)=s:=by
 apply ByteArray.ext
 apply Array.ext'
 rw[strOfNums_data]
 unfold numsOf
 rw[List.map_map]
 conv=>rhs;rw[←List.map_id s.data.toList]
 refine List.map_congr_left fun x _=>?_
 show UInt8.ofNat ((x.toNat:Int)).toNat=x
 rw[Int.toNat_natCast];exact UInt8.ofNat_toNat
theorem TF{o:Option (List Int)}{r:List Int}(h:o=some r)(i:Int):(o.bind fun x=>some (Sum.inl (i,x):(Int×List Int)⊕List Int))=some (Sum.inl (i,r)):=by rw[h];rfl
theorem Dx(s:ByteArray)(l:List Int)(hs:s.size≤100000000)(hl:l.length≤50000000000):Q91 s l=some (l++(bJ (zz (s.size:Int))++numsOf s)):=by
 have h:=kT (n:=s.size) (by omega)
 have:=kN h
 simp only[Q91,adb,Mo.den,aF,aA,aB,aG,aH,lI _ l h (by omega),Option.bind_some]
 rw[if_pos (by rw[List.length_append];omega),List.append_assoc]
theorem aiO(n:Nat):∀(F:Nat) (v:ah),aP v.lf1<n→n≤F→aP v.lf1≤100000000→jY v.lf1→(jT F).m1 v=some (vb v)∧∀l:List Int,l.length+(vb v).length≤10000000000→(jT F).m2 v l=some (l++vb v):=by
 induction n with
 |zero=>intro F v h;omega
 |succ n ih=>
  intro F v hlt hF hb hf
  obtain⟨F,rfl⟩:∃K,F=K+1:=⟨F-1,by omega⟩
  have hp:=dh v
  have hl:=gV v.aU
  have hd:=fZ v.aY
  have hle:=ano _ v (Nat.lt_succ_self _) hb hf
  obtain⟨f1,f2,f3⟩:=Dw hf
  have iT:=kT (n:=v.fText.size) (by omega)
  have iL:=kT (n:=v.aU.length) (by omega)
  have iD:=kT (n:=v.aY.length) (by omega)
  have bI:=kN f1
  have bL:=kN iL
  have bD:=kN iD
  have s1:∀(k:Nat) (x:ah) (bs:List Int),v.aU[k]?=some x→bs.length+(vb x).length≤10000000000→(jT F).m2 x bs=some (bs++vb x):=fun k x bs hx hbs=>by
   have hm:=jm (oW hx)
   exact(ih F x (by omega) (by omega) (by omega) (f2 x (oW hx))).2 bs hbs
  have s2:∀(k:Nat) (x:aJ) (bs:List Int),v.aY[k]?=some x→bs.length+(vbF x).length≤10000000000→((Q91 x.fName bs).bind fun r=>(jT F).m2 x.fValue r)=some (bs++vbF x):=fun k x bs hx hbs=>by
   have hm:=gq (oW hx)
   rw[eF] at hm
   unfold vbF at hbs ⊢
   rw[List.length_append] at hbs
   rw[Dx x.fName bs (by omega) (by omega),Option.bind_some,(ih F x.fValue (by omega) (by omega) (by omega) (f3 x (oW hx))).2 _ (by rw[List.length_append];omega),List.append_assoc]
  have tail:∀(l:List Int) (p q:Bool) (N1 N2 T1 L1 D1:Option (List Int)),
   (v.ay==3||v.ay==10)=p→(v.ay==4||v.ay==7)=q→
   N1=some (l++[IntKind.wrap .u8 v.ay]++bJ (zz v.dG))→N2=some (l++[IntKind.wrap .u8 v.ay]++[IntKind.wrap .u8 v.dG])→T1=some (l++[IntKind.wrap .u8 v.ay]++(bJ (zz (v.fText.size:Int))++numsOf v.fText))→
   ((v.ay==6)=true→L1=some (l++[IntKind.wrap .u8 v.ay]++(bJ (zz (v.aU.length:Int))++(v.aU.map vb).flatten)))→((v.ay==5)=true→D1=some (l++[IntKind.wrap .u8 v.ay]++(bJ (zz (v.aY.length:Int))++(v.aY.map vbF).flatten)))→
   (bif p then N1 else bif v.ay==9 then N2 else bif q then T1 else bif v.ay==8 then some (l++[IntKind.wrap .u8 v.ay]++numsOf v.fText) else bif v.ay==6 then L1 else bif v.ay==5 then D1 else some (l++[IntKind.wrap .u8 v.ay]))=some (l++vb v):=by
   rintro l p q _ _ _ L1 D1 hp hq rfl rfl rfl h6 h5
   rw[TA,hp,hq]
   cases p with
   |true=>simp
   |false=>
   cases v.ay==9 with
   |true=>simp
   |false=>
   cases q with
   |true=>simp
   |false=>
   cases v.ay==8 with
   |true=>simp
   |false=>
   cases e6:v.ay==6 with
   |true=>rw[h6 e6];simp
   |false=>
   cases e5:v.ay==5 with
   |true=>rw[h5 e5];simp
   |false=>simp
  have v6:(v.ay==6)=true→(vb v).length=1+((bJ (zz (v.aU.length:Int))).length+((v.aU.map vb).flatten).length):=fun h=>by
   rw[TA,eq_of_beq h]
   show(_::(bJ (zz (v.aU.length:Int))++(v.aU.map vb).flatten)).length=_
   rw[List.length_cons,List.length_append];omega
  have v5:(v.ay==5)=true→(vb v).length=1+((bJ (zz (v.aY.length:Int))).length+((v.aY.map vbF).flatten).length):=fun h=>by
   rw[TA,eq_of_beq h]
   show(_::(bJ (zz (v.aY.length:Int))++(v.aY.map vbF).flatten)).length=_
   rw[List.length_cons,List.length_append];omega
  have bT:=kN iT
  refine⟨?_,fun l hll=>?_⟩
  ·show Mo.den (KC (jT F) v)=_
   unfold KC
   unfold CJ
   simp only[Mo.den,aF,aA,aB,aG,aH,Gs,Gt,jA,afm,bsm,Option.bind_some]
   rw[if_pos (by simp only[List.length_cons,List.length_nil];omega),if_pos (by simp only[List.length_cons,List.length_nil];omega),if_pos (by simp only[List.length_cons,List.length_nil];omega)]
   refine tail [] _ _ _ _ _ _ _ rfl rfl ?_ rfl ?_ (fun k6=>?_) (fun k5=>?_)
   ·exact lI _ _ f1 (by simp only[List.length_cons,List.length_nil];omega)
   ·exact Dx _ _ (by omega) (by simp only[List.length_cons,List.length_nil];omega)
   ·rw[lI _ _ iL (by simp only[List.length_cons, List.length_nil];omega), Option.bind_some]
    refine(Bd v.aU (by omega) vb 10000000000 (fun k x bs hx hbs=>?_) (fun bs=>by simp only[pR,Mo.den,aF,aA,aB,aG,aH,ltn,cond_false]) _ ?_).trans ?_
    ·simp only[pR,Mo.den,aF,aA,aB,aG,aH,ltt hx,gid hx,cond_true,Option.bind_some,s1 k x bs hx hbs]
    ·have:=v6 k6;simp only[List.length_append,List.length_cons,List.length_nil];omega
    ·simp only[List.append_assoc,List.nil_append]
   ·rw[lI _ _ iD (by simp only[List.length_cons, List.length_nil];omega), Option.bind_some]
    refine(Bd v.aY (by omega) vbF 10000000000 (fun k x bs hx hbs=>?_) (fun bs=>by simp only[pU,Mo.den,aF,aA,aB,aG,aH,ltn,cond_false]) _ ?_).trans ?_
    ·have:=s2 k x bs hx hbs
     have:=TF this (IntKind.wrap .i64 ((k:Int)+1))
     simp only[pU,Mo.den,aF,aA,aB,aG,aH,ltt hx,gid hx,cond_true,Option.bind_some,Option.bind_assoc] at this ⊢
     exact this
    ·have:=v5 k5;simp only[List.length_append,List.length_cons,List.length_nil];omega
    ·simp only[List.append_assoc,List.nil_append]
  ·show Mo.den (KD (jT F) v l)=_
   unfold KD
   unfold CO
   simp only[Mo.den,aF,aA,aB,aG,aH,Gu,Gv,jA,afm,bsm,Option.bind_some]
   rw[if_pos (by simp only[List.length_cons,List.length_nil];omega),if_pos (by simp only[List.length_append,List.length_cons,List.length_nil];omega),if_pos (by simp only[List.length_append,List.length_cons,List.length_nil];omega)]
   refine tail l _ _ _ _ _ _ _ rfl rfl ?_ rfl ?_ (fun k6=>?_) (fun k5=>?_)
   ·exact lI _ _ f1 (by simp only[List.length_append,List.length_cons,List.length_nil];omega)
   ·exact Dx _ _ (by omega) (by simp only[List.length_append,List.length_cons,List.length_nil];omega)
   ·rw[lI _ _ iL (by simp only[List.length_append, List.length_cons, List.length_nil];omega), Option.bind_some]
    refine(Bd v.aU (by omega) vb 10000000000 (fun k x bs hx hbs=>?_) (fun bs=>by simp only[pV,Mo.den,aF,aA,aB,aG,aH,ltn,cond_false]) _ ?_).trans ?_
    ·simp only[pV,Mo.den,aF,aA,aB,aG,aH,ltt hx,gid hx,cond_true,Option.bind_some,s1 k x bs hx hbs]
    ·have:=v6 k6;simp only[List.length_append,List.length_cons,List.length_nil];omega
    ·simp only[List.append_assoc,List.nil_append]
   ·rw[lI _ _ iD (by simp only[List.length_append, List.length_cons, List.length_nil];omega), Option.bind_some]
    refine(Bd v.aY (by omega) vbF 10000000000 (fun k x bs hx hbs=>?_) (fun bs=>by simp only[pW,Mo.den,aF,aA,aB,aG,aH,ltn,cond_false]) _ ?_).trans ?_
    ·have:=s2 k x bs hx hbs
     have:=TF this (IntKind.wrap .i64 ((k:Int)+1))
     simp only[pW,Mo.den,aF,aA,aB,aG,aH,ltt hx,gid hx,cond_true,Option.bind_some,Option.bind_assoc] at this ⊢
     exact this
    ·have:=v5 k5;simp only[List.length_append,List.length_cons,List.length_nil];omega
    ·simp only[List.append_assoc,List.nil_append]
end Go.Proofs.YtflpefkohpjjpaaGreatDoor
set_option linter.unusedSimpArgs false
set_option linter.unusedVariables false
namespace Go.Proofs.YtflpefkohpjjpaaGreatDoor
open Go.RowKit
theorem aiP{α:Type}(e:α→List Int)(lf:α→List Lf)(l:List α)(h:∀x∈l,(e x).length≤40*aP (lf x)):((l.map e).flatten).length≤40*bP (l.map lf):=by
 induction l with
 |nil=>exact Nat.zero_le _
 |cons x r ih=>
  simp only[List.map_cons,List.flatten_cons,List.length_append,bP]
  have:=h x (List.mem_cons_self ..)
  have:=ih fun y hy=>h y (List.mem_cons_of_mem _ hy)
  omega
theorem nD{α:Type}(e:α→List Int)(lf:α→List Lf)(l:List α)(h:∀x∈l,(e x).length≤40*aP (lf x)):(gW e l).length≤11+40*bP (l.map lf):=by
 unfold gW
 rw[List.length_append]
 have:=fU (l.length:Int)
 have:=aiP e lf l h
 omega
theorem lJ(s:ByteArray):(fD s).length≤11+s.size:=by
 unfold fD
 rw[List.length_append,eu]
 have:=fU (s.size:Int)
 omega
theorem kJ(b:Bool):(iW b).length≤1:=by cases b<;>exact Nat.le_refl _
theorem qx(l:List ByteArray):(gW fD l).length≤11+40*bP (l.map lfS):=nD fD lfS l fun s _=>by have:=lJ s;rw[VB];omega
theorem VN(l:List Int):(gW dX l).length≤11+40*bP (l.map lfI):=nD dX lfI l fun n _=>by have:=fU n;rw[ae4];omega
theorem Hr(l:List ah)(h:bP (l.map ah.lf)≤100000000):(gW gY l).length≤11+40*bP (l.map ah.lf):=nD gY ah.lf l fun v hv=>by
 have h1:=jm hv
 have h2:=dh v
 have:=mW v (by omega)
 rw[ah.aW];omega
theorem any_false{α:Type}(l:List α):l.any (fun _=>false)=false:=by induction l with|nil=>rfl|cons x r ih=>rw[List.any_cons,ih];rfl
theorem vN(l:List ByteArray)(h:bP (l.map lfS)≤100000000):Wrt (Q61 l) (gW fD l) false:=by
 have:=gJ l
 rw[←any_false l]
 refine Wrt.of (fun w=>?_) (lH (L:=fun v=>(Gw l v).den) ale fD (fun _=>false) l (by omega) (fun v bd bs=>?_) fun s _=>Wrt.of (fun w=>by simp only[ale,adf,Mo.den,aF,aA,aB,aG,aH]) (Wrt.last (oK s)))
 ·unfold Q61 ajr;simp only[Mo.den,aF,aA,aB,aG,aH]
 ·simp only[Gw,Mo.den,aF,aA,aB,aG,aH]
theorem afn(l:List Int)(h:bP (l.map lfI)≤100000000):Wrt (alk l) (gW dX l) false:=by
 have:=vG l
 rw[←any_false l]
 refine Wrt.of (fun w=>?_) (lH (L:=fun v=>(CU l v).den) alj dX (fun _=>false) l (by omega) (fun v bd bs=>?_) fun s _=>Wrt.of (fun w=>by simp only[alj,adu,Mo.den,aF,aA,aB,aG,aH]) (Wrt.last (gX s)))
 ·unfold alk adv;simp only[Mo.den,aF,aA,aB,aG,aH]
 ·simp only[CU,Mo.den,aF,aA,aB,aG,aH]
theorem TG(l:List ah)(h:bP (l.map ah.lf)≤100000000):Wrt (Q70 l) (gW gY l) (l.any jc):=by
 have:=gV l
 refine Wrt.of (fun w=>?_) (lH (L:=fun v=>(Gz l v).den) Q95 gY jc l (by omega) (fun v bd bs=>?_) fun s hs=>qO s (by have:=jm hs;omega))
 ·unfold Q70 ajt;simp only[Mo.den,aF,aA,aB,aG,aH]
 ·simp only[Gz,Mo.den,aF,aA,aB,aG,aH]
noncomputable def lK(x:bf):List Int:=gW fD x.cZ++(iW x.rO)
def Bg(x:bf):Bool:=false||(false)
theorem TJ(x:bf)(h:aP x.lf1≤100000000):(lK x).length≤40*aP x.lf1:=by
 have hb:=lu x
 have:=qx x.cZ
 have:=kJ x.rO
 unfold lK
 simp only[List.length_append]
 omega
theorem aaz(x:bf)(h:aP x.lf1≤100000000):Wrt (ahr x) (lK x) (Bg x):=by
 have hb:=lu x
 exact Wrt.of (fun w=>by unfold ahr adg;simp only[Mo.den,aF,aA,aB,aG,aH]) (Wrt.bind (vN x.cZ (by omega)) (Wrt.last (lG x.rO)))
theorem O7(l:List bf)(h:bP (l.map bf.lf)≤100000000):(gW lK l).length≤11+40*bP (l.map bf.lf):=nD lK bf.lf l fun v hv=>by
 have h1:=dA bf.lf hv
 rw[bf.aW] at h1 ⊢
 exact TJ v (by omega)
theorem VO(l:List bf)(h:bP (l.map bf.lf)≤100000000):Wrt (Q76 l) (gW lK l) (l.any Bg):=by
 have:=mJ l
 refine Wrt.of (fun w=>?_) (lH (L:=fun v=>(Gy l v).den) ahr lK Bg l (by omega) (fun v bd bs=>?_) fun s hs=>aaz s (by have h1:=dA bf.lf hs;rw[bf.aW] at h1;omega))
 ·unfold Q76 ajs;simp only[Mo.den,aF,aA,aB,aG,aH]
 ·simp only[Gy,Mo.den,aF,aA,aB,aG,aH]
noncomputable def kM(x:bM):List Int:=dX x.fX++(dX x.fY)
def vO(x:bM):Bool:=false||(false)
theorem TK(x:bM)(h:aP x.lf1≤100000000):(kM x).length≤40*aP x.lf1:=by
 have hb:=qo x
 have:=fU x.fX
 have:=fU x.fY
 unfold kM
 simp only[List.length_append]
 omega
theorem aaA(x:bM)(h:aP x.lf1≤100000000):Wrt (aht x) (kM x) (vO x):=by
 have hb:=qo x
 exact Wrt.of (fun w=>by unfold aht adi;simp only[Mo.den,aF,aA,aB,aG,aH]) (Wrt.bind (gX x.fX) (Wrt.last (gX x.fY)))
theorem O8(l:List bM)(h:bP (l.map bM.lf)≤100000000):(gW kM l).length≤11+40*bP (l.map bM.lf):=nD kM bM.lf l fun v hv=>by
 have h1:=dA bM.lf hv
 rw[bM.aW] at h1 ⊢
 exact TK v (by omega)
theorem VP(l:List bM)(h:bP (l.map bM.lf)≤100000000):Wrt (Q77 l) (gW kM l) (l.any vO):=by
 have:=sZ l
 refine Wrt.of (fun w=>?_) (lH (L:=fun v=>(GH l v).den) aht kM vO l (by omega) (fun v bd bs=>?_) fun s hs=>aaA s (by have h1:=dA bM.lf hs;rw[bM.aW] at h1;omega))
 ·unfold Q77 aju;simp only[Mo.den,aF,aA,aB,aG,aH]
 ·simp only[GH,Mo.den,aF,aA,aB,aG,aH]
mutual
noncomputable def jJ:aS→List Int
 |.mk a0 a1 a2 a3 a4 a5 a6=>dX a0++(gW fD a1++(fD a2++(gW fD a3++(gY a4++(dX a5++((dX (a6.length:Int)++vP a6)))))))
noncomputable def vP:List aS→List Int
 |[]=>[]
 |x::r=>jJ x++vP r
end
mutual
def lT:aS→Bool
 |.mk a0 a1 a2 a3 a4 a5 a6=>false||(false||(false||(false||(jc a4||(false||(vS a6))))))
def vS:List aS→Bool
 |[]=>false
 |x::r=>lT x||vS r
end
theorem DW:∀l:List aS,vP l=(l.map jJ).flatten
 |[]=>by rw[vP];rfl
 |x::r=>by rw[vP,DW r];rfl
theorem DX:∀l:List aS,vS l=l.any lT
 |[]=>by rw[vS];rfl
 |x::r=>by rw[vS,DX r];rfl
theorem yU(x:aS):jJ x=dX x.fOp++(gW fD x.cZ++(fD x.fName++(gW fD x.fK++(gY x.fArg++(dX x.fN++(gW jJ x.bV)))))):=by
 cases x
 rw[jJ]
 simp only[DW]
 rfl
theorem Ht(x:aS):lT x=(false||(false||(false||(false||(jc x.fArg||(false||(x.bV.any lT))))))):=by
 cases x
 rw[lT]
 simp only[DX]
 rfl
theorem TL(n:Nat):(∀x:aS,aP x.lf1<n→aP x.lf1≤100000000→(jJ x).length≤40*aP x.lf1):=by
 induction n with
 |zero=>intro x hn;omega
 |succ n ih=>
  intro x hn h
  have hb:=jU x
  have:=fU x.fOp
  have:=qx x.cZ
  have:=lJ x.fName
  have:=qx x.fK
  have:=mW x.fArg (by omega)
  have:=fU x.fN
  have:=nD jJ aS.lf x.bV fun v hv=>(by have h1:=dA aS.lf hv;rw[aS.aW] at h1 ⊢;exact ih v (by omega) (by omega))
  rw[yU]
  simp only[List.length_append]
  omega
theorem VQ(x:aS)(h:aP x.lf1≤100000000):(jJ x).length≤40*aP x.lf1:=(TL (aP x.lf1+1)) x (Nat.lt_succ_self _) h
theorem Iu(n:Nat):∀F,4*n≤F→(∀x:aS,aP x.lf1<n→aP x.lf1≤100000000→Wrt ((oN F).m1 x) (jJ x) (lT x)):=by
 induction n with
 |zero=>intro F _;intro x hn;omega
 |succ n ih=>
  intro F hF
  obtain⟨G,rfl⟩:∃G,F=G+2:=⟨F-2,by omega⟩
  have ihExpr:=(ih G (by omega))
  have ih1Expr:=(ih (G+1) (by omega))
  have hlExpr:∀l:List aS,bP (l.map aS.lf)<n→bP (l.map aS.lf)≤100000000→Wrt ((oN (G+1)).m2 l) (gW jJ l) (l.any lT):=fun l hn hb=>by
   have:=pX l
   refine Wrt.of (fun w=>?_) (lH (L:=fun v=>(CP (oN G) l v).den) (oN G).m1 jJ lT l (by omega) (fun v bd bs=>?_) fun s hs=>ihExpr s (by have h1:=dA aS.lf hs;rw[aS.aW] at h1;omega) (by have h1:=dA aS.lf hs;rw[aS.aW] at h1;omega))
   ·show Mo.den (NR (oN G) l w)=_
    unfold NR;simp only[Mo.den,aF,aA,aB,aG,aH]
   ·simp only[CP,Mo.den,aF,aA,aB,aG,aH]
  intro x hn h
  have hb:=jU x
  rw[yU,Ht]
  exact Wrt.of (fun w=>by show Mo.den (NQ (oN (G+1)) x w)=_;unfold NQ;simp only[Mo.den,aF,aA,aB,aG,aH]) (Wrt.bind (gX x.fOp) (Wrt.bind (vN x.cZ (by omega)) (Wrt.bind (oK x.fName) (Wrt.bind (vN x.fK (by omega)) (Wrt.bind (qO x.fArg (by omega)) (Wrt.bind (gX x.fN) (Wrt.last (hlExpr x.bV (by omega) (by omega)))))))))
theorem afo(x:aS)(h:aP x.lf1≤100000000):Wrt (amW x) (jJ x) (lT x):=((Iu (aP x.lf1+1)) FU (by have:=iZ;omega)) x (Nat.lt_succ_self _) h
mutual
noncomputable def jP:aO→List Int
 |.mk a0 a1 a2 a3 a4 a5 a6 a7 a8=>dX a0++(gW fD a1++(gY a2++(gW gY a3++(dX a4++(dX a5++(dX a6.ay++(gW kM a6.dD++(dX a6.fR++(jJ a7++((dX (a8.length:Int)++vT a8)))))))))))
noncomputable def vT:List aO→List Int
 |[]=>[]
 |x::r=>jP x++vT r
end
mutual
def l9:aO→Bool
 |.mk a0 a1 a2 a3 a4 a5 a6 a7 a8=>false||(false||(jc a2||(a3.any jc||(false||(false||(false||(a6.dD.any vO||(false||(lT a7||(vU a8))))))))))
def vU:List aO→Bool
 |[]=>false
 |x::r=>l9 x||vU r
end
theorem DY:∀l:List aO,vT l=(l.map jP).flatten
 |[]=>by rw[vT];rfl
 |x::r=>by rw[vT,DY r];rfl
theorem DZ:∀l:List aO,vU l=l.any l9
 |[]=>by rw[vU];rfl
 |x::r=>by rw[vU,DZ r];rfl
theorem yV(x:aO):jP x=dX x.fOp++(gW fD x.cZ++(gY x.fArg++(gW gY x.fArgs++(dX x.fN++(dX x.fM++(dX x.dH.ay++(gW kM x.dH.dD++(dX x.dH.fR++(jJ x.fExpr++(gW jP x.bV)))))))))):=by
 cases x
 rw[jP]
 simp only[DY]
 rfl
theorem Hu(x:aO):l9 x=(false||(false||(jc x.fArg||(x.fArgs.any jc||(false||(false||(false||(x.dH.dD.any vO||(false||(lT x.fExpr||(x.bV.any l9))))))))))):=by
 cases x
 rw[l9]
 simp only[DZ]
 rfl
theorem TM(n:Nat):(∀x:aO,aP x.lf1<n→aP x.lf1≤100000000→(jP x).length≤40*aP x.lf1):=by
 induction n with
 |zero=>intro x hn;omega
 |succ n ih=>
  intro x hn h
  have hb:=gZ x
  have hs:=nV x.dH
  have:=fU x.fOp
  have:=qx x.cZ
  have:=mW x.fArg (by omega)
  have:=Hr x.fArgs (by omega)
  have:=fU x.fN
  have:=fU x.fM
  have:=fU x.dH.ay
  have:=O8 x.dH.dD (by omega)
  have:=fU x.dH.fR
  have:=VQ x.fExpr (by omega)
  have:=nD jP aO.lf x.bV fun v hv=>(by have h1:=dA aO.lf hv;rw[aO.aW] at h1 ⊢;exact ih v (by omega) (by omega))
  rw[yV]
  simp only[List.length_append]
  omega
theorem VT(x:aO)(h:aP x.lf1≤100000000):(jP x).length≤40*aP x.lf1:=(TM (aP x.lf1+1)) x (Nat.lt_succ_self _) h
theorem Iw(n:Nat):∀F,4*n≤F→(∀x:aO,aP x.lf1<n→aP x.lf1≤100000000→Wrt ((oO F).m1 x) (jP x) (l9 x)):=by
 induction n with
 |zero=>intro F _;intro x hn;omega
 |succ n ih=>
  intro F hF
  obtain⟨G,rfl⟩:∃G,F=G+2:=⟨F-2,by omega⟩
  have ihPred:=(ih G (by omega))
  have ih1Pred:=(ih (G+1) (by omega))
  have hlPred:∀l:List aO,bP (l.map aO.lf)<n→bP (l.map aO.lf)≤100000000→Wrt ((oO (G+1)).m2 l) (gW jP l) (l.any l9):=fun l hn hb=>by
   have:=mQ l
   refine Wrt.of (fun w=>?_) (lH (L:=fun v=>(CQ (oO G) l v).den) (oO G).m1 jP l9 l (by omega) (fun v bd bs=>?_) fun s hs=>ihPred s (by have h1:=dA aO.lf hs;rw[aO.aW] at h1;omega) (by have h1:=dA aO.lf hs;rw[aO.aW] at h1;omega))
   ·show Mo.den (NU (oO G) l w)=_
    unfold NU;simp only[Mo.den,aF,aA,aB,aG,aH]
   ·simp only[CQ,Mo.den,aF,aA,aB,aG,aH]
  intro x hn h
  have hb:=gZ x
  have hs:=nV x.dH
  rw[yV,Hu]
  exact Wrt.of (fun w=>by show Mo.den (NT (oO (G+1)) x w)=_;unfold NT;simp only[Mo.den,aF,aA,aB,aG,aH]) (Wrt.bind (gX x.fOp) (Wrt.bind (vN x.cZ (by omega)) (Wrt.bind (qO x.fArg (by omega)) (Wrt.bind (TG x.fArgs (by omega)) (Wrt.bind (gX x.fN) (Wrt.bind (gX x.fM) (Wrt.bind (gX x.dH.ay) (Wrt.bind (VP x.dH.dD (by omega)) (Wrt.bind (gX x.dH.fR) (Wrt.bind (afo x.fExpr (by omega)) (Wrt.last (hlPred x.bV (by omega) (by omega)))))))))))))
theorem afp(x:aO)(h:aP x.lf1≤100000000):Wrt (amX x) (jP x) (l9 x):=((Iw (aP x.lf1+1)) FU (by have:=iZ;omega)) x (Nat.lt_succ_self _) h
noncomputable def jV(x:aQ):List Int:=fD x.fName++(dX x.ay++(gW lK x.fQ++(iW x.dY++(iW x.jl++(iW x.gB++(jP x.bF))))))
def nG(x:aQ):Bool:=false||(false||(x.fQ.any Bg||(false||(false||(false||(l9 x.bF))))))
theorem D5(x:aQ)(h:aP x.lf1≤100000000):(jV x).length≤40*aP x.lf1:=by
 have hb:=jr x
 have:=lJ x.fName
 have:=fU x.ay
 have:=O7 x.fQ (by omega)
 have:=kJ x.dY
 have:=kJ x.jl
 have:=kJ x.gB
 have:=VT x.bF (by omega)
 unfold jV
 simp only[List.length_append]
 omega
theorem LJ(x:aQ)(h:aP x.lf1≤100000000):Wrt (ahx x) (jV x) (nG x):=by
 have hb:=jr x
 exact Wrt.of (fun w=>by unfold ahx adp;simp only[Mo.den,aF,aA,aB,aG,aH]) (Wrt.bind (oK x.fName) (Wrt.bind (gX x.ay) (Wrt.bind (VO x.fQ (by omega)) (Wrt.bind (lG x.dY) (Wrt.bind (lG x.jl) (Wrt.bind (lG x.gB) (Wrt.last (afp x.bF (by omega)))))))))
theorem O9(l:List aQ)(h:bP (l.map aQ.lf)≤100000000):(gW jV l).length≤11+40*bP (l.map aQ.lf):=nD jV aQ.lf l fun v hv=>by
 have h1:=dA aQ.lf hv
 rw[aQ.aW] at h1 ⊢
 exact D5 v (by omega)
theorem TN(l:List aQ)(h:bP (l.map aQ.lf)≤100000000):Wrt (Q78 l) (gW jV l) (l.any nG):=by
 have:=jZ l
 refine Wrt.of (fun w=>?_) (lH (L:=fun v=>(GK l v).den) ahx jV nG l (by omega) (fun v bd bs=>?_) fun s hs=>LJ s (by have h1:=dA aQ.lf hs;rw[aQ.aW] at h1;omega))
 ·unfold Q78 ajv;simp only[Mo.den,aF,aA,aB,aG,aH]
 ·simp only[GK,Mo.den,aF,aA,aB,aG,aH]
mutual
noncomputable def nH:bH→List Int
 |.mk a0 a1=>fD a0++(gu a1)
noncomputable def vV:List bH→List Int
 |[]=>[]
 |x::r=>nH x++vV r
noncomputable def gu:aI→List Int
 |.mk a0 a1 a2 a3 a4 a5 a6 a7 a8 a9 a10 a11 a12=>dX a0++(iW a1++(gY a2++(iW a3++(gY a4++(gW gY a5++(dX a6++(dX a7++(gW fD a8++((dX (a9.length:Int)++vV a9)++(iW a10++((dX (a11.length:Int)++qy a11)++(iW a12))))))))))))
noncomputable def qy:List aI→List Int
 |[]=>[]
 |x::r=>gu x++qy r
end
mutual
def pG:bH→Bool
 |.mk a0 a1=>false||(iY a1)
def vW:List bH→Bool
 |[]=>false
 |x::r=>pG x||vW r
def iY:aI→Bool
 |.mk a0 a1 a2 a3 a4 a5 a6 a7 a8 a9 a10 a11 a12=>false||(false||(jc a2||(false||(jc a4||(a5.any jc||(false||(false||(false||(vW a9||(false||(qA a11||(false))))))))))))
def qA:List aI→Bool
 |[]=>false
 |x::r=>iY x||qA r
end
theorem D6:∀l:List bH,vV l=(l.map nH).flatten
 |[]=>by rw[vV];rfl
 |x::r=>by rw[vV,D6 r];rfl
theorem D7:∀l:List bH,vW l=l.any pG
 |[]=>by rw[vW];rfl
 |x::r=>by rw[vW,D7 r];rfl
theorem xX:∀l:List aI,qy l=(l.map gu).flatten
 |[]=>by rw[qy];rfl
 |x::r=>by rw[qy,xX r];rfl
theorem xY:∀l:List aI,qA l=l.any iY
 |[]=>by rw[qA];rfl
 |x::r=>by rw[qA,xY r];rfl
theorem yX(x:bH):nH x=fD x.fName++(gu x.aZ):=by
 cases x
 rw[nH]
 rfl
theorem Hw(x:bH):pG x=(false||(iY x.aZ)):=by
 cases x
 rw[pG]
 rfl
theorem tK(x:aI):gu x=dX x.jF++(iW x.iQ++(gY x.kE++(iW x.iR++(gY x.kF++(gW gY x.jL++(dX x.iU++(dX x.iV++(gW fD x.dK++(gW nH x.dN++(iW x.jD++(gW gu x.dP++(iW x.dY)))))))))))):=by
 cases x
 rw[gu]
 simp only[D6,xX]
 rfl
theorem Bh(x:aI):iY x=(false||(false||(jc x.kE||(false||(jc x.kF||(x.jL.any jc||(false||(false||(false||(x.dN.any pG||(false||(x.dP.any iY||(false))))))))))))):=by
 cases x
 rw[iY]
 simp only[D7,xY]
 rfl
theorem Iy(n:Nat):(∀x:bH,aP x.lf1<n→aP x.lf1≤100000000→(nH x).length≤40*aP x.lf1)∧(∀x:aI,aP x.lf1<n→aP x.lf1≤100000000→(gu x).length≤40*aP x.lf1):=by
 induction n with
 |zero=>exact⟨fun x hn=>by omega,fun x hn=>by omega⟩
 |succ n ih=>
  refine⟨?_,?_⟩
  ·intro x hn h
   have hb:=mP x
   have:=lJ x.fName
   have:=ih.2 x.aZ (by omega) (by omega)
   rw[yX]
   simp only[List.length_append]
   omega
  ·intro x hn h
   have hb:=iq x
   have:=fU x.jF
   have:=kJ x.iQ
   have:=mW x.kE (by omega)
   have:=kJ x.iR
   have:=mW x.kF (by omega)
   have:=Hr x.jL (by omega)
   have:=fU x.iU
   have:=fU x.iV
   have:=qx x.dK
   have:=nD nH bH.lf x.dN fun v hv=>(by have h1:=dA bH.lf hv;rw[bH.aW] at h1 ⊢;exact ih.1 v (by omega) (by omega))
   have:=kJ x.jD
   have:=nD gu aI.lf x.dP fun v hv=>(by have h1:=dA aI.lf hv;rw[aI.aW] at h1 ⊢;exact ih.2 v (by omega) (by omega))
   have:=kJ x.dY
   rw[tK]
   simp only[List.length_append]
   omega
theorem Pe(x:aI)(h:aP x.lf1≤100000000):(gu x).length≤40*aP x.lf1:=(Iy (aP x.lf1+1)).2 x (Nat.lt_succ_self _) h
theorem Eu(n:Nat):∀F,4*n≤F→(∀x:bH,aP x.lf1<n→aP x.lf1≤100000000→Wrt ((jG F).m4 x) (nH x) (pG x))∧(∀x:aI,aP x.lf1<n→aP x.lf1≤100000000→Wrt ((jG F).m1 x) (gu x) (iY x)):=by
 induction n with
 |zero=>intro F _;exact⟨fun x hn=>by omega,fun x hn=>by omega⟩
 |succ n ih=>
  intro F hF
  obtain⟨G,rfl⟩:∃G,F=G+2:=⟨F-2,by omega⟩
  have ihProp:=(ih G (by omega)).1
  have ih1Prop:=(ih (G+1) (by omega)).1
  have ihSchema:=(ih G (by omega)).2
  have ih1Schema:=(ih (G+1) (by omega)).2
  have hlProp:∀l:List bH,bP (l.map bH.lf)<n→bP (l.map bH.lf)≤100000000→Wrt ((jG (G+1)).m2 l) (gW nH l) (l.any pG):=fun l hn hb=>by
   have:=pY l
   refine Wrt.of (fun w=>?_) (lH (L:=fun v=>(CS (jG G) l v).den) (jG G).m4 nH pG l (by omega) (fun v bd bs=>?_) fun s hs=>ihProp s (by have h1:=dA bH.lf hs;rw[bH.aW] at h1;omega) (by have h1:=dA bH.lf hs;rw[bH.aW] at h1;omega))
   ·show Mo.den (NY (jG G) l w)=_
    unfold NY;simp only[Mo.den,aF,aA,aB,aG,aH]
   ·simp only[CS,Mo.den,aF,aA,aB,aG,aH]
  have hlSchema:∀l:List aI,bP (l.map aI.lf)<n→bP (l.map aI.lf)≤100000000→Wrt ((jG (G+1)).m3 l) (gW gu l) (l.any iY):=fun l hn hb=>by
   have:=mV l
   refine Wrt.of (fun w=>?_) (lH (L:=fun v=>(GN (jG G) l v).den) (jG G).m1 gu iY l (by omega) (fun v bd bs=>?_) fun s hs=>ihSchema s (by have h1:=dA aI.lf hs;rw[aI.aW] at h1;omega) (by have h1:=dA aI.lf hs;rw[aI.aW] at h1;omega))
   ·show Mo.den (XF (jG G) l w)=_
    unfold XF;simp only[Mo.den,aF,aA,aB,aG,aH]
   ·simp only[GN,Mo.den,aF,aA,aB,aG,aH]
  refine⟨?_,?_⟩
  ·intro x hn h
   have hb:=mP x
   rw[yX,Hw]
   exact Wrt.of (fun w=>by show Mo.den (NZ (jG (G+1)) x w)=_;unfold NZ;simp only[Mo.den,aF,aA,aB,aG,aH]) (Wrt.bind (oK x.fName) (Wrt.last (ih1Schema x.aZ (by omega) (by omega))))
  ·intro x hn h
   have hb:=iq x
   rw[tK,Bh]
   exact Wrt.of (fun w=>by show Mo.den (NW (jG (G+1)) x w)=_;unfold NW;simp only[Mo.den,aF,aA,aB,aG,aH]) (Wrt.bind (gX x.jF) (Wrt.bind (lG x.iQ) (Wrt.bind (qO x.kE (by omega)) (Wrt.bind (lG x.iR) (Wrt.bind (qO x.kF (by omega)) (Wrt.bind (TG x.jL (by omega)) (Wrt.bind (gX x.iU) (Wrt.bind (gX x.iV) (Wrt.bind (vN x.dK (by omega)) (Wrt.bind (hlProp x.dN (by omega) (by omega)) (Wrt.bind (lG x.jD) (Wrt.bind (hlSchema x.dP (by omega) (by omega)) (Wrt.last (lG x.dY))))))))))))))
theorem VU(x:aI)(h:aP x.lf1≤100000000):Wrt (amY x) (gu x) (iY x):=((Eu (aP x.lf1+1)) FU (by have:=iZ;omega)).2 x (Nat.lt_succ_self _) h
noncomputable def qB(x:bY):List Int:=fD x.fName++(gW jV x.bZ++(gu x.aZ++(dX x.kG++(dX x.iJ))))
def vX(x:bY):Bool:=false||(x.bZ.any nG||(iY x.aZ||(false||(false))))
theorem TP(x:bY)(h:aP x.lf1≤100000000):(qB x).length≤40*aP x.lf1:=by
 have hb:=mF x
 have:=lJ x.fName
 have:=O9 x.bZ (by omega)
 have:=Pe x.aZ (by omega)
 have:=fU x.kG
 have:=fU x.iJ
 unfold qB
 simp only[List.length_append]
 omega
theorem aaB(x:bY)(h:aP x.lf1≤100000000):Wrt (ali x) (qB x) (vX x):=by
 have hb:=mF x
 exact Wrt.of (fun w=>by unfold ali adt;simp only[Mo.den,aF,aA,aB,aG,aH]) (Wrt.bind (oK x.fName) (Wrt.bind (TN x.bZ (by omega)) (Wrt.bind (VU x.aZ (by omega)) (Wrt.bind (gX x.kG) (Wrt.last (gX x.iJ))))))
mutual
noncomputable def iO:au→List Int
 |.mk a0 a1 a2 a3 a4 a5 a6 a7 a8 a9 a10 a11=>dX a0++(fD a1++(gY a2++(gY a3++(gY a4++(qB a5++(jV a6++(fD a7++(dX a8++((dX (a9.length:Int)++sF a9)++(gW dX a10++(iW a11)))))))))))
noncomputable def sF:List au→List Int
 |[]=>[]
 |x::r=>iO x++sF r
end
mutual
def iP:au→Bool
 |.mk a0 a1 a2 a3 a4 a5 a6 a7 a8 a9 a10 a11=>false||(false||(jc a2||(jc a3||(jc a4||(vX a5||(nG a6||(false||(false||(sG a9||(false||(false)))))))))))
def sG:List au→Bool
 |[]=>false
 |x::r=>iP x||sG r
end
theorem Bj:∀l:List au,sF l=(l.map iO).flatten
 |[]=>by rw[sF];rfl
 |x::r=>by rw[sF,Bj r];rfl
theorem Bl:∀l:List au,sG l=l.any iP
 |[]=>by rw[sG];rfl
 |x::r=>by rw[sG,Bl r];rfl
theorem vY(x:au):iO x=dX x.ay++(fD x.fE++(gY x.ig++(gY x.aY++(gY x.dF++(qB x.dB++(jV x.aX++(fD x.kX++(dX x.dO++(gW iO x.bQ++(gW dX x.dI++(iW x.fB))))))))))):=by
 cases x
 rw[iO]
 simp only[Bj]
 rfl
theorem D8(x:au):iP x=(false||(false||(jc x.ig||(jc x.aY||(jc x.dF||(vX x.dB||(nG x.aX||(false||(false||(x.bQ.any iP||(false||(false)))))))))))):=by
 cases x
 rw[iP]
 simp only[Bl]
 rfl
theorem Pg(n:Nat):(∀x:au,aP x.lf1<n→aP x.lf1≤100000000→(iO x).length≤40*aP x.lf1):=by
 induction n with
 |zero=>intro x hn;omega
 |succ n ih=>
  intro x hn h
  have hb:=jv x
  have:=fU x.ay
  have:=lJ x.fE
  have:=mW x.ig (by omega)
  have:=mW x.aY (by omega)
  have:=mW x.dF (by omega)
  have:=TP x.dB (by omega)
  have:=D5 x.aX (by omega)
  have:=lJ x.kX
  have:=fU x.dO
  have:=nD iO au.lf x.bQ fun v hv=>(by have h1:=dA au.lf hv;rw[au.aW] at h1 ⊢;exact ih v (by omega) (by omega))
  have:=VN x.dI
  have:=kJ x.fB
  rw[vY]
  simp only[List.length_append]
  omega
theorem TQ(x:au)(h:aP x.lf1≤100000000):(iO x).length≤40*aP x.lf1:=(Pg (aP x.lf1+1)) x (Nat.lt_succ_self _) h
theorem Hy(n:Nat):∀F,4*n≤F→(∀x:au,aP x.lf1<n→aP x.lf1≤100000000→Wrt ((oP F).m1 x) (iO x) (iP x)):=by
 induction n with
 |zero=>intro F _;intro x hn;omega
 |succ n ih=>
  intro F hF
  obtain⟨G,rfl⟩:∃G,F=G+2:=⟨F-2,by omega⟩
  have ihWrite:=(ih G (by omega))
  have ih1Write:=(ih (G+1) (by omega))
  have hlWrite:∀l:List au,bP (l.map au.lf)<n→bP (l.map au.lf)≤100000000→Wrt ((oP (G+1)).m2 l) (gW iO l) (l.any iP):=fun l hn hb=>by
   have:=nX l
   refine Wrt.of (fun w=>?_) (lH (L:=fun v=>(GU (oP G) l v).den) (oP G).m1 iO iP l (by omega) (fun v bd bs=>?_) fun s hs=>ihWrite s (by have h1:=dA au.lf hs;rw[au.aW] at h1;omega) (by have h1:=dA au.lf hs;rw[au.aW] at h1;omega))
   ·show Mo.den (XH (oP G) l w)=_
    unfold XH;simp only[Mo.den,aF,aA,aB,aG,aH]
   ·simp only[GU,Mo.den,aF,aA,aB,aG,aH]
  intro x hn h
  have hb:=jv x
  rw[vY,D8]
  exact Wrt.of (fun w=>by show Mo.den (N8 (oP (G+1)) x w)=_;unfold N8;simp only[Mo.den,aF,aA,aB,aG,aH]) (Wrt.bind (gX x.ay) (Wrt.bind (oK x.fE) (Wrt.bind (qO x.ig (by omega)) (Wrt.bind (qO x.aY (by omega)) (Wrt.bind (qO x.dF (by omega)) (Wrt.bind (aaB x.dB (by omega)) (Wrt.bind (LJ x.aX (by omega)) (Wrt.bind (oK x.kX) (Wrt.bind (gX x.dO) (Wrt.bind (hlWrite x.bQ (by omega) (by omega)) (Wrt.bind (afn x.dI (by omega)) (Wrt.last (lG x.fB)))))))))))))
theorem aaC(x:au)(h:aP x.lf1≤100000000):Wrt (ahE x) (iO x) (iP x):=((Hy (aP x.lf1+1)) FU (by have:=iZ;omega)) x (Nat.lt_succ_self _) h
end Go.Proofs.YtflpefkohpjjpaaGreatDoor
set_option linter.unusedSimpArgs false
set_option linter.unusedVariables false
namespace Go.Proofs.YtflpefkohpjjpaaGreatDoor
open Go.RowKit
noncomputable def jB(e:bW):List Int:=dX e.nM++(dX e.dO++(fD e.jq++(dX e.lM++iO e.fG)))
theorem D9(e:bW)(h:aP e.lf1≤100000000):(jB e).length≤40*aP e.lf1:=by
 have hb:=mG e
 have:=fU e.nM
 have:=fU e.dO
 have:=fU e.lM
 have:=lJ e.jq
 have:=TQ e.fG (by omega)
 unfold jB
 simp only[List.length_append]
 omega
noncomputable def EO(e:bW)(x:Int):ByteArray×Int:=bif x != 0 then(⟨#[]⟩,x) else bif iP e.fG then(⟨#[]⟩,8) else(strOfNums (jB e),0)
theorem Hz(e:bW)(h:aP e.lf1≤100000000):ady e=(Q86 e).bind fun x=>some (EO e x):=by
 have hb:=mG e
 have hl:=D9 e h
 have h0:([]:List Int).length+(jB e).length≤100000000000:=by rw[List.length_nil];omega
 have hW:Wrt (fun w=>(Q7 e.nM w).bind fun a=>(Q7 e.dO a).bind fun a=>(Q80 e.jq a).bind fun a=>(Q7 e.lM a).bind fun a=>ahE e.fG a) (jB e) (false||(false||(false||(false||iP e.fG)))):=(Wrt.bind (gX e.nM) (Wrt.bind (gX e.dO) (Wrt.bind (oK e.jq) (Wrt.bind (gX e.lM) (aaC e.fG (by omega))))))
 have hw:=hW.h ⟨[],false⟩ h0
 clear hW h0
 unfold ady adx
 simp only[Mo.den,aF,aA,aB,aG,aH]
 cases Q86 e with
 |none=>rfl
 |some x=>
  simp only[Option.bind_some]
  unfold EO
  cases hx:x != 0 with
  |true=>rfl
  |false=>
   simp only[cond_false]
   have key:((Q7 e.nM ⟨[],false⟩).bind fun a=>(Q7 e.dO a).bind fun a=>(Q80 e.jq a).bind fun a=>(Q7 e.lM a).bind fun a=>ahE e.fG a)=some ⟨jB e,iP e.fG⟩:=by
    refine hw.trans ?_
    simp only[List.nil_append,Bool.false_or]
   have hb2:∀{α β γ:Type} (m:Option α) (f:α→Option β) (g:β→Option γ),(m.bind f).bind g=m.bind fun a=>(f a).bind g:=fun m f g=>by cases m<;>rfl
   have k2:=congrArg (fun o=>o.bind fun r=>bif r.cu then some ((⟨#[]⟩:ByteArray),(8:Int)) else some (strOfNums r.bg,0)) key
   simp only[hb2] at k2
   refine k2.trans ?_
   simp only[Option.bind_some]
   cases iP e.fG<;>rfl
end Go.Proofs.YtflpefkohpjjpaaGreatDoor
set_option linter.unusedSimpArgs false
set_option linter.unusedVariables false
namespace Go.Proofs.YtflpefkohpjjpaaGreatDoor
open Go.RowKit
def At(s:ByteArray)(p:Nat)(e:List Int):Prop:=p≤s.size∧∃r,rest s p=(strOfNums e).data.toList++r
theorem VW(e:List Int):(strOfNums e).data.toList.length=e.length:=strOfNums_size e
theorem At.le{s:ByteArray}{p:Nat}{e:List Int}(h:At s p e):p+e.length≤s.size:=by
 obtain⟨h0,r,h⟩:=h
 have:=congrArg List.length h
 rw[Qq,List.length_append,VW] at this;omega
theorem At.app{s:ByteArray}{p:Nat}{e e':List Int}(h:At s p (e++e')):At s p e∧At s (p+e.length) e':=by
 have hl:=h.le
 obtain⟨h0,r,h⟩:=h
 rw[al4,ByteArray.data_append,Array.toList_append,List.append_assoc] at h
 rw[List.length_append] at hl
 refine⟨⟨h0,_,h⟩,by omega,r,?_⟩
 rw[←YM,h,←VW e,List.drop_left]
theorem At.hd{s:ByteArray}{p:Nat}{x:Int}{e:List Int}(h:At s p (x::e)):jK s (p:Int)=some (UInt8.ofNat x.toNat)∧At s (p+1) e:=by
 have hl:=h.le
 rw[List.length_cons] at hl
 have h2:=(At.app (e:=[x]) (e':=e) h).2
 obtain⟨h0,r,h⟩:=h
 rw[qM s p (by omega)]
 rw[IY s p (by omega),strOfNums_data,List.map_cons,List.cons_append] at h
 injection h with h _
 exact⟨by rw[h],h2⟩
theorem At.cut{s:ByteArray}{p:Nat}{e:List Int}(h:At s p e):s.extract p (p+e.length)=strOfNums e:=by
 obtain⟨h0,r,h⟩:=h
 apply ByteArray.ext
 apply Array.ext'
 rw[ByteArray.data_extract,Array.toList_extract,List.extract_eq_take_drop,show p+e.length-p=e.length by omega]
 show(rest s p).take _=_
 rw[h,←VW e,List.take_left]
theorem al5(u:Nat):(strOfNums (bJ u)).data.toList=yE u:=by
 rw[strOfNums_data]
 unfold bJ
 rw[List.map_map]
 conv=>rhs;rw[←List.map_id (yE u)]
 refine List.map_congr_left fun x _=>?_
 show UInt8.ofNat ((x.toNat:Int)).toNat=x
 rw[Int.toNat_natCast];exact UInt8.ofNat_toNat
theorem afq:∀(u k acc:Nat) (r:List UInt8),k≤9→(0<k→0<u)→u*128^k<18446744073709551616→rdN k acc (yE u++r)=.ok (acc+u*128^k,k+(yE u).length):=by
 intro u
 induction u using Nat.strongRecOn with
 |_ u ih=>
  intro k acc r hk h0 hu
  have h9:k=9→u≤1:=fun e=>by
   subst e
   rcases Nat.lt_or_ge 1 u with h|h
   ·have h2:2*128^9≤u*128^9:=Nat.mul_le_mul_right _ h
    exact absurd (Nat.lt_of_le_of_lt h2 hu) (by decide)
   ·exact h
  by_cases hlt:u<128
  ·rw[EH hlt]
   have hb:(UInt8.ofNat u).toNat=u:=by rw[UInt8.toNat_ofNat'];omega
   simp only[List.cons_append,List.nil_append,rdN,hb,List.length_singleton]
   rw[if_neg (by omega),if_pos hlt,Nat.mod_eq_of_lt hlt]
  ·rw[MZ hlt]
   have hb:(UInt8.ofNat (u%128+128)).toNat=u%128+128:=by rw[UInt8.toNat_ofNat'];omega
   simp only[List.cons_append,rdN,hb,List.length_cons]
   have hu2:u/128*128^(k+1)<18446744073709551616:=by
    have e:u/128*128^(k+1)≤u*128^k:=by
     rw[Nat.pow_succ,Nat.mul_comm (128^k) 128,←Nat.mul_assoc]
     exact Nat.mul_le_mul_right _ (by omega)
    omega
   rw[if_neg (by omega),if_neg (by omega),ih (u/128) (by omega) (k+1) _ r (by omega) (by omega) hu2]
   have e1:(u%128+128)%128=u%128:=by omega
   rw[e1,Nat.pow_succ]
   have e2:acc+u%128*128^k+u/128*(128^k*128)=acc+u*128^k:=by
    have:u=u%128+u/128*128:=by omega
    conv=>rhs;rw[this,Nat.add_mul]
    rw[Nat.add_assoc,Nat.mul_comm (128^k) 128,←Nat.mul_assoc]
   rw[e2]
   congr 2
   omega
theorem ant(a b:Int):dU .or .u64 a b=bits .or .u64 a b:=rfl
theorem aiQ(a b:Int):dU .and .u8 a b=bits .and .u8 a b:=rfl
theorem al6(a b:Int):dU .and .u64 a b=bits .and .u64 a b:=rfl
theorem al7(a b:Int):dU .xor .i64 a b=bits .xor .i64 a b:=rfl
theorem afr:∀(l:List UInt8) (k u U K:Nat),rdN k u l=.ok (U,K)→k<K
 |[],k,u,U,K,h=>by cases h
 |b::r,k,u,U,K,h=>by
  rw[rdN] at h
  split at h
  ·cases h
  ·split at h
   ·cases h;omega
   ·have:=afr r (k+1) _ U K h;omega
theorem al8(b k:Nat)(hb:b<256)(hk:k≤9):zf .u64 (IntKind.wrap .u64 (dU .and .u8 (b:Int) 127)) (IntKind.wrap .i64 (7*(k:Int)))=IntKind.wrap .u64 (IntKind.wrap .u64 (bits .and .u8 (b:Int) 127)*2^(7*k)):=by
 rw[w64 (by omega) (by omega),show 7*(k:Int)=((7*k:Nat):Int) by omega,aiQ]
 unfold zf
 rw[Int.toNat_natCast,show min (7*k) (IntKind.bits .u64)=7*k by show min (7*k) 64=_;omega]
theorem HY(s:ByteArray)(p:Nat)(n:Int)(hs:s.size≤100000000)(hn:I64 n)(h:At s p (bJ (zz n))):Q20 s (p:Int)=some (n,((p+(bJ (zz n)).length:Nat):Int),0):=by
 have hz:zz n<18446744073709551616:=WJ n hn
 have hL:(bJ (zz n)).length=(yE (zz n)).length:=by unfold bJ;rw[List.length_map]
 have h10:=wI (zz n) hz
 have hle:=h.le
 obtain⟨h0,r,h⟩:=h
 rw[al5] at h
 have hr:=afq (zz n) 0 0 r (by omega) (by omega) (by omega)
 rw[←h] at hr
 simp only[Nat.zero_add,Nat.pow_zero,Nat.mul_one] at hr
 have key:Tot (zH (p:Int) s 0 0) (fun r=>r=(n,((p+(bJ (zz n)).length:Nat):Int),0)):=by
  refine T.qw (s.size-p) (by omega) (fun i v=>v.2=(i:Int)∧p+i≤s.size∧∃a:Nat,v.1=(a:Int)∧a<128^i∧rdN i a (rest s (p+i))=.ok (zz n,(yE (zz n)).length)) _ ⟨rfl,by omega,0,rfl,by decide,hr⟩ ?_ ?_
  ·rintro i ⟨u,v⟩ hi ⟨hv,hk,a,ha,hlt,hrd⟩
   obtain rfl:v=(i:Int):=hv
   obtain rfl:u=(a:Int):=ha
   have hiK:=afr _ _ _ _ _ hrd
   have e:IntKind.wrap .i64 ((p:Int)+(i:Int))=((p+i:Nat):Int):=by rw[w64 (by omega) (by omega)];rfl
   have hb:(((p+i:Nat):Int)==(s.size:Int))=false:=by rw[beq_eq_false_iff_ne];omega
   rw[IY s (p+i) (by omega),rdN] at hrd
   have hB:=s[p+i].toNat_lt
   unfold pI
   simp only[zG,wK,Mo.den,aF,aA,aB,aG,aH,e,hb,cond_false,qM s (p+i) (by omega),Option.bind_some]
   generalize hbb:(s[p+i]).toNat=b at *
   split at hrd
   ·cases hrd
   rename_i hne
   have c1:(bif ((i:Int)==9) then some (decide ((1:Int)<(b:Int))) else some false)=some (decide (i=9∧1<b)):=by
    by_cases q:i=9
    ·subst q
     show some _=some _
     congr 1
     rw[decide_eq_decide];omega
    ·rw[show((i:Int)==9)=false by rw[beq_eq_false_iff_ne];omega,decide_eq_false (show ¬(i=9∧1<b) from fun x=>q x.1)];rfl
   rw[c1,decide_eq_false (show ¬(i=9∧1<b) by omega)]
   simp only[Option.bind_some,cond_false]
   have c2:(bif decide ((0:Int)<(i:Int)) then some ((b:Int)==0) else some false)=some false:=by
    by_cases q:0<i
    ·rw[decide_eq_true (show(0:Int)<(i:Int) by omega)]
     show some _=some _
     congr 1
     rw[beq_eq_false_iff_ne];omega
    ·rw[decide_eq_false (show ¬(0:Int)<(i:Int) by omega)];rfl
   rw[c2]
   simp only[Option.bind_some,cond_false]
   have h9:i=9→b≤1:=fun q=>by omega
   have hi9:i≤9:=by omega
   have hor:dU .or .u64 (a:Int) (zf .u64 (IntKind.wrap .u64 (dU .and .u8 (b:Int) 127)) (IntKind.wrap .i64 (7*(i:Int))))=((a+b%128*128^i:Nat):Int):=by
    rw[al8 b i hB hi9,ant];exact akr a b i hlt hi9 hB h9
   rw[hor]
   refine T.grd (by rw[w64 (by omega) (by omega)];omega) ?_
   split at hrd
   ·rename_i hlo
    rw[decide_eq_true (show(b:Int)<128 by omega)]
    refine T.ret ?_
    injection hrd with hrd
    injection hrd with q1 q2
    have hu64:=agm a b i hlt hi9 h9
    rw[q1] at hu64 ⊢
    have q3:p+(bJ (zz n)).length=p+i+1:=by omega
    rw[inc (p+i) (by omega),q3]
    refine Prod.ext ?_ rfl
    show dU .xor .i64 _ _=n
    have e2:tX .u64 ((zz n:Nat):Int) 1=((zz n/2:Nat):Int):=by
     show Int.fdiv _ 2=_
     rw[Int.fdiv_eq_ediv_of_nonneg _ (by omega)];omega
    rw[e2,al7,al6,and1 _ hu64,w64 (x:=((zz n/2:Nat):Int)) (by omega) (by omega),w64 (x:=((zz n%2:Nat):Int)) (by omega) (by omega),w64 (by omega) (by omega),Int.zero_sub,abx _ hu64,agi]
   ·rename_i hhi
    rw[decide_eq_false (show ¬(b:Int)<128 by omega)]
    refine T.ret ⟨inc i (by omega),by omega,_,rfl,abz a b i hlt,?_⟩
    exact hrd
  ·rintro⟨u,v⟩ ⟨hv,hk,a,ha,hlt,hrd⟩
   rw[show p+(s.size-p)=s.size by omega,rest_end s s.size (Nat.le_refl _)] at hrd
   cases hrd
 obtain⟨r,hr,rfl⟩:=key
 unfold Q20 abC FT
 simp only[Mo.den,aF,aA,aB,aG,aH,decide_eq_false (show ¬(p:Int)<0 by omega),decide_eq_false (show ¬(s.size:Int)<(p:Int) by omega),cond_false,Option.bind_some,hr]
theorem anu(s:ByteArray)(a:Int):Q20 s a=Q20 s a:=by
 have h:∀v,(pI a s v).den=(pI a s v).den:=fun v=>by
  unfold pI
  simp only[zG,wK,zG,wK,Mo.den,aF,aA,aB,aG,aH]
 have hL:zH a s 0 0=zH a s 0 0:=by
  unfold zH
  rw[funext h]
 unfold Q20 abC FT
 simp only[Mo.den,aF,aA,aB,aG,aH,hL]
end Go.Proofs.YtflpefkohpjjpaaGreatDoor
set_option linter.unusedSimpArgs false
set_option linter.unusedVariables false
namespace Go.Proofs.YtflpefkohpjjpaaGreatDoor
open Go.RowKit
noncomputable def nI{α:Type}(L:Int→(Int×aj×List α)→Option ((Int×aj×List α)⊕(aj×List α)))(r:aj):Option (List α×aj):=
 (Q18 r).bind fun q=>(bif decide (q.1<0) then some true else some (decide ((64:Int)≤q.2.dS))).bind fun c=>(bif c then some (aj.mk q.2.fJ q.2.fat q.2.dS true) else some q.2).bind fun y=>
  (dM (L q.1) FU (0,aj.mk y.fJ y.fat (IntKind.wrap .i64 (y.dS+1)) y.cu,[])).bind fun z=>some (z.2,aj.mk z.1.fJ z.1.fat (IntKind.wrap .i64 (z.1.dS-1)) z.1.cu)
end Go.Proofs.YtflpefkohpjjpaaGreatDoor
set_option linter.unusedSimpArgs false
set_option linter.unusedVariables false
namespace Go.Proofs.YtflpefkohpjjpaaGreatDoor
open Go.RowKit
def Rt{α:Type}(F:aj→Option (α×aj))(e:List Int)(x:α)(d:Nat):Prop:=∀(s:ByteArray) (p lv:Nat),s.size≤100000000→At s p e→lv+d≤64→F ⟨s,(p:Int),(lv:Int),false⟩=some (x,⟨s,((p+e.length:Nat):Int),(lv:Int),false⟩)
theorem Rt.bind{α β:Type}{F:aj→Option (α×aj)}{G:α×aj→Option (β×aj)}{e e':List Int}{x:α}{y:β}{d:Nat}(h:Rt F e x d)(k:Rt (fun r=>G (x,r)) e' y d):Rt (fun r=>(F r).bind G) (e++e') y d:=by
 intro s p lv hs ha hd
 obtain⟨a1,a2⟩:=ha.app
 show(F _).bind G=_
 rw[h s p lv hs a1 hd]
 refine(k s (p+e.length) lv hs a2 hd).trans ?_
 rw[List.length_append,Nat.add_assoc]
theorem Rt.ret{α:Type}(x:α)(d:Nat):Rt (fun r=>some (x,r)) [] x d:=fun s p lv _ _ _=>rfl
theorem Rt.mono{α:Type}{F:aj→Option (α×aj)}{e:List Int}{x:α}{d d':Nat}(h:Rt F e x d)(hd:d≤d'):Rt F e x d':=fun s p lv hs ha hl=>h s p lv hs ha (by omega)
theorem Rt.to{α:Type}{F F':aj→Option (α×aj)}{e e':List Int}{x:α}{d:Nat}(h:Rt F e x d)(q:∀r,F' r=F r)(he:e=e'):Rt F' e' x d:=fun s p lv hs ha hl=>by
 subst he
 rw[q];exact h s p lv hs ha hl
theorem jC(n:Int)(hn:I64 n)(d:Nat):Rt Q18 (dX n) n d:=by
 intro s p lv hs ha _
 rw[afi n hn] at ha ⊢
 simp only[Q18,ajw,Mo.den,aF,aA,aB,aG,aH,cond_false,HY s p n hs hn ha,Option.bind_some,bne_self_eq_false]
theorem nJ(b:Bool)(d:Nat):Rt Q51 (iW b) b d:=by
 intro s p lv hs ha _
 have hl:=ha.le
 have key:∀x:Int,(x=0∨x=1)→At s p [x]→Q51 ⟨s,(p:Int),(lv:Int),false⟩=some (x==1,⟨s,((p+1:Nat):Int),(lv:Int),false⟩):=fun x hx hx2=>by
  have hl:=hx2.le
  simp only[List.length_cons,List.length_nil] at hl
  have h1:=hx2.hd.1
  have e1:(IntKind.wrap .i64 (IntKind.wrap .i64 ((p:Int)+1)-1))=(p:Int):=by rw[inc p (by omega),w64 (by omega) (by omega)];omega
  have h2:((UInt8.ofNat x.toNat).toNat:Int)=x:=by rcases hx with rfl|rfl<;>rfl
  have h3:decide ((1:Int)<x)=false:=decide_eq_false (by omega)
  simp only[Q51,ajy,SE,Mo.den,aF,aA,aB,aG,aH,cond_false,decide_eq_false (show ¬(s.size:Int)≤(p:Int) by omega),h1,h2,h3,Option.bind_some,e1]
  rw[inc p (by omega)]
 cases b with
 |true=>exact key 1 (.inr rfl) ha
 |false=>exact key 0 (.inl rfl) ha
theorem al9{s:ByteArray}{p:Nat}{t:ByteArray}(h:At s p (numsOf t)):s.extract p (p+t.size)=t:=by
 have:=h.cut
 rw[eu,Bf] at this;exact this
theorem mX(t:ByteArray)(d:Nat):Rt Q57 (fD t) t d:=by
 intro s p lv hs ha hd
 have hl:=ha.le
 unfold fD at ha hl ⊢
 obtain⟨a1,a2⟩:=ha.app
 rw[List.length_append,eu] at hl ⊢
 have hn:I64 (t.size:Int):=kT (by omega)
 have:=a1.le
 simp only[Q57,ajx,SC,Mo.den,aF,aA,aB,aG,aH,jC _ hn d s p lv hs a1 hd,Option.bind_some,cond_false]
 generalize hq:p+(dX (t.size:Int)).length=q at *
 rw[decide_eq_false (show ¬(t.size:Int)<0 by omega)]
 simp only[cond_false,Option.bind_some]
 rw[w64 (x:=(s.size:Int)-(q:Int)) (by omega) (by omega),decide_eq_false (show ¬(s.size:Int)-(q:Int)<(t.size:Int) by omega)]
 simp only[cond_false]
 rw[w64 (x:=(q:Int)+(t.size:Int)) (by omega) (by omega),w64 (x:=(q:Int)+(t.size:Int)-(t.size:Int)) (by omega) (by omega),if_pos ⟨by omega,by omega,by omega⟩]
 rw[show((q:Int)+(t.size:Int)-(t.size:Int)).toNat=q by omega,show((q:Int)+(t.size:Int)).toNat=q+t.size by omega,al9 a2,show(q:Int)+(t.size:Int)=((p+((dX (t.size:Int)).length+t.size):Nat):Int) by omega]
theorem aiR{α:Type}(F:aj→Option (α×aj))(e:α→List Int)(lf:α→List Lf)(d by_:Nat)(hby:by_≤2000)
 (L:Int→(Int×aj×List α)→Option ((Int×aj×List α)⊕(aj×List α)))
 (hL:∀n v r l,L n (v,r,l)=(bif decide ((v:Int)<n) then some (!r.cu) else some false).bind fun b=>bif b then(F r).bind fun x=>if(l.length+[x.1].length)*by_≤140737488355328 then some (.inl (IntKind.wrap .i64 (v+1),x.2,l++[x.1])) else none else some (.inr (r,l)))
 (l:List α) (hl:l.length≤100000000) (h:∀x∈l,Rt F (e x) x d):Rt (nI L) (gW e l) l (d+1):=by
 intro s p lv hs ha hd
 unfold gW at ha ⊢
 obtain⟨a1,a2⟩:=ha.app
 have hn:I64 (l.length:Int):=kT (by omega)
 unfold nI
 rw[jC _ hn (d+1) s p lv hs a1 hd]
 simp only[Option.bind_some,decide_eq_false (show ¬(l.length:Int)<0 by omega),decide_eq_false (show ¬(64:Int)≤(lv:Int) by omega),cond_false]
 rw[inc lv (by omega),List.length_append,←Nat.add_assoc]
 generalize p+(dX (l.length:Int)).length=q at *
 have key:Tot (dM (L (l.length:Int)) FU (0,(⟨s,(q:Int),((lv+1:Nat):Int),false⟩:aj),[])) (fun z=>z=(⟨s,((q+((l.map e).flatten).length:Nat):Int),((lv+1:Nat):Int),false⟩,l)):=by
  refine T.qw l.length (by omega) (fun k v=>v=((k:Int),⟨s,((q+(((l.take k).map e).flatten).length:Nat):Int),((lv+1:Nat):Int),false⟩,l.take k)) _ rfl ?_ ?_
  ·rintro k v hk rfl
   have hx:=List.getElem?_eq_getElem hk
   have hf:=og e hx
   have ha2:At s q ((((l.take k).map e).flatten)++(e l[k]++((l.drop (k+1)).map e).flatten)):=by
    rw[←List.append_assoc,←hf,←List.flatten_append,←List.map_append,List.take_append_drop];exact a2
   have a3:=ha2.app.2.app.1
   rw[hL,decide_eq_true (show(k:Int)<(l.length:Int) by omega)]
   simp only[cond_true,Option.bind_some,Bool.not_false]
   rw[h l[k] (List.getElem_mem hk) s _ (lv+1) hs a3 (by omega)]
   simp only[Option.bind_some]
   rw[if_pos (by
    have h2:(l.take k).length+[l[k]].length≤100000001:=by rw[List.length_take];simp only[List.length_cons,List.length_nil];omega
    exact Nat.le_trans (Nat.mul_le_mul h2 hby) (by decide))]
   refine T.ret ?_
   show _=_
   rw[inc k (by omega),hf,List.length_append,List.take_succ_eq_append_getElem hk,Nat.add_assoc]
  ·rintro v rfl
   rw[hL,decide_eq_false (show ¬(l.length:Int)<(l.length:Int) by omega),List.take_length]
   exact T.ret rfl
 obtain⟨z,hz,rfl⟩:=key
 rw[hz]
 simp only[Option.bind_some]
 rw[w64 (by omega) (by omega),show(((lv+1:Nat):Int)-1)=(lv:Int) by omega]
theorem Ph(s:ByteArray)(p:Nat)(b n:Int)(hs:s.size≤100000000)(hn:I64 n)(h:At s p (bJ (zz n))):abE ⟨s,(p:Int),b⟩=some (n,⟨s,((p+(bJ (zz n)).length:Nat):Int),b⟩):=by
 simp only[abE,abD,Mo.den,aF,aA,aB,aG,aH,Q21,nO,Mo.den,aF,aA,aB,aG,aH,anu,HY s p n hs hn h,Option.bind_some,beq_self_eq_true,Bool.not_true,cond_false]
theorem wZ(s:ByteArray)(p:Nat)(b n:Int)(hs:s.size≤100000000)(hn:I64 n)(h0:0≤n)(h:At s p (bJ (zz n))):Q93 ⟨s,(p:Int),b⟩=some (n,⟨s,((p+(bJ (zz n)).length:Nat):Int),b⟩):=by
 simp only[Q93,aja,Mo.den,aF,aA,aB,aG,aH,Q21,nO,Mo.den,aF,aA,aB,aG,aH,Ph s p b n hs hn h,Option.bind_some,decide_eq_true h0,Bool.not_true,cond_false]
theorem vZ(s:ByteArray)(p:Nat)(b:Int)(e:List Int)(hs:s.size≤100000000)(h:At s p e):Q90 (e.length:Int) ⟨s,(p:Int),b⟩=some (strOfNums e,⟨s,((p+e.length:Nat):Int),b⟩):=by
 have hl:=h.le
 simp only[Q90,ai9,Mo.den,aF,aA,aB,aG,aH,Q21,nO,Mo.den,aF,aA,aB,aG,aH]
 rw[w64 (x:=(s.size:Int)-(p:Int)) (by omega) (by omega),decide_eq_true (show(e.length:Int)≤(s.size:Int)-(p:Int) by omega)]
 simp only[Bool.not_true,cond_false,Option.bind_some]
 rw[w64 (x:=(p:Int)+(e.length:Int)) (by omega) (by omega),w64 (x:=(p:Int)+(e.length:Int)-(e.length:Int)) (by omega) (by omega),if_pos ⟨by omega,by omega,by omega⟩,show((p:Int)+(e.length:Int)-(e.length:Int)).toNat=p by omega,show((p:Int)+(e.length:Int)).toNat=p+e.length by omega,h.cut]
 rfl
theorem TR(s:ByteArray)(p:Nat)(b:Int)(t:ByteArray)(hs:s.size≤100000000)(ht:t.size≤4096)(h:At s p (bJ (zz (t.size:Int))++numsOf t)):agv ⟨s,(p:Int),b⟩=some (t,⟨s,((p+(bJ (zz (t.size:Int))++numsOf t).length:Nat):Int),b⟩):=by
 obtain⟨a1,a2⟩:=h.app
 have hk:=vZ s _ b _ hs a2
 rw[eu,Bf] at hk
 simp only[agv,abG,Mo.den,aF,aA,aB,aG,aH,Q21,nO,Mo.den,aF,aA,aB,aG,aH,wZ s p b _ hs (kT (by omega)) (by omega) a1,Option.bind_some,decide_eq_true (show(t.size:Int)≤4096 by omega),Bool.not_true,cond_false,hk]
 rw[List.length_append,eu,Nat.add_assoc]
end Go.Proofs.YtflpefkohpjjpaaGreatDoor
set_option linter.unusedSimpArgs false
set_option linter.unusedVariables false
namespace Go.Proofs.YtflpefkohpjjpaaGreatDoor
open Go.RowKit
theorem LK{α:Type}(f:α→Nat){l:List α}{k:Nat}{x:α}(h:l[k]?=some x):jM ((l.take (k+1)).map f)=jM ((l.take k).map f)+f x:=by
 have hk:=oZ h
 have:l[k]=x:=by rw[List.getElem?_eq_getElem hk] at h;injection h
 rw[List.take_succ_eq_append_getElem hk,List.map_append,AQ,this];rfl
theorem Bo{α:Type}(f:α→Nat)(l:List α)(k:Nat):jM ((l.take k).map f)≤jM (l.map f):=by
 have:l.map f=(l.take k).map f++(l.drop k).map f:=by rw[←List.map_append,List.take_append_drop]
 rw[this,AQ];omega
theorem H6{α:Type}(f:α→Nat){x:α}:∀{l:List α},x∈l→f x≤nY (l.map f)
 |y::r,h=>by
  show f x≤max (f y) (nY (r.map f))
  rcases List.mem_cons.1 h with rfl|h
  ·omega
  ·have:=H6 f h;omega
theorem aaD(s:ByteArray)(h:nameB s=true):Q71 s=some true∧1≤s.size∧s.size≤32:=by
 have h0:0<s.size:=by
  rcases Nat.eq_zero_or_pos s.size with e|e
  ·rw[BP s e] at h;cases h
  ·exact e
 have h32:s.size≤32:=by
  rcases Nat.lt_or_ge 32 s.size with e|e
  ·rw[BO s e] at h;cases h
  ·exact e
 refine⟨?_,h0,h32⟩
 rw[yC s h0 h32,Bool.and_eq_true] at h
 obtain⟨hd,ha⟩:=h
 have key:Tot (WV s 0) (fun r=>r=.inr ()):=by
  refine T.qw s.size (by omega) (fun k v=>v=(k:Int)) _ rfl ?_ ?_
  ·rintro k v hk rfl
   have hc:uG s[k].toNat=true:=List.all_eq_true.1 ha _ (by rw[←Array.mem_def];exact Array.getElem_mem hk)
   have hc2:(decide (33≤s[k].toNat)&&decide (s[k].toNat≤126)&&!(s[k].toNat==46))=true:=hc
   simp only[Bool.and_eq_true,decide_eq_true_eq,Bool.not_eq_true',beq_eq_false_iff_ne] at hc2
   unfold wL
   simp only[Qu,Qv,Mo.den,aF,aA,aB,aG,aH,iLt hk,cond_true,qM s k hk,Option.bind_some,decide_eq_false (show ¬(s[k].toNat:Int)<33 by omega),decide_eq_false (show ¬(126:Int)<(s[k].toNat:Int) by omega),cond_false,show((s[k].toNat:Int)==46)=false by rw[beq_eq_false_iff_ne];omega]
   exact T.ret (inc k (by omega))
  ·rintro v rfl
   unfold wL
   simp only[Mo.den,aF,aA,aB,aG,aH,ltn,cond_false]
   exact T.ret rfl
 obtain⟨r,hr,rfl⟩:=key
 have hz:jK s 0=some s[0]:=qM s 0 h0
 have hne:((s[0].toNat:Int) != 36)=true:=by
  rw[bne_iff_ne]
  simp only[Bool.not_eq_true',beq_eq_false_iff_ne] at hd
  omega
 unfold Q71 ajb
 simp only[Mo.den,aF,aA,aB,aG,aH,hr,hz,Option.bind_some,hne]
theorem aaE(R:RB0)(d:List aJ)(s:ByteArray)(q lv b:Nat)(hs:s.size≤100000000)(hd:d.length≤100000000)(ha:At s q (bJ (zz (d.length:Int))++(d.map vbF).flatten))(hb:b+jM (d.map fun f=>f.fValue.cnt)≤1024)(hsnd:aJ.mM [] d=true)
 (hR:∀f∈d,f.fValue.snd=true→∀p c:Nat,At s p (vb f.fValue)→c+f.fValue.cnt≤1024→R.m1 (lv:Int) ⟨s,(p:Int),(c:Int)⟩=some (f.fValue,⟨s,((p+(vb f.fValue).length:Nat):Int),((c+f.fValue.cnt:Nat):Int)⟩)):
 Mo.den (WY R (lv:Int) ⟨s,(q:Int),(b:Int)⟩)=some (d,⟨s,((q+(bJ (zz (d.length:Int))++(d.map vbF).flatten).length:Nat):Int),((b+jM (d.map fun f=>f.fValue.cnt):Nat):Int)⟩):=by
 obtain⟨a1,a2⟩:=ha.app
 have hl:=a1.le
 unfold WY
 simp only[Mo.den,aF,aA,aB,aG,aH,wZ s q b _ hs (kT (by omega)) (by omega) a1,Option.bind_some]
 rw[List.length_append,←Nat.add_assoc]
 generalize q+(bJ (zz (d.length:Int))).length=q at *
 have key:Tot (WX R (lv:Int) ((d.length:Int),⟨s,(q:Int),(b:Int)⟩) 0 ⟨s,(q:Int),(b:Int)⟩ [] []) (fun z=>z=(⟨s,((q+((d.map vbF).flatten).length:Nat):Int),((b+jM (d.map fun f=>f.fValue.cnt):Nat):Int)⟩,d)):=by
  refine T.qw d.length (by omega) (fun k v=>∃m:List ByteArray,m.length=k∧v=((k:Int),⟨s,((q+(((d.take k).map vbF).flatten).length:Nat):Int),((b+jM ((d.take k).map fun f=>f.fValue.cnt):Nat):Int)⟩,Dk m,d.take k)∧aJ.mM m (d.drop k)=true) _ ⟨[],rfl,rfl,hsnd⟩ ?_ ?_
  ·rintro k v hk ⟨m,hm,rfl,hsd⟩
   have hx:=List.getElem?_eq_getElem hk
   have hf:=og vbF hx
   have hcn:=LK (fun f:aJ=>f.fValue.cnt) hx
   have hcl:=Bo (fun f:aJ=>f.fValue.cnt) d (k+1)
   have ha2:At s q ((((d.take k).map vbF).flatten)++(vbF d[k]++((d.drop (k+1)).map vbF).flatten)):=by
    rw[←List.append_assoc,←hf,←List.flatten_append,←List.map_append,List.take_append_drop];exact a2
   have a3:=ha2.app.2.app.1
   have hq:=a3.le
   rw[List.drop_eq_getElem_cons hk] at hsd
   have hmem:=List.getElem_mem hk
   generalize d[k]=f at *
   obtain⟨nm,fv⟩:=f
   rw[G7,Bool.and_eq_true,Bool.and_eq_true,Bool.and_eq_true] at hsd
   obtain⟨⟨g1,g2⟩,g3,g4⟩:=hsd
   obtain⟨n1,n2,n3⟩:=aaD nm g1
   have hm2:hasB nm m=false:=by simpa using g2
   unfold vbF at a3
   have a3:At s (q+(((d.take k).map vbF).flatten).length) (bJ (zz (nm.size:Int))++numsOf nm++vb fv):=a3
   obtain⟨a4,a5⟩:=a3.app
   obtain⟨a6,a7⟩:=a4.app
   have hk1:=Ph s _ ((b+jM ((d.take k).map fun f=>f.fValue.cnt):Nat):Int) _ hs (kT (n:=nm.size) (by omega)) a6
   have hk2:=vZ s _ ((b+jM ((d.take k).map fun f=>f.fValue.cnt):Nat):Int) _ hs a7
   rw[eu,Bf] at hk2
   have hk3:=hR ⟨nm,fv⟩ hmem g3 _ (b+jM ((d.take k).map fun f=>f.fValue.cnt)) a5 (by show _+fv.cnt≤1024;have:jM ((d.take (k+1)).map fun f=>f.fValue.cnt)=jM ((d.take k).map fun f=>f.fValue.cnt)+fv.cnt:=hcn;omega)
   rw[List.length_append,eu,←Nat.add_assoc] at hk3
   have hk3:R.m1 (lv:Int) ⟨s,_,_⟩=some (fv,⟨s,((q+(((d.take k).map vbF).flatten).length+(bJ (zz (nm.size:Int))).length+nm.size+(vb fv).length:Nat):Int),((b+jM ((d.take k).map fun f=>f.fValue.cnt)+fv.cnt:Nat):Int)⟩):=hk3
   unfold wM
   simp only[Qw,Qx,Mo.den,aF,aA,aB,aG,aH,Q21,nO,Mo.den,aF,aA,aB,aG,aH,decide_eq_true (show(k:Int)<(d.length:Int) by omega),cond_true,hk1,Option.bind_some,decide_eq_true (show(1:Int)≤(nm.size:Int) by omega),decide_eq_true (show(nm.size:Int)≤32 by omega),Bool.not_true,cond_false,hk2,n1,Dl,hm2,Bool.not_false,hk3]
   rw[if_pos (by rw[Dk, List.length_map];unfold maxLen;omega), if_pos (by
    have h2:(d.take k).length+[aJ.mk nm fv].length≤100000001:=by rw[List.length_take];simp only[List.length_cons,List.length_nil];omega
    exact Nat.le_trans (Nat.mul_le_mul_right _ h2) (by decide))]
   refine T.ret ⟨nm::m,by simp[hm],?_,g4⟩
   have e1:d.take (k+1)=d.take k++[aJ.mk nm fv]:=by
    rw[List.take_add_one,hx];rfl
   have e2:q+(((d.take (k+1)).map vbF).flatten).length=q+(((d.take k).map vbF).flatten).length+(bJ (zz (nm.size:Int))).length+nm.size+(vb fv).length:=by
    rw[hf]
    show q+(_++(bJ (zz (nm.size:Int))++numsOf nm++vb fv)).length=_
    simp only[List.length_append,eu];omega
   have e3:b+jM ((d.take (k+1)).map fun f=>f.fValue.cnt)=b+jM ((d.take k).map fun f=>f.fValue.cnt)+fv.cnt:=by
    rw[hcn];exact(Nat.add_assoc _ _ _).symm
   rw[e2,e3,e1,inc k (by omega)];rfl
  ·rintro v ⟨m,hm,rfl,_⟩
   unfold wM
   simp only[Mo.den,aF,aA,aB,aG,aH,decide_eq_false (show ¬(d.length:Int)<(d.length:Int) by omega),cond_false,List.take_length]
   exact T.ret rfl
 obtain⟨z,hz,rfl⟩:=key
 simp only[hz,Option.bind_some]
theorem VX{k i:Int}{t:ByteArray}(h:BR k i t=true):k=1∨k=2∨k=11∨k=3∨(k=10∧0≤i)∨(k=9∧(i=0∨i=1))∨(k=4∧t.size≤4096∧Qk t=true)∨(k=7∧t.size≤4096)∨(k=8∧t.size=12)∨k=6∨k=5:=by
 unfold BR at h
 split at h
 ·omega
 ·split at h
  ·rw[Bool.or_eq_true,beq_iff_eq,beq_iff_eq] at h;exact .inr (.inr (.inr (.inr (.inr (.inl ⟨by assumption,h⟩)))))
  ·split at h
   ·exact .inr (.inr (.inr (.inr (.inl ⟨by assumption,of_decide_eq_true h⟩))))
   ·split at h
    ·rw[Bool.and_eq_true] at h;exact .inr (.inr (.inr (.inr (.inr (.inr (.inl ⟨by assumption,of_decide_eq_true h.1,h.2⟩))))))
    ·split at h
     ·exact .inr (.inr (.inr (.inr (.inr (.inr (.inr (.inl ⟨by assumption,of_decide_eq_true h⟩)))))))
     ·split at h
      ·exact .inr (.inr (.inr (.inr (.inr (.inr (.inr (.inr (.inl ⟨by assumption,of_decide_eq_true h⟩))))))))
      ·have:=of_decide_eq_true h;omega
theorem afs(n:Nat):∀(F:Nat) (v:ah),aP v.lf1<n→2*n≤F→aP v.lf1≤100000000→jY v.lf1→v.snd=true→∀(s:ByteArray) (p lv b:Nat),s.size≤100000000→At s p (vb v)→lv+v.dep≤17→b+v.cnt≤1024→
 (qJ F).m1 (lv:Int) ⟨s,(p:Int),(b:Int)⟩=some (v,⟨s,((p+(vb v).length:Nat):Int),((b+v.cnt:Nat):Int)⟩):=by
 induction n with
 |zero=>intro F v h;omega
 |succ n ih=>
  intro F v hlt hF hb hf hsnd s p lv b hs ha hdep hcnt
  obtain⟨F,rfl⟩:∃K,F=K+2:=⟨F-2,by omega⟩
  have hp:=dh v
  have hl:=gV v.aU
  have hd:=fZ v.aY
  obtain⟨f1,f2,f3⟩:=Dw hf
  have hd1:=MV v
  have hc1:=MS v
  have hcp:=Di v
  have hdp:=Dj v
  rw[afb,Bool.and_eq_true,Bool.and_eq_true,Bool.and_eq_true] at hsnd
  obtain⟨⟨hh,hlf⟩,hsl,hsd⟩:=hsnd
  show Mo.den (YP (qJ (F+1)) (lv:Int) ⟨s,(p:Int),(b:Int)⟩)=_
  have hk:=VX hlf
  have hkr:1≤v.ay∧v.ay≤11:=by omega
  have hw:IntKind.wrap .u8 v.ay=v.ay:=by rw[IntKind.wrap_u8];omega
  have hle:=ha.le
  rw[TA,hw] at ha hle ⊢
  have hcut:=vZ s p ((b+1:Nat):Int) [v.ay] hs (At.app (e:=[v.ay]) ha).1
  have ha2:=ha.hd.2
  have h1s:jK (strOfNums [v.ay]) 0=some (UInt8.ofNat v.ay.toNat):=rfl
  have hby:IntKind.wrap .i64 ((UInt8.ofNat v.ay.toNat).toNat:Int)=v.ay:=by
   rw[UInt8.toNat_ofNat',w64 (by omega) (by omega)];omega
  rw[List.length_cons] at hle ⊢
  have fin:∀(e:List Int) (c:Nat),v.cnt=1+c→mZ (qJ (F+1)) (UInt8.ofNat v.ay.toNat) (lv:Int) (strOfNums [v.ay],⟨s,((p+1:Nat):Int),((b+1:Nat):Int)⟩)=some (⟨s,((p+1+e.length:Nat):Int),((b+1+c:Nat):Int)⟩,v)→
   Mo.den (YP (qJ (F+1)) (lv:Int) ⟨s,(p:Int),(b:Int)⟩)=some (v,⟨s,((p+(e.length+1):Nat):Int),((b+v.cnt:Nat):Int)⟩):=fun e c hc hJ=>by
   unfold YP
   simp only[WW,Mo.den,aF,aA,aB,aG,aH,Q21,nO,Mo.den,aF,aA,aB,aG,aH,decide_eq_true (show(lv:Int)≤16 by omega),cond_true,decide_eq_true (show(b:Int)<1024 by omega),Bool.not_true,cond_false,Option.bind_some]
   rw[inc b (by omega)]
   have hcut:Q90 1 ⟨s,(p:Int),((b+1:Nat):Int)⟩=some (strOfNums [v.ay],⟨s,((p+1:Nat):Int),((b+1:Nat):Int)⟩):=hcut
   rw[hcut]
   simp only[Option.bind_some,h1s,hJ]
   rw[hc,show p+1+e.length=p+(e.length+1) by omega,show b+1+c=b+(1+c) by omega]
  unfold Fz at hh
  simp only[Bool.and_eq_true,Bool.or_eq_true,beq_iff_eq,decide_eq_true_eq] at hh
  obtain⟨⟨⟨h1,h2⟩,h3⟩,h4⟩:=hh
  have veq:v=ah.mk v.ay v.dG v.fText v.aU v.aY:=by cases v;rfl
  have z1:¬(v.ay=3∨v.ay=9∨v.ay=10)→v.dG=0:=fun h=>by rcases h1 with((h1|h1)|h1)|h1<;>first|exact h1|(exact absurd h1 (by omega))
  have z2:¬(v.ay=4∨v.ay=7∨v.ay=8)→v.fText=⟨#[]⟩:=fun h=>size_nil (by rcases h2 with((h2|h2)|h2)|h2<;>omega)
  have z3:¬v.ay=6→v.aU=[]:=fun h=>by rcases h3 with h3|h3;exact absurd h3 h;exact List.eq_nil_of_length_eq_zero h3
  have z4:¬v.ay=5→v.aY=[]:=fun h=>by rcases h4 with h4|h4;exact absurd h4 h;exact List.eq_nil_of_length_eq_zero h4
  have c0:¬v.ay=6→¬v.ay=5→v.cnt=1+0:=fun h6 h5=>by
   rw[hcp];unfold parts;rw[if_neg h6,if_neg h5];rfl
  have nopay:(v.ay=1∨v.ay=2∨v.ay=11)→Mo.den (YP (qJ (F+1)) (lv:Int) ⟨s,(p:Int),(b:Int)⟩)=some (v,⟨s,((p+(([]:List Int).length+1):Nat):Int),((b+v.cnt:Nat):Int)⟩):=fun h=>by
   refine fin [] 0 (c0 (by omega) (by omega)) ?_
   have e:=veq
   rw[z1 (by omega),z2 (by omega),z3 (by omega),z4 (by omega)] at e
   rcases h with h|h|h
   ·rw[h] at e
    unfold mZ jS
    simp only[Mo.den,aF,aA,aB,aG,aH,lV,hby,Q21,nO,Mo.den,aF,aA,aB,aG,aH]
    rw[h]
    simp only[Int.reduceBEq,cond_true,cond_false,Option.bind_some]
    rw[e];rfl
   ·rw[h] at e
    unfold mZ jS
    simp only[Mo.den,aF,aA,aB,aG,aH,lV,hby,Q21,nO,Mo.den,aF,aA,aB,aG,aH]
    rw[h]
    simp only[Int.reduceBEq,cond_true,cond_false,Option.bind_some]
    rw[e];rfl
   ·rw[h] at e
    unfold mZ jS
    simp only[Mo.den,aF,aA,aB,aG,aH,lV,hby,Q21,nO,Mo.den,aF,aA,aB,aG,aH]
    rw[h]
    simp only[Int.reduceBEq,cond_true,cond_false,Option.bind_some]
    rw[e];rfl
  rcases hk with hk|hk|hk|hk|⟨hk,hi⟩|⟨hk,hi⟩|⟨hk,ht,hu⟩|⟨hk,ht⟩|⟨hk,ht⟩|hk|hk
  ·have:=nopay (.inl hk)
   rw[hk];exact this
  ·have:=nopay (.inr (.inl hk))
   rw[hk];exact this
  ·have:=nopay (.inr (.inr hk))
   rw[hk];exact this
  ·-- an integer
   have hpay:(bif v.ay==3||v.ay==10 then bJ (zz v.dG) else bif v.ay==9 then [IntKind.wrap .u8 v.dG] else bif v.ay==4||v.ay==7 then bJ (zz (v.fText.size:Int))++numsOf v.fText else bif v.ay==8 then numsOf v.fText else bif v.ay==6 then bJ (zz (v.aU.length:Int))++(v.aU.map vb).flatten else bif v.ay==5 then bJ (zz (v.aY.length:Int))++(v.aY.map vbF).flatten else [])=bJ (zz v.dG):=by rw[hk];rfl
   rw[hpay] at ha2 ⊢
   have e:=veq
   rw[z2 (by omega),z3 (by omega),z4 (by omega),hk] at e
   refine fin _ 0 (c0 (by omega) (by omega)) ?_
   unfold mZ jS
   simp only[Mo.den,aF,aA,aB,aG,aH,lV,hby,Q21,nO,Mo.den,aF,aA,aB,aG,aH]
   rw[hk]
   simp only[Int.reduceBEq,cond_true,cond_false,Option.bind_some]
   rw[Ph s _ _ _ hs f1 ha2]
   simp only[Option.bind_some]
   rw[←e];try rfl
  ·-- a time
   have hpay:(bif v.ay==3||v.ay==10 then bJ (zz v.dG) else bif v.ay==9 then [IntKind.wrap .u8 v.dG] else bif v.ay==4||v.ay==7 then bJ (zz (v.fText.size:Int))++numsOf v.fText else bif v.ay==8 then numsOf v.fText else bif v.ay==6 then bJ (zz (v.aU.length:Int))++(v.aU.map vb).flatten else bif v.ay==5 then bJ (zz (v.aY.length:Int))++(v.aY.map vbF).flatten else [])=bJ (zz v.dG):=by rw[hk];rfl
   rw[hpay] at ha2 ⊢
   have e:=veq
   rw[z2 (by omega),z3 (by omega),z4 (by omega),hk] at e
   refine fin _ 0 (c0 (by omega) (by omega)) ?_
   unfold mZ jS
   simp only[Mo.den,aF,aA,aB,aG,aH,lV,hby,Q21,nO,Mo.den,aF,aA,aB,aG,aH]
   rw[hk]
   simp only[Int.reduceBEq,cond_true,cond_false,Option.bind_some]
   rw[wZ s _ _ _ hs f1 hi ha2]
   simp only[Option.bind_some]
   rw[←e];try rfl
  ·-- a truth
   have hpay:(bif v.ay==3||v.ay==10 then bJ (zz v.dG) else bif v.ay==9 then [IntKind.wrap .u8 v.dG] else bif v.ay==4||v.ay==7 then bJ (zz (v.fText.size:Int))++numsOf v.fText else bif v.ay==8 then numsOf v.fText else bif v.ay==6 then bJ (zz (v.aU.length:Int))++(v.aU.map vb).flatten else bif v.ay==5 then bJ (zz (v.aY.length:Int))++(v.aY.map vbF).flatten else [])=[IntKind.wrap .u8 v.dG]:=by rw[hk];rfl
   rw[hpay] at ha2 ⊢
   have e:=veq
   rw[z2 (by omega),z3 (by omega),z4 (by omega),hk] at e
   refine fin _ 0 (c0 (by omega) (by omega)) ?_
   have hw2:IntKind.wrap .u8 v.dG=v.dG:=by rw[IntKind.wrap_u8];omega
   rw[hw2] at ha2 ⊢
   have hct:=vZ s _ ((b+1:Nat):Int) [v.dG] hs ha2
   have h0s:jK (strOfNums [v.dG]) 0=some (UInt8.ofNat v.dG.toNat):=rfl
   have hb2:IntKind.wrap .i64 ((UInt8.ofNat v.dG.toNat).toNat:Int)=v.dG:=by
    rw[UInt8.toNat_ofNat',w64 (by omega) (by omega)];omega
   have hct:Q90 1 ⟨s,((p+1:Nat):Int),((b+1:Nat):Int)⟩=some (strOfNums [v.dG],⟨s,((p+1+1:Nat):Int),((b+1:Nat):Int)⟩):=hct
   unfold mZ jS
   simp only[Mo.den,aF,aA,aB,aG,aH,lV,hby,Q21,nO,Mo.den,aF,aA,aB,aG,aH]
   rw[hk]
   simp only[Int.reduceBEq,cond_true,cond_false,Option.bind_some]
   rw[hct]
   simp only[Option.bind_some,h0s,hb2,decide_eq_true (show v.dG≤1 by omega),Bool.not_true,cond_false]
   rw[←e];try rfl
  ·-- a text
   have hpay:(bif v.ay==3||v.ay==10 then bJ (zz v.dG) else bif v.ay==9 then [IntKind.wrap .u8 v.dG] else bif v.ay==4||v.ay==7 then bJ (zz (v.fText.size:Int))++numsOf v.fText else bif v.ay==8 then numsOf v.fText else bif v.ay==6 then bJ (zz (v.aU.length:Int))++(v.aU.map vb).flatten else bif v.ay==5 then bJ (zz (v.aY.length:Int))++(v.aY.map vbF).flatten else [])=bJ (zz (v.fText.size:Int))++numsOf v.fText:=by rw[hk];rfl
   rw[hpay] at ha2 ⊢
   have e:=veq
   rw[z1 (by omega),z3 (by omega),z4 (by omega),hk] at e
   refine fin _ 0 (c0 (by omega) (by omega)) ?_
   unfold mZ jS
   simp only[Mo.den,aF,aA,aB,aG,aH,lV,hby,Q21,nO,Mo.den,aF,aA,aB,aG,aH]
   rw[hk]
   simp only[Int.reduceBEq,cond_true,cond_false,Option.bind_some]
   rw[TR s _ _ _ hs ht ha2]
   simp only[Option.bind_some,agq,hu,Bool.not_true,cond_false]
   rw[←e];try rfl
  ·-- bytes
   have hpay:(bif v.ay==3||v.ay==10 then bJ (zz v.dG) else bif v.ay==9 then [IntKind.wrap .u8 v.dG] else bif v.ay==4||v.ay==7 then bJ (zz (v.fText.size:Int))++numsOf v.fText else bif v.ay==8 then numsOf v.fText else bif v.ay==6 then bJ (zz (v.aU.length:Int))++(v.aU.map vb).flatten else bif v.ay==5 then bJ (zz (v.aY.length:Int))++(v.aY.map vbF).flatten else [])=bJ (zz (v.fText.size:Int))++numsOf v.fText:=by rw[hk];rfl
   rw[hpay] at ha2 ⊢
   have e:=veq
   rw[z1 (by omega),z3 (by omega),z4 (by omega),hk] at e
   refine fin _ 0 (c0 (by omega) (by omega)) ?_
   unfold mZ jS
   simp only[Mo.den,aF,aA,aB,aG,aH,lV,hby,Q21,nO,Mo.den,aF,aA,aB,aG,aH]
   rw[hk]
   simp only[Int.reduceBEq,cond_true,cond_false,Option.bind_some]
   rw[TR s _ _ _ hs ht ha2]
   simp only[Option.bind_some]
   rw[←e];try rfl
  ·-- an identifier
   have hpay:(bif v.ay==3||v.ay==10 then bJ (zz v.dG) else bif v.ay==9 then [IntKind.wrap .u8 v.dG] else bif v.ay==4||v.ay==7 then bJ (zz (v.fText.size:Int))++numsOf v.fText else bif v.ay==8 then numsOf v.fText else bif v.ay==6 then bJ (zz (v.aU.length:Int))++(v.aU.map vb).flatten else bif v.ay==5 then bJ (zz (v.aY.length:Int))++(v.aY.map vbF).flatten else [])=numsOf v.fText:=by rw[hk];rfl
   rw[hpay] at ha2 ⊢
   have e:=veq
   rw[z1 (by omega),z3 (by omega),z4 (by omega),hk] at e
   refine fin _ 0 (c0 (by omega) (by omega)) ?_
   have hct:=vZ s _ ((b+1:Nat):Int) _ hs ha2
   rw[eu,Bf,ht] at hct
   have hct:Q90 12 ⟨s,((p+1:Nat):Int),((b+1:Nat):Int)⟩=some (v.fText,⟨s,((p+1+12:Nat):Int),((b+1:Nat):Int)⟩):=hct
   rw[eu,ht]
   unfold mZ jS
   simp only[Mo.den,aF,aA,aB,aG,aH,lV,hby,Q21,nO,Mo.den,aF,aA,aB,aG,aH]
   rw[hk]
   simp only[Int.reduceBEq,cond_true,cond_false,Option.bind_some]
   rw[hct]
   simp only[Option.bind_some]
   rw[←e];try rfl
  ·-- a list
   have hpay:(bif v.ay==3||v.ay==10 then bJ (zz v.dG) else bif v.ay==9 then [IntKind.wrap .u8 v.dG] else bif v.ay==4||v.ay==7 then bJ (zz (v.fText.size:Int))++numsOf v.fText else bif v.ay==8 then numsOf v.fText else bif v.ay==6 then bJ (zz (v.aU.length:Int))++(v.aU.map vb).flatten else bif v.ay==5 then bJ (zz (v.aY.length:Int))++(v.aY.map vbF).flatten else [])=bJ (zz (v.aU.length:Int))++(v.aU.map vb).flatten:=by rw[hk];rfl
   rw[hpay] at ha2 ⊢
   have e:=veq
   rw[z1 (by omega),z2 (by omega),z4 (by omega),hk] at e
   have hps:parts v=v.aU:=by unfold parts;rw[if_pos hk,if_neg (by omega),List.append_nil]
   rw[hps] at hcp hdp
   obtain⟨a1,a2⟩:=ha2.app
   refine fin _ (jM (v.aU.map ah.cnt)) hcp ?_
   rw[List.length_append,←Nat.add_assoc (p+1)]
   unfold mZ jS
   simp only[Mo.den,aF,aA,aB,aG,aH,lV,hby,Q21,nO,Mo.den,aF,aA,aB,aG,aH]
   rw[hk]
   simp only[Int.reduceBEq,cond_true,cond_false,Option.bind_some]
   rw[wZ s _ _ _ hs (kT (by omega)) (by omega) a1]
   simp only[Option.bind_some]
   generalize p+1+(bJ (zz (v.aU.length:Int))).length=q at *
   have key:Tot (abI (qJ (F+1)) (UInt8.ofNat (6:Int).toNat) (lv:Int) ((v.aU.length:Int),⟨s,(q:Int),((b+1:Nat):Int)⟩) 0 ⟨s,(q:Int),((b+1:Nat):Int)⟩ []) (fun z=>z=(⟨s,((q+((v.aU.map vb).flatten).length:Nat):Int),((b+1+jM (v.aU.map ah.cnt):Nat):Int)⟩,v.aU)):=by
    refine T.qw v.aU.length (by omega) (fun k w=>w=((k:Int),⟨s,((q+(((v.aU.take k).map vb).flatten).length:Nat):Int),((b+1+jM ((v.aU.take k).map ah.cnt):Nat):Int)⟩,v.aU.take k)) _ rfl ?_ ?_
    ·rintro k w hk2 rfl
     have hx:=List.getElem?_eq_getElem hk2
     have hf2:=og vb hx
     have hcn:=LK ah.cnt hx
     have hcl:=Bo ah.cnt v.aU (k+1)
     have ha3:At s q ((((v.aU.take k).map vb).flatten)++(vb v.aU[k]++((v.aU.drop (k+1)).map vb).flatten)):=by
      rw[←List.append_assoc,←hf2,←List.flatten_append,←List.map_append,List.take_append_drop];exact a2
     have a3:=ha3.app.2.app.1
     have hmem:=List.getElem_mem hk2
     have hm:=jm hmem
     have hdx:=H6 ah.dep hmem
     rw[G6,List.all_eq_true] at hsl
     have hi:=ih (F+1) v.aU[k] (by omega) (by omega) (by omega) (f2 _ hmem) (hsl _ hmem) s _ (lv+1) (b+1+jM ((v.aU.take k).map ah.cnt)) hs a3 (by omega) (by omega)
     unfold zI
     simp only[Mo.den,aF,aA,aB,aG,aH,decide_eq_true (show(k:Int)<(v.aU.length:Int) by omega),cond_true]
     rw[inc lv (by omega),hi]
     simp only[Option.bind_some]
     rw[if_pos (by
      have h2:(v.aU.take k).length+[v.aU[k]].length≤100000001:=by rw[List.length_take];simp only[List.length_cons,List.length_nil];omega
      exact Nat.le_trans (Nat.mul_le_mul_right _ h2) (by decide))]
     refine T.ret ?_
     show _=_
     rw[inc k (by omega),hf2,hcn,List.length_append,List.take_succ_eq_append_getElem hk2,Nat.add_assoc q,Nat.add_assoc (b+1)]
    ·rintro w rfl
     unfold zI
     simp only[Mo.den,aF,aA,aB,aG,aH,decide_eq_false (show ¬(v.aU.length:Int)<(v.aU.length:Int) by omega),cond_false,List.take_length]
     exact T.ret rfl
   obtain⟨z,hz,rfl⟩:=key
   rw[hz]
   simp only[Option.bind_some]
   rw[←e];try rfl
  ·-- a document
   have hpay:(bif v.ay==3||v.ay==10 then bJ (zz v.dG) else bif v.ay==9 then [IntKind.wrap .u8 v.dG] else bif v.ay==4||v.ay==7 then bJ (zz (v.fText.size:Int))++numsOf v.fText else bif v.ay==8 then numsOf v.fText else bif v.ay==6 then bJ (zz (v.aU.length:Int))++(v.aU.map vb).flatten else bif v.ay==5 then bJ (zz (v.aY.length:Int))++(v.aY.map vbF).flatten else [])=bJ (zz (v.aY.length:Int))++(v.aY.map vbF).flatten:=by rw[hk];rfl
   rw[hpay] at ha2 ⊢
   have e:=veq
   rw[z1 (by omega),z2 (by omega),z3 (by omega),hk] at e
   have hps:parts v=v.aY.map aJ.fValue:=by unfold parts;rw[if_neg (by omega),if_pos hk,List.nil_append]
   rw[hps,List.map_map] at hcp hdp
   have hcp:v.cnt=1+jM (v.aY.map fun f=>f.fValue.cnt):=hcp
   have hdp:v.dep=1+nY (v.aY.map fun f=>f.fValue.dep):=hdp
   refine fin _ (jM (v.aY.map fun f=>f.fValue.cnt)) hcp ?_
   have hfl:=aaE (qJ F) v.aY s (p+1) (lv+1) (b+1) hs (by omega) ha2 (by omega) hsd fun f hmem hsn q c haf hc=>by
    have hm:=gq hmem
    rw[eF] at hm
    have hdx:=H6 (fun f:aJ=>f.fValue.dep) hmem
    exact ih F f.fValue (by omega) (by omega) (by omega) (f3 _ hmem) hsn s q (lv+1) c hs haf (by have hdx:f.fValue.dep≤nY (v.aY.map fun f=>f.fValue.dep):=hdx;omega) hc
   have hfl:(qJ (F+1)).m2 ((lv+1:Nat):Int) ⟨s,((p+1:Nat):Int),((b+1:Nat):Int)⟩=_:=hfl
   unfold mZ jS
   simp only[Mo.den,aF,aA,aB,aG,aH,lV,hby,Q21,nO,Mo.den,aF,aA,aB,aG,aH]
   rw[hk]
   simp only[Int.reduceBEq,cond_true,cond_false,Option.bind_some]
   rw[inc lv (by omega),hfl]
   simp only[Option.bind_some]
   rw[←e];try rfl
end Go.Proofs.YtflpefkohpjjpaaGreatDoor
set_option linter.unusedSimpArgs false
set_option linter.unusedVariables false
namespace Go.Proofs.YtflpefkohpjjpaaGreatDoor
open Go.RowKit
def okE:Nat→aS→Prop
 |0,_=>False
 |n+1,x=>∀k∈x.bV,okE n k
def okP:Nat→aO→Prop
 |0,_=>False
 |n+1,x=>okE 17 x.fExpr∧∀k∈x.bV,okP n k
def okS:Nat→aI→Prop
 |0,_=>False
 |n+1,x=>(∀k∈x.dN,okS n k.aZ)∧∀k∈x.dP,okS n k
def okD(x:bY):Prop:=(∀k∈x.bZ,okP 17 k.bF)∧okS 17 x.aZ
def okW:Nat→au→Prop
 |0,_=>False
 |n+1,x=>okD x.dB∧okP 17 x.aX.bF∧∀k∈x.bQ,okW n k
noncomputable def Dy{α:Type}(F:aj→Option (α×aj))(by_:Nat)(n:Int):(Int×aj×List α)→Option ((Int×aj×List α)⊕(aj×List α)):=
 fun v=>(bif decide ((v.1:Int)<n) then some (!v.2.1.cu) else some false).bind fun b=>bif b then(F v.2.1).bind fun x=>if(v.2.2.length+[x.1].length)*by_≤140737488355328 then some (.inl (IntKind.wrap .i64 (v.1+1),x.2,v.2.2++[x.1])) else none else some (.inr (v.2.1,v.2.2))
theorem nK{α:Type}{F:aj→Option (α×aj)}{e:α→List Int}{l:List α}{d:Nat}(by_:Nat)(hby:by_≤2000)(hl:l.length≤100000000)(h:∀x∈l,Rt F (e x) x d):Rt (nI (Dy F by_)) (gW e l) l (d+1):=
 aiR F e (fun _=>[]) d by_ hby (Dy F by_) (fun n v y l=>rfl) l hl h
theorem aiS{v:ah}(hb:aP v.lf1≤100000000)(hf:jY v.lf1)(hv:Ej v=true):TB v=strOfNums (vb v):=by
 have h2:=(yT v hb).1
 have h3:Q10 v=some (vb v):=(aiO (aP v.lf1+1) FU v (Nat.lt_succ_self _) (by have:=iZ;omega) hb hf).1
 simp only[ade,U9,Mo.den,aF,aA,aB,aG,aH,wX v hb,h3,Option.bind_some,hv] at h2
 injection h2 with h2
 exact(congrArg Prod.fst h2).symm
theorem At.aod{s:ByteArray}{p:Nat}{e e':List Int}(h:At s p e)(he:strOfNums e=strOfNums e'):At s p e':=by
 obtain⟨h0,r,h⟩:=h
 exact⟨h0,r,by rw[←he];exact h⟩
theorem aiT(s:ByteArray)(p:Nat)(v:ah)(hs:s.size≤100000000)(hb:aP v.lf1≤100000000)(hf:jY v.lf1)(hv:Ej v=true)(ha:At s p (vb v)):Q32 s (p:Int)=some (v,((p+(vb v).length:Nat):Int),0):=by
 have hl:=ha.le
 unfold Ej at hv
 simp only[Bool.and_eq_true,decide_eq_true_eq] at hv
 obtain⟨v1,v2,v3⟩:=hv
 have hr:=afs (aP v.lf1+1) FU v (Nat.lt_succ_self _) (by have:=iZ;omega) hb hf v3 s p 1 0 hs ha (by omega) (by omega)
 have hr:Q1 1 ⟨s,(p:Int),0⟩=_:=hr
 unfold Q32 ajd UD FW
 simp only[Mo.den,aF,aA,aB,aG,aH,decide_eq_false (show ¬(p:Int)<0 by omega),decide_eq_false (show ¬(s.size:Int)<(p:Int) by omega),cond_false,Option.bind_some,hr]
theorem aiU{v:ah}(h:kS v=true):ah.mk 0 0 ⟨#[]⟩ [] []=v:=by
 unfold kS at h
 simp only[Bool.and_eq_true,beq_iff_eq,decide_eq_true_eq] at h
 cases v with
 |mk k i t l d=>
  simp only[ah.ay,ah.dG,ah.fText,ah.aU,ah.aY] at h
  obtain⟨⟨⟨⟨rfl,rfl⟩,rfl⟩,h4⟩,h5⟩:=h
  have h4:=List.eq_nil_of_length_eq_zero (by omega:l.length=0)
  have h5:=List.eq_nil_of_length_eq_zero (by omega:d.length=0)
  subst h4 h5
  rfl
theorem wo(v:ah)(hb:aP v.lf1≤100000000)(hf:jY v.lf1)(hbad:jc v=false)(d:Nat):Rt Q81 (gY v) v d:=by
 intro s p lv hs ha hd
 unfold gY at ha ⊢
 unfold jc at hbad
 cases hm:kS v with
 |true=>
  rw[hm] at ha
  have h1:=nJ false d s p lv hs ha hd
  simp only[Q81,adz,Mo.den,aF,aA,aB,aG,aH,h1,Option.bind_some,Bool.not_false,cond_true]
  rw[aiU hm];rfl
 |false=>
  rw[hm] at ha hbad
  have hv:Ej v=true:=by simpa using hbad
  rw[hv] at ha ⊢
  simp only[cond_false,cond_true] at ha ⊢
  obtain⟨a1,a2⟩:=ha.app
  have he:=aiS hb hf hv
  have hlen:(numsOf (TB v)).length=(vb v).length:=by rw[eu,he,strOfNums_size]
  have h1:Q51 ⟨s,(p:Int),(lv:Int),false⟩=some (true,⟨s,((p+1:Nat):Int),(lv:Int),false⟩):=nJ true d s p lv hs a1 hd
  have h2:=aiT s (p+1) v hs hb hf hv (a2.aod (by rw[Bf,he]))
  simp only[Q81,adz,Mo.den,aF,aA,aB,aG,aH,h1,Option.bind_some,Bool.not_true,cond_false,h2,bne_self_eq_false]
  rw[List.length_append,hlen,←Nat.add_assoc];rfl
theorem Bq(l:List ByteArray)(h:l.length≤100000000)(d:Nat):Rt Q6 (gW fD l) l (d+1):=
 (nK (F:=ahH) 16 (by omega) h fun x _=>(mX x d).to (fun r=>by simp only[ahH, adA, Mo.den, aF, aA, aB, aG, aH];cases Q57 r<;>rfl) rfl).to (fun r=>by
  have hL:∀(q:Int×aj) v,(SH q v).den=Dy ahH 16 q.1 v:=fun q v=>by
   obtain⟨a,b,c⟩:=v
   unfold SH
   simp only[SG,Mo.den,aF,aA,aB,aG,aH]
   rfl
  unfold Q6 amZ nI
  simp only[Mo.den,aF,aA,aB,aG,aH,lZ,l7]
  try unfold aow
  simp only[hL]
  all_goals rfl) rfl
theorem aiV(l:List Int)(h:l.length≤100000000)(hf:∀x∈l,I64 x)(d:Nat):Rt Q89 (gW dX l) l (d+1):=
 (nK (F:=ahT) 8 (by omega) h fun x hx=>(jC x (hf x hx) d).to (fun r=>by simp only[ahT, adN, Mo.den, aF, aA, aB, aG, aH];cases Q18 r<;>rfl) rfl).to (fun r=>by
  have hL:∀(q:Int×aj) v,(KZ q v).den=Dy ahT 8 q.1 v:=fun q v=>by
   obtain⟨a,b,c⟩:=v
   unfold KZ
   simp only[KY,Mo.den,aF,aA,aB,aG,aH]
   rfl
  unfold Q89 ajD nI
  simp only[Mo.den,aF,aA,aB,aG,aH,lZ,l7]
  try unfold aou
  simp only[hL]
  all_goals rfl) rfl
theorem Yn(l:List ah)(h:bP (l.map ah.lf)≤100000000)(hf:yS (.rows 5 (l.map ah.lf)))(hbad:l.any jc=false)(d:Nat):Rt Q59 (gW gY l) l (d+1):=
 (nK (F:=Q81) 80 (by omega) (by have:=gV l;omega) fun x hx=>wo x (by have:=jm hx;omega) (by have:=lF hf hx;rw[ah.aW] at this;exact this) (by have:=List.any_eq_false.1 hbad x hx;simpa using this) d).to (fun r=>by
  have hL:∀(q:Int×aj) v,(KH q v).den=Dy Q81 80 q.1 v:=fun q v=>by
   obtain⟨a,b,c⟩:=v
   unfold KH
   simp only[KG,Mo.den,aF,aA,aB,aG,aH]
   rfl
  unfold Q59 ajA nI
  simp only[Mo.den,aF,aA,aB,aG,aH,lZ,l7]
  try unfold aon
  simp only[hL]
  all_goals rfl) rfl
theorem aft(x:bf)(hb:aP x.lf1≤100000000)(d:Nat):Rt adC (lK x) x (d+1):=by
 intro s p lv hs ha hd
 have hbk:=lu x
 unfold lK at ha ⊢
 unfold adC adB
 simp only[Mo.den,aF,aA,aB,aG,aH]
 obtain⟨a1,ha⟩:=ha.app
 simp only[(Bq x.cZ (by have:=gJ x.cZ;omega) _) s _ lv hs a1 hd,Option.bind_some]
 have a1:=ha
 simp only[(nJ x.rO _) s _ lv hs a1 hd,Option.bind_some]
 have e:bf.mk x.cZ x.rO=x:=by cases x;rfl
 rw[e]
 simp only[List.length_append,Nat.add_assoc]
theorem aaF(l:List bf)(h:bP (l.map bf.lf)≤100000000)(d:Nat):Rt Q64 (gW lK l) l (d+2):=
 (nK (F:=adC) 32 (by omega) (by have:=mJ l;omega) fun x hx=>aft x (by have h1:=dA bf.lf hx;rw[bf.aW] at h1;omega) d).to (fun r=>by
  have hL:∀(q:Int×aj) v,(KF q v).den=Dy adC 32 q.1 v:=fun q v=>by
   obtain⟨a,b,c⟩:=v
   unfold KF
   simp only[KE,Mo.den,aF,aA,aB,aG,aH]
   rfl
  unfold Q64 ajz nI
  simp only[Mo.den,aF,aA,aB,aG,aH,lZ,l7]
  try unfold aom
  simp only[hL]
  all_goals rfl) rfl
theorem afu(x:bM)(hf:jY x.lf1)(d:Nat):Rt adF (kM x) x d:=by
 intro s p lv hs ha hd
 have hfx:=hf
 unfold bM.lf1 at hfx
 simp only[jH] at hfx
 obtain⟨q1,q2,_⟩:=hfx
 unfold kM at ha ⊢
 unfold adF adE
 simp only[Mo.den,aF,aA,aB,aG,aH]
 obtain⟨a1,ha⟩:=ha.app
 simp only[(jC x.fX (iC rfl q1) _) s _ lv hs a1 hd,Option.bind_some]
 have a1:=ha
 simp only[(jC x.fY (iC rfl q2) _) s _ lv hs a1 hd,Option.bind_some]
 have e:bM.mk x.fX x.fY=x:=by cases x;rfl
 rw[e]
 simp only[List.length_append,Nat.add_assoc]
theorem aaG(l:List bM)(h:bP (l.map bM.lf)≤100000000)(hf:yS (.rows 2 (l.map bM.lf)))(d:Nat):Rt Q65 (gW kM l) l (d+1):=
 (nK (F:=adF) 16 (by omega) (by have:=sZ l;omega) fun x hx=>afu x (by have:=lF hf hx;rw[bM.aW] at this;exact this) d).to (fun r=>by
  have hL:∀(q:Int×aj) v,(KJ q v).den=Dy adF 16 q.1 v:=fun q v=>by
   obtain⟨a,b,c⟩:=v
   unfold KJ
   simp only[KI,Mo.den,aF,aA,aB,aG,aH]
   rfl
  unfold Q65 ajB nI
  simp only[Mo.den,aF,aA,aB,aG,aH,lZ,l7]
  try unfold aoo
  simp only[hL]
  all_goals rfl) rfl
theorem afv(n:Nat):∀(m F:Nat) (x:aS),aP x.lf1<n→2*n≤F→aP x.lf1≤100000000→jY x.lf1→lT x=false→okE m x→Rt (qj F).m1 (jJ x) x (m):=by
 induction n with
 |zero=>intro m F x h;omega
 |succ n ih=>
  intro m F x hlt hF hb hf hbad hok
  obtain⟨G,rfl⟩:∃G,F=G+2:=⟨F-2,by omega⟩
  obtain⟨m,rfl⟩:∃k,m=k+1:=by cases m with|zero=>exact hok.elim|succ k=>exact⟨k,rfl⟩
  have hfx:=hf
  unfold aS.lf1 at hfx
  simp only[nC,jH] at hfx
  obtain⟨⟨q1,q2,q3,q4,_⟩,q5,⟨q6,q7,_⟩⟩:=hfx
  have hbk:=jU x
  rw[Ht] at hbad
  simp only[Bool.or_eq_false_iff] at hbad
  obtain⟨b1,b2,b3,b4,b5,b6,b7⟩:=hbad
  have hok:∀k∈x.bV,okE m k:=hok
  have hfKids:Rt (qj (G+1)).m2 (gW jJ x.bV) x.bV (m+1):=
   (nK (F:=(qj G).m1) 184 (by omega) (by have:=pX x.bV;omega) fun y hy=>by
    have h1:=dA aS.lf hy
    rw[aS.aW] at h1
    exact ih m G y (by omega) (by omega) (by omega) (by have:=lF q7 hy;rw[aS.aW] at this;exact this) (by have:=List.any_eq_false.1 b7 y hy;simpa using this) (hok y hy)).to (fun r=>by
    have hL:∀(q:Int×aj) v,(KN (qj G) q v).den=Dy ((qj G).m1) 184 q.1 v:=fun q v=>by
     obtain⟨a,b,c⟩:=v
     unfold KN
     simp only[KL,Mo.den,aF,aA,aB,aG,aH]
     rfl
    show Mo.den (XJ (qj G) r)=_
    unfold XJ nI
    simp only[Mo.den,aF,aA,aB,aG,aH,SK,SL]
    try unfold aop
    simp only[hL]
    all_goals rfl) rfl
  intro s p lv hs ha hd
  rw[yU] at ha ⊢
  show Mo.den (Oc (qj (G+1)) _)=_
  unfold Oc
  simp only[Mo.den,aF,aA,aB,aG,aH]
  obtain⟨a1,ha⟩:=ha.app
  simp only[(jC x.fOp (iC rfl q1) _) s _ lv hs a1 hd,Option.bind_some]
  obtain⟨a1,ha⟩:=ha.app
  simp only[(Bq x.cZ (by have:=gJ x.cZ;omega) _) s _ lv hs a1 hd,Option.bind_some]
  obtain⟨a1,ha⟩:=ha.app
  simp only[(mX x.fName _) s _ lv hs a1 hd,Option.bind_some]
  obtain⟨a1,ha⟩:=ha.app
  simp only[(Bq x.fK (by have:=gJ x.fK;omega) _) s _ lv hs a1 hd,Option.bind_some]
  obtain⟨a1,ha⟩:=ha.app
  simp only[(wo x.fArg (by omega) q5 b5 _) s _ lv hs a1 hd,Option.bind_some]
  obtain⟨a1,ha⟩:=ha.app
  simp only[(jC x.fN (iC rfl q6) _) s _ lv hs a1 hd,Option.bind_some]
  have a1:=ha
  simp only[(hfKids) s _ lv hs a1 hd,Option.bind_some]
  have e:aS.mk x.fOp x.cZ x.fName x.fK x.fArg x.fN x.bV=x:=by cases x;rfl
  rw[e]
  simp only[List.length_append,Nat.add_assoc]
theorem aiW(x:aS)(hb:aP x.lf1≤100000000)(hf:jY x.lf1)(hbad:lT x=false){m:Nat}(hok:okE m x):Rt am0 (jJ x) x (m):=afv (aP x.lf1+1) m FU x (Nat.lt_succ_self _) (by have:=iZ;omega) hb hf hbad hok
theorem afw(n:Nat):∀(m F:Nat) (x:aO),aP x.lf1<n→2*n≤F→aP x.lf1≤100000000→jY x.lf1→l9 x=false→okP m x→Rt (ql F).m1 (jP x) x (m+17):=by
 induction n with
 |zero=>intro m F x h;omega
 |succ n ih=>
  intro m F x hlt hF hb hf hbad hok
  obtain⟨G,rfl⟩:∃G,F=G+2:=⟨F-2,by omega⟩
  obtain⟨m,rfl⟩:∃k,m=k+1:=by cases m with|zero=>exact hok.elim|succ k=>exact⟨k,rfl⟩
  have hfx:=hf
  unfold aO.lf1 at hfx
  simp only[nC,jH] at hfx
  obtain⟨⟨q1,q2,_⟩,q3,⟨q4,q5,q6,_⟩,⟨q7,q8,q9,_⟩,q10,⟨q11,_⟩⟩:=hfx
  have hbk:=gZ x
  have hsh:=nV x.dH
  rw[Hu] at hbad
  simp only[Bool.or_eq_false_iff] at hbad
  obtain⟨b1,b2,b3,b4,b5,b6,b7,b8,b9,b10,b11⟩:=hbad
  obtain⟨hok1,hok⟩:okE 17 x.fExpr∧∀k∈x.bV,okP m k:=hok
  have hfKids:Rt (ql (G+1)).m2 (gW jP x.bV) x.bV (m+17+1):=
   (nK (F:=(ql G).m1) 400 (by omega) (by have:=mQ x.bV;omega) fun y hy=>by
    have h1:=dA aO.lf hy
    rw[aO.aW] at h1
    exact ih m G y (by omega) (by omega) (by omega) (by have:=lF q11 hy;rw[aO.aW] at this;exact this) (by have:=List.any_eq_false.1 b11 y hy;simpa using this) (hok y hy)).to (fun r=>by
    have hL:∀(q:Int×aj) v,(KP (ql G) q v).den=Dy ((ql G).m1) 400 q.1 v:=fun q v=>by
     obtain⟨a,b,c⟩:=v
     unfold KP
     simp only[KO,Mo.den,aF,aA,aB,aG,aH]
     rfl
    show Mo.den (XL (ql G) r)=_
    unfold XL nI
    simp only[Mo.den,aF,aA,aB,aG,aH,SN,SQ]
    try unfold aoq
    simp only[hL]
    all_goals rfl) rfl
  intro s p lv hs ha hd
  rw[yV] at ha ⊢
  show Mo.den (Oh (ql (G+1)) _)=_
  unfold Oh
  simp only[Mo.den,aF,aA,aB,aG,aH]
  obtain⟨a1,ha⟩:=ha.app
  simp only[(jC x.fOp (iC rfl q1) _) s _ lv hs a1 hd,Option.bind_some]
  obtain⟨a1,ha⟩:=ha.app
  simp only[(Bq x.cZ (by have:=gJ x.cZ;omega) _) s _ lv hs a1 hd,Option.bind_some]
  obtain⟨a1,ha⟩:=ha.app
  simp only[(wo x.fArg (by omega) q3 b3 _) s _ lv hs a1 hd,Option.bind_some]
  obtain⟨a1,ha⟩:=ha.app
  simp only[(Yn x.fArgs (by omega) q4 b4 _) s _ lv hs a1 hd,Option.bind_some]
  obtain⟨a1,ha⟩:=ha.app
  simp only[(jC x.fN (iC rfl q5) _) s _ lv hs a1 hd,Option.bind_some]
  obtain⟨a1,ha⟩:=ha.app
  simp only[(jC x.fM (iC rfl q6) _) s _ lv hs a1 hd,Option.bind_some]
  obtain⟨a1,ha⟩:=ha.app
  simp only[(jC x.dH.ay (iC rfl q7) _) s _ lv hs a1 hd,Option.bind_some]
  obtain⟨a1,ha⟩:=ha.app
  simp only[(aaG x.dH.dD (by omega) q8 _) s _ lv hs a1 hd,Option.bind_some]
  obtain⟨a1,ha⟩:=ha.app
  simp only[(jC x.dH.fR (iC rfl q9) _) s _ lv hs a1 hd,Option.bind_some]
  obtain⟨a1,ha⟩:=ha.app
  simp only[((aiW x.fExpr (by omega) q10 b10 hok1).mono (by omega:17≤m+1+17)) s _ lv hs a1 hd,Option.bind_some]
  have a1:=ha
  simp only[(hfKids) s _ lv hs a1 hd,Option.bind_some]
  have e:aO.mk x.fOp x.cZ x.fArg x.fArgs x.fN x.fM (dZ.mk x.dH.ay x.dH.dD x.dH.fR) x.fExpr x.bV=x:=by cases x;rfl
  rw[e]
  simp only[List.length_append,Nat.add_assoc]
theorem aiX(x:aO)(hb:aP x.lf1≤100000000)(hf:jY x.lf1)(hbad:l9 x=false){m:Nat}(hok:okP m x):Rt am1 (jP x) x (m+17):=afw (aP x.lf1+1) m FU x (Nat.lt_succ_self _) (by have:=iZ;omega) hb hf hbad hok
theorem TS(x:aQ)(hb:aP x.lf1≤100000000)(hf:jY x.lf1)(hbad:nG x=false)(hok:okP 17 x.bF):Rt adJ (jV x) x 35:=by
 have hfx:=hf
 unfold aQ.lf1 at hfx
 simp only[nC,jH] at hfx
 obtain⟨⟨q1,q2,q3,q4,q5,q6,_⟩,q7⟩:=hfx
 have hbk:=jr x
 unfold nG at hbad
 simp only[Bool.or_eq_false_iff] at hbad
 obtain⟨b1,b2,b3,b4,b5,b6,b7⟩:=hbad
 intro s p lv hs ha hd
 unfold jV at ha ⊢
 unfold adJ adI
 simp only[Mo.den,aF,aA,aB,aG,aH]
 obtain⟨a1,ha⟩:=ha.app
 simp only[(mX x.fName _) s _ lv hs a1 hd,Option.bind_some]
 obtain⟨a1,ha⟩:=ha.app
 simp only[(jC x.ay (iC rfl q2) _) s _ lv hs a1 hd,Option.bind_some]
 obtain⟨a1,ha⟩:=ha.app
 simp only[(aaF x.fQ (by omega) _) s _ lv hs a1 hd,Option.bind_some]
 obtain⟨a1,ha⟩:=ha.app
 simp only[(nJ x.dY _) s _ lv hs a1 hd,Option.bind_some]
 obtain⟨a1,ha⟩:=ha.app
 simp only[(nJ x.jl _) s _ lv hs a1 hd,Option.bind_some]
 obtain⟨a1,ha⟩:=ha.app
 simp only[(nJ x.gB _) s _ lv hs a1 hd,Option.bind_some]
 have a1:=ha
 simp only[((aiX x.bF (by omega) q7 b7 hok).mono (by omega:17+17≤35)) s _ lv hs a1 hd,Option.bind_some]
 have e:aQ.mk x.fName x.ay x.fQ x.dY x.jl x.gB x.bF=x:=by cases x;rfl
 rw[e]
 simp only[List.length_append,Nat.add_assoc]
theorem VY(l:List aQ)(h:bP (l.map aQ.lf)≤100000000)(hf:yS (.rows 31 (l.map aQ.lf)))(hbad:l.any nG=false)(hok:∀k∈l,okP 17 k.bF):Rt Q66 (gW jV l) l 36:=
 (nK (F:=adJ) 456 (by omega) (by have:=jZ l;omega) fun x hx=>TS x (by have h1:=dA aQ.lf hx;rw[aQ.aW] at h1;omega) (by have:=lF hf hx;rw[aQ.aW] at this;exact this) (by have:=List.any_eq_false.1 hbad x hx;simpa using this) (hok x hx)).to (fun r=>by
  have hL:∀(q:Int×aj) v,(KR q v).den=Dy adJ 456 q.1 v:=fun q v=>by
   obtain⟨a,b,c⟩:=v
   unfold KR
   simp only[KQ,Mo.den,aF,aA,aB,aG,aH]
   rfl
  unfold Q66 ajC nI
  simp only[Mo.den,aF,aA,aB,aG,aH,lZ,l7]
  try unfold aor
  simp only[hL]
  all_goals rfl) rfl
theorem VZ(n:Nat):∀(m F:Nat) (x:aI),aP x.lf1<n→3*n≤F→aP x.lf1≤100000000→jY x.lf1→iY x=false→okS m x→Rt (kH F).m1 (gu x) x m:=by
 induction n with
 |zero=>intro m F x h;omega
 |succ n ih=>
  intro m F x hlt hF hb hf hbad hok
  obtain⟨G,rfl⟩:∃G,F=G+3:=⟨F-3,by omega⟩
  obtain⟨m,rfl⟩:∃k,m=k+1:=by cases m with|zero=>exact hok.elim|succ k=>exact⟨k,rfl⟩
  obtain⟨hok1,hok2⟩:(∀k∈x.dN,okS m k.aZ)∧∀k∈x.dP,okS m k:=hok
  have hfx:=hf
  unfold aI.lf1 at hfx
  simp only[nC,jH] at hfx
  obtain⟨⟨q1,q2,_⟩,q3,⟨q4,_⟩,q5,⟨q6,q7,q8,q9,q10,q11,q12,q13,_⟩⟩:=hfx
  have hbk:=iq x
  rw[Bh] at hbad
  simp only[Bool.or_eq_false_iff] at hbad
  obtain⟨b1,b2,b3,b4,b5,b6,b7,b8,b9,b10,b11,b12,b13⟩:=hbad
  have hfProps:Rt (kH (G+2)).m2 (gW nH x.dN) x.dN (m+1):=
   (nK (F:=(kH (G+1)).m4) 328 (by omega) (by have:=pY x.dN;omega) fun y hy=>by
    have h1:=dA bH.lf hy
    rw[bH.aW,mP] at h1
    have h2:=lF q10 hy
    rw[bH.aW] at h2
    unfold bH.lf1 at h2
    simp only[nC] at h2
    have h3:pG y=false:=by have:=List.any_eq_false.1 b10 y hy;simpa using this
    rw[Hw,Bool.false_or] at h3
    have hk:=ih m G y.aZ (by omega) (by omega) (by omega) h2.2 h3 (hok1 y hy)
    intro s p lv hs ha hd
    rw[yX] at ha ⊢
    show Mo.den (Ol (kH G) _)=_
    unfold Ol
    simp only[Mo.den,aF,aA,aB,aG,aH]
    obtain⟨a1,a2⟩:=ha.app
    simp only[(mX y.fName m) s _ lv hs a1 hd,hk s _ lv hs a2 hd,Option.bind_some]
    have e:bH.mk y.fName y.aZ=y:=by cases y;rfl
    rw[e,List.length_append,Nat.add_assoc]).to (fun r=>by
    have hL:∀(q:Int×aj) v,(KU (kH (G+1)) q v).den=Dy ((kH (G+1)).m4) 328 q.1 v:=fun q v=>by
     obtain⟨a,b,c⟩:=v
     unfold KU
     simp only[KT,Mo.den,aF,aA,aB,aG,aH]
     rfl
    show Mo.den (XR (kH (G+1)) r)=_
    unfold XR nI
    simp only[Mo.den,aF,aA,aB,aG,aH,Ae,Af]
    try unfold aos
    simp only[hL]
    all_goals rfl) rfl
  have hfItems:Rt (kH (G+2)).m3 (gW gu x.dP) x.dP (m+1):=
   (nK (F:=(kH (G+1)).m1) 312 (by omega) (by have:=mV x.dP;omega) fun y hy=>by
    have h1:=dA aI.lf hy
    rw[aI.aW] at h1
    exact ih m (G+1) y (by omega) (by omega) (by omega) (by have:=lF q12 hy;rw[aI.aW] at this;exact this) (by have:=List.any_eq_false.1 b12 y hy;simpa using this) (hok2 y hy)).to (fun r=>by
    have hL:∀(q:Int×aj) v,(KX (kH (G+1)) q v).den=Dy ((kH (G+1)).m1) 312 q.1 v:=fun q v=>by
     obtain⟨a,b,c⟩:=v
     unfold KX
     simp only[KW,Mo.den,aF,aA,aB,aG,aH]
     rfl
    show Mo.den (XT (kH (G+1)) r)=_
    unfold XT nI
    simp only[Mo.den,aF,aA,aB,aG,aH,Ae,Af]
    try unfold aot
    simp only[hL]
    all_goals rfl) rfl
  intro s p lv hs ha hd
  rw[tK] at ha ⊢
  show Mo.den (Oj (kH (G+2)) _)=_
  unfold Oj
  simp only[Mo.den,aF,aA,aB,aG,aH]
  obtain⟨a1,ha⟩:=ha.app
  simp only[(jC x.jF (iC rfl q1) _) s _ lv hs a1 hd,Option.bind_some]
  obtain⟨a1,ha⟩:=ha.app
  simp only[(nJ x.iQ _) s _ lv hs a1 hd,Option.bind_some]
  obtain⟨a1,ha⟩:=ha.app
  simp only[(wo x.kE (by omega) q3 b3 _) s _ lv hs a1 hd,Option.bind_some]
  obtain⟨a1,ha⟩:=ha.app
  simp only[(nJ x.iR _) s _ lv hs a1 hd,Option.bind_some]
  obtain⟨a1,ha⟩:=ha.app
  simp only[(wo x.kF (by omega) q5 b5 _) s _ lv hs a1 hd,Option.bind_some]
  obtain⟨a1,ha⟩:=ha.app
  simp only[(Yn x.jL (by omega) q6 b6 _) s _ lv hs a1 hd,Option.bind_some]
  obtain⟨a1,ha⟩:=ha.app
  simp only[(jC x.iU (iC rfl q7) _) s _ lv hs a1 hd,Option.bind_some]
  obtain⟨a1,ha⟩:=ha.app
  simp only[(jC x.iV (iC rfl q8) _) s _ lv hs a1 hd,Option.bind_some]
  obtain⟨a1,ha⟩:=ha.app
  simp only[(Bq x.dK (by have:=gJ x.dK;omega) _) s _ lv hs a1 hd,Option.bind_some]
  obtain⟨a1,ha⟩:=ha.app
  simp only[(hfProps) s _ lv hs a1 hd,Option.bind_some]
  obtain⟨a1,ha⟩:=ha.app
  simp only[(nJ x.jD _) s _ lv hs a1 hd,Option.bind_some]
  obtain⟨a1,ha⟩:=ha.app
  simp only[(hfItems) s _ lv hs a1 hd,Option.bind_some]
  have a1:=ha
  simp only[(nJ x.dY _) s _ lv hs a1 hd,Option.bind_some]
  have e:aI.mk x.jF x.iQ x.kE x.iR x.kF x.jL x.iU x.iV x.dK x.dN x.jD x.dP x.dY=x:=by cases x;rfl
  rw[e]
  simp only[List.length_append,Nat.add_assoc]
theorem aaH(x:aI)(hb:aP x.lf1≤100000000)(hf:jY x.lf1)(hbad:iY x=false){m:Nat}(hok:okS m x):Rt am2 (gu x) x m:=VZ (aP x.lf1+1) m FU x (Nat.lt_succ_self _) (by have:=iZ;omega) hb hf hbad hok
theorem afx(x:bY)(hb:aP x.lf1≤100000000)(hf:jY x.lf1)(hbad:vX x=false)(hok:okD x):Rt alp (qB x) x 36:=by
 have hfx:=hf
 unfold bY.lf1 at hfx
 simp only[nC,jH] at hfx
 obtain⟨⟨q1,q2,_⟩,q3,⟨q4,q5,_⟩⟩:=hfx
 have hbk:=mF x
 unfold vX at hbad
 simp only[Bool.or_eq_false_iff] at hbad
 obtain⟨b1,b2,b3,b4,b5⟩:=hbad
 intro s p lv hs ha hd
 unfold qB at ha ⊢
 unfold alp adM
 simp only[Mo.den,aF,aA,aB,aG,aH]
 obtain⟨a1,ha⟩:=ha.app
 simp only[(mX x.fName _) s _ lv hs a1 hd,Option.bind_some]
 obtain⟨a1,ha⟩:=ha.app
 simp only[(VY x.bZ (by omega) q2 b2 hok.1) s _ lv hs a1 hd,Option.bind_some]
 obtain⟨a1,ha⟩:=ha.app
 simp only[((aaH x.aZ (by omega) q3 b3 hok.2).mono (by omega:17≤36)) s _ lv hs a1 hd,Option.bind_some]
 obtain⟨a1,ha⟩:=ha.app
 simp only[(jC x.kG (iC rfl q4) _) s _ lv hs a1 hd,Option.bind_some]
 have a1:=ha
 simp only[(jC x.iJ (iC rfl q5) _) s _ lv hs a1 hd,Option.bind_some]
 have e:bY.mk x.fName x.bZ x.aZ x.kG x.iJ=x:=by cases x;rfl
 rw[e]
 simp only[List.length_append,Nat.add_assoc]
theorem aaI(n:Nat):∀(m F:Nat) (x:au),aP x.lf1<n→2*n≤F→aP x.lf1≤100000000→jY x.lf1→iP x=false→okW m x→Rt (qm F).m1 (iO x) x (m+36):=by
 induction n with
 |zero=>intro m F x h;omega
 |succ n ih=>
  intro m F x hlt hF hb hf hbad hok
  obtain⟨G,rfl⟩:∃G,F=G+2:=⟨F-2,by omega⟩
  obtain⟨m,rfl⟩:∃k,m=k+1:=by cases m with|zero=>exact hok.elim|succ k=>exact⟨k,rfl⟩
  have hfx:=hf
  unfold au.lf1 at hfx
  simp only[nC,jH] at hfx
  obtain⟨⟨q1,q2,_⟩,q3,q4,q5,q6,q7,⟨q8,q9,q10,q11,q12,_⟩⟩:=hfx
  have hbk:=jv x
  rw[D8] at hbad
  simp only[Bool.or_eq_false_iff] at hbad
  obtain⟨b1,b2,b3,b4,b5,b6,b7,b8,b9,b10,b11,b12⟩:=hbad
  obtain⟨hok1,hok2,hok⟩:okD x.dB∧okP 17 x.aX.bF∧∀k∈x.bQ,okW m k:=hok
  have hfWrites:Rt (qm (G+1)).m2 (gW iO x.bQ) x.bQ (m+36+1):=
   (nK (F:=(qm G).m1) 1168 (by omega) (by have:=nX x.bQ;omega) fun y hy=>by
    have h1:=dA au.lf hy
    rw[au.aW] at h1
    exact ih m G y (by omega) (by omega) (by omega) (by have:=lF q10 hy;rw[au.aW] at this;exact this) (by have:=List.any_eq_false.1 b10 y hy;simpa using this) (hok y hy)).to (fun r=>by
    have hL:∀(q:Int×aj) v,(Lc (qm G) q v).den=Dy ((qm G).m1) 1168 q.1 v:=fun q v=>by
     obtain⟨a,b,c⟩:=v
     unfold Lc
     simp only[La,Mo.den,aF,aA,aB,aG,aH]
     rfl
    show Mo.den (XV (qm G) r)=_
    unfold XV nI
    simp only[Mo.den,aF,aA,aB,aG,aH,SS,SV]
    try unfold aov
    simp only[hL]
    all_goals rfl) rfl
  intro s p lv hs ha hd
  rw[vY] at ha ⊢
  show Mo.den (Oq (qm (G+1)) _)=_
  unfold Oq
  simp only[Mo.den,aF,aA,aB,aG,aH]
  obtain⟨a1,ha⟩:=ha.app
  simp only[(jC x.ay (iC rfl q1) _) s _ lv hs a1 hd,Option.bind_some]
  obtain⟨a1,ha⟩:=ha.app
  simp only[(mX x.fE _) s _ lv hs a1 hd,Option.bind_some]
  obtain⟨a1,ha⟩:=ha.app
  simp only[(wo x.ig (by omega) q3 b3 _) s _ lv hs a1 hd,Option.bind_some]
  obtain⟨a1,ha⟩:=ha.app
  simp only[(wo x.aY (by omega) q4 b4 _) s _ lv hs a1 hd,Option.bind_some]
  obtain⟨a1,ha⟩:=ha.app
  simp only[(wo x.dF (by omega) q5 b5 _) s _ lv hs a1 hd,Option.bind_some]
  obtain⟨a1,ha⟩:=ha.app
  simp only[((afx x.dB (by omega) q6 b6 hok1).mono (by omega:36≤m+1+36)) s _ lv hs a1 hd,Option.bind_some]
  obtain⟨a1,ha⟩:=ha.app
  simp only[((TS x.aX (by omega) q7 b7 hok2).mono (by omega:35≤m+1+36)) s _ lv hs a1 hd,Option.bind_some]
  obtain⟨a1,ha⟩:=ha.app
  simp only[(mX x.kX _) s _ lv hs a1 hd,Option.bind_some]
  obtain⟨a1,ha⟩:=ha.app
  simp only[(jC x.dO (iC rfl q9) _) s _ lv hs a1 hd,Option.bind_some]
  obtain⟨a1,ha⟩:=ha.app
  simp only[(hfWrites) s _ lv hs a1 hd,Option.bind_some]
  obtain⟨a1,ha⟩:=ha.app
  simp only[(aiV x.dI (by have:=vG x.dI;omega) (fun y hy=>by have h2:=lF q11 hy;unfold lfI at h2;simp only[jH] at h2;exact iC rfl h2.1) _) s _ lv hs a1 hd,Option.bind_some]
  have a1:=ha
  simp only[(nJ x.fB _) s _ lv hs a1 hd,Option.bind_some]
  have e:au.mk x.ay x.fE x.ig x.aY x.dF x.dB x.aX x.kX x.dO x.bQ x.dI x.fB=x:=by cases x;rfl
  rw[e]
  simp only[List.length_append,Nat.add_assoc]
theorem afy(x:au)(hb:aP x.lf1≤100000000)(hf:jY x.lf1)(hbad:iP x=false){m:Nat}(hok:okW m x):Rt am3 (iO x) x (m+36):=aaI (aP x.lf1+1) m FU x (Nat.lt_succ_self _) (by have:=iZ;omega) hb hf hbad hok
end Go.Proofs.YtflpefkohpjjpaaGreatDoor
set_option linter.unusedSimpArgs false
set_option linter.unusedVariables false
namespace Go.Proofs.YtflpefkohpjjpaaGreatDoor
open Go.RowKit
def zS(s:ByteArray):Bool:=decide (s=⟨#[]⟩)
theorem Iz(w:au):Q17 w=some (w.ay==0&&(zS w.fE&&(kS w.ig&&(kS w.aY&&(kS w.dF&&(w.dB.lf1.all zlf&&(w.aX.lf1.all zlf&&(zS w.kX&&(w.dO==0&&((w.bQ.length:Int)==0&&((w.dI.length:Int)==0&&!w.fB))))))))))):=by
 simp only[Q17,abW,eX,Jw,Jv,Ju,Jt,Js,Jr,Jq,Jp,Jo,QI,QH,Mo.den,aF,aA,aB,aG,aH,EN,Iq,Ir,Option.bind_some,jA,xW,Bool.and_assoc,zS]
theorem aiY(k:Int):k=2∨k=3∨k=4∨k=5∨k=6∨k=7∨k=8∨k=9∨k=10∨k=11∨k=12∨(k<2∨12<k):=by omega
theorem V3:(bY.mk ⟨#[]⟩ [] aI.z 0 0).lf1.all zlf=true:=by unfold bY.lf1 aI.lf1 ah.lf1;rfl
theorem V4:aQ.z.lf1.all zlf=true:=by unfold aQ.lf1 aO.lf1 aS.lf1 dZ.lf1 ah.lf1;rfl
end Go.Proofs.YtflpefkohpjjpaaGreatDoor
