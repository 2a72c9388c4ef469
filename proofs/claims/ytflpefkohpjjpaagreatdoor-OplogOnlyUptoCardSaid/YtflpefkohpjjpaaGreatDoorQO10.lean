/- Which of the program's models come to an end (printed by totgen.py). -/
import Derived.Test.YtflpefkohpjjpaaGreatDoorQO9
set_option linter.unusedSimpArgs false
set_option linter.unusedVariables false
namespace Go.Proofs.YtflpefkohpjjpaaGreatDoor
open Go.RowKit
theorem qE (p_kind:Int) : Tot (aor p_kind) Any := by
  show MT (adz p_kind) Any
  repeat' (first | exact MT.any | refine MT.say ?_ | refine MT.ite (fun _=>?_) (fun _=>?_))
theorem iJ (p_v:aj) : Tot (Q49 p_v) Any := by
  show MT (adA p_v) Any
  repeat' (first | exact MT.any | refine MT.say ?_ | refine MT.ite (fun _=>?_) (fun _=>?_) | refine MT.kK ?_ (fun _ _=>?_) | refine ⟨(show MT _ Any from ?_)⟩)
theorem ug (p_s:aA) : Tot (Q41 p_s) Any := by
  show MT (akw p_s) Any
  repeat' (first | exact MT.any | refine MT.say ?_ | refine MT.ite (fun _=>?_) (fun _=>?_) | refine MT.kK ?_ (fun _ _=>?_) | exact ⟨T.wk (iJ _)⟩ | refine ⟨(show MT _ Any from ?_)⟩)
theorem wP (p_d:bV) : Tot (Q88 p_d) Any := by
  show MT (akx p_d) Any
  repeat' (first | exact MT.any | refine MT.say ?_ | refine MT.ite (fun _=>?_) (fun _=>?_) | refine MT.kK ?_ (fun _ _=>?_) | exact ⟨T.wk (ug _)⟩ | refine ⟨(show MT _ Any from ?_)⟩)
theorem yt (p_e:aG) : Tot (Q74 p_e) Any := by
  show MT (aky p_e) Any
  repeat' (first | exact MT.any | refine MT.say ?_ | refine MT.ite (fun _=>?_) (fun _=>?_) | refine MT.kK ?_ (fun _ _=>?_) | exact ⟨T.wk (iJ _)⟩ | refine ⟨(show MT _ Any from ?_)⟩)
theorem yu (p_p:aC) : Tot (Q54 p_p) Any := by
  show MT (akz p_p) Any
  repeat' (first | exact MT.any | refine MT.say ?_ | refine MT.ite (fun _=>?_) (fun _=>?_) | refine MT.kK ?_ (fun _ _=>?_) | exact ⟨T.wk (yt _)⟩ | exact ⟨T.wk (iJ _)⟩ | refine ⟨(show MT _ Any from ?_)⟩)
theorem wQ (p_x:aK) : Tot (Q69 p_x) Any := by
  show MT (akA p_x) Any
  repeat' (first | exact MT.any | refine MT.say ?_ | refine MT.ite (fun _=>?_) (fun _=>?_) | refine MT.kK ?_ (fun _ _=>?_) | exact ⟨T.wk (yu _)⟩ | refine ⟨(show MT _ Any from ?_)⟩)
theorem wR (p_w:ak) : Tot (Q50 p_w) Any := by
  show MT (akB p_w) Any
  repeat' (first | exact MT.any | refine MT.say ?_ | refine MT.ite (fun _=>?_) (fun _=>?_) | refine MT.kK ?_ (fun _ _=>?_) | exact ⟨T.wk (wQ _)⟩ | exact ⟨T.wk (wP _)⟩ | exact ⟨T.wk (iJ _)⟩ | refine ⟨(show MT _ Any from ?_)⟩)
theorem yw (p_w:ak) : Tot (Q24 p_w) Any := by
  show MT (akC p_w) Any
  refine MT.ask (R := Any) ?_ ?_
  ·exact T.wk (qE p_w.aF)
  ·intro r269 h270 _
   refine MT.say (MT.ask (R := Any) ?_ ?_)
   ·show MT (QH p_w r269) Any
    refine MT.ite (fun c272=>?_) (fun c272=>?_)
    ·exact MT.say MT.any
    ·exact MT.say MT.any
   ·intro r274 h275 _
    refine MT.say (MT.ask (R := Any) ?_ ?_)
    ·show MT (QI r269 r274) Any
     refine MT.ite (fun c277=>?_) (fun c277=>?_)
     ·exact MT.say MT.any
     ·exact MT.say MT.any
    ·intro r279 h280 _
     refine MT.say (MT.ask (R := Any) ?_ ?_)
     ·show MT (JR r269 r279) Any
      refine MT.ite (fun c282=>?_) (fun c282=>?_)
      ·exact MT.say MT.any
      ·exact MT.say MT.any
     ·intro r284 h285 _
      refine MT.say (MT.ask (R := Any) ?_ ?_)
      ·show MT (JU r269 r284) Any
       refine MT.ite (fun c287=>?_) (fun c287=>?_)
       ·exact MT.say MT.any
       ·exact MT.say MT.any
      ·intro r289 h290 _
       refine MT.say (MT.ask (R := Any) ?_ ?_)
       ·show MT (JV r269 r289) Any
        refine MT.ite (fun c292=>?_) (fun c292=>?_)
        ·exact MT.say MT.any
        ·exact MT.say MT.any
       ·intro r294 h295 _
        refine MT.say (MT.ask (R := Any) ?_ ?_)
        ·show MT (JW r269 r294) Any
         refine MT.ite (fun c297=>?_) (fun c297=>?_)
         ·exact MT.say MT.any
         ·exact MT.say MT.any
        ·intro r299 h300 _
         refine MT.say (MT.ask (R := Any) ?_ ?_)
         ·show MT (JX r269 r299) Any
          refine MT.ite (fun c302=>?_) (fun c302=>?_)
          ·exact MT.say MT.any
          ·exact MT.say MT.any
         ·intro r304 h305 _
          refine MT.say (MT.ask (R := Any) ?_ ?_)
          ·show MT (JY r269 r304) Any
           refine MT.ite (fun c307=>?_) (fun c307=>?_)
           ·exact MT.say MT.any
           ·exact MT.say MT.any
          ·intro r309 h310 _
           refine MT.say (MT.ask (R := Any) ?_ ?_)
           ·show MT (JZ r269 r309) Any
            refine MT.ite (fun c312=>?_) (fun c312=>?_)
            ·exact MT.say MT.any
            ·exact MT.say MT.any
           ·intro r314 h315 _
            refine MT.say (MT.ask (R := Any) ?_ ?_)
            ·show MT (BQ r269 r314) Any
             refine MT.ite (fun c317=>?_) (fun c317=>?_)
             ·exact MT.say MT.any
             ·exact MT.say MT.any
            ·intro r319 h320 _
             refine MT.say (MT.ask (R := Any) ?_ ?_)
             ·exact T.wk (wR r319)
             ·intro r585 h586 _
              exact MT.say MT.any
theorem uh (p_w:ak) : Tot (aos p_w) Any := by
  show MT (adN p_w) Any
  repeat' (first | exact MT.any | refine MT.say ?_ | refine MT.ite (fun _=>?_) (fun _=>?_) | refine MT.kK ?_ (fun _ _=>?_) | refine ⟨(show MT _ Any from ?_)⟩)
theorem su (p_l:List Int) (h_p_l:aZ (p_l.map lfI) ≤ 100000000) : Tot (Q33 p_l) Any := by
  have := Iu p_l
  show MT (akD p_l) Any
  refine MT.say (MT.fG (R := Any) ?_ ?_ ?_)
  ·refine T.cnt (fun _=>True) ?_
   intro k1 hk1
   show MT (BR p_l ((k1:Nat) : Int)) _
   refine MT.ite (fun c752=>?_) (fun c752=>?_)
   ·have c752' := of_decide_eq_true c752
    refine MT.say (MT.ask (dV p_l ((k1:Nat) : Int) (by omega) (by omega)) (fun x753 _ hx2=>?_))
    refine MT.say (MT.ask (R := fun b_=>(b_ = true → True) ∧ (b_ = false → ¬ ((x753:Int) < 0) ∧ ¬ ((8:Int) ≤ x753) ∧ True)) ?_ ?_)
    ·show MT (QJ p_l ((k1:Nat) : Int) x753) _
     refine MT.ite (fun c755=>?_) (fun c755=>?_)
     ·have c755' := of_decide_eq_true c755
      exact MT.say (MT.ret ⟨(fun _=>trivial),(fun h_=>by cases h_)⟩)
     ·have c755' := of_decide_eq_false c755
      exact MT.say (MT.ret ⟨(fun _=>trivial),(fun h_=>⟨(by first | assumption | omega),(of_decide_eq_false h_),trivial⟩)⟩)
    ·intro r757 h758 f_r757
     refine MT.say (MT.ask (R := fun b_=>(b_ = true → True) ∧ (b_ = false → r757 = false ∧ True)) ?_ ?_)
     ·show MT (QK p_l r757 ((k1:Nat) : Int) x753) _
      refine MT.ite (fun c759=>?_) (fun c759=>?_)
      ·exact MT.say (MT.ret ⟨(fun _=>trivial),(fun h_=>by cases h_)⟩)
      ·have q3 := f_r757.2 (c759)
       refine MT.say (MT.ite (fun c760=>?_) (fun c760=>?_))
       ·have c760' := of_decide_eq_true c760
        refine MT.say (MT.ask (dV p_l (IntKind.wrap .i64 (((k1:Nat) : Int) - 1)) (by rw [w64 (by omega) (by omega)]; omega) (by rw [w64 (by omega) (by omega)]; omega)) (fun x761 _ hx4=>?_))
        exact MT.say (MT.ret ⟨(fun _=>trivial),(fun h_=>⟨(by first | assumption | omega),trivial⟩)⟩)
       ·have c760' := of_decide_eq_false c760
        exact MT.say (MT.ret ⟨(fun h_=>by cases h_),(fun h_=>⟨(by first | assumption | omega),trivial⟩)⟩)
     ·intro r764 h765 f_r764
      refine MT.say (MT.ite (fun c766=>?_) (fun c766=>?_))
      ·exact MT.say (MT.ret trivial)
      ·have q5 := f_r764.2 (c766)
       have q6 := f_r757.2 (q5.1)
       exact MT.say (MT.ret ⟨rfl,by omega⟩)
   ·have c752' := of_decide_eq_false c752
    exact MT.say (MT.ret trivial)
  ·intro o769 h768 _
   exact MT.say MT.any
  ·intro o770 h768 _
   exact MT.say MT.any
theorem rM (p_v:aj) (h_p_v:aQ p_v.lf1 ≤ 100000000) : Tot (Q86 p_v) Any := by
  have := dw p_v
  show MT (akE p_v) Any
  repeat' (first | exact MT.any | refine MT.say ?_ | refine MT.ite (fun _=>?_) (fun _=>?_) | refine MT.kK ?_ (fun _ _=>?_) | exact ⟨T.wk (gU _ (by first | omega | decide))⟩ | refine ⟨(show MT _ Any from ?_)⟩)
theorem Ba (p_x:Int) : Tot (aov p_x) Any := by
  show MT (adY p_x) Any
  repeat' (first | exact MT.any | refine MT.say ?_ | refine MT.ite (fun _=>?_) (fun _=>?_))
theorem jq (p_x:Int) (p_y:Int) : Tot (aow p_x p_y) Any := by
  show MT (adZ p_x p_y) Any
  repeat' (first | exact MT.any | refine MT.say ?_ | refine MT.ite (fun _=>?_) (fun _=>?_) | refine MT.kK ?_ (fun _ _=>?_) | exact ⟨T.wk (Ba _)⟩)
theorem yx (n_:Nat) : ∀ (p_a:aj) (p_b:aj),aQ p_a.lf1 < n_ → aQ p_a.lf1 ≤ 100000000 → aQ p_b.lf1 ≤ 100000000 → Tot ((xE n_).m1 p_a p_b) Any := by
  induction n_ with
  | zero=>intro p_a p_b h; omega
  | succ n_ ih =>
    intro p_a p_b h_ h_p_a h_p_b
    have := dw p_a
    have := ji p_a.aU
    have := iF p_a.aX
    have := dw p_b
    have := ji p_b.aU
    have := iF p_b.aX
    show MT (ad1 (xE n_) p_a p_b) Any
    refine MT.ite (fun c1664=>?_) (fun c1664=>?_)
    ·have c1664' : ¬ (p_a.aF = p_b.aF) := by simpa using c1664
     refine MT.say (MT.ask (R := Any) ?_ ?_)
     ·exact T.wk (jq p_a.aF p_b.aF )
     ·intro r1667 h1668 _
      exact MT.say MT.any
    ·have c1664' : p_a.aF = p_b.aF := by simpa using c1664
     refine MT.say (MT.ask (R := Any) ?_ ?_)
     ·show MT (Ri (xE n_) p_a p_b) Any
      refine MT.ite (fun c1867=>?_) (fun c1867=>?_)
      ·have c1867' : p_a.aF = 3 := by simpa using c1867
       exact MT.say MT.any
      ·have c1867' : ¬ (p_a.aF = 3) := by simpa using c1867
       refine MT.say (MT.ite (fun c1868=>?_) (fun c1868=>?_))
       ·have c1868' : p_a.aF = 9 := by simpa using c1868
        exact MT.say MT.any
       ·have c1868' : ¬ (p_a.aF = 9) := by simpa using c1868
        exact MT.say MT.any
     ·intro r1870 h1871 _
      refine MT.say (MT.ite (fun c1953=>?_) (fun c1953=>?_))
      ·refine MT.say (MT.ask (R := Any) ?_ ?_)
       ·exact T.wk (jq p_a.eU p_b.eU )
       ·intro r1956 h1957 _
        exact MT.say MT.any
      ·refine MT.say (MT.ask (R := Any) ?_ ?_)
       ·show MT (Rj (xE n_) p_a p_b) Any
        refine MT.ite (fun c1958=>?_) (fun c1958=>?_)
        ·have c1958' : p_a.aF = 4 := by simpa using c1958
         exact MT.say MT.any
        ·have c1958' : ¬ (p_a.aF = 4) := by simpa using c1958
         refine MT.say (MT.ite (fun c1959=>?_) (fun c1959=>?_))
         ·have c1959' : p_a.aF = 7 := by simpa using c1959
          exact MT.say MT.any
         ·have c1959' : ¬ (p_a.aF = 7) := by simpa using c1959
          exact MT.say MT.any
       ·intro r1961 h1962 _
        refine MT.say (MT.ite (fun c2036=>?_) (fun c2036=>?_))
        ·refine MT.say (MT.ask (R := Any) ?_ ?_)
         ·exact T.wk (T.val (U7 p_a.fText p_b.fText))
         ·intro r2039 h2040 _
          exact MT.say MT.any
        ·refine MT.say (MT.ite (fun c2111=>?_) (fun c2111=>?_))
         ·have c2111' : p_a.aF = 6 := by simpa using c2111
          refine MT.say (MT.fG (R := Any) ?_ ?_ ?_)
          ·refine T.cnt (fun _=>True) ?_
           intro k7 hk7
           show MT (BZ (xE n_) p_a p_b ((k7:Nat) : Int)) _
           refine MT.ite (fun c2121=>?_) (fun c2121=>?_)
           ·have c2121' := of_decide_eq_true c2121
            refine MT.say (MT.ask (dV p_a.aU ((k7:Nat) : Int) (by omega) (by omega)) (fun x2122 _ hx8=>?_))
            have := jT hx8
            have := dw x2122
            refine MT.say (MT.ask (dV p_b.aU ((k7:Nat) : Int) (by omega) (by omega)) (fun x2124 _ hx9=>?_))
            have := jT hx9
            have := dw x2124
            refine MT.say (MT.ask (R := Any) ?_ ?_)
            ·exact (ih x2122 x2124 (by omega) (by first | omega | (simp; done) | decide) (by first | omega | (simp; done) | decide))
            ·intro r2126 h2127 _
             refine MT.say (MT.ite (fun c2128=>?_) (fun c2128=>?_))
             ·have c2128' : ¬ (r2126 = 0) := by simpa using c2128
              exact MT.say (MT.ret trivial)
             ·have c2128' : r2126 = 0 := by simpa using c2128
              exact MT.say (MT.ret ⟨rfl,by omega⟩)
           ·have c2121' := of_decide_eq_false c2121
            exact MT.say (MT.ret trivial)
          ·intro o2134 h2133 _
           exact MT.say MT.any
          ·intro o2135 h2133 _
           refine MT.say (MT.ask (R := Any) ?_ ?_)
           ·exact T.wk (jq (p_a.aU.length:Int) (p_b.aU.length:Int) )
           ·intro r2138 h2139 _
            exact MT.say MT.any
         ·have c2111' : ¬ (p_a.aF = 6) := by simpa using c2111
          refine MT.say (MT.ite (fun c2183=>?_) (fun c2183=>?_))
          ·have c2183' : p_a.aF = 5 := by simpa using c2183
           refine MT.say (MT.fG (R := Any) ?_ ?_ ?_)
           ·refine T.cnt (fun _=>True) ?_
            intro k10 hk10
            show MT (Cb (xE n_) p_a p_b ((k10:Nat) : Int)) _
            refine MT.ite (fun c2200=>?_) (fun c2200=>?_)
            ·have c2200' := of_decide_eq_true c2200
             refine MT.say (MT.ask (dV p_a.aX ((k10:Nat) : Int) (by omega) (by omega)) (fun x2201 _ hx11=>?_))
             have := iC hx11
             have := fD x2201
             refine MT.say (MT.ask (dV p_b.aX ((k10:Nat) : Int) (by omega) (by omega)) (fun x2203 _ hx12=>?_))
             have := iC hx12
             have := fD x2203
             refine MT.say (MT.ask (R := Any) ?_ ?_)
             ·exact T.wk (T.val (U7 x2201.fName x2203.fName))
             ·intro r2205 h2206 _
              refine MT.say (MT.ite (fun c2207=>?_) (fun c2207=>?_))
              ·have c2207' : ¬ (r2205 = 0) := by simpa using c2207
               exact MT.say (MT.ret trivial)
              ·have c2207' : r2205 = 0 := by simpa using c2207
               refine MT.say (MT.ask (dV p_a.aX ((k10:Nat) : Int) (by omega) (by omega)) (fun x2208 _ hx13=>?_))
               have := iC hx13
               have := fD x2208
               have := dw x2208.fValue
               refine MT.say (MT.ask (dV p_b.aX ((k10:Nat) : Int) (by omega) (by omega)) (fun x2210 _ hx14=>?_))
               have := iC hx14
               have := fD x2210
               have := dw x2210.fValue
               refine MT.say (MT.ask (R := Any) ?_ ?_)
               ·exact (ih x2208.fValue x2210.fValue (by omega) (by first | omega | (simp; done) | decide) (by first | omega | (simp; done) | decide))
               ·intro r2212 h2213 _
                refine MT.say (MT.ite (fun c2214=>?_) (fun c2214=>?_))
                ·have c2214' : ¬ (r2212 = 0) := by simpa using c2214
                 exact MT.say (MT.ret trivial)
                ·have c2214' : r2212 = 0 := by simpa using c2214
                 exact MT.say (MT.ret ⟨rfl,by omega⟩)
            ·have c2200' := of_decide_eq_false c2200
             exact MT.say (MT.ret trivial)
           ·intro o2222 h2221 _
            exact MT.say MT.any
           ·intro o2223 h2221 _
            refine MT.say (MT.ask (R := Any) ?_ ?_)
            ·exact T.wk (jq (p_a.aX.length:Int) (p_b.aX.length:Int) )
            ·intro r2226 h2227 _
             exact MT.say MT.any
          ·have c2183' : ¬ (p_a.aF = 5) := by simpa using c2183
           exact MT.say MT.any
theorem Bc (p_a:aj) (p_b:aj) (h_p_a:aQ p_a.lf1 ≤ 100000000) (h_p_b:aQ p_b.lf1 ≤ 100000000) : Tot (Q17 p_a p_b) Any := yx FU p_a p_b (by have := jc; omega) h_p_a h_p_b
theorem Eh (p_a:aj) (p_b:aj) (h_p_a:aQ p_a.lf1 ≤ 100000000) (h_p_b:aQ p_b.lf1 ≤ 100000000) : Tot (amE p_a p_b) Any := by
  have := dw p_a
  have := dw p_b
  show MT (ad2 p_a p_b) Any
  repeat' (first | exact MT.any | refine MT.say ?_ | refine MT.ite (fun _=>?_) (fun _=>?_) | refine MT.kK ?_ (fun _ _=>?_) | exact ⟨T.wk (Bc _ _ (by first | omega | decide) (by first | omega | decide))⟩)
theorem Bd (n_:Nat) : ∀ (p_v:aj),aQ p_v.lf1 < n_ → aQ p_v.lf1 ≤ 100000000 → Tot ((tC n_).m1 p_v) Any := by
  induction n_ with
  | zero=>intro p_v h; omega
  | succ n_ ih =>
    intro p_v h_ h_p_v
    have := dw p_v
    have := ji p_v.aU
    have := iF p_v.aX
    show MT (ad4 (tC n_) p_v) Any
    refine MT.ask (R := Any) ?_ ?_
    ·show MT (KL (tC n_) p_v) Any
     refine MT.ask (R := Any) ?_ ?_
     ·show MT (Rk (tC n_) p_v) Any
      refine MT.ite (fun c2355=>?_) (fun c2355=>?_)
      ·have c2355' : p_v.aF = 3 := by simpa using c2355
       exact MT.say MT.any
      ·have c2355' : ¬ (p_v.aF = 3) := by simpa using c2355
       exact MT.say MT.any
     ·intro r2357 h2358 _
      refine MT.say (MT.ite (fun c2359=>?_) (fun c2359=>?_))
      ·refine MT.say (MT.ask (R := Any) ?_ ?_)
       ·exact T.wk (iI p_v.eU )
       ·intro r2360 h2361 _
        exact MT.say MT.any
      ·refine MT.say (MT.ite (fun c2362=>?_) (fun c2362=>?_))
       ·have c2362' : p_v.aF = 9 := by simpa using c2362
        exact MT.say MT.any
       ·have c2362' : ¬ (p_v.aF = 9) := by simpa using c2362
        refine MT.say (MT.ask (R := Any) ?_ ?_)
        ·show MT (Rl (tC n_) p_v) Any
         refine MT.ite (fun c2363=>?_) (fun c2363=>?_)
         ·have c2363' : p_v.aF = 4 := by simpa using c2363
          exact MT.say MT.any
         ·have c2363' : ¬ (p_v.aF = 4) := by simpa using c2363
          exact MT.say MT.any
        ·intro r2365 h2366 _
         refine MT.say (MT.ite (fun c2367=>?_) (fun c2367=>?_))
         ·refine MT.say (MT.ask (R := Any) ?_ ?_)
          ·exact T.wk (iI (p_v.fText.size:Int) )
          ·intro r2368 h2369 _
           exact MT.say MT.any
         ·refine MT.say (MT.ite (fun c2370=>?_) (fun c2370=>?_))
          ·have c2370' : p_v.aF = 8 := by simpa using c2370
           exact MT.say MT.any
          ·have c2370' : ¬ (p_v.aF = 8) := by simpa using c2370
           refine MT.say (MT.ite (fun c2371=>?_) (fun c2371=>?_))
           ·have c2371' : p_v.aF = 6 := by simpa using c2371
            refine MT.say (MT.ask (R := Any) ?_ ?_)
            ·exact T.wk (iI (p_v.aU.length:Int) )
            ·intro r2372 h2373 _
             refine MT.say (MT.ask (R := Any) ?_ ?_)
             ·refine T.apn (fun _=>True) ?_
              intro v2379 k15 hk15
              show MT (Cc (tC n_) p_v (v2379,((k15:Nat) : Int))) _
              refine MT.ite (fun c2381=>?_) (fun c2381=>?_)
              ·have c2381' := of_decide_eq_true c2381
               refine MT.say (MT.ask (dV p_v.aU ((k15:Nat) : Int) (by omega) (by omega)) (fun x2382 _ hx16=>?_))
               have := jT hx16
               have := dw x2382
               refine MT.say (MT.ask (R := Any) ?_ ?_)
               ·exact (ih x2382 (by omega) (by first | omega | (simp; done) | decide))
               ·intro r2384 h2385 _
                exact MT.say (MT.ret ⟨rfl,by omega⟩)
              ·have c2381' := of_decide_eq_false c2381
               exact MT.say (MT.ret trivial)
             ·intro r2387 h2388 _
              exact MT.say MT.any
           ·have c2371' : ¬ (p_v.aF = 6) := by simpa using c2371
            refine MT.say (MT.ite (fun c2389=>?_) (fun c2389=>?_))
            ·have c2389' : p_v.aF = 5 := by simpa using c2389
             refine MT.say (MT.ask (R := Any) ?_ ?_)
             ·exact T.wk (iI (p_v.aX.length:Int) )
             ·intro r2390 h2391 _
              refine MT.say (MT.ask (R := Any) ?_ ?_)
              ·refine T.apn (fun _=>True) ?_
               intro v2399 k17 hk17
               show MT (Ce (tC n_) p_v (v2399,((k17:Nat) : Int))) _
               refine MT.ite (fun c2401=>?_) (fun c2401=>?_)
               ·have c2401' := of_decide_eq_true c2401
                refine MT.say (MT.ask (dV p_v.aX ((k17:Nat) : Int) (by omega) (by omega)) (fun x2402 _ hx18=>?_))
                have := iC hx18
                have := fD x2402
                have := dw x2402.fValue
                refine MT.say (MT.ask (R := Any) ?_ ?_)
                ·exact T.wk (iI (x2402.fName.size:Int) )
                ·intro r2404 h2405 _
                 refine MT.say (MT.ask (R := Any) ?_ ?_)
                 ·exact (ih x2402.fValue (by omega) (by first | omega | (simp; done) | decide))
                 ·intro r2406 h2407 _
                  exact MT.say (MT.ret ⟨rfl,by omega⟩)
               ·have c2401' := of_decide_eq_false c2401
                exact MT.say (MT.ret trivial)
              ·intro r2409 h2410 _
               exact MT.say MT.any
            ·have c2389' : ¬ (p_v.aF = 5) := by simpa using c2389
             exact MT.say MT.any
    ·intro r2417 h2418 _
     exact MT.say MT.any
theorem Dp (p_v:aj) (h_p_v:aQ p_v.lf1 ≤ 100000000) : Tot (Q26 p_v) Any := Bd FU p_v (by have := jc; omega) h_p_v
theorem Dq (p_v:aj) (h_p_v:aQ p_v.lf1 ≤ 100000000) : Tot (aox p_v) Any := by
  have := dw p_v
  show MT (ad5 p_v) Any
  repeat' (first | exact MT.any | refine MT.say ?_ | refine MT.ite (fun _=>?_) (fun _=>?_) | refine MT.kK ?_ (fun _ _=>?_) | exact ⟨T.wk (Dp _ (by first | omega | decide))⟩ | exact ⟨T.wk (gU _ (by first | omega | decide))⟩)
theorem yA (p_doc:aj) (p_key:aj) (h_p_doc:aQ p_doc.lf1 ≤ 100000000) (h_p_key:aQ p_key.lf1 ≤ 100000000) : Tot (Q93 p_doc p_key) Any := by
  have := dw p_doc
  have := iF p_doc.aX
  have := dw p_key
  show MT (akG p_doc p_key) Any
  refine MT.ask (R := fun b_=>(b_ = true → True) ∧ (b_ = false → p_doc.aF = 5 ∧ True)) ?_ ?_
  ·show MT (Rn p_doc p_key) _
   refine MT.ite (fun c1625=>?_) (fun c1625=>?_)
   ·have c1625' : ¬ (p_doc.aF = 5) := by simpa using c1625
    exact MT.say (MT.ret ⟨(fun _=>trivial),(fun h_=>by cases h_)⟩)
   ·have c1625' : p_doc.aF = 5 := by simpa using c1625
    refine MT.say (MT.ask (R := Any) ?_ ?_)
    ·exact T.wk (gU p_doc (by first | omega | (simp; done) | decide))
    ·intro r1626 h1627 _
     exact MT.say (MT.ret ⟨(fun _=>trivial),(fun h_=>⟨(by first | assumption | omega),trivial⟩)⟩)
  ·intro r1629 h1630 f_r1629
   refine MT.say (MT.ask (R := fun b_=>(b_ = true → True) ∧ (b_ = false → r1629 = false ∧ ¬ ((p_doc.aX.length:Int) = 0) ∧ True)) ?_ ?_)
   ·show MT (Ro p_doc p_key r1629) _
    refine MT.ite (fun c1631=>?_) (fun c1631=>?_)
    ·exact MT.say (MT.ret ⟨(fun _=>trivial),(fun h_=>by cases h_)⟩)
    ·have q19 := f_r1629.2 (c1631)
     exact MT.say (MT.ret ⟨(fun _=>trivial),(fun h_=>⟨(by first | assumption | omega),(by simpa using h_),trivial⟩)⟩)
   ·intro r1633 h1634 f_r1633
    refine MT.say (MT.ite (fun c1636=>?_) (fun c1636=>?_))
    ·exact MT.say MT.any
    ·have q20 := f_r1633.2 (c1636)
     have q21 := f_r1629.2 (q20.1)
     refine MT.say (MT.ask (R := Any) ?_ ?_)
     ·show MT (KN p_doc p_key) Any
      refine MT.ask (dV p_doc.aX 0 (by omega) (by omega)) (fun x2232 _ hx22=>?_)
      have := iC hx22
      have := fD x2232
      refine MT.say (MT.ite (fun c2234=>?_) (fun c2234=>?_))
      ·exact MT.say MT.any
      ·refine MT.say (MT.ask (dV p_doc.aX 0 (by omega) (by omega)) (fun x2235 _ hx23 => ?_))
       have := iC hx23
       have := fD x2235
       have := dw x2235.fValue
       refine MT.say (MT.ask (R := Any) ?_ ?_)
       ·exact T.wk (Eh x2235.fValue p_key (by first | omega | (simp; done) | decide) (by first | omega | (simp; done) | decide))
       ·intro r2237 h2238 _
        exact MT.say MT.any
     ·intro r2242 h2243 _
      refine MT.say (MT.ite (fun c2245=>?_) (fun c2245=>?_))
      ·exact MT.say MT.any
      ·refine MT.say (MT.ask (R := Any) ?_ ?_)
       ·exact T.wk (Dq p_doc (by first | omega | (simp; done) | decide))
       ·intro r2423 h2424 _
        refine MT.say (MT.ite (fun c2426=>?_) (fun c2426=>?_))
        ·have c2426' : ¬ (r2423.2 = 0) := by simpa using c2426
         exact MT.say MT.any
        ·have c2426' : r2423.2 = 0 := by simpa using c2426
         refine MT.say (MT.ite (fun c2428=>?_) (fun c2428=>?_))
         ·have c2428' := of_decide_eq_true c2428
          exact MT.say MT.any
         ·have c2428' := of_decide_eq_false c2428
          exact MT.say MT.any
theorem wS (p_w:ak) (h_p_w:aQ p_w.lf1 ≤ 100000000) : Tot (Q58 p_w) Any := by
  have := kJ p_w
  have := dw p_w.iy
  have := dw p_w.aX
  have := dw p_w.dJ
  show MT (akH p_w) Any
  repeat' (first | exact MT.any | refine MT.say ?_ | refine MT.ite (fun _=>?_) (fun _=>?_) | refine MT.kK ?_ (fun _ _=>?_) | refine MT.aly ?_ (fun _ _=>?_) (fun _ _=>?_) | exact ⟨T.wk (rM _ (by first | omega | decide))⟩ | exact ⟨T.wk (yA _ _ (by first | omega | decide) (by first | omega | decide))⟩ | exact ⟨T.wk (iJ _)⟩ | refine ⟨(show MT _ Any from ?_)⟩)
theorem qF (p_s1:List ByteArray) (p_s2:List ByteArray) (h_p_s1:aZ (p_s1.map lfS) ≤ 100000000) (h_p_s2:aZ (p_s2.map lfS) ≤ 100000000) : Tot (Q43 p_s1 p_s2) Any := by
  have := kZ p_s1
  have := kZ p_s2
  show MT (akM p_s1 p_s2) Any
  refine MT.say (MT.ite (fun c2833=>?_) (fun c2833=>?_))
  ·have c2833' : ¬ ((p_s1.length : Int) = (p_s2.length : Int)) := by simpa using c2833
   exact MT.say MT.any
  ·have c2833' : (p_s1.length : Int) = (p_s2.length : Int) := by simpa using c2833
   refine MT.say (MT.fG (R := Any) ?_ ?_ ?_)
   ·refine T.cnt (fun _=>True) ?_
    intro k24 hk24
    show MT (F8 p_s1 p_s2 ((k24:Nat) : Int)) _
    refine MT.ite (fun c2869=>?_) (fun c2869=>?_)
    ·have c2869' := of_decide_eq_true c2869
     refine MT.say (MT.ask (dV p_s1 ((k24:Nat) : Int) (by omega) (by omega)) (fun x2870 _ hx25=>?_))
     have := EM hx25
     refine MT.say (MT.ask (dV p_s2 ((k24:Nat) : Int) (by omega) (by omega)) (fun x2872 _ hx26=>?_))
     have := EM hx26
     refine MT.say (MT.ite (fun c2874=>?_) (fun c2874=>?_))
     ·exact MT.say (MT.ret trivial)
     ·exact MT.say (MT.ret ⟨rfl,by omega⟩)
    ·have c2869' := of_decide_eq_false c2869
     exact MT.say (MT.ret trivial)
   ·intro o2877 h2876 _
    exact MT.say MT.any
   ·intro o2878 h2876 _
    exact MT.say MT.any
theorem Ei (p_l:List aV) (h_p_l:aZ (p_l.map aV.lf) ≤ 100000000) : Tot (Q31 p_l) Any := by
  have := oI p_l
  show MT (akN p_l) Any
  refine MT.say (MT.ite (fun c2811=>?_) (fun c2811=>?_))
  ·have c2811' := of_decide_eq_true c2811
   exact MT.say MT.any
  ·have c2811' := of_decide_eq_false c2811
   refine MT.say (MT.fG (R := Any) ?_ ?_ ?_)
   ·refine T.cnt (fun _=>True) ?_
    intro k27 hk27
    have := gZ aV.lf p_l (((k27:Nat) : Int).toNat)
    have := oI (p_l.take ((k27:Nat) : Int).toNat)
    show MT (Gf p_l ((k27:Nat) : Int)) _
    refine MT.ite (fun c2996=>?_) (fun c2996=>?_)
    ·have c2996' := of_decide_eq_true c2996
     refine MT.say (MT.ask (dV p_l ((k27:Nat) : Int) (by omega) (by omega)) (fun x2997 _ hx28=>?_))
     have := Di hx28
     have := lH x2997
     have := kZ x2997.dh
     refine MT.say (MT.ask (R := Any) ?_ ?_)
     ·exact T.wk (T.val (qC x2997.dh))
     ·intro r2999 h3000 _
      refine MT.say (MT.ite (fun c3001=>?_) (fun c3001=>?_))
      ·exact MT.say (MT.ret trivial)
      ·refine MT.say (MT.grd (by omega) (fun _ => ?_))
       refine MT.say (MT.fG (R := Any) ?_ ?_ ?_)
       ·refine T.cnt (fun _=>True) ?_
        intro k29 hk29
        have := gZ aV.lf p_l (((k27:Nat) : Int).toNat)
        have := oI (p_l.take ((k27:Nat) : Int).toNat)
        show MT (F9 p_l ((k27:Nat) : Int) x2997 ((k29:Nat) : Int)) _
        refine MT.ite (fun c3010=>?_) (fun c3010=>?_)
        ·have c3010' := of_decide_eq_true c3010
         refine MT.say (MT.ask (dV (p_l.take ((k27:Nat) : Int).toNat) ((k29:Nat) : Int) (by omega) (by omega)) (fun x3011 _ hx30=>?_))
         have := gZ aV.lf p_l (((k27:Nat) : Int).toNat)
         have := Di hx30
         have := lH x3011
         have := kZ x3011.dh
         refine MT.say (MT.ask (R := Any) ?_ ?_)
         ·exact T.wk (qF x3011.dh x2997.dh (by first | omega | (simp; done) | decide) (by first | omega | (simp; done) | decide))
         ·intro r3013 h3014 _
          refine MT.say (MT.ite (fun c3015=>?_) (fun c3015=>?_))
          ·exact MT.say (MT.ret trivial)
          ·exact MT.say (MT.ret ⟨rfl,by omega⟩)
        ·have c3010' := of_decide_eq_false c3010
         exact MT.say (MT.ret trivial)
       ·intro o3018 h3017 _
        exact MT.say (MT.ret trivial)
       ·intro o3019 h3017 _
        exact MT.say (MT.ret ⟨rfl,by omega⟩)
    ·have c2996' := of_decide_eq_false c2996
     exact MT.say (MT.ret trivial)
   ·intro o3023 h3022 _
    exact MT.say MT.any
   ·intro o3024 h3022 _
    exact MT.say MT.any
theorem wU (n_:Nat) : ∀ (p_p:aC) (p_level:Int) (p_b0:Int),aQ p_p.lf1 < n_ → aQ p_p.lf1 ≤ 100000000 → Tot ((DN n_).m1 p_p p_level p_b0) Any := by
  induction n_ with
  | zero=>intro p_p p_level p_b0 h; omega
  | succ n_ ih =>
    intro p_p p_level p_b0 h_ h_p_p
    have := jf p_p
    have := wJ p_p.bW
    show MT (aed (DN n_) p_p p_level p_b0) Any
    refine MT.ask (R := fun b_=>(b_ = true → True) ∧ (b_ = false → ¬ ((16:Int) < p_level) ∧ ¬ (p_b0 = 256) ∧ True)) ?_ ?_
    ·show MT (RS (DN n_) p_b0 p_level p_p) _
     refine MT.ite (fun c3050=>?_) (fun c3050=>?_)
     ·have c3050' := of_decide_eq_true c3050
      exact MT.say (MT.ret ⟨(fun _=>trivial),(fun h_=>by cases h_)⟩)
     ·have c3050' := of_decide_eq_false c3050
      exact MT.say (MT.ret ⟨(fun _=>trivial),(fun h_=>⟨(by first | assumption | omega),(by simpa using h_),trivial⟩)⟩)
    ·intro r3052 h3053 f_r3052
     refine MT.say (MT.ite (fun c3055=>?_) (fun c3055=>?_))
     ·exact MT.say MT.any
     ·have q31 := f_r3052.2 (c3055)
      refine MT.say (MT.fG (R := Any) ?_ ?_ ?_)
      ·refine T.Ja (fun _=>True) ?_
       intro k32 v3094 hk32
       show MT (Gg (DN n_) p_level p_p (((k32:Nat) : Int),v3094)) _
       refine MT.ite (fun c3095=>?_) (fun c3095=>?_)
       ·have c3095' := of_decide_eq_true c3095
        refine MT.say (MT.ask (dV p_p.bW ((k32:Nat) : Int) (by omega) (by omega)) (fun x3096 _ hx33=>?_))
        have := UK hx33
        have := jf x3096
        refine MT.say (MT.ask (R := Any) ?_ ?_)
        ·exact (ih x3096 (IntKind.wrap .i64 (p_level + 1)) v3094 (by omega) (by first | omega | (simp; done) | decide))
        ·intro r3098 h3099 _
         refine MT.say (MT.ite (fun c3100=>?_) (fun c3100=>?_))
         ·exact MT.say (MT.ret trivial)
         ·exact MT.say (MT.ret ⟨rfl,by omega⟩)
       ·have c3095' := of_decide_eq_false c3095
        exact MT.say (MT.ret trivial)
      ·intro o3105 h3104 _
       exact MT.say MT.any
      ·intro o3106 h3104 _
       exact MT.say MT.any
theorem yB (p_p:aC) (p_level:Int) (p_b0:Int) (h_p_p:aQ p_p.lf1 ≤ 100000000) : Tot (Q40 p_p p_level p_b0) Any := wU FU p_p p_level p_b0 (by have := jc; omega) h_p_p
theorem sD (p_op:Int) (p_n:Int) : Tot (aoy p_op p_n) Any := by
  show MT (aee p_op p_n) Any
  repeat' (first | exact MT.any | refine MT.say ?_ | refine MT.ite (fun _=>?_) (fun _=>?_) | refine MT.kK ?_ (fun _ _=>?_) | refine ⟨(show MT _ Any from ?_)⟩)
theorem jI (p_op:Int) : Tot (aoz p_op) Any := by
  show MT (aef p_op) Any
  repeat' (first | exact MT.any | refine MT.say ?_ | refine MT.ite (fun _=>?_) (fun _=>?_))
theorem sF (p_p:aC) (h_p_p:aQ p_p.lf1 ≤ 100000000) : Tot (Q82 p_p) Any := by
  have := jf p_p
  show MT (akO p_p) Any
  repeat' (first | exact MT.any | refine MT.say ?_ | refine MT.ite (fun _=>?_) (fun _=>?_) | refine MT.kK ?_ (fun _ _=>?_) | refine ⟨(show MT _ Any from ?_)⟩)
theorem nG (p_op:Int) : Tot (aoA p_op) Any := by
  show MT (aei p_op) Any
  repeat' (first | exact MT.any | refine MT.say ?_ | refine MT.ite (fun _=>?_) (fun _=>?_))
theorem mg (p_op:Int) : Tot (aoB p_op) Any := by
  show MT (aej p_op) Any
  repeat' (first | exact MT.any | refine MT.say ?_ | refine MT.ite (fun _=>?_) (fun _=>?_))
theorem mD (p_op:Int) : Tot (aoC p_op) Any := by
  show MT (aek p_op) Any
  repeat' (first | exact MT.any | refine MT.say ?_ | refine MT.ite (fun _=>?_) (fun _=>?_) | refine MT.kK ?_ (fun _ _=>?_) | exact ⟨T.wk (mg _)⟩)
theorem nH (p_n:Int) : Tot (aoD p_n) Any := by
  show MT (ael p_n) Any
  repeat' (first | exact MT.any | refine MT.say ?_ | refine MT.ite (fun _=>?_) (fun _=>?_))
theorem Ej (p_p:bG) (h_p_p:aQ p_p.lf1 ≤ 100000000) : Tot (aoE p_p) Any := by
  have := mM p_p
  show MT (aem p_p) Any
  repeat' (first | exact MT.any | refine MT.say ?_ | refine MT.ite (fun _=>?_) (fun _=>?_) | refine MT.kK ?_ (fun _ _=>?_) | exact ⟨T.wk (nH _)⟩)
theorem Jf (p_s:fA) (h_p_s:aQ p_s.lf1 ≤ 100000000) : Tot (Q59 p_s) Any := by
  have := oG p_s
  have := Iq p_s.dB
  show MT (akP p_s) Any
  refine MT.say (MT.ask (R := Any) ?_ ?_)
  ·show MT (RX p_s) Any
   refine MT.ite (fun c3440=>?_) (fun c3440=>?_)
   ·have c3440' : p_s.aF = 1 := by simpa using c3440
    refine MT.say (MT.ite (fun c3441=>?_) (fun c3441=>?_))
    ·have c3441' : (p_s.dB.length : Int) = 2 := by simpa using c3441
     exact MT.say MT.any
    ·have c3441' : ¬ ((p_s.dB.length : Int) = 2) := by simpa using c3441
     exact MT.say MT.any
   ·have c3440' : ¬ (p_s.aF = 1) := by simpa using c3440
    refine MT.say (MT.ite (fun c3442=>?_) (fun c3442=>?_))
    ·have c3442' : p_s.aF = 2 := by simpa using c3442
     refine MT.say (MT.ite (fun c3443=>?_) (fun c3443=>?_))
     ·have c3443' : (p_s.dB.length : Int) = 1 := by simpa using c3443
      refine MT.say (MT.ask (R := Any) ?_ ?_)
      ·exact T.wk (nH p_s.fR )
      ·intro r3444 h3445 _
       exact MT.say MT.any
     ·have c3443' : ¬ ((p_s.dB.length : Int) = 1) := by simpa using c3443
      exact MT.say MT.any
    ·have c3442' : ¬ (p_s.aF = 2) := by simpa using c3442
     refine MT.say (MT.ite (fun c3446=>?_) (fun c3446=>?_))
     ·have c3446' : p_s.aF = 3 := by simpa using c3446
      refine MT.say (MT.ite (fun c3447=>?_) (fun c3447=>?_))
      ·have c3447' := of_decide_eq_true c3447
       refine MT.say (MT.ite (fun c3448=>?_) (fun c3448=>?_))
       ·have c3448' := of_decide_eq_true c3448
        exact MT.say MT.any
       ·have c3448' := of_decide_eq_false c3448
        exact MT.say MT.any
      ·have c3447' := of_decide_eq_false c3447
       exact MT.say MT.any
     ·have c3446' : ¬ (p_s.aF = 3) := by simpa using c3446
      exact MT.say MT.any
  ·intro r3450 h3451 _
   refine MT.say (MT.ite (fun c3453=>?_) (fun c3453=>?_))
   ·exact MT.say MT.any
   ·refine MT.say (MT.fG (R := Any) ?_ ?_ ?_)
    ·refine T.cnt (fun _=>True) ?_
     intro k34 hk34
     show MT (Gi p_s ((k34:Nat) : Int)) _
     refine MT.ite (fun c3494=>?_) (fun c3494=>?_)
     ·have c3494' := of_decide_eq_true c3494
      refine MT.say (MT.ask (dV p_s.dB ((k34:Nat) : Int) (by omega) (by omega)) (fun x3495 _ hx35=>?_))
      have := mM x3495
      refine MT.say (MT.ask (R := Any) ?_ ?_)
      ·exact T.wk (Ej x3495 (by first | omega | (simp; done) | decide))
      ·intro r3497 h3498 _
       refine MT.say (MT.ite (fun c3499=>?_) (fun c3499=>?_))
       ·exact MT.say (MT.ret trivial)
       ·exact MT.say (MT.ret ⟨rfl,by omega⟩)
     ·have c3494' := of_decide_eq_false c3494
      exact MT.say (MT.ret trivial)
    ·intro o3502 h3501 _
     exact MT.say MT.any
    ·intro o3503 h3501 _
     exact MT.say MT.any
theorem nI (p_v:aj) : Tot (Q77 p_v) Any := by
  show MT (akQ p_v) Any
  repeat' (first | exact MT.any | refine MT.say ?_ | refine MT.ite (fun _=>?_) (fun _=>?_) | refine MT.kK ?_ (fun _ _=>?_) | refine ⟨(show MT _ Any from ?_)⟩)
theorem wV (p_op:Int) : Tot (aoF p_op) Any := by
  show MT (aes p_op) Any
  repeat' (first | exact MT.any | refine MT.say ?_ | refine MT.ite (fun _=>?_) (fun _=>?_) | refine MT.kK ?_ (fun _ _=>?_) | refine ⟨(show MT _ Any from ?_)⟩)
theorem pU (p_e:aG) : Tot (Q56 p_e) Any := by
  show MT (akR p_e) Any
  repeat' (first | exact MT.any | refine MT.say ?_ | refine MT.ite (fun _=>?_) (fun _=>?_) | refine MT.kK ?_ (fun _ _=>?_) | exact ⟨T.wk (nI _)⟩ | refine ⟨(show MT _ Any from ?_)⟩)
theorem wW (p_p:aC) : Tot (Q29 p_p) Any := by
  show MT (akS p_p) Any
  repeat' (first | exact MT.any | refine MT.say ?_ | refine MT.ite (fun _=>?_) (fun _=>?_) | refine MT.kK ?_ (fun _ _=>?_) | refine MT.aly ?_ (fun _ _=>?_) (fun _ _=>?_) | exact ⟨T.wk (nI _)⟩ | exact ⟨T.wk (pU _)⟩ | exact ⟨T.wk (nG _)⟩ | exact ⟨T.wk (mD _)⟩ | exact ⟨T.wk (jI _)⟩ | exact ⟨T.wk (wV _)⟩ | refine ⟨(show MT _ Any from ?_)⟩)
theorem IC (p_op:Int) : Tot (amT p_op) Any := by
  show MT (aey p_op) Any
  repeat' (first | exact MT.any | refine MT.say ?_ | refine MT.ite (fun _=>?_) (fun _=>?_) | refine MT.kK ?_ (fun _ _=>?_) | refine ⟨(show MT _ Any from ?_)⟩)
theorem Dt (p_shape:Int) (p_n:Int) : Tot (amU p_shape p_n) Any := by
  show MT (aez p_shape p_n) Any
  repeat' (first | exact MT.any | refine MT.say ?_ | refine MT.ite (fun _=>?_) (fun _=>?_) | refine MT.kK ?_ (fun _ _=>?_) | refine ⟨(show MT _ Any from ?_)⟩)
theorem rV (p_s:ByteArray) (h_p_s:p_s.size ≤ 100000000) : Tot (aoG p_s) Any := by
  show MT (aeA p_s) Any
  repeat' (first | exact MT.any | refine MT.say ?_ | refine MT.ite (fun _=>?_) (fun _=>?_) | refine MT.kK ?_ (fun _ _=>?_) | exact ⟨T.wk (T.val (qC _))⟩)
theorem rO (p_l:List ByteArray) (h_p_l:aZ (p_l.map lfS) ≤ 100000000) : Tot (Q38 p_l) Any := by
  have := kZ p_l
  show MT (akT p_l) Any
  refine MT.say (MT.fG (R := Any) ?_ ?_ ?_)
  ·refine T.an2 (fun _=>True) ?_
   intro k36 m4094 hk36 hmk36
   show MT (Gj p_l (((k36:Nat) : Int),m4094)) _
   refine MT.ite (fun c4095=>?_) (fun c4095=>?_)
   ·have c4095' := of_decide_eq_true c4095
    refine MT.say (MT.ask (dV p_l ((k36:Nat) : Int) (by omega) (by omega)) (fun x4096 _ hx37=>?_))
    have := EM hx37
    refine MT.say (MT.ask (R := Any) ?_ ?_)
    ·show MT (Si m4094 p_l ((k36:Nat) : Int) x4096) Any
     refine MT.ask (R := Any) ?_ ?_
     ·exact T.wk (rV x4096 (by first | omega | (simp; done) | decide))
     ·intro r4098 h4099 _
      refine MT.say (MT.ite (fun c4100=>?_) (fun c4100=>?_))
      ·exact MT.say MT.any
      ·exact MT.say MT.any
    ·intro r4102 h4103 _
     refine MT.say (MT.ite (fun c4104=>?_) (fun c4104=>?_))
     ·exact MT.say (MT.ret trivial)
     ·refine MT.say (MT.grd (by unfold maxLen; omega) (fun _ => ?_))
      exact MT.say (MT.ret ⟨rfl,by first | omega | (simp only [List.length_cons]; omega),by omega⟩)
   ·have c4095' := of_decide_eq_false c4095
    exact MT.say (MT.ret trivial)
  ·intro o4108 h4107 _
   exact MT.say MT.any
  ·intro o4109 h4107 _
   exact MT.say MT.any
theorem Em (p_v:aj) : Tot (aoH p_v) Any := by
  show MT (aeC p_v) Any
  repeat' (first | exact MT.any | refine MT.say ?_ | refine MT.ite (fun _=>?_) (fun _=>?_) | refine MT.kK ?_ (fun _ _=>?_) | refine ⟨(show MT _ Any from ?_)⟩)
theorem yC (p_e:aG) (h_p_e:aQ p_e.lf1 ≤ 100000000) : Tot (Q47 p_e) Any := by
  have := kU p_e
  have := kZ p_e.dh
  have := kZ p_e.fB
  have := dw p_e.fArg
  have := Df p_e.bW
  show MT (akU p_e) Any
  repeat' (first | exact MT.any | refine MT.say ?_ | refine MT.ite (fun _=>?_) (fun _=>?_) | refine MT.kK ?_ (fun _ _=>?_) | exact ⟨T.wk (rO _ (by first | omega | decide))⟩ | exact ⟨T.wk (Dt _ _)⟩ | exact ⟨T.wk (rV _ (by first | omega | decide))⟩ | exact ⟨T.wk (Em _)⟩ | exact ⟨T.wk (IC _)⟩ | exact ⟨T.wk (T.val (qC _))⟩ | exact ⟨T.wk (gU _ (by first | omega | decide))⟩ | refine ⟨(show MT _ Any from ?_)⟩)
theorem En (n_:Nat) : ∀ (p_e:aG) (p_level:Int) (p_b0:Int),aQ p_e.lf1 < n_ → aQ p_e.lf1 ≤ 100000000 → Tot ((DR n_).m1 p_e p_level p_b0) Any := by
  induction n_ with
  | zero=>intro p_e p_level p_b0 h; omega
  | succ n_ ih =>
    intro p_e p_level p_b0 h_ h_p_e
    have := kU p_e
    have := Df p_e.bW
    show MT (aeG (DR n_) p_e p_level p_b0) Any
    refine MT.ask (R := fun b_=>(b_ = true → True) ∧ (b_ = false → ¬ ((16:Int) < p_level) ∧ ¬ (p_b0 = 256) ∧ True)) ?_ ?_
    ·show MT (Sm (DR n_) p_b0 p_e p_level) _
     refine MT.ite (fun c3727=>?_) (fun c3727=>?_)
     ·have c3727' := of_decide_eq_true c3727
      exact MT.say (MT.ret ⟨(fun _=>trivial),(fun h_=>by cases h_)⟩)
     ·have c3727' := of_decide_eq_false c3727
      exact MT.say (MT.ret ⟨(fun _=>trivial),(fun h_=>⟨(by first | assumption | omega),(by simpa using h_),trivial⟩)⟩)
    ·intro r3729 h3730 f_r3729
     refine MT.say (MT.ite (fun c3732=>?_) (fun c3732=>?_))
     ·exact MT.say MT.any
     ·have q38 := f_r3729.2 (c3732)
      refine MT.say (MT.ask (R := Any) ?_ ?_)
      ·exact T.wk (yC p_e (by first | omega | (simp; done) | decide))
      ·intro r4219 h4220 _
       refine MT.say (MT.ite (fun c4222=>?_) (fun c4222=>?_))
       ·have c4222' : ¬ (r4219 = 0) := by simpa using c4222
        exact MT.say MT.any
       ·have c4222' : r4219 = 0 := by simpa using c4222
        refine MT.say (MT.fG (R := Any) ?_ ?_ ?_)
        ·refine T.Ja (fun _=>True) ?_
         intro k39 v4262 hk39
         show MT (Gl (DR n_) p_e p_level (((k39:Nat) : Int),v4262)) _
         refine MT.ite (fun c4263=>?_) (fun c4263=>?_)
         ·have c4263' := of_decide_eq_true c4263
          refine MT.say (MT.ask (dV p_e.bW ((k39:Nat) : Int) (by omega) (by omega)) (fun x4264 _ hx40=>?_))
          have := ahm hx40
          have := kU x4264
          refine MT.say (MT.ask (R := Any) ?_ ?_)
          ·exact (ih x4264 (IntKind.wrap .i64 (p_level + 1)) v4262 (by omega) (by first | omega | (simp; done) | decide))
          ·intro r4266 h4267 _
           refine MT.say (MT.ite (fun c4268=>?_) (fun c4268=>?_))
           ·have c4268' : ¬ (r4266.1 = 0) := by simpa using c4268
            exact MT.say (MT.ret trivial)
           ·have c4268' : r4266.1 = 0 := by simpa using c4268
            exact MT.say (MT.ret ⟨rfl,by omega⟩)
         ·have c4263' := of_decide_eq_false c4263
          exact MT.say (MT.ret trivial)
        ·intro o4274 h4273 _
         exact MT.say MT.any
        ·intro o4275 h4273 _
         exact MT.say MT.any
theorem IE (p_e:aG) (p_level:Int) (p_b0:Int) (h_p_e:aQ p_e.lf1 ≤ 100000000) : Tot (Q53 p_e p_level p_b0) Any := En FU p_e p_level p_b0 (by have := jc; omega) h_p_e
theorem IG (p_e:aG) (h_p_e:aQ p_e.lf1 ≤ 100000000) : Tot (aoI p_e) Any := by
  have := kU p_e
  show MT (aeH p_e) Any
  repeat' (first | exact MT.any | refine MT.say ?_ | refine MT.ite (fun _=>?_) (fun _=>?_) | refine MT.kK ?_ (fun _ _=>?_) | exact ⟨T.wk (IE _ _ _ (by first | omega | decide))⟩)
theorem qG (p_p:aC) (p_inside:Bool) (h_p_p:aQ p_p.lf1 ≤ 100000000) : Tot (Q0 p_p p_inside) Any := by
  have := jf p_p
  have := kZ p_p.dh
  have := dw p_p.fArg
  have := ji p_p.fArgs
  have := oG p_p.dH
  have := kU p_p.fExpr
  have := wJ p_p.bW
  show MT (aoJ p_p p_inside) Any
  refine MT.ask (R := fun b_=>(b_ = true → True) ∧ (b_ = false → ¬ ((p_p.fOp:Int) < 1) ∧ ¬ ((24:Int) < p_p.fOp) ∧ True)) ?_ ?_
  ·show MT (Yt p_inside p_p) _
   refine MT.ite (fun c3156=>?_) (fun c3156=>?_)
   ·have c3156' := of_decide_eq_true c3156
    exact MT.say (MT.ret ⟨(fun _=>trivial),(fun h_=>by cases h_)⟩)
   ·have c3156' := of_decide_eq_false c3156
    exact MT.say (MT.ret ⟨(fun _=>trivial),(fun h_=>⟨(by first | assumption | omega),(of_decide_eq_false h_),trivial⟩)⟩)
  ·intro r3158 h3159 f_r3158
   refine MT.say (MT.ask (R := fun b_=>(b_ = true → True) ∧ (b_ = false → r3158 = false ∧ True)) ?_ ?_)
   ·show MT (Yu p_inside p_p r3158) _
    refine MT.ite (fun c3160=>?_) (fun c3160=>?_)
    ·exact MT.say (MT.ret ⟨(fun _=>trivial),(fun h_=>by cases h_)⟩)
    ·have q41 := f_r3158.2 (c3160)
     refine MT.say (MT.ask (R := Any) ?_ ?_)
     ·exact T.wk (sD p_p.fOp (p_p.bW.length:Int) )
     ·intro r3161 h3162 _
      exact MT.say (MT.ret ⟨(fun _=>trivial),(fun h_=>⟨(by first | assumption | omega),trivial⟩)⟩)
   ·intro r3164 h3165 f_r3164
    refine MT.say (MT.ite (fun c3167=>?_) (fun c3167=>?_))
    ·exact MT.say MT.any
    ·have q42 := f_r3164.2 (c3167)
     have q43 := f_r3158.2 (q42.1)
     refine MT.say (MT.ask (R := fun b_=>(b_ = true → (p_p.fArgs.length:Int) = 0 ∧ True) ∧ (b_ = false → True)) ?_ ?_)
     ·show MT (Sz p_inside p_p) _
      refine MT.ask (R := Any) ?_ ?_
      ·exact T.wk (jI p_p.fOp )
      ·intro r3291 h3292 _
       refine MT.say (MT.ite (fun c3293=>?_) (fun c3293=>?_))
       ·exact MT.say (MT.ret ⟨(fun h_=>⟨(by simpa using h_),trivial⟩),(fun _=>trivial)⟩)
       ·exact MT.say (MT.ret ⟨(fun h_=>by cases h_),(fun _=>trivial)⟩)
     ·intro r3295 h3296 f_r3295
      refine MT.say (MT.ask (R := fun b_=>(b_ = true → True) ∧ (b_ = false → r3295 = false ∧ True)) ?_ ?_)
      ·show MT (SA p_inside p_p r3295) _
       refine MT.ite (fun c3297=>?_) (fun c3297=>?_)
       ·have q44 := f_r3295.1 (c3297)
        exact MT.say (MT.ret ⟨(fun _=>trivial),(fun h_=>by cases h_)⟩)
       ·refine MT.say (MT.ask (R := Any) ?_ ?_)
        ·exact T.wk (sF p_p (by first | omega | (simp; done) | decide))
        ·intro r3298 h3299 _
         exact MT.say (MT.ret ⟨(fun _=>trivial),(fun h_=>⟨(by first | assumption | omega),trivial⟩)⟩)
      ·intro r3301 h3302 f_r3301
       refine MT.say (MT.ite (fun c3304=>?_) (fun c3304=>?_))
       ·exact MT.say MT.any
       ·have q45 := f_r3301.2 (c3304)
        refine MT.say (MT.ask (R := Any) ?_ ?_)
        ·show MT (SB p_inside p_p) Any
         refine MT.ask (R := Any) ?_ ?_
         ·exact T.wk (nG p_p.fOp )
         ·intro r3319 h3320 _
          refine MT.say (MT.ite (fun c3321=>?_) (fun c3321=>?_))
          ·refine MT.say (MT.ask (R := Any) ?_ ?_)
           ·exact T.wk (T.val (qC p_p.dh))
           ·intro r3322 h3323 _
            exact MT.say MT.any
          ·exact MT.say MT.any
        ·intro r3325 h3326 _
         refine MT.say (MT.ask (R := fun b_=>(b_ = true → r3325 = true ∧ True) ∧ (b_ = false → True)) ?_ ?_)
         ·show MT (SC p_inside p_p r3325) _
          refine MT.ite (fun c3327=>?_) (fun c3327=>?_)
          ·refine MT.say (MT.ite (fun c3328=>?_) (fun c3328=>?_))
           ·exact MT.say (MT.ret ⟨(fun h_=>⟨(by first | assumption | omega),trivial⟩),(fun h_=>by cases h_)⟩)
           ·exact MT.say (MT.ret ⟨(fun h_=>⟨(by first | assumption | omega),trivial⟩),(fun _=>trivial)⟩)
          ·exact MT.say (MT.ret ⟨(fun h_=>by cases h_),(fun _=>trivial)⟩)
         ·intro r3330 h3331 f_r3330
          refine MT.say (MT.ite (fun c3333=>?_) (fun c3333=>?_))
          ·have q46 := f_r3330.1 (c3333)
           exact MT.say MT.any
          ·refine MT.say (MT.ask (R := Any) ?_ ?_)
           ·show MT (SE p_p) Any
            refine MT.ask (R := Any) ?_ ?_
            ·exact T.wk (mD p_p.fOp )
            ·intro r3357 h3358 _
             refine MT.say (MT.ite (fun c3359=>?_) (fun c3359=>?_))
             ·refine MT.say (MT.ask (R := Any) ?_ ?_)
              ·exact T.wk (gU p_p.fArg (by first | omega | (simp; done) | decide))
              ·intro r3360 h3361 _
               exact MT.say MT.any
             ·exact MT.say MT.any
           ·intro r3363 h3364 _
            refine MT.say (MT.ask (R := fun b_=>(b_ = true → True) ∧ (b_ = false → r3363 = false ∧ True)) ?_ ?_)
            ·show MT (SG p_p r3363) _
             refine MT.ite (fun c3365=>?_) (fun c3365=>?_)
             ·exact MT.say (MT.ret ⟨(fun _=>trivial),(fun h_=>by cases h_)⟩)
             ·refine MT.say (MT.ask (R := Any) ?_ ?_)
              ·exact T.wk (mg p_p.fOp )
              ·intro r3366 h3367 _
               refine MT.say (MT.ite (fun c3368=>?_) (fun c3368=>?_))
               ·exact MT.say (MT.ret ⟨(fun _=>trivial),(fun h_=>⟨(by first | assumption | omega),trivial⟩)⟩)
               ·exact MT.say (MT.ret ⟨(fun h_=>by cases h_),(fun h_=>⟨(by first | assumption | omega),trivial⟩)⟩)
            ·intro r3370 h3371 f_r3370
             refine MT.say (MT.ite (fun c3373=>?_) (fun c3373=>?_))
             ·exact MT.say MT.any
             ·have q47 := f_r3370.2 (c3373)
              refine MT.say (MT.ask (R := Any) ?_ ?_)
              ·exact T.wk (jI p_p.fOp )
              ·intro r3376 h3377 _
               refine MT.say (MT.fG (R := Any) ?_ ?_ ?_)
               ·show MT (Gn p_p r3376) Any
                refine MT.ite (fun c3407=>?_) (fun c3407=>?_)
                ·refine MT.say (MT.fG (R := Any) ?_ ?_ ?_)
                 ·refine T.cnt (fun _=>True) ?_
                  intro k48 hk48
                  show MT (Gm p_p ((k48:Nat) : Int)) _
                  refine MT.ite (fun c3415=>?_) (fun c3415=>?_)
                  ·have c3415' := of_decide_eq_true c3415
                   refine MT.say (MT.ask (dV p_p.fArgs ((k48:Nat) : Int) (by omega) (by omega)) (fun x3416 _ hx49=>?_))
                   have := jT hx49
                   have := dw x3416
                   refine MT.say (MT.ask (R := Any) ?_ ?_)
                   ·exact T.wk (gU x3416 (by first | omega | (simp; done) | decide))
                   ·intro r3418 h3419 _
                    refine MT.say (MT.ite (fun c3420=>?_) (fun c3420=>?_))
                    ·exact MT.say (MT.ret trivial)
                    ·exact MT.say (MT.ret ⟨rfl,by omega⟩)
                  ·have c3415' := of_decide_eq_false c3415
                   exact MT.say (MT.ret trivial)
                 ·intro o3423 h3422 _
                  exact MT.say MT.any
                 ·intro o3424 h3422 _
                  exact MT.say MT.any
                ·exact MT.say MT.any
               ·intro o3427 h3426 _
                exact MT.say MT.any
               ·intro o3428 h3426 _
                refine MT.say (MT.fG (R := Any) ?_ ?_ ?_)
                ·show MT (Gp p_p) Any
                 refine MT.ite (fun c3509=>?_) (fun c3509=>?_)
                 ·have c3509' : p_p.fOp = 18 := by simpa using c3509
                  refine MT.say (MT.ask (R := Any) ?_ ?_)
                  ·exact T.wk (Jf p_p.dH (by first | omega | (simp; done) | decide))
                  ·intro r3510 h3511 _
                   refine MT.say (MT.ite (fun c3512=>?_) (fun c3512=>?_))
                   ·have c3512' : ¬ (r3510 = 0) := by simpa using c3512
                    exact MT.say MT.any
                   ·have c3512' : r3510 = 0 := by simpa using c3512
                    exact MT.say MT.any
                 ·have c3509' : ¬ (p_p.fOp = 18) := by simpa using c3509
                  exact MT.say MT.any
                ·intro o3517 h3516 _
                 exact MT.say MT.any
                ·intro o3518 h3516 _
                 refine MT.say (MT.ask (R := Any) ?_ ?_)
                 ·exact T.wk (wW p_p)
                 ·intro r3721 h3722 _
                  refine MT.say (MT.ite (fun c3724=>?_) (fun c3724=>?_))
                  ·exact MT.say MT.any
                  ·refine MT.say (MT.ite (fun c4280=>?_) (fun c4280=>?_))
                   ·have c4280' : p_p.fOp = 24 := by simpa using c4280
                    refine MT.say (MT.ask (R := Any) ?_ ?_)
                    ·exact T.wk (IG p_p.fExpr (by first | omega | (simp; done) | decide))
                    ·intro r4283 h4284 _
                     exact MT.say MT.any
                   ·have c4280' : ¬ (p_p.fOp = 24) := by simpa using c4280
                    exact MT.say MT.any
theorem uj (n_:Nat) : ∀ (p_p:aC) (p_inside:Bool),aQ p_p.lf1 < n_ → aQ p_p.lf1 ≤ 100000000 → Tot ((DT n_).m1 p_p p_inside) Any := by
  induction n_ with
  | zero=>intro p_p p_inside h; omega
  | succ n_ ih =>
    intro p_p p_inside h_ h_p_p
    have := jf p_p
    have := wJ p_p.bW
    show MT (aeM (DT n_) p_p p_inside) Any
    refine MT.ask (R := Any) ?_ ?_
    ·exact T.wk (qG p_p p_inside (by first | omega | (simp; done) | decide))
    ·intro r4287 h4288 _
     refine MT.say (MT.ite (fun c4290=>?_) (fun c4290=>?_))
     ·have c4290' : ¬ (r4287 = 0) := by simpa using c4290
      exact MT.say MT.any
     ·have c4290' : r4287 = 0 := by simpa using c4290
      refine MT.say (MT.fG (R := Any) ?_ ?_ ?_)
      ·refine T.cnt (fun _=>True) ?_
       intro k50 hk50
       show MT (Gq (DT n_) p_inside p_p ((k50:Nat) : Int)) _
       refine MT.ite (fun c4363=>?_) (fun c4363=>?_)
       ·have c4363' := of_decide_eq_true c4363
        refine MT.say (MT.ask (dV p_p.bW ((k50:Nat) : Int) (by omega) (by omega)) (fun x4364 _ hx51=>?_))
        have := UK hx51
        have := jf x4364
        refine MT.say (MT.ask (R := Any) ?_ ?_)
        ·show MT (SN (DT n_) p_inside p_p ((k50:Nat) : Int) x4364) Any
         refine MT.ite (fun c4366=>?_) (fun c4366=>?_)
         ·refine MT.say (MT.ask (R := Any) ?_ ?_)
          ·exact (ih x4364 true (by omega) (by first | omega | (simp; done) | decide))
          ·intro r4367 h4368 _
           exact MT.say MT.any
         ·refine MT.say (MT.ask (R := Any) ?_ ?_)
          ·exact (ih x4364 (p_p.fOp == 15) (by omega) (by first | omega | (simp; done) | decide))
          ·intro r4369 h4370 _
           exact MT.say MT.any
        ·intro r4374 h4375 _
         refine MT.say (MT.ite (fun c4376=>?_) (fun c4376=>?_))
         ·have c4376' : ¬ (r4374 = 0) := by simpa using c4376
          exact MT.say (MT.ret trivial)
         ·have c4376' : r4374 = 0 := by simpa using c4376
          exact MT.say (MT.ret ⟨rfl,by omega⟩)
       ·have c4363' := of_decide_eq_false c4363
        exact MT.say (MT.ret trivial)
      ·intro o4381 h4380 _
       exact MT.say MT.any
      ·intro o4382 h4380 _
       exact MT.say MT.any
theorem wX (p_p:aC) (p_inside:Bool) (h_p_p:aQ p_p.lf1 ≤ 100000000) : Tot (Q42 p_p p_inside) Any := uj FU p_p p_inside (by have := jc; omega) h_p_p
theorem wY (p_p:aC) (h_p_p:aQ p_p.lf1 ≤ 100000000) : Tot (aoL p_p) Any := by
  have := jf p_p
  show MT (aeN p_p) Any
  repeat' (first | exact MT.any | refine MT.say ?_ | refine MT.ite (fun _=>?_) (fun _=>?_) | refine MT.kK ?_ (fun _ _=>?_) | exact ⟨T.wk (wX _ _ (by first | omega | decide))⟩ | exact ⟨T.wk (yB _ _ _ (by first | omega | decide))⟩)
theorem nJ (p_v:aj) : Tot (Q78 p_v) Any := by
  show MT (akV p_v) Any
  repeat' (first | exact MT.any | refine MT.say ?_ | refine MT.ite (fun _=>?_) (fun _=>?_) | refine MT.kK ?_ (fun _ _=>?_) | refine ⟨(show MT _ Any from ?_)⟩)
theorem wZ (p_x:aG) : Tot (Q70 p_x) Any := by
  show MT (akW p_x) Any
  repeat' (first | exact MT.any | refine MT.say ?_ | refine MT.ite (fun _=>?_) (fun _=>?_) | refine MT.kK ?_ (fun _ _=>?_) | exact ⟨T.wk (nJ _)⟩ | refine ⟨(show MT _ Any from ?_)⟩)
theorem xg (p_p:aC) : Tot (Q52 p_p) Any := by
  show MT (akX p_p) Any
  repeat' (first | exact MT.any | refine MT.say ?_ | refine MT.ite (fun _=>?_) (fun _=>?_) | refine MT.kK ?_ (fun _ _=>?_) | exact ⟨T.wk (wZ _)⟩ | exact ⟨T.wk (nJ _)⟩ | refine ⟨(show MT _ Any from ?_)⟩)
theorem qH (p_x:aK) (h_p_x:aQ p_x.lf1 ≤ 100000000) : Tot (aoM p_x) Any := by
  have := jH p_x
  have := oI p_x.gG
  have := jf p_x.bn
  show MT (aeV p_x) Any
  refine MT.say (MT.ask (R := Any) ?_ ?_)
  ·exact T.wk (T.val (qC [p_x.fName]))
  ·intro r2799 h2800 _
   refine MT.say (MT.ite (fun c2802=>?_) (fun c2802=>?_))
   ·exact MT.say MT.any
   ·refine MT.say (MT.ask (R := fun b_=>(b_ = true → True) ∧ (b_ = false → ¬ ((p_x.aF:Int) < 1) ∧ ¬ ((3:Int) < p_x.aF) ∧ True)) ?_ ?_)
    ·show MT (Lc p_x) _
     refine MT.ite (fun c2804=>?_) (fun c2804=>?_)
     ·have c2804' := of_decide_eq_true c2804
      exact MT.say (MT.ret ⟨(fun _=>trivial),(fun h_=>by cases h_)⟩)
     ·have c2804' := of_decide_eq_false c2804
      exact MT.say (MT.ret ⟨(fun _=>trivial),(fun h_=>⟨(by first | assumption | omega),(of_decide_eq_false h_),trivial⟩)⟩)
    ·intro r2806 h2807 f_r2806
     refine MT.say (MT.ite (fun c2809=>?_) (fun c2809=>?_))
     ·exact MT.say MT.any
     ·have q52 := f_r2806.2 (c2809)
      refine MT.say (MT.ask (R := Any) ?_ ?_)
      ·exact T.wk (Ei p_x.gG (by first | omega | (simp; done) | decide))
      ·intro r3027 h3028 _
       refine MT.say (MT.ite (fun c3030=>?_) (fun c3030=>?_))
       ·have c3030' : ¬ (r3027 = 0) := by simpa using c3030
        exact MT.say MT.any
       ·have c3030' : r3027 = 0 := by simpa using c3030
        refine MT.say (MT.ask (R := fun b_=>(b_ = true → True) ∧ (b_ = false → ¬ ((p_x.gG.length:Int) = 0) ∧ True)) ?_ ?_)
        ·show MT (Ld p_x) _
         refine MT.say (MT.ite (fun c3037=>?_) (fun c3037=>?_))
         ·have c3037' : (p_x.gG.length : Int) = 0 := by simpa using c3037
          exact MT.say (MT.ret ⟨(fun _=>trivial),(fun h_=>by cases h_)⟩)
         ·have c3037' : ¬ ((p_x.gG.length : Int) = 0) := by simpa using c3037
          refine MT.say (MT.ite (fun c3038=>?_) (fun c3038=>?_))
          ·have c3038' : ¬ (p_x.aF = 1) := by simpa using c3038
           refine MT.say (MT.ite (fun c3039=>?_) (fun c3039=>?_))
           ·have c3039' := of_decide_eq_true c3039
            exact MT.say (MT.ret ⟨(fun _=>trivial),(fun h_=>by cases h_)⟩)
           ·have c3039' := of_decide_eq_false c3039
            refine MT.say (MT.ask (dV p_x.gG 0 (by omega) (by omega)) (fun x3040 _ hx53=>?_))
            have := Di hx53
            have := lH x3040
            refine MT.say (MT.ite (fun c3042=>?_) (fun c3042=>?_))
            ·exact MT.say (MT.ret ⟨(fun _=>trivial),(fun h_=>by cases h_)⟩)
            ·exact MT.say (MT.ret ⟨(fun _=>trivial),(fun h_=>⟨(by first | assumption | omega),trivial⟩)⟩)
          ·have c3038' : p_x.aF = 1 := by simpa using c3038
           exact MT.say (MT.ret ⟨(fun h_=>by cases h_),(fun h_=>⟨(by first | assumption | omega),trivial⟩)⟩)
        ·intro r3044 h3045 f_r3044
         refine MT.say (MT.ite (fun c3047=>?_) (fun c3047=>?_))
         ·exact MT.say MT.any
         ·have q54 := f_r3044.2 (c3047)
          refine MT.say (MT.ite (fun c4387=>?_) (fun c4387=>?_))
          ·refine MT.say (MT.ask (R := Any) ?_ ?_)
           ·exact T.wk (wY p_x.bn (by first | omega | (simp; done) | decide))
           ·intro r4390 h4391 _
            exact MT.say MT.any
          ·refine MT.say (MT.ask (R := Any) ?_ ?_)
           ·exact T.wk (xg p_x.bn)
           ·intro r4492 h4493 _
            refine MT.say (MT.ite (fun c4495=>?_) (fun c4495=>?_))
            ·exact MT.say MT.any
            ·exact MT.say MT.any
theorem xk (p_x:aK) (p_b0:ByteArray) (h_p_x:aQ p_x.lf1 ≤ 100000000) (h_p_b0:p_b0.size ≤ 100000000) : Tot (aoN p_x p_b0) Any := by
  have := jH p_x
  show MT (aeW p_x p_b0) Any
  repeat' (first | exact MT.any | refine MT.say ?_ | refine MT.ite (fun _=>?_) (fun _=>?_))
theorem mO (p_s:List aK) (p_b0:ByteArray) (h_p_s:aZ (p_s.map aK.lf) ≤ 100000000) (h_p_b0:p_b0.size ≤ 100000000) : Tot (Q27 p_s p_b0) Any := by
  have := nD p_s
  show MT (akY p_s p_b0) Any
  refine MT.say (MT.fG (R := Any) ?_ ?_ ?_)
  ·refine T.cnt (fun _=>True) ?_
   intro k55 hk55
   show MT (Gs p_b0 p_s ((k55:Nat) : Int)) _
   refine MT.ite (fun c4539=>?_) (fun c4539=>?_)
   ·have c4539' := of_decide_eq_true c4539
    refine MT.say (MT.ask (dV p_s ((k55:Nat) : Int) (by omega) (by omega)) (fun x4540 _ hx56=>?_))
    have := MG hx56
    have := jH x4540
    refine MT.say (MT.ask (R := Any) ?_ ?_)
    ·exact T.wk (xk x4540 p_b0 (by first | omega | (simp; done) | decide) (by first | omega | (simp; done) | decide))
    ·intro r4542 h4543 _
     refine MT.say (MT.ite (fun c4544=>?_) (fun c4544=>?_))
     ·exact MT.say (MT.ret trivial)
     ·exact MT.say (MT.ret ⟨rfl,by omega⟩)
   ·have c4539' := of_decide_eq_false c4539
    exact MT.say (MT.ret trivial)
  ·intro o4548 h4547 _
   exact MT.say MT.any
  ·intro o4549 h4547 _
   exact MT.say MT.any
theorem Bf (p_l:List aK) (p_name:ByteArray) (h_p_l:aZ (p_l.map aK.lf) ≤ 100000000) (h_p_name:p_name.size ≤ 100000000) : Tot (am2 p_l p_name) Any := by
  have := nD p_l
  show MT (aeY p_l p_name) Any
  repeat' (first | exact MT.any | refine MT.say ?_ | refine MT.ite (fun _=>?_) (fun _=>?_) | refine MT.kK ?_ (fun _ _=>?_) | exact ⟨T.wk (mO _ _ (by first | omega | decide) (by first | omega | decide))⟩)
theorem qI (p_has:Bool) (p_v:aj) (h_p_v:aQ p_v.lf1 ≤ 100000000) : Tot (Q98 p_has p_v) Any := by
  have := dw p_v
  have := ji p_v.aU
  have := iF p_v.aX
  show MT (akZ p_has p_v) Any
  repeat' (first | exact MT.any | refine MT.say ?_ | refine MT.ite (fun _=>?_) (fun _=>?_) | refine MT.kK ?_ (fun _ _=>?_) | exact ⟨T.wk (gU _ (by first | omega | decide))⟩ | refine ⟨(show MT _ Any from ?_)⟩)
theorem xq (p_s:aA) (h_p_s:aQ p_s.lf1 ≤ 100000000) : Tot (Q2 p_s) Any := by
  have := iP p_s
  have := dw p_s.jO
  have := dw p_s.jP
  have := ji p_s.jl
  have := kZ p_s.dN
  have := Dh p_s.dX
  have := tZ p_s.fC
  show MT (aoP p_s) Any
  refine MT.say (MT.fG (R := Any) ?_ ?_ ?_)
  ·refine T.an2 (fun _=>True) ?_
   intro k57 m4820 hk57 hmk57
   show MT (Ol p_s (((k57:Nat) : Int),m4820)) _
   refine MT.ite (fun c4821=>?_) (fun c4821=>?_)
   ·have c4821' := of_decide_eq_true c4821
    refine MT.say (MT.ask (dV p_s.dN ((k57:Nat) : Int) (by omega) (by omega)) (fun x4822 _ hx58=>?_))
    have := EM hx58
    refine MT.say (MT.ask (R := Any) ?_ ?_)
    ·show MT (Yx m4820 p_s ((k57:Nat) : Int) x4822) Any
     refine MT.ask (R := Any) ?_ ?_
     ·exact T.wk (T.val (MP x4822))
     ·intro r4824 h4825 _
      refine MT.say (MT.ite (fun c4826=>?_) (fun c4826=>?_))
      ·exact MT.say MT.any
      ·exact MT.say MT.any
    ·intro r4828 h4829 _
     refine MT.say (MT.ite (fun c4830=>?_) (fun c4830=>?_))
     ·exact MT.say (MT.ret trivial)
     ·refine MT.say (MT.grd (by unfold maxLen; omega) (fun _ => ?_))
      exact MT.say (MT.ret ⟨rfl,by first | omega | (simp only [List.length_cons]; omega),by omega⟩)
   ·have c4821' := of_decide_eq_false c4821
    exact MT.say (MT.ret trivial)
  ·intro o4834 h4833 _
   exact MT.say MT.any
  ·intro o4835 h4833 _
   refine MT.say (MT.fG (R := Any) ?_ ?_ ?_)
   ·refine T.an2 (fun _=>True) ?_
    intro k59 m4894 hk59 hmk59
    show MT (Gt p_s (((k59:Nat) : Int),m4894)) _
    refine MT.ite (fun c4895=>?_) (fun c4895=>?_)
    ·have c4895' := of_decide_eq_true c4895
     refine MT.say (MT.ask (dV p_s.dX ((k59:Nat) : Int) (by omega) (by omega)) (fun x4896 _ hx60=>?_))
     have := UL hx60
     have := oh x4896
     refine MT.say (MT.ask (R := Any) ?_ ?_)
     ·show MT (SY m4894 p_s ((k59:Nat) : Int) x4896) Any
      refine MT.ask (R := Any) ?_ ?_
      ·exact T.wk (T.val (MP x4896.fName))
      ·intro r4898 h4899 _
       refine MT.say (MT.ite (fun c4900=>?_) (fun c4900=>?_))
       ·exact MT.say MT.any
       ·exact MT.say MT.any
     ·intro r4902 h4903 _
      refine MT.say (MT.ite (fun c4904=>?_) (fun c4904=>?_))
      ·exact MT.say (MT.ret trivial)
      ·refine MT.say (MT.grd (by unfold maxLen; omega) (fun _ => ?_))
       exact MT.say (MT.ret ⟨rfl,by first | omega | (simp only [List.length_cons]; omega),by omega⟩)
    ·have c4895' := of_decide_eq_false c4895
     exact MT.say (MT.ret trivial)
   ·intro o4908 h4907 _
    exact MT.say MT.any
   ·intro o4909 h4907 _
    refine MT.say (MT.ask (R := fun b_=>(b_ = true → True) ∧ (b_ = false → (eH .andNot .i64 p_s.jw 4094) = 0 ∧ ¬ ((p_s.iU:Int) < 0) ∧ True)) ?_ ?_)
    ·show MT (Td p_s) _
     refine MT.ite (fun c4922=>?_) (fun c4922=>?_)
     ·have c4922' : ¬ ((eH .andNot .i64 p_s.jw 4094) = 0) := by simpa using c4922
      exact MT.say (MT.ret ⟨(fun _=>trivial),(fun h_=>by cases h_)⟩)
     ·have c4922' : (eH .andNot .i64 p_s.jw 4094) = 0 := by simpa using c4922
      exact MT.say (MT.ret ⟨(fun _=>trivial),(fun h_=>⟨(by first | assumption | omega),(of_decide_eq_false h_),trivial⟩)⟩)
    ·intro r4924 h4925 f_r4924
     refine MT.say (MT.ask (R := fun b_=>(b_ = true → True) ∧ (b_ = false → r4924 = false ∧ ¬ ((p_s.iV:Int) < (-1)) ∧ True)) ?_ ?_)
     ·show MT (Tf p_s r4924) _
      refine MT.ite (fun c4926=>?_) (fun c4926=>?_)
      ·exact MT.say (MT.ret ⟨(fun _=>trivial),(fun h_=>by cases h_)⟩)
      ·have q61 := f_r4924.2 (c4926)
       exact MT.say (MT.ret ⟨(fun _=>trivial),(fun h_=>⟨(by first | assumption | omega),(of_decide_eq_false h_),trivial⟩)⟩)
     ·intro r4928 h4929 f_r4928
      refine MT.say (MT.ask (R := fun b_=>(b_ = true → True) ∧ (b_ = false → r4928 = false ∧ ¬ ((1:Int) < (p_s.fC.length:Int)) ∧ True)) ?_ ?_)
      ·show MT (Ti p_s r4928) _
       refine MT.ite (fun c4930=>?_) (fun c4930=>?_)
       ·exact MT.say (MT.ret ⟨(fun _=>trivial),(fun h_=>by cases h_)⟩)
       ·have q62 := f_r4928.2 (c4930)
        have q63 := f_r4924.2 (q62.1)
        exact MT.say (MT.ret ⟨(fun _=>trivial),(fun h_=>⟨(by first | assumption | omega),(of_decide_eq_false h_),trivial⟩)⟩)
      ·intro r4932 h4933 f_r4932
       refine MT.say (MT.ite (fun c4935=>?_) (fun c4935=>?_))
       ·exact MT.say MT.any
       ·have q64 := f_r4932.2 (c4935)
        have q65 := f_r4928.2 (q64.1)
        have q66 := f_r4924.2 (q65.1)
        refine MT.say (MT.ask (R := Any) ?_ ?_)
        ·show MT (Tj p_s) Any
         refine MT.ask (R := Any) ?_ ?_
         ·exact T.wk (qI p_s.iR p_s.jO (by first | omega | (simp; done) | decide))
         ·intro r4969 h4970 _
          refine MT.say (MT.ite (fun c4971=>?_) (fun c4971=>?_))
          ·exact MT.say MT.any
          ·refine MT.say (MT.ask (R := Any) ?_ ?_)
           ·exact T.wk (qI p_s.iT p_s.jP (by first | omega | (simp; done) | decide))
           ·intro r4972 h4973 _
            exact MT.say MT.any
        ·intro r4975 h4976 _
         refine MT.say (MT.ite (fun c4978=>?_) (fun c4978=>?_))
         ·exact MT.say MT.any
         ·refine MT.say (MT.fG (R := Any) ?_ ?_ ?_)
          ·refine T.cnt (fun _=>True) ?_
           intro k67 hk67
           show MT (Gu p_s ((k67:Nat) : Int)) _
           refine MT.ite (fun c5014=>?_) (fun c5014=>?_)
           ·have c5014' := of_decide_eq_true c5014
            refine MT.say (MT.ask (dV p_s.jl ((k67:Nat) : Int) (by omega) (by omega)) (fun x5015 _ hx68=>?_))
            have := jT hx68
            have := dw x5015
            refine MT.say (MT.ask (R := Any) ?_ ?_)
            ·exact T.wk (gU x5015 (by first | omega | (simp; done) | decide))
            ·intro r5017 h5018 _
             refine MT.say (MT.ite (fun c5019=>?_) (fun c5019=>?_))
             ·exact MT.say (MT.ret trivial)
             ·exact MT.say (MT.ret ⟨rfl,by omega⟩)
           ·have c5014' := of_decide_eq_false c5014
            exact MT.say (MT.ret trivial)
          ·intro o5022 h5021 _
           exact MT.say MT.any
          ·intro o5023 h5021 _
           exact MT.say MT.any
theorem Bg (n_:Nat) : ∀ (p_s:aA) (p_level:Int) (p_b0:Int),aQ p_s.lf1 < n_ → aQ p_s.lf1 ≤ 100000000 → Tot ((qY n_).m1 p_s p_level p_b0) Any := by
  induction n_ with
  | zero=>intro p_s p_level p_b0 h; omega
  | succ n_ ih =>
    intro p_s p_level p_b0 h_ h_p_s
    have := iP p_s
    have := Dh p_s.dX
    have := tZ p_s.fC
    show MT (ae8 (qY n_) p_s p_level p_b0) Any
    refine MT.ask (R := fun b_=>(b_ = true → True) ∧ (b_ = false → ¬ ((16:Int) < p_level) ∧ ¬ (p_b0 = 64) ∧ True)) ?_ ?_
    ·show MT (Tt (qY n_) p_b0 p_level p_s) _
     refine MT.ite (fun c4629=>?_) (fun c4629=>?_)
     ·have c4629' := of_decide_eq_true c4629
      exact MT.say (MT.ret ⟨(fun _=>trivial),(fun h_=>by cases h_)⟩)
     ·have c4629' := of_decide_eq_false c4629
      exact MT.say (MT.ret ⟨(fun _=>trivial),(fun h_=>⟨(by first | assumption | omega),(by simpa using h_),trivial⟩)⟩)
    ·intro r4631 h4632 f_r4631
     refine MT.say (MT.ite (fun c4634=>?_) (fun c4634=>?_))
     ·exact MT.say MT.any
     ·have q69 := f_r4631.2 (c4634)
      refine MT.say (MT.ask (R := Any) ?_ ?_)
      ·exact T.wk (xq p_s (by first | omega | (simp; done) | decide))
      ·intro r5026 h5027 _
       refine MT.say (MT.ite (fun c5029=>?_) (fun c5029=>?_))
       ·have c5029' : ¬ (r5026 = 0) := by simpa using c5029
        exact MT.say MT.any
       ·have c5029' : r5026 = 0 := by simpa using c5029
        refine MT.say (MT.fG (R := Any) ?_ ?_ ?_)
        ·refine T.Ja (fun _=>True) ?_
         intro k70 v5071 hk70
         show MT (Gv (qY n_) p_level p_s (((k70:Nat) : Int),v5071)) _
         refine MT.ite (fun c5072=>?_) (fun c5072=>?_)
         ·have c5072' := of_decide_eq_true c5072
          refine MT.say (MT.ask (dV p_s.dX ((k70:Nat) : Int) (by omega) (by omega)) (fun x5073 _ hx71=>?_))
          have := UL hx71
          have := oh x5073
          have := iP x5073.aW
          refine MT.say (MT.ask (R := Any) ?_ ?_)
          ·exact (ih x5073.aW (IntKind.wrap .i64 (p_level + 1)) v5071 (by omega) (by first | omega | (simp; done) | decide))
          ·intro r5075 h5076 _
           refine MT.say (MT.ite (fun c5077=>?_) (fun c5077=>?_))
           ·have c5077' : ¬ (r5075.1 = 0) := by simpa using c5077
            exact MT.say (MT.ret trivial)
           ·have c5077' : r5075.1 = 0 := by simpa using c5077
            exact MT.say (MT.ret ⟨rfl,by omega⟩)
         ·have c5072' := of_decide_eq_false c5072
          exact MT.say (MT.ret trivial)
        ·intro o5085 h5084 _
         exact MT.say MT.any
        ·intro o5086 h5084 _
         refine MT.say (MT.fG (R := Any) ?_ ?_ ?_)
         ·refine T.Ja (fun _=>True) ?_
          intro k72 v5126 hk72
          show MT (Cj (qY n_) p_level p_s (((k72:Nat) : Int),v5126)) _
          refine MT.ite (fun c5127=>?_) (fun c5127=>?_)
          ·have c5127' := of_decide_eq_true c5127
           refine MT.say (MT.ask (dV p_s.fC ((k72:Nat) : Int) (by omega) (by omega)) (fun x5128 _ hx73=>?_))
           have := Xc hx73
           have := iP x5128
           refine MT.say (MT.ask (R := Any) ?_ ?_)
           ·exact (ih x5128 (IntKind.wrap .i64 (p_level + 1)) v5126 (by omega) (by first | omega | (simp; done) | decide))
           ·intro r5130 h5131 _
            refine MT.say (MT.ite (fun c5132=>?_) (fun c5132=>?_))
            ·have c5132' : ¬ (r5130.1 = 0) := by simpa using c5132
             exact MT.say (MT.ret trivial)
            ·have c5132' : r5130.1 = 0 := by simpa using c5132
             exact MT.say (MT.ret ⟨rfl,by omega⟩)
          ·have c5127' := of_decide_eq_false c5127
           exact MT.say (MT.ret trivial)
         ·intro o5138 h5137 _
          exact MT.say MT.any
         ·intro o5139 h5137 _
          exact MT.say MT.any
theorem Du (p_s:aA) (p_level:Int) (p_b0:Int) (h_p_s:aQ p_s.lf1 ≤ 100000000) : Tot (Q19 p_s p_level p_b0) Any := Bg FU p_s p_level p_b0 (by have := jc; omega) h_p_s
theorem Dv (p_s:aA) (h_p_s:aQ p_s.lf1 ≤ 100000000) : Tot (aoR p_s) Any := by
  have := iP p_s
  show MT (ae9 p_s) Any
  repeat' (first | exact MT.any | refine MT.say ?_ | refine MT.ite (fun _=>?_) (fun _=>?_) | refine MT.kK ?_ (fun _ _=>?_) | exact ⟨T.wk (Du _ _ _ (by first | omega | decide))⟩)
theorem Bh (p_d:bV) (h_p_d:aQ p_d.lf1 ≤ 100000000) : Tot (Q48 p_d) Any := by
  have := oH p_d
  have := nD p_d.cu
  have := iP p_d.aW
  show MT (ak1 p_d) Any
  refine MT.ask (R := Any) ?_ ?_
  ·exact T.wk (T.val (acn p_d.fName))
  ·intro r2597 h2598 _
   refine MT.say (MT.ite (fun c2600=>?_) (fun c2600=>?_))
   ·exact MT.say MT.any
   ·refine MT.say (MT.ite (fun c2602=>?_) (fun c2602=>?_))
    ·have c2602' := of_decide_eq_true c2602
     exact MT.say MT.any
    ·have c2602' := of_decide_eq_false c2602
     refine MT.say (MT.fG (R := Any) ?_ ?_ ?_)
     ·refine T.cnt (fun _=>True) ?_
      intro k74 hk74
      have := gZ aK.lf p_d.cu (((k74:Nat) : Int).toNat)
      have := nD (p_d.cu.take ((k74:Nat) : Int).toNat)
      show MT (Gw p_d ((k74:Nat) : Int)) _
      refine MT.ite (fun c4597=>?_) (fun c4597=>?_)
      ·have c4597' := of_decide_eq_true c4597
       refine MT.say (MT.ask (dV p_d.cu ((k74:Nat) : Int) (by omega) (by omega)) (fun x4598 _ hx75=>?_))
       have := MG hx75
       have := jH x4598
       refine MT.say (MT.ask (R := Any) ?_ ?_)
       ·exact T.wk (qH x4598 (by first | omega | (simp; done) | decide))
       ·intro r4600 h4601 _
        refine MT.say (MT.ite (fun c4602=>?_) (fun c4602=>?_))
        ·have c4602' : ¬ (r4600 = 0) := by simpa using c4602
         exact MT.say (MT.ret trivial)
        ·have c4602' : r4600 = 0 := by simpa using c4602
         refine MT.say (MT.grd (by omega) (fun _=>?_))
         refine MT.say (MT.ask (R := Any) ?_ ?_)
         ·exact T.wk (Bf (p_d.cu.take ((k74:Nat) : Int).toNat) x4598.fName (Nat.le_trans (gZ _ _ _) (by omega)) (by first | omega | (simp; done) | decide))
         ·intro r4604 h4605 _
          refine MT.say (MT.ite (fun c4606=>?_) (fun c4606=>?_))
          ·have c4606' := of_decide_eq_true c4606
           exact MT.say (MT.ret trivial)
          ·have c4606' := of_decide_eq_false c4606
           exact MT.say (MT.ret ⟨rfl,by omega⟩)
      ·have c4597' := of_decide_eq_false c4597
       exact MT.say (MT.ret trivial)
     ·intro o4612 h4611 _
      exact MT.say MT.any
     ·intro o4613 h4611 _
      refine MT.say (MT.ask (R := fun b_=>(b_ = true → True) ∧ (b_ = false → ¬ ((p_d.kX:Int) < 0) ∧ ¬ ((2:Int) < p_d.kX) ∧ True)) ?_ ?_)
      ·show MT (TF p_d) _
       refine MT.ite (fun c4615=>?_) (fun c4615=>?_)
       ·have c4615' := of_decide_eq_true c4615
        exact MT.say (MT.ret ⟨(fun _=>trivial),(fun h_=>by cases h_)⟩)
       ·have c4615' := of_decide_eq_false c4615
        exact MT.say (MT.ret ⟨(fun _=>trivial),(fun h_=>⟨(by first | assumption | omega),(of_decide_eq_false h_),trivial⟩)⟩)
      ·intro r4617 h4618 f_r4617
       refine MT.say (MT.ite (fun c4620=>?_) (fun c4620=>?_))
       ·exact MT.say MT.any
       ·have q76 := f_r4617.2 (c4620)
        refine MT.say (MT.ask (R := fun b_=>(b_ = true → ¬ (p_d.iW = 0) ∧ ¬ (p_d.iW = 1) ∧ True) ∧ (b_ = false → True)) ?_ ?_)
        ·show MT (Lr p_d) _
         refine MT.ite (fun c4622=>?_) (fun c4622=>?_)
         ·have c4622' : ¬ (p_d.iW = 0) := by simpa using c4622
          exact MT.say (MT.ret ⟨(fun h_=>⟨(by first | assumption | omega),(by simpa using h_),trivial⟩),(fun _=>trivial)⟩)
         ·have c4622' : p_d.iW = 0 := by simpa using c4622
          exact MT.say (MT.ret ⟨(fun h_=>by cases h_),(fun _=>trivial)⟩)
        ·intro r4624 h4625 f_r4624
         refine MT.say (MT.ite (fun c4627=>?_) (fun c4627=>?_))
         ·have q77 := f_r4624.1 (c4627)
          exact MT.say MT.any
         ·refine MT.say (MT.ask (R := Any) ?_ ?_)
          ·exact T.wk (Dv p_d.aW (by first | omega | (simp; done) | decide))
          ·intro r5142 h5143 _
           exact MT.say MT.any
theorem sG (n_:Nat) : ∀ (p_w:ak) (p_least:Int) (p_greatest:Int),aQ p_w.lf1 < n_ → aQ p_w.lf1 ≤ 100000000 → Tot ((nC n_).m1 p_w p_least p_greatest) Any := by
  induction n_ with
  | zero=>intro p_w p_least p_greatest h; omega
  | succ n_ ih =>
    intro p_w p_least p_greatest h_ h_p_w
    have := kJ p_w
    have := oH p_w.dD
    have := jH p_w.aT
    have := Ir p_w.dG
    have := Iu p_w.dO
    show MT (am5 (nC n_) p_w p_least p_greatest) Any
    refine MT.ask (R := Any) ?_ ?_
    ·exact T.wk (qE p_w.aF)
    ·intro r260 h261 _
     refine MT.say (MT.ask (R := fun b_=>(b_ = true → True) ∧ (b_ = false → ¬ ((p_w.aF:Int) < p_least) ∧ ¬ ((p_greatest:Int) < p_w.aF) ∧ True)) ?_ ?_)
     ·show MT (YB (nC n_) p_greatest p_least p_w r260) _
      refine MT.ite (fun c597=>?_) (fun c597=>?_)
      ·have c597' := of_decide_eq_true c597
       exact MT.say (MT.ret ⟨(fun _=>trivial),(fun h_=>by cases h_)⟩)
      ·have c597' := of_decide_eq_false c597
       exact MT.say (MT.ret ⟨(fun _=>trivial),(fun h_=>⟨(by first | assumption | omega),(of_decide_eq_false h_),trivial⟩)⟩)
     ·intro r599 h600 f_r599
      refine MT.say (MT.ask (R := fun b_=>(b_ = true → True) ∧ (b_ = false → r599 = false ∧ True)) ?_ ?_)
      ·show MT (YC (nC n_) p_greatest p_w r260 r599) _
       refine MT.ite (fun c601=>?_) (fun c601=>?_)
       ·exact MT.say (MT.ret ⟨(fun _=>trivial),(fun h_=>by cases h_)⟩)
       ·have q78 := f_r599.2 (c601)
        refine MT.say (MT.ask (R := Any) ?_ ?_)
        ·exact T.wk (yw p_w)
        ·intro r602 h603 _
         exact MT.say (MT.ret ⟨(fun _=>trivial),(fun h_=>⟨(by first | assumption | omega),trivial⟩)⟩)
      ·intro r605 h606 f_r605
       refine MT.say (MT.ask (R := fun b_=>(b_ = true → True) ∧ (b_ = false → r605 = false ∧ True)) ?_ ?_)
       ·show MT (TG (nC n_) p_greatest p_w r260 r605) _
        refine MT.ite (fun c607=>?_) (fun c607=>?_)
        ·exact MT.say (MT.ret ⟨(fun _=>trivial),(fun h_=>by cases h_)⟩)
        ·have q79 := f_r605.2 (c607)
         have q80 := f_r599.2 (q79.1)
         refine MT.say (MT.ite (fun c608=>?_) (fun c608=>?_))
         ·exact MT.say (MT.ret ⟨(fun _=>trivial),(fun h_=>⟨(by first | assumption | omega),trivial⟩)⟩)
         ·exact MT.say (MT.ret ⟨(fun h_=>by cases h_),(fun h_=>⟨(by first | assumption | omega),trivial⟩)⟩)
       ·intro r610 h611 f_r610
        refine MT.say (MT.ite (fun c613=>?_) (fun c613=>?_))
        ·exact MT.say MT.any
        ·have q81 := f_r610.2 (c613)
         have q82 := f_r605.2 (q81.1)
         have q83 := f_r599.2 (q82.1)
         refine MT.say (MT.ite (fun c615=>?_) (fun c615=>?_))
         ·have c615' := of_decide_eq_true c615
          exact MT.say MT.any
         ·have c615' := of_decide_eq_false c615
          refine MT.say (MT.ask (R := Any) ?_ ?_)
          ·show MT (TJ (nC n_) p_greatest p_w r260) Any
           refine MT.ite (fun c636=>?_) (fun c636=>?_)
           ·refine MT.say (MT.ask (R := Any) ?_ ?_)
            ·exact T.wk (T.val (wL p_w.fQ))
            ·intro r637 h638 _
             exact MT.say MT.any
           ·exact MT.say MT.any
          ·intro r640 h641 _
           refine MT.say (MT.ask (R := fun b_=>(b_ = true → True) ∧ (b_ = false → r640 = false ∧ True)) ?_ ?_)
           ·show MT (TK (nC n_) p_greatest p_w r260 r640) _
            refine MT.ite (fun c642=>?_) (fun c642=>?_)
            ·exact MT.say (MT.ret ⟨(fun _=>trivial),(fun h_=>by cases h_)⟩)
            ·refine MT.say (MT.ite (fun c643=>?_) (fun c643=>?_))
             ·refine MT.say (MT.ask (R := Any) ?_ ?_)
              ·exact T.wk (T.val (wL p_w.lQ))
              ·intro r644 h645 _
               exact MT.say (MT.ret ⟨(fun _=>trivial),(fun h_=>⟨(by first | assumption | omega),trivial⟩)⟩)
             ·exact MT.say (MT.ret ⟨(fun h_=>by cases h_),(fun h_=>⟨(by first | assumption | omega),trivial⟩)⟩)
           ·intro r647 h648 f_r647
            refine MT.say (MT.ask (R := fun b_=>(b_ = true → True) ∧ (b_ = false → r647 = false ∧ True)) ?_ ?_)
            ·show MT (TL (nC n_) p_greatest p_w r260 r647) _
             refine MT.ite (fun c649=>?_) (fun c649=>?_)
             ·exact MT.say (MT.ret ⟨(fun _=>trivial),(fun h_=>by cases h_)⟩)
             ·have q84 := f_r647.2 (c649)
              refine MT.say (MT.ite (fun c650=>?_) (fun c650=>?_))
              ·refine MT.say (MT.ask (R := Any) ?_ ?_)
               ·exact T.wk (T.val (wL p_w.aT.fName))
               ·intro r651 h652 _
                exact MT.say (MT.ret ⟨(fun _=>trivial),(fun h_=>⟨(by first | assumption | omega),trivial⟩)⟩)
              ·exact MT.say (MT.ret ⟨(fun h_=>by cases h_),(fun h_=>⟨(by first | assumption | omega),trivial⟩)⟩)
            ·intro r654 h655 f_r654
             refine MT.say (MT.ite (fun c657=>?_) (fun c657=>?_))
             ·exact MT.say MT.any
             ·have q85 := f_r654.2 (c657)
              have q86 := f_r647.2 (q85.1)
              refine MT.say (MT.ask (R := Any) ?_ ?_)
              ·show MT (TM (nC n_) p_greatest p_w r260) Any
               refine MT.ite (fun c776=>?_) (fun c776=>?_)
               ·refine MT.say (MT.ask (R := Any) ?_ ?_)
                ·exact T.wk (uh p_w)
                ·intro r777 h778 _
                 exact MT.say MT.any
               ·exact MT.say MT.any
              ·intro r780 h781 _
               refine MT.say (MT.ask (R := fun b_=>(b_ = true → True) ∧ (b_ = false → r780 = false ∧ True)) ?_ ?_)
               ·show MT (TN (nC n_) p_greatest p_w r260 r780) _
                refine MT.ite (fun c782=>?_) (fun c782=>?_)
                ·exact MT.say (MT.ret ⟨(fun _=>trivial),(fun h_=>by cases h_)⟩)
                ·refine MT.say (MT.ite (fun c783=>?_) (fun c783=>?_))
                 ·refine MT.say (MT.ask (R := Any) ?_ ?_)
                  ·exact T.wk (su p_w.dO (by first | omega | (simp; done) | decide))
                  ·intro r784 h785 _
                   exact MT.say (MT.ret ⟨(fun _=>trivial),(fun h_=>⟨(by first | assumption | omega),trivial⟩)⟩)
                 ·exact MT.say (MT.ret ⟨(fun h_=>by cases h_),(fun h_=>⟨(by first | assumption | omega),trivial⟩)⟩)
               ·intro r787 h788 f_r787
                refine MT.say (MT.ite (fun c790=>?_) (fun c790=>?_))
                ·exact MT.say MT.any
                ·have q87 := f_r787.2 (c790)
                 refine MT.say (MT.fG (R := Any) ?_ ?_ ?_)
                 ·show MT (Gx (nC n_) p_greatest p_w r260) Any
                  refine MT.ite (fun c2457=>?_) (fun c2457=>?_)
                  ·refine MT.say (MT.ask (R := Any) ?_ ?_)
                   ·exact T.wk (wS p_w (by first | omega | (simp; done) | decide))
                   ·intro r2458 h2459 _
                    refine MT.say (MT.ite (fun c2460=>?_) (fun c2460=>?_))
                    ·have c2460' : ¬ (r2458 = 0) := by simpa using c2460
                     exact MT.say MT.any
                    ·have c2460' : r2458 = 0 := by simpa using c2460
                     exact MT.say MT.any
                  ·exact MT.say MT.any
                 ·intro o2465 h2464 _
                  exact MT.say MT.any
                 ·intro o2466 h2464 _
                  refine MT.say (MT.fG (R := Any) ?_ ?_ ?_)
                  ·show MT (Gy (nC n_) p_greatest p_w) Any
                   refine MT.ite (fun c5151=>?_) (fun c5151=>?_)
                   ·have c5151' : p_w.aF = 4 := by simpa using c5151
                    refine MT.say (MT.ask (R := Any) ?_ ?_)
                    ·exact T.wk (Bh p_w.dD (by first | omega | (simp; done) | decide))
                    ·intro r5152 h5153 _
                     exact MT.say MT.any
                   ·have c5151' : ¬ (p_w.aF = 4) := by simpa using c5151
                    refine MT.say (MT.ite (fun c5154=>?_) (fun c5154=>?_))
                    ·have c5154' : p_w.aF = 6 := by simpa using c5154
                     refine MT.say (MT.ask (R := Any) ?_ ?_)
                     ·exact T.wk (qH p_w.aT (by first | omega | (simp; done) | decide))
                     ·intro r5155 h5156 _
                      exact MT.say MT.any
                    ·have c5154' : ¬ (p_w.aF = 6) := by simpa using c5154
                     refine MT.say (MT.ite (fun c5157=>?_) (fun c5157=>?_))
                     ·have c5157' : p_w.aF = 8 := by simpa using c5157
                      exact MT.say MT.any
                     ·have c5157' : ¬ (p_w.aF = 8) := by simpa using c5157
                      refine MT.say (MT.ite (fun c5158=>?_) (fun c5158=>?_))
                      ·have c5158' : p_w.aF = 9 := by simpa using c5158
                       exact MT.say MT.any
                      ·have c5158' : ¬ (p_w.aF = 9) := by simpa using c5158
                       exact MT.say MT.any
                  ·intro o5165 h5164 _
                   exact MT.say MT.any
                  ·intro o5166 h5164 _
                   refine MT.say (MT.fG (R := Any) ?_ ?_ ?_)
                   ·refine T.cnt (fun _=>True) ?_
                    intro k88 hk88
                    show MT (Gz (nC n_) o5166 p_w ((k88:Nat) : Int)) _
                    refine MT.ite (fun c5203=>?_) (fun c5203=>?_)
                    ·have c5203' := of_decide_eq_true c5203
                     refine MT.say (MT.ask (dV p_w.dG ((k88:Nat) : Int) (by omega) (by omega)) (fun x5204 _ hx89=>?_))
                     have := ab7 hx89
                     have := kJ x5204
                     refine MT.say (MT.ask (R := Any) ?_ ?_)
                     ·exact (ih x5204 2 o5166 (by omega) (by first | omega | (simp; done) | decide))
                     ·intro r5206 h5207 _
                      refine MT.say (MT.ite (fun c5208=>?_) (fun c5208=>?_))
                      ·have c5208' : ¬ (r5206 = 0) := by simpa using c5208
                       exact MT.say (MT.ret trivial)
                      ·have c5208' : r5206 = 0 := by simpa using c5208
                       exact MT.say (MT.ret ⟨rfl,by omega⟩)
                    ·have c5203' := of_decide_eq_false c5203
                     exact MT.say (MT.ret trivial)
                   ·intro o5212 h5211 _
                    exact MT.say MT.any
                   ·intro o5213 h5211 _
                    exact MT.say MT.any
theorem um (p_w:ak) (p_least:Int) (p_greatest:Int) (h_p_w:aQ p_w.lf1 ≤ 100000000) : Tot (Q1 p_w p_least p_greatest) Any := sG FU p_w p_least p_greatest (by have := jc; omega) h_p_w
theorem Eo (p_e:bM) (h_p_e:aQ p_e.lf1 ≤ 100000000) : Tot (Q95 p_e) Any := by
  have := rC p_e
  have := kJ p_e.kD
  show MT (ak2 p_e) Any
  repeat' (first | exact MT.any | refine MT.say ?_ | refine MT.ite (fun _=>?_) (fun _=>?_) | refine MT.kK ?_ (fun _ _=>?_) | exact ⟨T.wk (T.val (wL _))⟩ | exact ⟨T.wk (um _ _ _ (by first | omega | decide))⟩ | refine ⟨(show MT _ Any from ?_)⟩)
end Go.Proofs.YtflpefkohpjjpaaGreatDoor
set_option linter.unusedSimpArgs false
set_option linter.unusedVariables false
namespace Go.Proofs.YtflpefkohpjjpaaGreatDoor
open Go.RowKit
theorem xu (n:Int) : Tot (Q57 n) (fun r=>r.length ≤ 11) := by
  unfold Q57 ak3
  obtain ⟨u,hu,hg⟩ := Pq n
  simp only [Mo.den,aP,aI,aJ,aN,aO,hu,Option.bind_some]
  refine T.bind (R := fun r=>r.2.length ≤ 10) (T.rE 10 (by omega) (fun k s=>grp k s.1 ∧ s.2.length = k) _ ⟨hg,rfl⟩ ?_ ?_) fun r hr=>T.grd (by simp only [List.length_cons,List.length_nil]; omega) (T.ret ?_)
  · rintro k ⟨v,m⟩ hk ⟨hv,hm⟩
    have hm:m.length = k := hm
    simp only [Ae,Mo.den,aP,aI,aJ,aN,aO]
    refine T.ite (fun _=>T.grd (by simp only [List.length_cons,List.length_nil]; omega) (T.ret ⟨hv.next,?_⟩)) fun _=>T.ret ?_
    · rw [List.length_append,List.length_cons,List.length_nil]; omega
    · show m.length ≤ _; omega
  · rintro ⟨v,m⟩ ⟨hv,hm⟩
    have hv:grp 10 v := hv
    have hm:m.length = 10 := hm
    simp only [Ae,Mo.den,aP,aI,aJ,aN,aO,hv.last,cond_false]
    exact T.ret (by show m.length ≤ _; omega)
  · rw [List.length_append,List.length_cons,List.length_nil]; omega
/-- a number's bytes -/
noncomputable def akn (n:Int) : ByteArray := (abK n).getD ⟨#[]⟩
theorem U8 (n:Int) : abK n = some (akn n) ∧ (akn n).size ≤ 11 := by
  have:Tot (abK n) (fun r=>r.size ≤ 11) := by
    simp only [abK,afi,Mo.den,aP,aI,aJ,aN,aO]
    exact T.bind (xu n) fun r hr=>T.ret (by rw [strOfNums_size]; exact hr)
  obtain ⟨r,h,hr⟩ := this
  unfold akn
  rw [h]; exact ⟨rfl,hr⟩
noncomputable def eX (n:Int) : List Int := numsOf (akn n)
theorem fK (n:Int) : (eX n).length ≤ 11 := by unfold eX; rw [jG]; exact (U8 n).2
noncomputable def fJ (s:ByteArray) : List Int := eX (s.size:Int) ++ numsOf s
def iO (b:Bool) : List Int := bif b then [1] else [0]
noncomputable def jd {α:Type} (e : α → List Int) (l:List α) : List Int := eX (l.length:Int) ++ (l.map e).flatten
/-- what a writer does -/
structure Wrt (F:au → Option au) (e:List Int) (b:Bool) : Prop where
  h:∀ w,w.aS.length + e.length ≤ 100000000000 → F w = some ⟨w.aS ++ e,w.bH || b⟩
theorem Wrt.of {F F':au → Option au} {e:List Int} {b:Bool} (h:∀ w,F w = F' w) (k:Wrt F' e b) : Wrt F e b := ⟨fun w hw=>(h w).trans (k.h w hw)⟩
theorem Wrt.bind {F G:au → Option au} {e e':List Int} {b b':Bool} (h:Wrt F e b) (k:Wrt G e' b') : Wrt (fun w=>(F w).bind G) (e ++ e') (b || b') := ⟨fun w hw=>by
  rw [List.length_append] at hw
  show (F w).bind G = _
  rw [h.h w (by omega),Option.bind_some,k.h _ (by rw [List.length_append]; omega),List.append_assoc,Bool.or_assoc]⟩
theorem Wrt.last {F:au → Option au} {e:List Int} {b:Bool} (h:Wrt F e b) : Wrt (fun w=>(F w).bind some) e b := ⟨fun w hw=>by
  show (F w).bind some = _
  rw [h.h w hw]; rfl⟩
theorem gQ (n:Int) : Wrt (Q18 n) (eX n) false := ⟨fun w hw=>by
  simp only [Q18,ak4,Mo.den,aP,aI,aJ,aN,aO,(U8 n).1,Option.bind_some]
  unfold eX at hw ⊢
  rw [jG] at hw
  rw [if_pos (by omega),Bool.or_false]⟩
theorem nK (s:ByteArray) : Wrt (Q87 s) (fJ s) false := ⟨fun w hw=>by
  unfold fJ at hw ⊢
  rw [List.length_append,jG] at hw
  simp only [Q87,ak5,Mo.den,aP,aI,aJ,aN,aO,(gQ (s.size:Int)).h w (by omega),Option.bind_some,Bool.or_false]
  rw [if_pos (by rw [List.length_append]; omega),List.append_assoc]⟩
theorem kN (b:Bool) : Wrt (Q71 b) (iO b) false := ⟨fun w hw=>by
  cases b
  · have hw:w.aS.length + 1 ≤ 100000000000 := hw
    simp only [Q71,afj,Mo.den,aP,aI,aJ,aN,aO,cond_false,iO,Bool.or_false]
    rw [if_pos (by simp only [List.length_cons,List.length_nil]; omega)]
  · have hw:w.aS.length + 1 ≤ 100000000000 := hw
    simp only [Q71,afj,Mo.den,aP,aI,aJ,aN,aO,cond_true,iO,Bool.or_false]
    rw [if_pos (by simp only [List.length_cons,List.length_nil]; omega)]⟩
theorem MR {α:Type} (f : α → List Int) {l:List α} {k:Nat} {x : α} (h:l[k]? = some x) : ((l.take (k + 1)).map f).flatten = ((l.take k).map f).flatten ++ f x := by
  have hk := Pg h
  have:l[k] = x := by rw [List.getElem?_eq_getElem hk] at h; injection h
  rw [List.take_succ_eq_append_getElem hk,List.map_append,List.flatten_append,this]; simp
theorem ahx {α:Type} (f : α → Bool) {l:List α} {k:Nat} {x : α} (h:l[k]? = some x) : (l.take (k + 1)).any f = ((l.take k).any f || f x) := by
  have hk := Pg h
  have:l[k] = x := by rw [List.getElem?_eq_getElem hk] at h; injection h
  rw [List.take_succ_eq_append_getElem hk,List.any_append,this]; simp
theorem Pv {α:Type} (f : α → List Int) (l:List α) (k:Nat) : ((l.take k).map f).flatten.length ≤ (l.map f).flatten.length := by
  have:(l.map f).flatten = ((l.take k).map f).flatten ++ ((l.drop k).map f).flatten := by rw [← List.flatten_append,← List.map_append,List.take_append_drop]
  rw [this,List.length_append]; omega
theorem kP {α:Type} {L:(Int × Bool × List Int) → Option ((Int × Bool × List Int) ⊕ (Bool × List Int))} (W : α → au → Option au) (e : α → List Int) (b : α → Bool) (l:List α) (hl:l.length ≤ 100000000)
    (hL:∀ v bd bs,L (v,bd,bs) = bif decide ((v:Int) < (l.length:Int)) then (fO l v).bind fun x=>(W x ⟨bs,bd⟩).bind fun r=>some (.inl (IntKind.wrap .i64 (v + 1),r.bH,r.aS)) else some (.inr (bd,bs)))
    (hW:∀ x ∈ l,Wrt (W x) (e x) (b x)) : Wrt (fun w=>(Q18 (l.length:Int) w).bind fun r=>(bT L FU (0,r.bH,r.aS)).bind fun q=>some ⟨q.2,q.1⟩) (jd e l) (l.any b) := ⟨fun w hw=>by
  unfold jd at hw ⊢
  rw [List.length_append] at hw
  show (Q18 (l.length:Int) w).bind _ = _
  rw [(gQ (l.length:Int)).h w (by omega),Option.bind_some]
  have key:Tot (bT L FU (0,(w.bH || false),w.aS ++ eX (l.length:Int))) (fun q=>q = (w.bH || l.any b,w.aS ++ (eX (l.length:Int) ++ (l.map e).flatten))) := by
    refine T.rE l.length (by omega) (fun k s=>s = ((k:Int),(w.bH || (l.take k).any b),w.aS ++ (eX (l.length:Int) ++ ((l.take k).map e).flatten))) _ (by simp) ?_ ?_
    · rintro k s hk rfl
      have hx := List.getElem?_eq_getElem hk
      have h1 := Pv e l (k + 1)
      rw [MR e hx,List.length_append] at h1
      rw [hL,ltt hx,gid hx]
      simp only [cond_true,Option.bind_some]
      rw [(hW l[k] (List.getElem_mem hk)).h _ (by show (w.aS ++ (eX (l.length:Int) ++ ((l.take k).map e).flatten)).length + _ ≤ _; rw [List.length_append,List.length_append]; omega),Option.bind_some]
      refine T.ret ?_
      show _ = _
      rw [inc k (by omega),MR e hx,ahx b hx]
      simp only [Bool.or_assoc,List.append_assoc]
    · rintro s rfl
      rw [hL,ltn,List.take_length]
      exact T.ret rfl
  obtain ⟨q,h,rfl⟩ := key
  rw [h]; rfl⟩
/-! ### values -/
theorem Jg (v:aj) : Q49 v = some (MJ v) := by
  simp only [Q49,adA,JQ,JO,JM,QG,QF,Mo.den,aP,aI,aJ,aN,aO,MJ]
  cases v.aF == 0 <;> cases v.eU == 0 <;> cases decide (v.fText = ⟨#[]⟩) <;> cases (v.aU.length:Int) == 0 <;> rfl
theorem o7 (s:ByteArray) (l:List Int) (hl:l.length + s.size ≤ 50000000000) : Tot (afn s l) (fun r=>r.length ≤ l.length + 11 + s.size) := by
  simp only [afn,afm,Mo.den,aP,aI,aJ,aN,aO]
  exact T.bind (fE (s.size:Int) l (by omega)) fun r hr=>T.grd (by omega) (T.ret (by rw [List.length_append,jG]; omega))
theorem ap4 (R:kH) (v:aj) (hb:aQ v.lf1 ≤ 100000000) (hR:∀ x ∈ v.aU,∀ l:List Int,l.length + 20 * aQ x.lf1 ≤ 10000000000 → Tot (R.m2 x l) (fun r=>r.length ≤ l.length + 20 * aQ x.lf1)) (l:List Int) (hl:l.length + 20 * aZ (v.aU.map aj.lf) ≤ 10000000000) :
    Tot (WG R v 0 l) (fun r=>r.length ≤ l.length + 20 * aZ (v.aU.map aj.lf)) := by
  have h0 := ji v.aU
  rw [dw] at hb
  refine T.rE v.aU.length (by omega) (fun k s=>s.1 = (k:Int) ∧ s.2.length ≤ l.length + 20 * aZ ((v.aU.take k).map aj.lf)) _ ⟨rfl,Nat.le_add_right _ _⟩ ?_ ?_
  · rintro k ⟨i,m⟩ hk ⟨hi,hm⟩
    have hi:i = (k:Int) := hi
    have hm:m.length ≤ l.length + 20 * aZ ((v.aU.take k).map aj.lf) := hm
    subst hi
    have hx := List.getElem?_eq_getElem hk
    have e1 := rF aj.lf hx
    have e2 := gZ aj.lf v.aU (k + 1)
    rw [aj.bD] at e1
    simp only [Ar,Mo.den,aP,aI,aJ,aN,aO,ltt hx,gid hx,cond_true,Option.bind_some]
    exact T.bind (hR _ (List.getElem_mem hk) m (by omega)) fun r hr=>T.ret ⟨inc k (by omega),by show r.length ≤ _; omega⟩
  · rintro ⟨i,m⟩ ⟨hi,hm⟩
    have hi:i = (v.aU.length:Int) := hi
    subst hi
    simp only [Ar,Mo.den,aP,aI,aJ,aN,aO,ltn,cond_false]
    rw [List.take_length] at hm
    exact T.ret hm
end Go.Proofs.YtflpefkohpjjpaaGreatDoor
set_option linter.unusedSimpArgs false
set_option linter.unusedVariables false
namespace Go.Proofs.YtflpefkohpjjpaaGreatDoor
open Go.RowKit
theorem ap5 (R:kH) (v:aj) (hb:aQ v.lf1 ≤ 100000000) (hR:∀ f ∈ v.aX,∀ l:List Int,l.length + 20 * aQ f.fValue.lf1 ≤ 10000000000 → Tot (R.m2 f.fValue l) (fun r=>r.length ≤ l.length + 20 * aQ f.fValue.lf1)) (l:List Int) (hl:l.length + 20 * aZ (v.aX.map aB.lf) ≤ 10000000000) :
    Tot (WH R v 0 l) (fun r=>r.length ≤ l.length + 20 * aZ (v.aX.map aB.lf)) := by
  have h0 := iF v.aX
  rw [dw] at hb
  refine T.rE v.aX.length (by omega) (fun k s=>s.1 = (k:Int) ∧ s.2.length ≤ l.length + 20 * aZ ((v.aX.take k).map aB.lf)) _ ⟨rfl,Nat.le_add_right _ _⟩ ?_ ?_
  · rintro k ⟨i,m⟩ hk ⟨hi,hm⟩
    have hi:i = (k:Int) := hi
    have hm:m.length ≤ l.length + 20 * aZ ((v.aX.take k).map aB.lf) := hm
    subst hi
    have hx := List.getElem?_eq_getElem hk
    have e1 := rF aB.lf hx
    have e2 := gZ aB.lf v.aX (k + 1)
    rw [aB.bD,fD] at e1
    simp only [Aw,Mo.den,aP,aI,aJ,aN,aO,ltt hx,gid hx,cond_true,Option.bind_some]
    exact T.bind (o7 _ m (by omega)) fun r hr=>T.bind (hR _ (List.getElem_mem hk) r (by omega)) fun r2 hr2=>T.ret ⟨inc k (by omega),by show r2.length ≤ _; omega⟩
  · rintro ⟨i,m⟩ ⟨hi,hm⟩
    have hi:i = (v.aX.length:Int) := hi
    subst hi
    simp only [Aw,Mo.den,aP,aI,aJ,aN,aO,ltn,cond_false]
    rw [List.take_length] at hm
    exact T.ret hm
theorem alA:∀ (F:Nat) (v:aj) (l:List Int),aQ v.lf1 ≤ F → aQ v.lf1 ≤ 100000000 → l.length + 20 * aQ v.lf1 ≤ 10000000000 → Tot ((lU F).m2 v l) (fun r=>r.length ≤ l.length + 20 * aQ v.lf1) := by
  intro F
  induction F with
  | zero=>intro v l h; rw [dw] at h; omega
  | succ F ih =>
    intro v l hF hb hl
    have hp := dw v
    have h1 := ji v.aU
    have h2 := iF v.aX
    show Tot (Mo.den (aja (lU F) v l)) _
    have hL := fun m hm=>ap4 (lU F) v hb (fun x hx l' hl'=>ih x l' (by have := jT hx; omega) (by have := jT hx; omega) hl') m hm
    have hD := fun m hm=>ap5 (lU F) v hb (fun f hf l' hl'=>ih f.fValue l' (by have := iC hf; rw [fD] at this; omega) (by have := iC hf; rw [fD] at this; omega) hl') m hm
    simp only [aja,YG,YH,WI,GL,Mo.den,aP,aI,aJ,aN,aO]
    refine T.grd (by simp only [List.length_cons,List.length_nil]; omega) ?_
    have e0:(l ++ [IntKind.wrap .u8 v.aF]).length = l.length + 1 := by rw [List.length_append]; rfl
    refine T.bind (R := fun r=>r.length ≤ l.length + 20 * aQ v.lf1) (T.bind (R := Any) (T.ite (fun _=>T.any) fun _=>T.any) fun _ _=>T.ite (fun _=>T.bind (fE _ _ (by omega)) fun r hr=>T.ret (by omega)) fun _=>T.ite (fun _=>T.grd (by simp only [List.length_append,List.length_cons,List.length_nil]; omega) (T.ret (by simp only [List.length_append,List.length_cons,List.length_nil]; omega))) fun _=>T.bind (R := Any) (T.ite (fun _=>T.any) fun _=>T.any) fun _ _=>T.ite (fun _=>T.bind (o7 _ _ (by omega)) fun r hr=>T.ret (by omega)) fun _=>T.ite (fun _=>T.grd (by omega) (T.ret (by rw [List.length_append,jG]; omega))) fun _=>T.ite (fun _=>T.bind (fE _ _ (by omega)) fun r hr=>T.bind (hL r (by omega)) fun r2 hr2=>T.ret (by omega)) fun _=>T.ite (fun _=>T.bind (fE _ _ (by omega)) fun r hr=>T.bind (hD r (by omega)) fun r2 hr2=>T.ret (by omega)) fun _=>T.ret (by omega)) fun r hr=>T.ret hr
end Go.Proofs.YtflpefkohpjjpaaGreatDoor
set_option linter.unusedSimpArgs false
set_option linter.unusedVariables false
namespace Go.Proofs.YtflpefkohpjjpaaGreatDoor
open Go.RowKit
theorem apq (R:kH) (v:aj) (hb:aQ v.lf1 ≤ 100000000) (hR:∀ x ∈ v.aU,∀ l:List Int,l.length + 20 * aQ x.lf1 ≤ 10000000000 → Tot (R.m2 x l) (fun r=>r.length ≤ l.length + 20 * aQ x.lf1)) (l:List Int) (hl:l.length + 20 * aZ (v.aU.map aj.lf) ≤ 10000000000) :
    Tot (WB R v 0 l) (fun r=>r.length ≤ l.length + 20 * aZ (v.aU.map aj.lf)) := by
  have h0 := ji v.aU
  rw [dw] at hb
  refine T.rE v.aU.length (by omega) (fun k s=>s.1 = (k:Int) ∧ s.2.length ≤ l.length + 20 * aZ ((v.aU.take k).map aj.lf)) _ ⟨rfl,Nat.le_add_right _ _⟩ ?_ ?_
  · rintro k ⟨i,m⟩ hk ⟨hi,hm⟩
    have hi:i = (k:Int) := hi
    have hm:m.length ≤ l.length + 20 * aZ ((v.aU.take k).map aj.lf) := hm
    subst hi
    have hx := List.getElem?_eq_getElem hk
    have e1 := rF aj.lf hx
    have e2 := gZ aj.lf v.aU (k + 1)
    rw [aj.bD] at e1
    simp only [Ai,Mo.den,aP,aI,aJ,aN,aO,ltt hx,gid hx,cond_true,Option.bind_some]
    exact T.bind (hR _ (List.getElem_mem hk) m (by omega)) fun r hr=>T.ret ⟨inc k (by omega),by show r.length ≤ _; omega⟩
  · rintro ⟨i,m⟩ ⟨hi,hm⟩
    have hi:i = (v.aU.length:Int) := hi
    subst hi
    simp only [Ai,Mo.den,aP,aI,aJ,aN,aO,ltn,cond_false]
    rw [List.take_length] at hm
    exact T.ret hm
theorem apr (R:kH) (v:aj) (hb:aQ v.lf1 ≤ 100000000) (hR:∀ f ∈ v.aX,∀ l:List Int,l.length + 20 * aQ f.fValue.lf1 ≤ 10000000000 → Tot (R.m2 f.fValue l) (fun r=>r.length ≤ l.length + 20 * aQ f.fValue.lf1)) (l:List Int) (hl:l.length + 20 * aZ (v.aX.map aB.lf) ≤ 10000000000) :
    Tot (WC R v 0 l) (fun r=>r.length ≤ l.length + 20 * aZ (v.aX.map aB.lf)) := by
  have h0 := iF v.aX
  rw [dw] at hb
  refine T.rE v.aX.length (by omega) (fun k s=>s.1 = (k:Int) ∧ s.2.length ≤ l.length + 20 * aZ ((v.aX.take k).map aB.lf)) _ ⟨rfl,Nat.le_add_right _ _⟩ ?_ ?_
  · rintro k ⟨i,m⟩ hk ⟨hi,hm⟩
    have hi:i = (k:Int) := hi
    have hm:m.length ≤ l.length + 20 * aZ ((v.aX.take k).map aB.lf) := hm
    subst hi
    have hx := List.getElem?_eq_getElem hk
    have e1 := rF aB.lf hx
    have e2 := gZ aB.lf v.aX (k + 1)
    rw [aB.bD,fD] at e1
    simp only [Ak,Mo.den,aP,aI,aJ,aN,aO,ltt hx,gid hx,cond_true,Option.bind_some]
    exact T.bind (o7 _ m (by omega)) fun r hr=>T.bind (hR _ (List.getElem_mem hk) r (by omega)) fun r2 hr2=>T.ret ⟨inc k (by omega),by show r2.length ≤ _; omega⟩
  · rintro ⟨i,m⟩ ⟨hi,hm⟩
    have hi:i = (v.aX.length:Int) := hi
    subst hi
    simp only [Ak,Mo.den,aP,aI,aJ,aN,aO,ltn,cond_false]
    rw [List.take_length] at hm
    exact T.ret hm
theorem aps (v:aj) (hb:aQ v.lf1 ≤ 100000000) : Tot (Q4 v) (fun r=>r.length ≤ 20 * aQ v.lf1) := by
  have hp := dw v
  have h1 := ji v.aU
  have h2 := iF v.aX
  obtain ⟨F,hF⟩ : ∃ F,FU = F + 1 := ⟨FU - 1,by have := jc; omega⟩
  have hB := jc
  show Tot ((lU FU).m1 v) _
  rw [hF]
  show Tot (Mo.den (ai9 (lU F) v)) _
  have hL := fun m hm=>apq (lU F) v hb (fun x hx l' hl'=>alA F x l' (by have := jT hx; omega) (by have := jT hx; omega) hl') m hm
  have hD := fun m hm=>apr (lU F) v hb (fun f hf l' hl'=>alA F f.fValue l' (by have := iC hf; rw [fD] at this; omega) (by have := iC hf; rw [fD] at this; omega) hl') m hm
  simp only [ai9,YE,YF,WE,GK,Mo.den,aP,aI,aJ,aN,aO]
  refine T.grd (by simp only [List.length_cons,List.length_nil]; omega) ?_
  have e0:([IntKind.wrap .u8 v.aF] : List Int).length = 1 := rfl
  refine T.bind (R := fun r=>r.length ≤ 20 * aQ v.lf1) (T.bind (R := Any) (T.ite (fun _=>T.any) fun _=>T.any) fun _ _=>T.ite (fun _=>T.bind (fE _ _ (by omega)) fun r hr=>T.ret (by omega)) fun _=>T.ite (fun _=>T.grd (by simp only [List.length_cons,List.length_nil]; omega) (T.ret (by simp only [List.length_append,List.length_cons,List.length_nil]; omega))) fun _=>T.bind (R := Any) (T.ite (fun _=>T.any) fun _=>T.any) fun _ _=>T.ite (fun _=>T.bind (o7 _ _ (by omega)) fun r hr=>T.ret (by omega)) fun _=>T.ite (fun _=>T.grd (by omega) (T.ret (by rw [List.length_append,jG]; omega))) fun _=>T.ite (fun _=>T.bind (fE _ _ (by omega)) fun r hr=>T.bind (hL r (by omega)) fun r2 hr2=>T.ret (by omega)) fun _=>T.ite (fun _=>T.bind (fE _ _ (by omega)) fun r hr=>T.bind (hD r (by omega)) fun r2 hr2=>T.ret (by omega)) fun _=>T.ret (by omega)) fun r hr=>T.ret hr
/-- a value's bytes -/
noncomputable def acu (v:aj) : ByteArray := ((ajb v).getD (⟨#[]⟩,0)).1
theorem II (v:aj) (hb:aQ v.lf1 ≤ 100000000) : ajb v = some (bif U6 v then (acu v,0) else (⟨#[]⟩,8)) ∧ (acu v).size ≤ 20 * aQ v.lf1 := by
  have hp := dw v
  unfold acu
  simp only [ajb,afu,Mo.den,aP,aI,aJ,aN,aO,Dn v hb,Option.bind_some]
  cases U6 v with
  | false=>exact ⟨rfl,Nat.zero_le _⟩
  | true =>
    obtain ⟨r,h,hr⟩ := aps v hb
    rw [h]
    refine ⟨rfl,?_⟩
    show (strOfNums r).size ≤ _
    rw [strOfNums_size]; exact hr
noncomputable def iw (v:aj) : List Int := bif MJ v then [0] else bif U6 v then [1] ++ numsOf (acu v) else []
def je (v:aj) : Bool := !MJ v && !U6 v
theorem lK (v:aj) (hb:aQ v.lf1 ≤ 100000000) : (iw v).length ≤ 20 * aQ v.lf1 + 1 := by
  unfold iw
  have := (II v hb).2
  cases MJ v <;> cases U6 v <;> simp only [cond_true,cond_false,List.length_append,List.length_cons,List.length_nil,jG] <;> omega
theorem o8 (v:aj) (hb:aQ v.lf1 ≤ 100000000) : Wrt (Q96 v) (iw v) (je v) := ⟨fun w hw=>by
  simp only [Q96,ak7,Mo.den,aP,aI,aJ,aN,aO,Jg,Dn v hb,(II v hb).1,Option.bind_some]
  unfold iw je at *
  cases hm:MJ v with
  | true =>
    rw [hm] at hw
    have hw:w.aS.length + 1 ≤ 100000000000 := hw
    simp only [cond_true]
    rw [(kN false).h w hw]; rfl
  | false =>
    rw [hm] at hw
    cases hv:U6 v with
    | false=>simp
    | true =>
      rw [hv] at hw
      have hw:w.aS.length + ([1] ++ numsOf (acu v)).length ≤ 100000000000 := hw
      rw [List.length_append,jG] at hw
      have hw:w.aS.length + (1 + (acu v).size) ≤ 100000000000 := hw
      simp only [cond_true,cond_false,Bool.not_true,Bool.not_false,bne_self_eq_false]
      rw [(kN true).h w (by show w.aS.length + 1 ≤ _; omega)]
      simp only [Option.bind_some]
      rw [if_pos (by rw [List.length_append]; show w.aS.length + 1 + _ ≤ _; omega)]
      simp [iO]⟩
end Go.Proofs.YtflpefkohpjjpaaGreatDoor
set_option linter.unusedSimpArgs false
set_option linter.unusedVariables false
namespace Go.Proofs.YtflpefkohpjjpaaGreatDoor
open Go.RowKit
theorem ako {α:Type} (e : α → List Int) (lf : α → List Lf) (l:List α) (h:∀ x ∈ l,(e x).length ≤ 40 * aQ (lf x)) : ((l.map e).flatten).length ≤ 40 * aZ (l.map lf) := by
  induction l with
  | nil=>exact Nat.zero_le _
  | cons x r ih =>
    simp only [List.map_cons,List.flatten_cons,List.length_append,aZ]
    have := h x (List.mem_cons_self ..)
    have := ih fun y hy=>h y (List.mem_cons_of_mem _ hy)
    omega
theorem lY {α:Type} (e : α → List Int) (lf : α → List Lf) (l:List α) (h:∀ x ∈ l,(e x).length ≤ 40 * aQ (lf x)) : (jd e l).length ≤ 11 + 40 * aZ (l.map lf) := by
  unfold jd
  rw [List.length_append]
  have := fK (l.length:Int)
  have := ako e lf l h
  omega
theorem kQ (s:ByteArray) : (fJ s).length ≤ 11 + s.size := by
  unfold fJ
  rw [List.length_append,jG]
  have := fK (s.size:Int)
  omega
theorem jJ (b:Bool) : (iO b).length ≤ 1 := by cases b <;> exact Nat.le_refl _
theorem oK (l:List ByteArray) : (jd fJ l).length ≤ 11 + 40 * aZ (l.map lfS) := lY fJ lfS l fun s _=>by have := kQ s; rw [Pe]; omega
theorem Xl (l:List Int) : (jd eX l).length ≤ 11 + 40 * aZ (l.map lfI) := lY eX lfI l fun n _=>by have := fK n; rw [Xb]; omega
theorem IJ (l:List aj) (h:aZ (l.map aj.lf) ≤ 100000000) : (jd iw l).length ≤ 11 + 40 * aZ (l.map aj.lf) := lY iw aj.lf l fun v hv=>by
  have h1 := jT hv
  have h2 := dw v
  have := lK v (by omega)
  rw [aj.bD]; omega
theorem any_false {α:Type} (l:List α) : l.any (fun _=>false) = false := by induction l with | nil=>rfl | cons x r ih=>rw [List.any_cons,ih]; rfl
theorem uo (l:List ByteArray) (h:aZ (l.map lfS) ≤ 100000000) : Wrt (Q61 l) (jd fJ l) false := by
  have := kZ l
  rw [← any_false l]
  refine Wrt.of (fun w=>?_) (kP (L := fun v=>(GN l v).den) ana fJ (fun _=>false) l (by omega) (fun v bd bs=>?_) fun s _=>Wrt.of (fun w=>by simp only [ana,afv,Mo.den,aP,aI,aJ,aN,aO]) (Wrt.last (nK s)))
  · unfold Q61 ak8; simp only [Mo.den,aP,aI,aJ,aN,aO,afw]
  · simp only [GN,Mo.den,aP,aI,aJ,aN,aO]
theorem ahy (l:List Int) (h:aZ (l.map lfI) ≤ 100000000) : Wrt (Q85 l) (jd eX l) false := by
  have := Iu l
  rw [← any_false l]
  refine Wrt.of (fun w=>?_) (kP (L := fun v=>(G9 l v).den) ang eX (fun _=>false) l (by omega) (fun v bd bs=>?_) fun s _=>Wrt.of (fun w=>by simp only [ang,afO,Mo.den,aP,aI,aJ,aN,aO]) (Wrt.last (gQ s)))
  · unfold Q85 ald; simp only [Mo.den,aP,aI,aJ,aN,aO,afP]
  · simp only [G9,Mo.den,aP,aI,aJ,aN,aO]
theorem U9 (l:List aj) (h:aZ (l.map aj.lf) ≤ 100000000) : Wrt (Q63 l) (jd iw l) (l.any je) := by
  have := ji l
  refine Wrt.of (fun w=>?_) (kP (L := fun v=>(GX l v).den) Q96 iw je l (by omega) (fun v bd bs=>?_) fun s hs=>o8 s (by have := jT hs; omega))
  · unfold Q63 ala; simp only [Mo.den,aP,aI,aJ,aN,aO,afz]
  · simp only [GX,Mo.den,aP,aI,aJ,aN,aO]
noncomputable def nM (x:aV) : List Int := jd fJ x.dh ++ (iO x.yP)
def Bj (x:aV) : Bool := false || (false)
theorem Va (x:aV) (h:aQ x.lf1 ≤ 100000000) : (nM x).length ≤ 40 * aQ x.lf1 := by
  have hb := lH x
  have := oK x.dh
  have := jJ x.yP
  unfold nM
  simp only [List.length_append]
  omega
theorem acv (x:aV) (h:aQ x.lf1 ≤ 100000000) : Wrt (aje x) (nM x) (Bj x) := by
  have hb := lH x
  exact Wrt.of (fun w=>by unfold aje afx; simp only [Mo.den,aP,aI,aJ,aN,aO]) (Wrt.bind (uo x.dh (by omega)) (Wrt.last (kN x.yP)))
theorem Px (l:List aV) (h:aZ (l.map aV.lf) ≤ 100000000) : (jd nM l).length ≤ 11 + 40 * aZ (l.map aV.lf) := lY nM aV.lf l fun v hv=>by
  have h1 := dM aV.lf hv
  rw [aV.bD] at h1 ⊢
  exact Va v (by omega)
theorem Xm (l:List aV) (h:aZ (l.map aV.lf) ≤ 100000000) : Wrt (Q66 l) (jd nM l) (l.any Bj) := by
  have := oI l
  refine Wrt.of (fun w=>?_) (kP (L := fun v=>(GV l v).den) aje nM Bj l (by omega) (fun v bd bs=>?_) fun s hs=>acv s (by have h1 := dM aV.lf hs; rw [aV.bD] at h1; omega))
  · unfold Q66 ak9; simp only [Mo.den,aP,aI,aJ,aN,aO,afy]
  · simp only [GV,Mo.den,aP,aI,aJ,aN,aO]
noncomputable def lZ (x:bG) : List Int := eX x.fX ++ (eX x.fY)
def uq (x:bG) : Bool := false || (false)
theorem Vb (x:bG) (h:aQ x.lf1 ≤ 100000000) : (lZ x).length ≤ 40 * aQ x.lf1 := by
  have hb := mM x
  have := fK x.fX
  have := fK x.fY
  unfold lZ
  simp only [List.length_append]
  omega
theorem acw (x:bG) (h:aQ x.lf1 ≤ 100000000) : Wrt (ajg x) (lZ x) (uq x) := by
  have hb := mM x
  exact Wrt.of (fun w=>by unfold ajg afB; simp only [Mo.den,aP,aI,aJ,aN,aO]) (Wrt.bind (gQ x.fX) (Wrt.last (gQ x.fY)))
theorem Py (l:List bG) (h:aZ (l.map bG.lf) ≤ 100000000) : (jd lZ l).length ≤ 11 + 40 * aZ (l.map bG.lf) := lY lZ bG.lf l fun v hv=>by
  have h1 := dM bG.lf hv
  rw [bG.bD] at h1 ⊢
  exact Vb v (by omega)
theorem Xn (l:List bG) (h:aZ (l.map bG.lf) ≤ 100000000) : Wrt (Q67 l) (jd lZ l) (l.any uq) := by
  have := Iq l
  refine Wrt.of (fun w=>?_) (kP (L := fun v=>(GY l v).den) ajg lZ uq l (by omega) (fun v bd bs=>?_) fun s hs=>acw s (by have h1 := dM bG.lf hs; rw [bG.bD] at h1; omega))
  · unfold Q67 alb; simp only [Mo.den,aP,aI,aJ,aN,aO,afC]
  · simp only [GY,Mo.den,aP,aI,aJ,aN,aO]
mutual
noncomputable def jU:aG → List Int
  | .mk a0 a1 a2 a3 a4 a5 a6=>eX a0 ++ (jd fJ a1 ++ (fJ a2 ++ (jd fJ a3 ++ (iw a4 ++ (eX a5 ++ ((eX (a6.length:Int) ++ uw a6)))))))
noncomputable def uw:List aG → List Int
  | []=>[]
  | x :: r=>jU x ++ uw r
end
mutual
def l7:aG → Bool
  | .mk a0 a1 a2 a3 a4 a5 a6=>false || (false || (false || (false || (je a4 || (false || (uy a6))))))
def uy:List aG → Bool
  | []=>false
  | x :: r=>l7 x || uy r
end
theorem DU:∀ l:List aG,uw l = (l.map jU).flatten
  | []=>by rw [uw]; rfl
  | x :: r=>by rw [uw,DU r]; rfl
theorem DV:∀ l:List aG,uy l = l.any l7
  | []=>by rw [uy]; rfl
  | x :: r=>by rw [uy,DV r]; rfl
theorem IK (x:aG) : jU x = eX x.fOp ++ (jd fJ x.dh ++ (fJ x.fName ++ (jd fJ x.fB ++ (iw x.fArg ++ (eX x.fN ++ (jd jU x.bW)))))) := by
  cases x
  rw [jU]
  simp only [DU]
  rfl
theorem Xo (x:aG) : l7 x = (false || (false || (false || (false || (je x.fArg || (false || (x.bW.any l7))))))) := by
  cases x
  rw [l7]
  simp only [DV]
  rfl
theorem Vd (n:Nat) : (∀ x:aG,aQ x.lf1 < n → aQ x.lf1 ≤ 100000000 → (jU x).length ≤ 40 * aQ x.lf1) := by
  induction n with
  | zero=>intro x hn; omega
  | succ n ih =>
    intro x hn h
    have hb := kU x
    have := fK x.fOp
    have := oK x.dh
    have := kQ x.fName
    have := oK x.fB
    have := lK x.fArg (by omega)
    have := fK x.fN
    have := lY jU aG.lf x.bW fun v hv=>(by have h1 := dM aG.lf hv; rw [aG.bD] at h1 ⊢; exact ih v (by omega) (by omega))
    rw [IK]
    simp only [List.length_append]
    omega
theorem Xp (x:aG) (h:aQ x.lf1 ≤ 100000000) : (jU x).length ≤ 40 * aQ x.lf1 := (Vd (aQ x.lf1 + 1)) x (Nat.lt_succ_self _) h
theorem Jh (n:Nat) : ∀ F,4 * n ≤ F → (∀ x:aG,aQ x.lf1 < n → aQ x.lf1 ≤ 100000000 → Wrt ((nO F).m1 x) (jU x) (l7 x)) := by
  induction n with
  | zero=>intro F _; intro x hn; omega
  | succ n ih =>
    intro F hF
    obtain ⟨G,rfl⟩ : ∃ G,F = G + 2 := ⟨F - 2,by omega⟩
    have ihExpr := (ih G (by omega))
    have ih1Expr := (ih (G + 1) (by omega))
    have hlExpr:∀ l:List aG,aZ (l.map aG.lf) < n → aZ (l.map aG.lf) ≤ 100000000 → Wrt ((nO (G + 1)).m2 l) (jd jU l) (l.any l7) := fun l hn hb=>by
      have := Df l
      refine Wrt.of (fun w=>?_) (kP (L := fun v=>(GZ (nO G) l v).den) (nO G).m1 jU l7 l (by omega) (fun v bd bs=>?_) fun s hs=>ihExpr s (by have h1 := dM aG.lf hs; rw [aG.bD] at h1; omega) (by have h1 := dM aG.lf hs; rw [aG.bD] at h1; omega))
      · show Mo.den (YI (nO G) l w) = _
        unfold YI; simp only [Mo.den,aP,aI,aJ,aN,aO,afE]
      · simp only [GZ,Mo.den,aP,aI,aJ,aN,aO]
    intro x hn h
    have hb := kU x
    rw [IK,Xo]
    exact Wrt.of (fun w=>by show Mo.den (Om (nO (G + 1)) x w) = _; unfold Om; simp only [Mo.den,aP,aI,aJ,aN,aO]) (Wrt.bind (gQ x.fOp) (Wrt.bind (uo x.dh (by omega)) (Wrt.bind (nK x.fName) (Wrt.bind (uo x.fB (by omega)) (Wrt.bind (o8 x.fArg (by omega)) (Wrt.bind (gQ x.fN) (Wrt.last (hlExpr x.bW (by omega) (by omega)))))))))
theorem ahz (x:aG) (h:aQ x.lf1 ≤ 100000000) : Wrt (aoU x) (jU x) (l7 x) := ((Jh (aQ x.lf1 + 1)) FU (by have := jc; omega)) x (Nat.lt_succ_self _) h
mutual
noncomputable def kV:aC → List Int
  | .mk a0 a1 a2 a3 a4 a5 a6 a7 a8=>eX a0 ++ (jd fJ a1 ++ (iw a2 ++ (jd iw a3 ++ (eX a4 ++ (eX a5 ++ (eX a6.aF ++ (jd lZ a6.dB ++ (eX a6.fR ++ (jU a7 ++ ((eX (a8.length:Int) ++ uz a8)))))))))))
noncomputable def uz:List aC → List Int
  | []=>[]
  | x :: r=>kV x ++ uz r
end
mutual
def mV:aC → Bool
  | .mk a0 a1 a2 a3 a4 a5 a6 a7 a8=>false || (false || (je a2 || (a3.any je || (false || (false || (false || (a6.dB.any uq || (false || (l7 a7 || (uD a8))))))))))
def uD:List aC → Bool
  | []=>false
  | x :: r=>mV x || uD r
end
theorem DW:∀ l:List aC,uz l = (l.map kV).flatten
  | []=>by rw [uz]; rfl
  | x :: r=>by rw [uz,DW r]; rfl
theorem DX:∀ l:List aC,uD l = l.any mV
  | []=>by rw [uD]; rfl
  | x :: r=>by rw [uD,DX r]; rfl
theorem IL (x:aC) : kV x = eX x.fOp ++ (jd fJ x.dh ++ (iw x.fArg ++ (jd iw x.fArgs ++ (eX x.fN ++ (eX x.fM ++ (eX x.dH.aF ++ (jd lZ x.dH.dB ++ (eX x.dH.fR ++ (jU x.fExpr ++ (jd kV x.bW)))))))))) := by
  cases x
  rw [kV]
  simp only [DW]
  rfl
theorem Xq (x:aC) : mV x = (false || (false || (je x.fArg || (x.fArgs.any je || (false || (false || (false || (x.dH.dB.any uq || (false || (l7 x.fExpr || (x.bW.any mV))))))))))) := by
  cases x
  rw [mV]
  simp only [DX]
  rfl
theorem Ve (n:Nat) : (∀ x:aC,aQ x.lf1 < n → aQ x.lf1 ≤ 100000000 → (kV x).length ≤ 40 * aQ x.lf1) := by
  induction n with
  | zero=>intro x hn; omega
  | succ n ih =>
    intro x hn h
    have hb := jf x
    have hs := oG x.dH
    have := fK x.fOp
    have := oK x.dh
    have := lK x.fArg (by omega)
    have := IJ x.fArgs (by omega)
    have := fK x.fN
    have := fK x.fM
    have := fK x.dH.aF
    have := Py x.dH.dB (by omega)
    have := fK x.dH.fR
    have := Xp x.fExpr (by omega)
    have := lY kV aC.lf x.bW fun v hv=>(by have h1 := dM aC.lf hv; rw [aC.bD] at h1 ⊢; exact ih v (by omega) (by omega))
    rw [IL]
    simp only [List.length_append]
    omega
theorem Xr (x:aC) (h:aQ x.lf1 ≤ 100000000) : (kV x).length ≤ 40 * aQ x.lf1 := (Ve (aQ x.lf1 + 1)) x (Nat.lt_succ_self _) h
theorem Ji (n:Nat) : ∀ F,4 * n ≤ F → (∀ x:aC,aQ x.lf1 < n → aQ x.lf1 ≤ 100000000 → Wrt ((nP F).m1 x) (kV x) (mV x)) := by
  induction n with
  | zero=>intro F _; intro x hn; omega
  | succ n ih =>
    intro F hF
    obtain ⟨G,rfl⟩ : ∃ G,F = G + 2 := ⟨F - 2,by omega⟩
    have ihPred := (ih G (by omega))
    have ih1Pred := (ih (G + 1) (by omega))
    have hlPred:∀ l:List aC,aZ (l.map aC.lf) < n → aZ (l.map aC.lf) ≤ 100000000 → Wrt ((nP (G + 1)).m2 l) (jd kV l) (l.any mV) := fun l hn hb=>by
      have := wJ l
      refine Wrt.of (fun w=>?_) (kP (L := fun v=>(G5 (nP G) l v).den) (nP G).m1 kV mV l (by omega) (fun v bd bs=>?_) fun s hs=>ihPred s (by have h1 := dM aC.lf hs; rw [aC.bD] at h1; omega) (by have h1 := dM aC.lf hs; rw [aC.bD] at h1; omega))
      · show Mo.den (YJ (nP G) l w) = _
        unfold YJ; simp only [Mo.den,aP,aI,aJ,aN,aO,afG]
      · simp only [G5,Mo.den,aP,aI,aJ,aN,aO]
    intro x hn h
    have hb := jf x
    have hs := oG x.dH
    rw [IL,Xq]
    exact Wrt.of (fun w=>by show Mo.den (Oo (nP (G + 1)) x w) = _; unfold Oo; simp only [Mo.den,aP,aI,aJ,aN,aO]) (Wrt.bind (gQ x.fOp) (Wrt.bind (uo x.dh (by omega)) (Wrt.bind (o8 x.fArg (by omega)) (Wrt.bind (U9 x.fArgs (by omega)) (Wrt.bind (gQ x.fN) (Wrt.bind (gQ x.fM) (Wrt.bind (gQ x.dH.aF) (Wrt.bind (Xn x.dH.dB (by omega)) (Wrt.bind (gQ x.dH.fR) (Wrt.bind (ahz x.fExpr (by omega)) (Wrt.last (hlPred x.bW (by omega) (by omega)))))))))))))
theorem ahA (x:aC) (h:aQ x.lf1 ≤ 100000000) : Wrt (aoV x) (kV x) (mV x) := ((Ji (aQ x.lf1 + 1)) FU (by have := jc; omega)) x (Nat.lt_succ_self _) h
noncomputable def lq (x:aK) : List Int := fJ x.fName ++ (eX x.aF ++ (jd nM x.gG ++ (iO x.eP ++ (iO x.jm ++ (iO x.iq ++ (kV x.bn))))))
def qJ (x:aK) : Bool := false || (false || (x.gG.any Bj || (false || (false || (false || (mV x.bn))))))
theorem DY (x:aK) (h:aQ x.lf1 ≤ 100000000) : (lq x).length ≤ 40 * aQ x.lf1 := by
  have hb := jH x
  have := kQ x.fName
  have := fK x.aF
  have := Px x.gG (by omega)
  have := jJ x.eP
  have := jJ x.jm
  have := jJ x.iq
  have := Xr x.bn (by omega)
  unfold lq
  simp only [List.length_append]
  omega
theorem MS (x:aK) (h:aQ x.lf1 ≤ 100000000) : Wrt (ajm x) (lq x) (qJ x) := by
  have hb := jH x
  exact Wrt.of (fun w=>by unfold ajm afH; simp only [Mo.den,aP,aI,aJ,aN,aO]) (Wrt.bind (nK x.fName) (Wrt.bind (gQ x.aF) (Wrt.bind (Xm x.gG (by omega)) (Wrt.bind (kN x.eP) (Wrt.bind (kN x.jm) (Wrt.bind (kN x.iq) (Wrt.last (ahA x.bn (by omega)))))))))
theorem Pz (l:List aK) (h:aZ (l.map aK.lf) ≤ 100000000) : (jd lq l).length ≤ 11 + 40 * aZ (l.map aK.lf) := lY lq aK.lf l fun v hv=>by
  have h1 := dM aK.lf hv
  rw [aK.bD] at h1 ⊢
  exact DY v (by omega)
theorem Vf (l:List aK) (h:aZ (l.map aK.lf) ≤ 100000000) : Wrt (Q68 l) (jd lq l) (l.any qJ) := by
  have := nD l
  refine Wrt.of (fun w=>?_) (kP (L := fun v=>(G6 l v).den) ajm lq qJ l (by omega) (fun v bd bs=>?_) fun s hs=>MS s (by have h1 := dM aK.lf hs; rw [aK.bD] at h1; omega))
  · unfold Q68 alc; simp only [Mo.den,aP,aI,aJ,aN,aO,afI]
  · simp only [G6,Mo.den,aP,aI,aJ,aN,aO]
mutual
noncomputable def mW:bC → List Int
  | .mk a0 a1=>fJ a0 ++ (gY a1)
noncomputable def uF:List bC → List Int
  | []=>[]
  | x :: r=>mW x ++ uF r
noncomputable def gY:aA → List Int
  | .mk a0 a1 a2 a3 a4 a5 a6 a7 a8 a9 a10 a11 a12=>eX a0 ++ (iO a1 ++ (iw a2 ++ (iO a3 ++ (iw a4 ++ (jd iw a5 ++ (eX a6 ++ (eX a7 ++ (jd fJ a8 ++ ((eX (a9.length:Int) ++ uF a9) ++ (iO a10 ++ ((eX (a11.length:Int) ++ oL a11) ++ (iO a12))))))))))))
noncomputable def oL:List aA → List Int
  | []=>[]
  | x :: r=>gY x ++ oL r
end
mutual
def o9:bC → Bool
  | .mk a0 a1=>false || (jg a1)
def uG:List bC → Bool
  | []=>false
  | x :: r=>o9 x || uG r
def jg:aA → Bool
  | .mk a0 a1 a2 a3 a4 a5 a6 a7 a8 a9 a10 a11 a12=>false || (false || (je a2 || (false || (je a4 || (a5.any je || (false || (false || (false || (uG a9 || (false || (oM a11 || (false))))))))))))
def oM:List aA → Bool
  | []=>false
  | x :: r=>jg x || oM r
end
theorem DZ:∀ l:List bC,uF l = (l.map mW).flatten
  | []=>by rw [uF]; rfl
  | x :: r=>by rw [uF,DZ r]; rfl
theorem D5:∀ l:List bC,uG l = l.any o9
  | []=>by rw [uG]; rfl
  | x :: r=>by rw [uG,D5 r]; rfl
theorem xH:∀ l:List aA,oL l = (l.map gY).flatten
  | []=>by rw [oL]; rfl
  | x :: r=>by rw [oL,xH r]; rfl
theorem xI:∀ l:List aA,oM l = l.any jg
  | []=>by rw [oM]; rfl
  | x :: r=>by rw [oM,xI r]; rfl
theorem IQ (x:bC) : mW x = fJ x.fName ++ (gY x.aW) := by
  cases x
  rw [mW]
  rfl
theorem Xt (x:bC) : o9 x = (false || (jg x.aW)) := by
  cases x
  rw [o9]
  rfl
theorem Bl (x:aA) : gY x = eX x.jw ++ (iO x.iR ++ (iw x.jO ++ (iO x.iT ++ (iw x.jP ++ (jd iw x.jl ++ (eX x.iU ++ (eX x.iV ++ (jd fJ x.dN ++ (jd mW x.dX ++ (iO x.jo ++ (jd gY x.fC ++ (iO x.eP)))))))))))) := by
  cases x
  rw [gY]
  simp only [DZ,xH]
  rfl
theorem PD (x:aA) : jg x = (false || (false || (je x.jO || (false || (je x.jP || (x.jl.any je || (false || (false || (false || (x.dX.any o9 || (false || (x.fC.any jg || (false))))))))))))) := by
  cases x
  rw [jg]
  simp only [D5,xI]
  rfl
theorem Jj (n:Nat) : (∀ x:bC,aQ x.lf1 < n → aQ x.lf1 ≤ 100000000 → (mW x).length ≤ 40 * aQ x.lf1) ∧ (∀ x:aA,aQ x.lf1 < n → aQ x.lf1 ≤ 100000000 → (gY x).length ≤ 40 * aQ x.lf1) := by
  induction n with
  | zero=>exact ⟨fun x hn=>by omega,fun x hn=>by omega⟩
  | succ n ih =>
    refine ⟨?_,?_⟩
    · intro x hn h
      have hb := oh x
      have := kQ x.fName
      have := ih.2 x.aW (by omega) (by omega)
      rw [IQ]
      simp only [List.length_append]
      omega
    · intro x hn h
      have hb := iP x
      have := fK x.jw
      have := jJ x.iR
      have := lK x.jO (by omega)
      have := jJ x.iT
      have := lK x.jP (by omega)
      have := IJ x.jl (by omega)
      have := fK x.iU
      have := fK x.iV
      have := oK x.dN
      have := lY mW bC.lf x.dX fun v hv=>(by have h1 := dM bC.lf hv; rw [bC.bD] at h1 ⊢; exact ih.1 v (by omega) (by omega))
      have := jJ x.jo
      have := lY gY aA.lf x.fC fun v hv=>(by have h1 := dM aA.lf hv; rw [aA.bD] at h1 ⊢; exact ih.2 v (by omega) (by omega))
      have := jJ x.eP
      rw [Bl]
      simp only [List.length_append]
      omega
theorem PE (x:aA) (h:aQ x.lf1 ≤ 100000000) : (gY x).length ≤ 40 * aQ x.lf1 := (Jj (aQ x.lf1 + 1)).2 x (Nat.lt_succ_self _) h
theorem Ep (n:Nat) : ∀ F,4 * n ≤ F → (∀ x:bC,aQ x.lf1 < n → aQ x.lf1 ≤ 100000000 → Wrt ((iZ F).m4 x) (mW x) (o9 x)) ∧ (∀ x:aA,aQ x.lf1 < n → aQ x.lf1 ≤ 100000000 → Wrt ((iZ F).m1 x) (gY x) (jg x)) := by
  induction n with
  | zero=>intro F _; exact ⟨fun x hn=>by omega,fun x hn=>by omega⟩
  | succ n ih =>
    intro F hF
    obtain ⟨G,rfl⟩ : ∃ G,F = G + 2 := ⟨F - 2,by omega⟩
    have ihProp := (ih G (by omega)).1
    have ih1Prop := (ih (G + 1) (by omega)).1
    have ihSchema := (ih G (by omega)).2
    have ih1Schema := (ih (G + 1) (by omega)).2
    have hlProp:∀ l:List bC,aZ (l.map bC.lf) < n → aZ (l.map bC.lf) ≤ 100000000 → Wrt ((iZ (G + 1)).m2 l) (jd mW l) (l.any o9) := fun l hn hb=>by
      have := Dh l
      refine Wrt.of (fun w=>?_) (kP (L := fun v=>(G7 (iZ G) l v).den) (iZ G).m4 mW o9 l (by omega) (fun v bd bs=>?_) fun s hs=>ihProp s (by have h1 := dM bC.lf hs; rw [bC.bD] at h1; omega) (by have h1 := dM bC.lf hs; rw [bC.bD] at h1; omega))
      · show Mo.den (YL (iZ G) l w) = _
        unfold YL; simp only [Mo.den,aP,aI,aJ,aN,aO,afK]
      · simp only [G7,Mo.den,aP,aI,aJ,aN,aO]
    have hlSchema:∀ l:List aA,aZ (l.map aA.lf) < n → aZ (l.map aA.lf) ≤ 100000000 → Wrt ((iZ (G + 1)).m3 l) (jd gY l) (l.any jg) := fun l hn hb=>by
      have := tZ l
      refine Wrt.of (fun w=>?_) (kP (L := fun v=>(G8 (iZ G) l v).den) (iZ G).m1 gY jg l (by omega) (fun v bd bs=>?_) fun s hs=>ihSchema s (by have h1 := dM aA.lf hs; rw [aA.bD] at h1; omega) (by have h1 := dM aA.lf hs; rw [aA.bD] at h1; omega))
      · show Mo.den (YM (iZ G) l w) = _
        unfold YM; simp only [Mo.den,aP,aI,aJ,aN,aO,afL]
      · simp only [G8,Mo.den,aP,aI,aJ,aN,aO]
    refine ⟨?_,?_⟩
    · intro x hn h
      have hb := oh x
      rw [IQ,Xt]
      exact Wrt.of (fun w=>by show Mo.den (Ot (iZ (G + 1)) x w) = _; unfold Ot; simp only [Mo.den,aP,aI,aJ,aN,aO]) (Wrt.bind (nK x.fName) (Wrt.last (ih1Schema x.aW (by omega) (by omega))))
    · intro x hn h
      have hb := iP x
      rw [Bl,PD]
      exact Wrt.of (fun w=>by show Mo.den (Oq (iZ (G + 1)) x w) = _; unfold Oq; simp only [Mo.den,aP,aI,aJ,aN,aO]) (Wrt.bind (gQ x.jw) (Wrt.bind (kN x.iR) (Wrt.bind (o8 x.jO (by omega)) (Wrt.bind (kN x.iT) (Wrt.bind (o8 x.jP (by omega)) (Wrt.bind (U9 x.jl (by omega)) (Wrt.bind (gQ x.iU) (Wrt.bind (gQ x.iV) (Wrt.bind (uo x.dN (by omega)) (Wrt.bind (hlProp x.dX (by omega) (by omega)) (Wrt.bind (kN x.jo) (Wrt.bind (hlSchema x.fC (by omega) (by omega)) (Wrt.last (kN x.eP))))))))))))))
theorem Xu (x:aA) (h:aQ x.lf1 ≤ 100000000) : Wrt (aoW x) (gY x) (jg x) := ((Ep (aQ x.lf1 + 1)) FU (by have := jc; omega)).2 x (Nat.lt_succ_self _) h
noncomputable def uH (x:bV) : List Int := fJ x.fName ++ (jd lq x.cu ++ (gY x.aW ++ (eX x.kX ++ (eX x.iW))))
def IU (x:bV) : Bool := false || (x.cu.any qJ || (jg x.aW || (false || (false))))
theorem Vg (x:bV) (h:aQ x.lf1 ≤ 100000000) : (uH x).length ≤ 40 * aQ x.lf1 := by
  have hb := oH x
  have := kQ x.fName
  have := Pz x.cu (by omega)
  have := PE x.aW (by omega)
  have := fK x.kX
  have := fK x.iW
  unfold uH
  simp only [List.length_append]
  omega
theorem acy (x:bV) (h:aQ x.lf1 ≤ 100000000) : Wrt (anf x) (uH x) (IU x) := by
  have hb := oH x
  exact Wrt.of (fun w=>by unfold anf afN; simp only [Mo.den,aP,aI,aJ,aN,aO]) (Wrt.bind (nK x.fName) (Wrt.bind (Vf x.cu (by omega)) (Wrt.bind (Xu x.aW (by omega)) (Wrt.bind (gQ x.kX) (Wrt.last (gQ x.iW))))))
mutual
noncomputable def jB:ak → List Int
  | .mk a0 a1 a2 a3 a4 a5 a6 a7 a8 a9 a10 a11=>eX a0 ++ (fJ a1 ++ (iw a2 ++ (iw a3 ++ (iw a4 ++ (uH a5 ++ (lq a6 ++ (fJ a7 ++ (eX a8 ++ ((eX (a9.length:Int) ++ qK a9) ++ (jd eX a10 ++ (iO a11)))))))))))
noncomputable def qK:List ak → List Int
  | []=>[]
  | x :: r=>jB x ++ qK r
end
mutual
def jC:ak → Bool
  | .mk a0 a1 a2 a3 a4 a5 a6 a7 a8 a9 a10 a11=>false || (false || (je a2 || (je a3 || (je a4 || (IU a5 || (qJ a6 || (false || (false || (qL a9 || (false || (false)))))))))))
def qL:List ak → Bool
  | []=>false
  | x :: r=>jC x || qL r
end
theorem Bo:∀ l:List ak,qK l = (l.map jB).flatten
  | []=>by rw [qK]; rfl
  | x :: r=>by rw [qK,Bo r]; rfl
theorem Bq:∀ l:List ak,qL l = l.any jC
  | []=>by rw [qL]; rfl
  | x :: r=>by rw [qL,Bq r]; rfl
theorem D6 (x:ak) : jB x = eX x.aF ++ (fJ x.fQ ++ (iw x.iy ++ (iw x.aX ++ (iw x.dJ ++ (uH x.dD ++ (lq x.aT ++ (fJ x.lQ ++ (eX x.eG ++ (jd jB x.dG ++ (jd eX x.dO ++ (iO x.gq))))))))))) := by
  cases x
  rw [jB]
  simp only [Bo]
  rfl
theorem Vh (x:ak) : jC x = (false || (false || (je x.iy || (je x.aX || (je x.dJ || (IU x.dD || (qJ x.aT || (false || (false || (x.dG.any jC || (false || (false)))))))))))) := by
  cases x
  rw [jC]
  simp only [Bq]
  rfl
theorem PG (n:Nat) : (∀ x:ak,aQ x.lf1 < n → aQ x.lf1 ≤ 100000000 → (jB x).length ≤ 40 * aQ x.lf1) := by
  induction n with
  | zero=>intro x hn; omega
  | succ n ih =>
    intro x hn h
    have hb := kJ x
    have := fK x.aF
    have := kQ x.fQ
    have := lK x.iy (by omega)
    have := lK x.aX (by omega)
    have := lK x.dJ (by omega)
    have := Vg x.dD (by omega)
    have := DY x.aT (by omega)
    have := kQ x.lQ
    have := fK x.eG
    have := lY jB ak.lf x.dG fun v hv=>(by have h1 := dM ak.lf hv; rw [ak.bD] at h1 ⊢; exact ih v (by omega) (by omega))
    have := Xl x.dO
    have := jJ x.gq
    rw [D6]
    simp only [List.length_append]
    omega
theorem Vj (x:ak) (h:aQ x.lf1 ≤ 100000000) : (jB x).length ≤ 40 * aQ x.lf1 := (PG (aQ x.lf1 + 1)) x (Nat.lt_succ_self _) h
theorem IV (n:Nat) : ∀ F,4 * n ≤ F → (∀ x:ak,aQ x.lf1 < n → aQ x.lf1 ≤ 100000000 → Wrt ((nR F).m1 x) (jB x) (jC x)) := by
  induction n with
  | zero=>intro F _; intro x hn; omega
  | succ n ih =>
    intro F hF
    obtain ⟨G,rfl⟩ : ∃ G,F = G + 2 := ⟨F - 2,by omega⟩
    have ihWrite := (ih G (by omega))
    have ih1Write := (ih (G + 1) (by omega))
    have hlWrite:∀ l:List ak,aZ (l.map ak.lf) < n → aZ (l.map ak.lf) ≤ 100000000 → Wrt ((nR (G + 1)).m2 l) (jd jB l) (l.any jC) := fun l hn hb=>by
      have := Ir l
      refine Wrt.of (fun w=>?_) (kP (L := fun v=>(He (nR G) l v).den) (nR G).m1 jB jC l (by omega) (fun v bd bs=>?_) fun s hs=>ihWrite s (by have h1 := dM ak.lf hs; rw [ak.bD] at h1; omega) (by have h1 := dM ak.lf hs; rw [ak.bD] at h1; omega))
      · show Mo.den (YN (nR G) l w) = _
        unfold YN; simp only [Mo.den,aP,aI,aJ,aN,aO,afR]
      · simp only [He,Mo.den,aP,aI,aJ,aN,aO]
    intro x hn h
    have hb := kJ x
    rw [D6,Vh]
    exact Wrt.of (fun w=>by show Mo.den (Ou (nR (G + 1)) x w) = _; unfold Ou; simp only [Mo.den,aP,aI,aJ,aN,aO]) (Wrt.bind (gQ x.aF) (Wrt.bind (nK x.fQ) (Wrt.bind (o8 x.iy (by omega)) (Wrt.bind (o8 x.aX (by omega)) (Wrt.bind (o8 x.dJ (by omega)) (Wrt.bind (acy x.dD (by omega)) (Wrt.bind (MS x.aT (by omega)) (Wrt.bind (nK x.lQ) (Wrt.bind (gQ x.eG) (Wrt.bind (hlWrite x.dG (by omega) (by omega)) (Wrt.bind (ahy x.dO (by omega)) (Wrt.last (kN x.gq)))))))))))))
theorem acz (x:ak) (h:aQ x.lf1 ≤ 100000000) : Wrt (ajt x) (jB x) (jC x) := ((IV (aQ x.lf1 + 1)) FU (by have := jc; omega)) x (Nat.lt_succ_self _) h
end Go.Proofs.YtflpefkohpjjpaaGreatDoor
set_option linter.unusedSimpArgs false
set_option linter.unusedVariables false
namespace Go.Proofs.YtflpefkohpjjpaaGreatDoor
open Go.RowKit
noncomputable def qM (e:bM) : List Int := eX e.pY ++ (eX e.eG ++ (fJ e.kC ++ (eX e.nX ++ jB e.kD)))
theorem Vk (e:bM) (h:aQ e.lf1 ≤ 100000000) : (qM e).length ≤ 40 * aQ e.lf1 := by
  have hb := rC e
  have := fK e.pY
  have := fK e.eG
  have := fK e.nX
  have := kQ e.kC
  have := Vj e.kD (by omega)
  unfold qM
  simp only [List.length_append]
  omega
noncomputable def rP (e:bM) (x:Int) : ByteArray × Int := bif x != 0 then (⟨#[]⟩,x) else bif jC e.kD then (⟨#[]⟩,8) else (strOfNums (qM e),0)
theorem Xv (e:bM) (h:aQ e.lf1 ≤ 100000000) : abL e = (Q95 e).bind fun x=>some (rP e x) := by
  have hb := rC e
  have hl := Vk e h
  have h0:([] : List Int).length + (qM e).length ≤ 100000000000 := by rw [List.length_nil]; omega
  have hW:Wrt (fun w=>(Q18 e.pY w).bind fun a=>(Q18 e.eG a).bind fun a=>(Q87 e.kC a).bind fun a=>(Q18 e.nX a).bind fun a=>ajt e.kD a) (qM e) (false || (false || (false || (false || jC e.kD)))) := (Wrt.bind (gQ e.pY) (Wrt.bind (gQ e.eG) (Wrt.bind (nK e.kC) (Wrt.bind (gQ e.nX) (acz e.kD (by omega))))))
  have hw := hW.h ⟨[],false⟩ h0
  clear hW h0
  unfold abL afS
  simp only [Mo.den,aP,aI,aJ,aN,aO]
  cases Q95 e with
  | none=>rfl
  | some x =>
    simp only [Option.bind_some]
    unfold rP
    cases hx:x != 0 with
    | true=>rfl
    | false =>
      simp only [cond_false]
      have key:((Q18 e.pY ⟨[],false⟩).bind fun a=>(Q18 e.eG a).bind fun a=>(Q87 e.kC a).bind fun a=>(Q18 e.nX a).bind fun a=>ajt e.kD a) = some ⟨qM e,jC e.kD⟩ := by
        refine hw.trans ?_
        simp only [List.nil_append,Bool.false_or]
      have hb2:∀ {α β γ:Type} (m:Option α) (f : α → Option β) (g : β → Option γ),(m.bind f).bind g = m.bind fun a=>(f a).bind g := fun m f g=>by cases m <;> rfl
      have k2 := congrArg (fun o=>o.bind fun r=>bif r.bH then some ((⟨#[]⟩ : ByteArray),(8:Int)) else some (strOfNums r.aS,0)) key
      simp only [hb2] at k2
      refine k2.trans ?_
      simp only [Option.bind_some]
      cases jC e.kD <;> rfl
end Go.Proofs.YtflpefkohpjjpaaGreatDoor
set_option linter.unusedSimpArgs false
set_option linter.unusedVariables false
namespace Go.Proofs.YtflpefkohpjjpaaGreatDoor
open Go.RowKit
theorem acA {e:bM} {s:ByteArray} {x:Int} (h:rP e x = (s,0)) : x = 0 := by
  unfold rP at h
  cases hx:x != 0 with
  | true=>rw [hx] at h; exact congrArg Prod.snd h
  | false=>simpa using hx
theorem Xw (s:ByteArray) (hs:s.size ≤ 20000) : Tot (anl s) (fun x=>x.2 = 0 → abL x.1 = some (s,0) ∧ Q95 x.1 = some 0 ∧ aQ x.1.lf1 ≤ 100000000) := by
  have hs':s.size ≤ 100000000 := by omega
  simp only [anl,ags,L6,LZ,Mo.den,aP,aI,aJ,aN,aO]
  have hr:RdI s (ah.mk s 0 0 false) := ⟨rfl,Int.le_refl _,by show (0:Int) ≤ s.size; omega,Int.le_refl _,by show (0:Int) ≤ 64; decide⟩
  have hm:muR (ah.mk s 0 0 false) = ((s.size:Int) - 0).toNat + 1 := xG rfl
  refine T.bind (gK s hs' _ hr) fun x1 k1=>?_
  refine T.bind (gK s hs' _ k1.i) fun x2 h2=>?_
  have k2 := k1.seq h2 (by decide)
  refine T.bind (kL s hs' _ k2.i) fun x3 h3=>?_
  have k3 := k2.seq h3 (by decide)
  refine T.bind (gK s hs' _ k3.i) fun x4 h4=>?_
  have k4 := k3.seq h4 (by decide)
  refine T.bind (acf s hs' _ k4.i) fun x5 h5=>?_
  have k5 := k4.seq h5 (by decide)
  obtain ⟨_,q⟩ := k5.m1 (by omega)
  dsimp only at q
  have hb:aQ (bM.mk x1.1 x2.1 x3.1 x4.1 x5.1).lf1 ≤ 100000000 := by
    rw [rC]
    dsimp only
    omega
  have bad:Tot (some ((bM.mk 0 0 ⟨#[]⟩ 0 ak.z,(4:Int)) : bM × Int)) (fun x=>x.2 = 0 → abL x.1 = some (s,0) ∧ Q95 x.1 = some 0 ∧ aQ x.1.lf1 ≤ 100000000) := T.ret fun h=>by cases h
  refine T.bind (R := Any) (T.ite (fun _=>T.any) fun _=>T.any) fun c _=>T.ite (fun _=>bad) fun _=>?_
  obtain ⟨v,hv,_⟩ := Eo _ hb
  have he := Xv _ hb
  rw [hv] at he
  simp only [Option.bind_some] at he
  rw [he]
  simp only [Option.bind_some]
  cases h0:(rP (bM.mk x1.1 x2.1 x3.1 x4.1 x5.1) v).2 != 0 with
  | true=>exact bad
  | false =>
    simp only [cond_false,Option.bind_some]
    by_cases h1:(rP (bM.mk x1.1 x2.1 x3.1 x4.1 x5.1) v).1 = s
    · rw [decide_eq_true h1]
      have e2:rP (bM.mk x1.1 x2.1 x3.1 x4.1 x5.1) v = (s,0) := Prod.ext h1 (by simpa using h0)
      exact T.ret fun _=>⟨by rw [he,e2],by rw [hv,acA e2],hb⟩
    · rw [decide_eq_false h1]
      exact bad
end Go.Proofs.YtflpefkohpjjpaaGreatDoor
set_option linter.unusedSimpArgs false
set_option linter.unusedVariables false
namespace Go.Proofs.YtflpefkohpjjpaaGreatDoor
theorem acB:apm = some true := by kernel_rfl
end Go.Proofs.YtflpefkohpjjpaaGreatDoor
set_option linter.unusedSimpArgs false
set_option linter.unusedVariables false
namespace Go.Proofs.YtflpefkohpjjpaaGreatDoor
open Go.RowKit
theorem Jk (s:ByteArray) : Q55 s = some true := by
  simp only [Q55,alx,MF,MC,UJ,UH,Mo.den,aP,aI,aJ,aN,aO,acB]
  by_cases h:(20000:Int) < (s.size:Int)
  · rw [decide_eq_true h]; rfl
  rw [decide_eq_false h]
  obtain ⟨x,hx,hc⟩ := Xw s (by omega)
  rw [hx]
  simp only [cond_false,Option.bind_some]
  cases he:x.2 != 0 with
  | true=>rfl
  | false =>
    obtain ⟨h1,h2,_⟩ := hc (by simpa using he)
    rw [h1,h2]
    simp only [cond_false,Option.bind_some,beq_self_eq_true,cond_true,decide_true]
end Go.Proofs.YtflpefkohpjjpaaGreatDoor
