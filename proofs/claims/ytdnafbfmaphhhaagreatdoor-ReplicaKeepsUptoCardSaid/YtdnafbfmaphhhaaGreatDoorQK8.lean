/- Plain: which calls come to an end; encodings, comparisons, documents that are stored. -/
import Derived.Test.YtdnafbfmaphhhaaGreatDoorQK7
set_option linter.unusedSimpArgs false
set_option linter.unusedVariables false
namespace Go.Proofs.YtdnafbfmaphhhaaGreatDoor
open Go.RowKit
theorem X7 (f:Nat) : ∀ v:ah,aV v.lf1 < f → aV v.lf1 ≤ 100000000 → Tot ((zL f).m1 v) (fun r=>r.size ≤ 12 * aV v.lf1) := by
  induction f with
  | zero=>intro v h; omega
  | succ f ih =>
    intro v h hb
    have hl := fZ v.bV
    have hd := gZ v.bU
    have hbv := bQ v
    have e1:∀ n,(DU n).size ≤ 11 := rO
    have hL:∀ s0:ByteArray,s0.size ≤ 100 → Tot (UR (zL f) v s0 0) (fun r=>r.size ≤ s0.size + 12 * bD (v.bV.map ah.lf)) := by
      intro s0 hs0
      refine T.zX v.bV.length (by omega) (fun k s=>s.2 = (k:Int) ∧ s.1.size ≤ s0.size + 12 * bD ((v.bV.take k).map ah.lf)) _ ⟨rfl,by simp⟩ ?_ ?_
      · rintro k ⟨s,i⟩ hk ⟨h1,h2⟩
        obtain rfl:i = (k:Int) := h1
        have h2:s.size ≤ s0.size + 12 * bD ((v.bV.take k).map ah.lf) := h2
        have hx := List.getElem?_eq_getElem hk
        have hxb := ji (jZ hx)
        have ht := DV ah.lf hx
        have ht2 := kX ah.lf v.bV k
        rw [ah.aU] at ht
        simp only [yY,Mo.den,aJ,aN,bf,aK,aQ,ltt hx,gid hx,cond_true,Option.bind_some]
        refine T.bind (ih _ (by omega) (by omega)) fun r hr=>T.grd (by omega) (T.ret ⟨inc k (by omega),?_⟩)
        show (s ++ r).size ≤ _
        rw [ByteArray.size_append]; omega
      · rintro ⟨s,i⟩ ⟨h1,h2⟩
        obtain rfl:i = (v.bV.length:Int) := h1
        simp only [yY,Mo.den,aJ,aN,bf,aK,aQ,ltn,cond_false]
        rw [List.take_length] at h2
        exact T.ret h2
    have hF:∀ s0:ByteArray,s0.size ≤ 100 → Tot (UU (zL f) v s0 0) (fun r=>r.size ≤ s0.size + 12 * bD (v.bU.map aO.lf)) := by
      intro s0 hs0
      refine T.zX v.bU.length (by omega) (fun k s=>s.2 = (k:Int) ∧ s.1.size ≤ s0.size + 12 * bD ((v.bU.take k).map aO.lf)) _ ⟨rfl,by simp⟩ ?_ ?_
      · rintro k ⟨s,i⟩ hk ⟨h1,h2⟩
        obtain rfl:i = (k:Int) := h1
        have h2:s.size ≤ s0.size + 12 * bD ((v.bU.take k).map aO.lf) := h2
        have hx := List.getElem?_eq_getElem hk
        have hxb := ig (jZ hx)
        have ht := DV aO.lf hx
        have ht2 := kX aO.lf v.bU k
        rw [aO.aU] at ht
        have hf := gY v.bU[k]
        have hn := e1 (v.bU[k].fName.size:Int)
        simp only [yZ,Mo.den,aJ,aN,bf,aK,aQ,ltt hx,gid hx,cond_true,Option.bind_some,JD,ByteArray.size_append]
        refine T.grd (by omega) (T.grd (by omega) (T.bind (ih _ (by omega) (by omega)) fun r hr=>T.grd (by omega) (T.ret ⟨inc k (by omega),?_⟩)))
        show (s ++ DU _ ++ v.bU[k].fName ++ r).size ≤ _
        simp only [ByteArray.size_append]; omega
      · rintro ⟨s,i⟩ ⟨h1,h2⟩
        obtain rfl:i = (v.bU.length:Int) := h1
        simp only [yZ,Mo.den,aJ,aN,bf,aK,aQ,ltn,cond_false]
        rw [List.take_length] at h2
        exact T.ret h2
    simp only [zL,Zi,Jd,zf,MW,MX,Mo.den,aJ,aN,bf,aK,aQ,JD,Option.bind_some,ByteArray.size_append,gQ]
    refine T.bind (R := fun r=>r.size ≤ 12 * aV v.lf1) ?_ fun r hr=>T.ret hr
    have e2 := e1 v.jK
    have e3 := e1 (v.fText.size:Int)
    have e4 := e1 (v.bV.length:Int)
    have e5 := e1 (v.bU.length:Int)
    refine T.bind (R := Any) (T.ite (fun _=>T.any) fun _=>T.any) fun _ _=>?_
    refine T.ite (fun _=>T.grd (by omega) (T.ret (by simp only [ByteArray.size_append,gQ]; omega))) fun _=>?_
    refine T.ite (fun _=>T.grd (by omega) (T.ret (by simp only [ByteArray.size_append,gQ]; omega))) fun _=>?_
    refine T.bind (R := Any) (T.ite (fun _=>T.any) fun _=>T.any) fun _ _=>?_
    refine T.ite (fun _=>T.grd (by omega) (T.grd (by omega) (T.ret (by simp only [ByteArray.size_append,gQ]; omega)))) fun _=>?_
    refine T.ite (fun _=>T.grd (by omega) (T.ret (by simp only [ByteArray.size_append,gQ]; omega))) fun _=>?_
    refine T.ite (fun _=>T.grd (by omega) (T.bind (hL _ (by simp only [ByteArray.size_append,gQ]; omega)) fun r hr=>T.ret (by simp only [ByteArray.size_append,gQ] at hr; omega))) fun _=>?_
    refine T.ite (fun _=>T.grd (by omega) (T.bind (hF _ (by simp only [ByteArray.size_append,gQ]; omega)) fun r hr=>T.ret (by simp only [ByteArray.size_append,gQ] at hr; omega))) fun _=>?_
    exact T.ret (by simp only [gQ]; omega)
theorem TW (v:ah) (hb:aV v.lf1 ≤ 100000000) : Tot (agR v) (fun r=>r.1.size ≤ 12 * aV v.lf1 ∧ (r.2 = 0 ∨ r.2 = 8)) := by
  simp only [agR,Zj,Mo.den,aJ,aN,bf,aK,aQ,Q20]
  refine T.bind (jR v hb) fun b _=>T.ite (fun _=>T.ret ⟨Nat.zero_le _,.inr rfl⟩) fun _=>?_
  exact T.bind (X7 FU v (by have := kQ; omega) hb) fun r hr=>T.ret ⟨hr,.inl rfl⟩
theorem TY (v:ah) (hb:aV v.lf1 ≤ 100000000) : Tot (ag2 v) (fun r=>r.2 = 0 ∨ r.2 = 8) := by
  simp only [ag2,ZA,Mo.den,aJ,aN,bf,aK,aQ]
  exact T.bind (TW v hb) fun r hr=>T.ret hr.2
theorem aiq {α:Type} {l:List α} (h : 0 < l.length) : bT l 0 = some l[0] := ae0 l 0 h
theorem air (v:ah) (hb:aV v.lf1 ≤ 100000000) : Tot (Q49 v) (fun r=>r.2 = true → 0 < v.bU.length) := by
  unfold Q49 afy Gt Jf zh Nl Nk
  simp only [Mo.den,aJ,aN,bf,aK,aQ]
  refine T.bind (R := fun b=>b = false → 0 < v.bU.length) (T.bind (jR v hb) fun b _=>T.ite (fun _=>T.ret (by simp)) fun _=>T.ret fun h=>?_) fun b hb=>?_
  · have h : ¬ (v.bU.length : Int) = 0 := by simpa using h
    omega
  refine T.bind (R := fun b=>b = false → 0 < v.bU.length) (T.ite (fun _=>T.ret (by simp)) fun h=>?_) fun c hc=>T.ite (fun _=>T.ret (by simp)) fun h=>?_
  · rw [aiq (hb h)]; exact T.ret fun _=>hb h
  · have h0 := hc h
    rw [aiq h0]
    simp only [Option.bind_some]
    exact T.bind (R := Any) (T.ite (fun _=>T.any) fun _=>T.any) fun _ _=>T.bind (R := Any) (T.ite (fun _=>T.any) fun _=>T.any) fun _ _=>T.ite (fun _=>T.ret (by simp)) fun _=>T.ret fun _=>h0
theorem Storing_tot' (v:ah) (hb:aV v.lf1 ≤ 100000000) : Tot (adF v) (fun e=>e = 0 ∨ e = 2 → 0 < v.bU.length) := by
  simp only [adF,ZB,Mo.den,aJ,aN,bf,aK,aQ]
  refine T.bind (air v hb) fun r hr=>T.ite (fun _=>T.ret (by omega)) fun h=>?_
  have h0 := hr (by simpa using h)
  exact T.bind (TY v hb) fun r hr=>T.ite (fun _=>T.ret fun _=>h0) fun _=>T.ite (fun _=>T.ret fun _=>h0) fun _=>T.ret fun _=>h0
theorem Qu (v:ah) (hb:aV v.lf1 ≤ 100000000) : Tot (adF v) Any := T.wk (Storing_tot' v hb)
theorem ou (a b:Int) : Tot (adG a b) Any := by
  simp only [adG,ZC,Mo.den,aJ,aN,bf,aK,aQ]
  exact T.ite (fun _=>T.any) fun _=>T.ite (fun _=>T.any) fun _=>T.any
theorem Ig (a b:ByteArray) (ha:a.size ≤ 100000000) (hb:b.size ≤ 100000000) : Tot (Q33 a b) Any := by
  unfold Q33 afz Si CS Np
  simp only [Mo.den,aJ,aN,bf,aK,aQ]
  refine T.bind (R := Any) ?_ (by rintro (r | r) _; exact T.any; exact T.bind (ou _ _) fun _ _=>T.any)
  refine T.XW (min a.size b.size) (by omega) _ (fun k hk=>?_) ?_
  · simp only [iLt (show k < a.size by omega), iLt (show k < b.size by omega), cond_true, Option.bind_some, oN a k (by omega), oN b k (by omega)]
    exact T.ite (fun _=>T.bind (ou _ _) fun _ _=>T.ret trivial) fun _=>T.ret rfl
  · have:(bif decide (((min a.size b.size:Nat) : Int) < (a.size:Int)) then some (decide (((min a.size b.size:Nat) : Int) < (b.size:Int))) else some false) = some false := by
      by_cases h:a.size ≤ b.size
      · rw [Nat.min_eq_left h,ltn]; rfl
      · rw [Nat.min_eq_right (by omega),ltn]; cases decide ((b.size:Int) < (a.size:Int)) <;> rfl
    rw [this]; exact T.ret trivial
theorem JF (f:Nat) : ∀ a b:ah,aV a.lf1 < f → aV a.lf1 ≤ 100000000 → aV b.lf1 ≤ 100000000 → Tot ((Gu f).m1 a b) Any := by
  induction f with
  | zero=>intro a b h; omega
  | succ f ih =>
    intro a b h ha hb
    have hla := fZ a.bV
    have hda := gZ a.bU
    have hlb := fZ b.bV
    have hdb := gZ b.bU
    have hav := bQ a
    have hbv := bQ b
    simp only [Gu,Q3,ag3,Sm,CV,Ny,Nw,Sj,CU,Ns,U2,U1,Mo.den,aJ,aN,bf,aK,aQ]
    refine T.ite (fun _=>T.bind (ou _ _) fun _ _=>T.any) fun _=>?_
    refine T.bind (R := Any) (T.ite (fun _=>T.any) fun _=>T.ite (fun _=>T.any) fun _=>T.any) fun _ _=>T.ite (fun _=>T.bind (ou _ _) fun _ _=>T.any) fun _=>?_
    refine T.bind (R := Any) (T.ite (fun _=>T.any) fun _=>T.ite (fun _=>T.any) fun _=>T.any) fun _ _=>T.ite (fun _=>T.bind (Ig _ _ (by omega) (by omega)) fun _ _=>T.any) fun _=>?_
    refine T.ite (fun _=>?_) fun _=>T.ite (fun _=>?_) fun _=>T.any
    · refine T.bind (R := Any) ?_ (by rintro (r | r) _; exact T.any; exact T.bind (ou _ _) fun _ _ => T.any)
      refine T.XW (min a.bV.length b.bV.length) (by omega) _ (fun k hk=>?_) ?_
      · have hx := List.getElem?_eq_getElem (show k < a.bV.length by omega)
        have hy := List.getElem?_eq_getElem (show k < b.bV.length by omega)
        have hxb := ji (jZ hx)
        have hyb := ji (jZ hy)
        simp only [ltt hx,ltt hy,gid hx,gid hy,cond_true,Option.bind_some]
        exact T.bind (ih _ _ (by omega) (by omega) (by omega)) fun _ _=>T.ite (fun _=>T.ret trivial) fun _=>T.ret rfl
      · have:(bif decide (((min a.bV.length b.bV.length:Nat) : Int) < (a.bV.length:Int)) then some (decide (((min a.bV.length b.bV.length:Nat) : Int) < (b.bV.length:Int))) else some false) = some false := by
          by_cases h:a.bV.length ≤ b.bV.length
          · rw [Nat.min_eq_left h,ltn]; rfl
          · rw [Nat.min_eq_right (by omega),ltn]; cases decide ((b.bV.length:Int) < (a.bV.length:Int)) <;> rfl
        rw [this]; exact T.ret trivial
    · refine T.bind (R := Any) ?_ (by rintro (r | r) _; exact T.any; exact T.bind (ou _ _) fun _ _ => T.any)
      refine T.XW (min a.bU.length b.bU.length) (by omega) _ (fun k hk=>?_) ?_
      · have hx := List.getElem?_eq_getElem (show k < a.bU.length by omega)
        have hy := List.getElem?_eq_getElem (show k < b.bU.length by omega)
        have hxb := ig (jZ hx)
        have hyb := ig (jZ hy)
        rw [gY] at hxb hyb
        simp only [ltt hx,ltt hy,gid hx,gid hy,cond_true,Option.bind_some]
        exact T.bind (Ig _ _ (by omega) (by omega)) fun _ _=>T.bind (R := Any) (T.ite (fun _=>T.bind (ih _ _ (by omega) (by omega) (by omega)) fun _ _=>T.any) fun _=>T.any) fun _ _=>T.ite (fun _=>T.ret trivial) fun _=>T.ret rfl
      · have:(bif decide (((min a.bU.length b.bU.length:Nat) : Int) < (a.bU.length:Int)) then some (decide (((min a.bU.length b.bU.length:Nat) : Int) < (b.bU.length:Int))) else some false) = some false := by
          by_cases h:a.bU.length ≤ b.bU.length
          · rw [Nat.min_eq_left h,ltn]; rfl
          · rw [Nat.min_eq_right (by omega),ltn]; cases decide ((b.bU.length:Int) < (a.bU.length:Int)) <;> rfl
        rw [this]; exact T.ret trivial
theorem Qv (a b:ah) (ha:aV a.lf1 ≤ 100000000) (hb:aV b.lf1 ≤ 100000000) : Tot (Q3 a b) Any := JF FU a b (by have := kQ; omega) ha hb
theorem DZ (d k:ah) (hd:aV d.lf1 ≤ 100000000) (hk:aV k.lf1 ≤ 100000000) : Tot (ag5 d k) Any := by
  have hbv := bQ d
  simp only [ag5,ZF,Gv,Mo.den,aJ,aN,bf,aK,aQ]
  refine T.bind (Storing_tot' d hd) fun e he=>T.bind (R := fun b=>b = false → 0 < d.bU.length) (T.ite (fun _=>T.ret fun h=>he (.inr (by simpa using h))) fun h=>T.ret fun _=>he (.inl (by simpa using h))) fun b hb=>T.ite (fun _=>T.any) fun h=>?_
  have h0 := hb h
  have hm := ig (List.getElem_mem h0)
  rw [gY] at hm
  rw [aiq h0]
  simp only [Option.bind_some]
  exact T.bind (Qv _ _ (by omega) hk) fun _ _=>T.ite (fun _=>T.any) fun _=>T.bind (Qu d hd) fun _ _=>T.any
theorem Qw (d:bK) (hb:aV d.lf1 ≤ 100000000) : Tot (agW d) Any := by
  have h1 := tZ d.lf1
  have h2 := DW d hb ⟨⟨#[]⟩,false,true⟩ rfl (by show 0 + _ ≤ _; omega)
  have hz:aV (bK.mk ⟨#[]⟩ [] aB.z 0 0).lf1 = 25 := by kernel_rfl
  have h3 := tZ (bK.mk ⟨#[]⟩ [] aB.z 0 0).lf1
  have h4 := DW (bK.mk ⟨#[]⟩ [] aB.z 0 0) (by omega) ⟨⟨#[]⟩,false,true⟩ rfl (by show 0 + _ ≤ _; omega)
  simp only [agW,Zt,Gf,Mo.den,aJ,aN,bf,aK,aQ,h2,h4,Option.bind_some]
  exact T.bind (R := Any) (T.ite (fun _=>T.any) fun _=>T.any) fun _ _=>T.ite (fun _=>T.any) fun _=>T.any
theorem Qx (d:aS) (hb:aV d.lf1 ≤ 100000000) : Tot (agX d) Any := by
  have h1 := tZ d.lf1
  have h2 := yw d hb ⟨⟨#[]⟩,false,true⟩ rfl (by show 0 + _ ≤ _; omega)
  have hz:aV aS.z.lf1 = 31 := by kernel_rfl
  have h3 := tZ aS.z.lf1
  have h4 := yw aS.z (by omega) ⟨⟨#[]⟩,false,true⟩ rfl (by show 0 + _ ≤ _; omega)
  simp only [agX,Zu,Mo.den,aJ,aN,bf,aK,aQ,h2,h4,Option.bind_some]
  exact T.any
theorem EG (s:aB) (hb:aV s.lf1 ≤ 100000000) : Tot (Ve s 0 []) (fun r=>bD (r.map lfS) ≤ 100000000) := by
  have hl := jO s.dN
  rw [fJ] at hb
  have e:∀ l:List bF,bD ((l.map bF.fName).map lfS) ≤ bD (l.map bF.lf) := by
    intro l
    induction l with
    | nil=>simp
    | cons x l ih=>simp only [List.map_cons,bD,bF.aU,mg,TP]; omega
  have:Tot (Ve s 0 []) (fun r=>r = s.dN.map bF.fName) := by
    refine T.zX s.dN.length (by omega) (fun k v=>v = ((k:Int),(s.dN.take k).map bF.fName)) _ rfl ?_ ?_
    · rintro k v hk rfl
      have hx := List.getElem?_eq_getElem hk
      simp only [Aw,Mo.den,aJ,aN,bf,aK,aQ,ltt hx,gid hx,cond_true,Option.bind_some]
      refine T.grd (by simp only [List.length_map,List.length_take,List.length_cons,List.length_nil]; omega) (T.ret ?_)
      show _ = _
      rw [inc k (by omega),List.take_succ_eq_append_getElem hk,List.map_append]; rfl
    · rintro v rfl
      simp only [Aw,Mo.den,aJ,aN,bf,aK,aQ,ltn,cond_false]
      exact T.ret (show _ = _ by rw [List.take_length])
  refine T.mono this ?_
  rintro r rfl
  have := e s.dN
  omega
theorem D5 (x:aS) : aV (aS.YH x ⟨#[]⟩).lf1 ≤ aV x.lf1 := by
  rw [gK,gK]
  show 6 + 0 + bD (x.gy.map aY.lf) + aV x.iU.lf1 ≤ _
  omega
end Go.Proofs.YtdnafbfmaphhhaaGreatDoor
set_option linter.unusedSimpArgs false
set_option linter.unusedVariables false
namespace Go.Proofs.YtdnafbfmaphhhaaGreatDoor
open Go.RowKit
theorem JG (p_a:List ByteArray) (p_b:List ByteArray) (h_p_a:bD (p_a.map lfS) ≤ 100000000) (h_p_b:bD (p_b.map lfS) ≤ 100000000) : Tot (Q47 p_a p_b) Any := by
  have := dD p_a
  have := dD p_b
  show MT (afA p_a p_b) Any
  refine MT.say (MT.ite (fun c4533=>?_) (fun c4533=>?_))
  ·have c4533' : ¬ ((p_a.length : Int) = (p_b.length : Int)) := by simpa using c4533
   exact MT.say MT.any
  ·have c4533' : (p_a.length : Int) = (p_b.length : Int) := by simpa using c4533
   refine MT.say (MT.eY (R := Any) ?_ ?_ ?_)
   ·refine T.cnt (fun _=>True) ?_
    intro k1 hk1
    show MT (CW p_a p_b ((k1:Nat) : Int)) _
    refine MT.say (MT.ite (fun c4569=>?_) (fun c4569=>?_))
    ·have c4569' := of_decide_eq_true c4569
     refine MT.say (MT.ask (dG p_a ((k1:Nat) : Int) (by omega) (by omega)) (fun x4570 _ hx2=>?_))
     have := kW hx2
     refine MT.say (MT.ask (dG p_b ((k1:Nat) : Int) (by omega) (by omega)) (fun x4572 _ hx3=>?_))
     have := kW hx3
     refine MT.say (MT.ite (fun c4574=>?_) (fun c4574=>?_))
     ·exact MT.say (MT.ret trivial)
     ·exact MT.say (MT.ret ⟨rfl,by omega⟩)
    ·have c4569' := of_decide_eq_false c4569
     exact MT.say (MT.ret trivial)
   ·intro o4577 h4576 _
    exact MT.say MT.any
   ·intro o4578 h4576 _
    exact MT.say MT.any
theorem EH (p_l:List aY) (h_p_l:bD (p_l.map aY.lf) ≤ 100000000) : Tot (Q14 p_l) Any := by
  have := jL p_l
  show MT (afB p_l) Any
  refine MT.say (MT.ite (fun c4513=>?_) (fun c4513=>?_))
  ·have c4513' := of_decide_eq_true c4513
   exact MT.say MT.any
  ·have c4513' := of_decide_eq_false c4513
   refine MT.say (MT.eY (R := Any) ?_ ?_ ?_)
   ·refine T.cnt (fun _=>True) ?_
    intro k4 hk4
    show MT (CY p_l ((k4:Nat) : Int)) _
    refine MT.say (MT.ite (fun c4717=>?_) (fun c4717=>?_))
    ·have c4717' := of_decide_eq_true c4717
     refine MT.say (MT.ask (dG p_l ((k4:Nat) : Int) (by omega) (by omega)) (fun x4718 _ hx5=>?_))
     have := kN hx5
     have := jr x4718
     have := dD x4718.cO
     refine MT.say (MT.ask (R := Any) ?_ ?_)
     ·exact T.wk (T.val (yx x4718.cO))
     ·intro r4720 h4721 _
      refine MT.say (MT.ite (fun c4722=>?_) (fun c4722=>?_))
      ·exact MT.say (MT.ret trivial)
      ·refine MT.say (MT.eY (R := Any) ?_ ?_ ?_)
       ·refine T.cnt (fun _=>True) ?_
        intro k6 hk6
        show MT (CX p_l ((k4:Nat) : Int) ((k6:Nat) : Int)) _
        refine MT.ite (fun c4732=>?_) (fun c4732=>?_)
        ·have c4732' := of_decide_eq_true c4732
         refine MT.say (MT.ask (dG p_l ((k4:Nat) : Int) (by omega) (by omega)) (fun x4733 _ hx7=>?_))
         have := kN hx7
         have := jr x4733
         have := dD x4733.cO
         refine MT.say (MT.ask (dG p_l ((k6:Nat) : Int) (by omega) (by omega)) (fun x4735 _ hx8=>?_))
         have := kN hx8
         have := jr x4735
         have := dD x4735.cO
         refine MT.say (MT.ask (R := Any) ?_ ?_)
         ·exact T.wk (JG x4733.cO x4735.cO (by first | omega | (simp; done) | decide) (by first | omega | (simp; done) | decide))
         ·intro r4737 h4738 _
          refine MT.say (MT.ite (fun c4739=>?_) (fun c4739=>?_))
          ·exact MT.say (MT.ret trivial)
          ·exact MT.say (MT.ret ⟨rfl,by omega⟩)
        ·have c4732' := of_decide_eq_false c4732
         exact MT.say (MT.ret trivial)
       ·intro o4742 h4741 _
        exact MT.say (MT.ret trivial)
       ·intro o4743 h4741 _
        exact MT.say (MT.ret ⟨rfl,by omega⟩)
    ·have c4717' := of_decide_eq_false c4717
     exact MT.say (MT.ret trivial)
   ·intro o4747 h4746 _
    exact MT.say MT.any
   ·intro o4748 h4746 _
    exact MT.say MT.any
theorem D6 (n_:Nat) : ∀ (p_p:aH) (p_levels:Int) (p_left:Int),aV p_p.lf1 < n_ → aV p_p.lf1 ≤ 100000000 → Tot ((oK n_).m1 p_p p_levels p_left) Any := by
  induction n_ with
  | zero=>intro p_p p_levels p_left h; omega
  | succ n_ ih =>
    intro p_p p_levels p_left h_ h_p_p
    have := gU p_p
    have := jF p_p.aZ
    show MT (ZJ (oK n_) p_p p_levels p_left) Any
    refine MT.ask (R := fun b_=>(b_ = true → True) ∧ (b_ = false → ¬ (p_levels = 0) ∧ ¬ ((p_left:Int) ≤ 0) ∧ True)) ?_ ?_
    ·show MT (NM (oK n_) p_left p_levels p_p) _
     refine MT.ite (fun c4774=>?_) (fun c4774=>?_)
     ·have c4774' : p_levels = 0 := by simpa using c4774
      exact MT.say (MT.ret ⟨(fun _=>trivial),(fun h_=>by cases h_)⟩)
     ·have c4774' : ¬ (p_levels = 0) := by simpa using c4774
      exact MT.say (MT.ret ⟨(fun _=>trivial),(fun h_=>⟨(by first | assumption | omega),(of_decide_eq_false h_),trivial⟩)⟩)
    ·intro r4776 h4777 f_r4776
     refine MT.say (MT.ite (fun c4779=>?_) (fun c4779=>?_))
     ·exact MT.say MT.any
     ·have q9 := f_r4776.2 (c4779)
      refine MT.say (MT.ask (R := Any) ?_ ?_)
      ·refine T.ae2 (fun _=>True) ?_
       intro v4823 k10 hk10
       show MT (Gw (oK n_) p_levels p_p (v4823,((k10:Nat) : Int))) _
       refine MT.ask (R := fun b_=>(b_ = true → (((k10:Nat) : Int) : Int) < (p_p.aZ.length:Int) ∧ (0:Int) ≤ v4823 ∧ True) ∧ (b_ = false → True)) ?_ ?_
       ·show MT (NP (oK n_) p_levels p_p v4823 ((k10:Nat) : Int)) _
        refine MT.say (MT.ite (fun c4825=>?_) (fun c4825=>?_))
        ·have c4825' := of_decide_eq_true c4825
         exact MT.say (MT.ret ⟨(fun h_=>⟨(by first | assumption | omega),(of_decide_eq_true h_),trivial⟩),(fun _=>trivial)⟩)
        ·have c4825' := of_decide_eq_false c4825
         exact MT.say (MT.ret ⟨(fun h_=>by cases h_),(fun _=>trivial)⟩)
       ·intro r4827 h4828 f_r4827
        refine MT.say (MT.ite (fun c4829=>?_) (fun c4829=>?_))
        ·have q11 := f_r4827.1 (c4829)
         refine MT.say (MT.ask (dG p_p.aZ ((k10:Nat) : Int) (by omega) (by omega)) (fun x4830 _ hx12=>?_))
         have := mX hx12
         have := gU x4830
         refine MT.say (MT.ask (R := Any) ?_ ?_)
         ·exact (ih x4830 (IntKind.wrap .i64 (p_levels - 1)) v4823 (by omega) (by first | omega | (simp; done) | decide))
         ·intro r4832 h4833 _
          exact MT.say (MT.ret ⟨rfl,by omega⟩)
        ·exact MT.say (MT.ret trivial)
      ·intro r4836 h4837 _
       exact MT.say MT.any
theorem EI (p_p:aH) (p_levels:Int) (p_left:Int) (h_p_p:aV p_p.lf1 ≤ 100000000) : Tot (Q65 p_p p_levels p_left) Any := D6 FU p_p p_levels p_left (by have := kQ; omega) h_p_p
theorem JH (p_p:aH) (h_p_p:aV p_p.lf1 ≤ 100000000) : Tot (aiV p_p) Any := by
  have := gU p_p
  have := jF p_p.aZ
  show MT (ZK p_p) Any
  repeat' (first | exact MT.any | refine MT.say ?_ | refine MT.ite (fun _=>?_) (fun _=>?_) | refine MT.qo ?_ (fun _ _=>?_) | refine ⟨(show MT _ Any from ?_)⟩)
theorem lS (p_op:Int) : Tot (aiW p_op) Any := by
  show MT (ZL p_op) Any
  repeat' (first | exact MT.any | refine MT.say ?_ | refine MT.ite (fun _=>?_) (fun _=>?_))
theorem zY (p_p:aH) (h_p_p:aV p_p.lf1 ≤ 100000000) : Tot (Q69 p_p) Any := by
  have := gU p_p
  show MT (afC p_p) Any
  repeat' (first | exact MT.any | refine MT.say ?_ | refine MT.ite (fun _=>?_) (fun _=>?_) | refine MT.qo ?_ (fun _ _=>?_) | refine ⟨(show MT _ Any from ?_)⟩)
theorem qA (p_op:Int) : Tot (aiX p_op) Any := by
  show MT (ZO p_op) Any
  repeat' (first | exact MT.any | refine MT.say ?_ | refine MT.ite (fun _=>?_) (fun _=>?_))
theorem oV (p_op:Int) : Tot (aiY p_op) Any := by
  show MT (ZP p_op) Any
  repeat' (first | exact MT.any | refine MT.say ?_ | refine MT.ite (fun _=>?_) (fun _=>?_))
theorem qB (p_op:Int) : Tot (aiZ p_op) Any := by
  show MT (ZQ p_op) Any
  repeat' (first | exact MT.any | refine MT.say ?_ | refine MT.ite (fun _=>?_) (fun _=>?_) | refine MT.qo ?_ (fun _ _=>?_) | exact ⟨T.wk (oV _)⟩)
theorem D7 (p_n:Int) : Tot (ai0 p_n) Any := by
  show MT (ZR p_n) Any
  repeat' (first | exact MT.any | refine MT.say ?_ | refine MT.ite (fun _=>?_) (fun _=>?_))
theorem Ua (p_p:dF) (h_p_p:aV p_p.lf1 ≤ 100000000) : Tot (ai1 p_p) Any := by
  have := tY p_p
  show MT (ZT p_p) Any
  repeat' (first | exact MT.any | refine MT.say ?_ | refine MT.ite (fun _=>?_) (fun _=>?_) | refine MT.qo ?_ (fun _ _=>?_) | exact ⟨T.wk (D7 _)⟩)
theorem EJ (p_s:bY) (h_p_s:aV p_s.lf1 ≤ 100000000) : Tot (Q23 p_s) Any := by
  have := jv p_s
  have := jy p_s.bW
  show MT (afD p_s) Any
  refine MT.say (MT.ite (fun c5170=>?_) (fun c5170=>?_))
  ·have c5170' := of_decide_eq_true c5170
   exact MT.say MT.any
  ·have c5170' := of_decide_eq_false c5170
   refine MT.say (MT.eY (R := Any) ?_ ?_ ?_)
   ·refine T.cnt (fun _=>True) ?_
    intro k13 hk13
    show MT (CZ p_s ((k13:Nat) : Int)) _
    refine MT.ite (fun c5212=>?_) (fun c5212=>?_)
    ·have c5212' := of_decide_eq_true c5212
     refine MT.say (MT.ask (dG p_s.bW ((k13:Nat) : Int) (by omega) (by omega)) (fun x5213 _ hx14=>?_))
     have := tY x5213
     refine MT.say (MT.ask (R := Any) ?_ ?_)
     ·exact T.wk (Ua x5213 (by first | omega | (simp; done) | decide))
     ·intro r5215 h5216 _
      refine MT.say (MT.ite (fun c5217=>?_) (fun c5217=>?_))
      ·exact MT.say (MT.ret trivial)
      ·exact MT.say (MT.ret ⟨rfl,by omega⟩)
    ·have c5212' := of_decide_eq_false c5212
     exact MT.say (MT.ret trivial)
   ·intro o5220 h5219 _
    exact MT.say MT.any
   ·intro o5221 h5219 _
    refine MT.say (MT.ask (R := fun b_=>(b_ = true → p_s.aT = 1 ∧ (p_s.bW.length:Int) = 2 ∧ True) ∧ (b_ = false → True)) ?_ ?_)
    ·show MT (NS p_s) _
     refine MT.ite (fun c5248=>?_) (fun c5248=>?_)
     ·have c5248' : p_s.aT = 1 := by simpa using c5248
      exact MT.say (MT.ret ⟨(fun h_=>⟨(by first | assumption | omega),(by simpa using h_),trivial⟩),(fun _=>trivial)⟩)
     ·have c5248' : ¬ (p_s.aT = 1) := by simpa using c5248
      exact MT.say (MT.ret ⟨(fun h_=>by cases h_),(fun _=>trivial)⟩)
    ·intro r5250 h5251 f_r5250
     refine MT.say (MT.ask (R := fun b_=>(b_ = true → r5250 = true ∧ p_s.fR = 0 ∧ True) ∧ (b_ = false → True)) ?_ ?_)
     ·show MT (Gx p_s r5250) _
      refine MT.ite (fun c5252=>?_) (fun c5252=>?_)
      ·have q15 := f_r5250.1 (c5252)
       exact MT.say (MT.ret ⟨(fun h_=>⟨(by first | assumption | omega),(by simpa using h_),trivial⟩),(fun _=>trivial)⟩)
      ·exact MT.say (MT.ret ⟨(fun h_=>by cases h_),(fun _=>trivial)⟩)
     ·intro r5254 h5255 f_r5254
      refine MT.say (MT.ask (R := fun b_=>(b_ = true → True) ∧ (b_ = false → r5254 = false ∧ True)) ?_ ?_)
      ·show MT (Gy p_s r5254) _
       refine MT.ite (fun c5256=>?_) (fun c5256=>?_)
       ·have q16 := f_r5254.1 (c5256)
        have q17 := f_r5250.1 (q16.1)
        exact MT.say (MT.ret ⟨(fun _=>trivial),(fun h_=>by cases h_)⟩)
       ·refine MT.say (MT.ite (fun c5257=>?_) (fun c5257=>?_))
        ·have c5257' : p_s.aT = 2 := by simpa using c5257
         refine MT.say (MT.ite (fun c5258=>?_) (fun c5258=>?_))
         ·have c5258' : (p_s.bW.length : Int) = 1 := by simpa using c5258
          refine MT.say (MT.ask (R := Any) ?_ ?_)
          ·exact T.wk (D7 p_s.fR )
          ·intro r5259 h5260 _
           exact MT.say (MT.ret ⟨(fun _=>trivial),(fun h_=>⟨(by first | assumption | omega),trivial⟩)⟩)
         ·have c5258' : ¬ ((p_s.bW.length : Int) = 1) := by simpa using c5258
          exact MT.say (MT.ret ⟨(fun h_=>by cases h_),(fun h_=>⟨(by first | assumption | omega),trivial⟩)⟩)
        ·have c5257' : ¬ (p_s.aT = 2) := by simpa using c5257
         exact MT.say (MT.ret ⟨(fun h_=>by cases h_),(fun h_=>⟨(by first | assumption | omega),trivial⟩)⟩)
      ·intro r5262 h5263 f_r5262
       refine MT.say (MT.ask (R := fun b_=>(b_ = true → True) ∧ (b_ = false → r5262 = false ∧ True)) ?_ ?_)
       ·show MT (Gz p_s r5262) _
        refine MT.ite (fun c5264=>?_) (fun c5264=>?_)
        ·exact MT.say (MT.ret ⟨(fun _=>trivial),(fun h_=>by cases h_)⟩)
        ·have q18 := f_r5262.2 (c5264)
         refine MT.say (MT.ite (fun c5265=>?_) (fun c5265=>?_))
         ·have c5265' : p_s.aT = 3 := by simpa using c5265
          refine MT.say (MT.ite (fun c5266=>?_) (fun c5266=>?_))
          ·have c5266' := of_decide_eq_true c5266
           exact MT.say (MT.ret ⟨(fun _=>trivial),(fun h_=>⟨(by first | assumption | omega),trivial⟩)⟩)
          ·have c5266' := of_decide_eq_false c5266
           exact MT.say (MT.ret ⟨(fun h_=>by cases h_),(fun h_=>⟨(by first | assumption | omega),trivial⟩)⟩)
         ·have c5265' : ¬ (p_s.aT = 3) := by simpa using c5265
          exact MT.say (MT.ret ⟨(fun h_=>by cases h_),(fun h_=>⟨(by first | assumption | omega),trivial⟩)⟩)
       ·intro r5272 h5273 f_r5272
        refine MT.say (MT.ite (fun c5275=>?_) (fun c5275=>?_))
        ·exact MT.say MT.any
        ·have q19 := f_r5272.2 (c5275)
         have q20 := f_r5262.2 (q19.1)
         exact MT.say MT.any
theorem zZ (p_s:bY) (h_p_s:aV p_s.lf1 ≤ 100000000) : Tot (Q91 p_s) Any := by
  have := jv p_s
  have := jy p_s.bW
  show MT (afE p_s) Any
  repeat' (first | exact MT.any | refine MT.say ?_ | refine MT.ite (fun _=>?_) (fun _=>?_) | refine MT.qo ?_ (fun _ _=>?_) | refine ⟨(show MT _ Any from ?_)⟩)
theorem D8 (p_e:aC) (h_p_e:aV p_e.lf1 ≤ 100000000) : Tot (Q60 p_e) Any := by
  have := fV p_e
  have := dD p_e.cO
  have := dD p_e.bP
  have := bQ p_e.fArg
  have := jf p_e.aZ
  show MT (afF p_e) Any
  repeat' (first | exact MT.any | refine MT.say ?_ | refine MT.ite (fun _=>?_) (fun _=>?_) | refine MT.qo ?_ (fun _ _=>?_) | exact ⟨T.wk (T.val (jQ _))⟩ | refine ⟨(show MT _ Any from ?_)⟩)
theorem D9 (p_p:aH) (h_p_p:aV p_p.lf1 ≤ 100000000) : Tot (Q44 p_p) Any := by
  have := gU p_p
  have := dD p_p.cO
  have := bQ p_p.fArg
  have := fZ p_p.fArgs
  have := jv p_p.eF
  have := fV p_p.fExpr
  show MT (afG p_p) Any
  repeat' (first | exact MT.any | refine MT.say ?_ | refine MT.ite (fun _=>?_) (fun _=>?_) | refine MT.qo ?_ (fun _ _=>?_) | exact ⟨T.wk (T.val (jQ _))⟩ | exact ⟨T.wk (qA _)⟩ | exact ⟨T.wk (qB _)⟩ | exact ⟨T.wk (lS _)⟩ | exact ⟨T.wk (D8 _ (by first | omega | decide))⟩ | exact ⟨T.wk (zZ _ (by first | omega | decide))⟩ | refine ⟨(show MT _ Any from ?_)⟩)
theorem JI (p_op:Int) : Tot (Q52 p_op) Any := by
  show MT (afH p_op) Any
  repeat' (first | exact MT.any | refine MT.say ?_ | refine MT.ite (fun _=>?_) (fun _=>?_) | refine MT.qo ?_ (fun _ _=>?_) | refine ⟨(show MT _ Any from ?_)⟩)
theorem EK (p_l:List ByteArray) (h_p_l:bD (p_l.map lfS) ≤ 100000000) : Tot (Q15 p_l) Any := by
  have := dD p_l
  show MT (afI p_l) Any
  refine MT.eY (R := Any) ?_ ?_ ?_
  ·refine T.cnt (fun _=>True) ?_
   intro k21 hk21
   show MT (Dc p_l ((k21:Nat) : Int)) _
   refine MT.say (MT.ite (fun c5820=>?_) (fun c5820=>?_))
   ·have c5820' := of_decide_eq_true c5820
    refine MT.say (MT.ask (dG p_l ((k21:Nat) : Int) (by omega) (by omega)) (fun x5821 _ hx22=>?_))
    have := kW hx22
    refine MT.say (MT.ask (R := Any) ?_ ?_)
    ·exact T.wk (T.val (mZ x5821))
    ·intro r5823 h5824 _
     refine MT.say (MT.ite (fun c5825=>?_) (fun c5825=>?_))
     ·exact MT.say (MT.ret trivial)
     ·refine MT.say (MT.eY (R := Any) ?_ ?_ ?_)
      ·refine T.cnt (fun _=>True) ?_
       intro k23 hk23
       show MT (C9 p_l ((k21:Nat) : Int) ((k23:Nat) : Int)) _
       refine MT.ite (fun c5833=>?_) (fun c5833=>?_)
       ·have c5833' := of_decide_eq_true c5833
        refine MT.say (MT.ask (dG p_l ((k23:Nat) : Int) (by omega) (by omega)) (fun x5834 _ hx24=>?_))
        have := kW hx24
        refine MT.say (MT.ask (dG p_l ((k21:Nat) : Int) (by omega) (by omega)) (fun x5836 _ hx25=>?_))
        have := kW hx25
        refine MT.say (MT.ite (fun c5838=>?_) (fun c5838=>?_))
        ·exact MT.say (MT.ret trivial)
        ·exact MT.say (MT.ret ⟨rfl,by omega⟩)
       ·have c5833' := of_decide_eq_false c5833
        exact MT.say (MT.ret trivial)
      ·intro o5841 h5840 _
       exact MT.say (MT.ret trivial)
      ·intro o5842 h5840 _
       exact MT.say (MT.ret ⟨rfl,by omega⟩)
   ·have c5820' := of_decide_eq_false c5820
    exact MT.say (MT.ret trivial)
  ·intro o5845 h5844 _
   exact MT.say MT.any
  ·intro o5846 h5844 _
   exact MT.say MT.any
theorem EL (n_:Nat) : ∀ (p_a:ah) (p_b:ah),aV p_a.lf1 < n_ → aV p_a.lf1 ≤ 100000000 → aV p_b.lf1 ≤ 100000000 → Tot ((kL n_).m1 p_a p_b) Any := by
  induction n_ with
  | zero=>intro p_a p_b h; omega
  | succ n_ ih =>
    intro p_a p_b h_ h_p_a h_p_b
    have := bQ p_a
    have := fZ p_a.bV
    have := gZ p_a.bU
    have := bQ p_b
    have := fZ p_b.bV
    have := gZ p_b.bU
    show MT (ahf (kL n_) p_a p_b) Any
    refine MT.ask (R := fun b_=>(b_ = true → True) ∧ (b_ = false → p_a.aT = p_b.aT ∧ p_a.jK = p_b.jK ∧ True)) ?_ ?_
    ·show MT (U6 (kL n_) p_a p_b) _
     refine MT.ite (fun c5914=>?_) (fun c5914=>?_)
     ·have c5914' : ¬ (p_a.aT = p_b.aT) := by simpa using c5914
      exact MT.say (MT.ret ⟨(fun _=>trivial),(fun h_=>by cases h_)⟩)
     ·have c5914' : p_a.aT = p_b.aT := by simpa using c5914
      exact MT.say (MT.ret ⟨(fun _=>trivial),(fun h_=>⟨(by first | assumption | omega),(by simpa using h_),trivial⟩)⟩)
    ·intro r5916 h5917 f_r5916
     refine MT.say (MT.ask (R := fun b_=>(b_ = true → True) ∧ (b_ = false → r5916 = false ∧ True)) ?_ ?_)
     ·show MT (U7 (kL n_) p_a p_b r5916) _
      refine MT.ite (fun c5918=>?_) (fun c5918=>?_)
      ·exact MT.say (MT.ret ⟨(fun _=>trivial),(fun h_=>by cases h_)⟩)
      ·have q26 := f_r5916.2 (c5918)
       exact MT.say (MT.ret ⟨(fun _=>trivial),(fun h_=>⟨(by first | assumption | omega),trivial⟩)⟩)
     ·intro r5920 h5921 f_r5920
      refine MT.say (MT.ask (R := fun b_=>(b_ = true → True) ∧ (b_ = false → r5920 = false ∧ (p_a.bV.length:Int) = (p_b.bV.length:Int) ∧ True)) ?_ ?_)
      ·show MT (NY (kL n_) p_a p_b r5920) _
       refine MT.ite (fun c5922=>?_) (fun c5922=>?_)
       ·exact MT.say (MT.ret ⟨(fun _=>trivial),(fun h_=>by cases h_)⟩)
       ·have q27 := f_r5920.2 (c5922)
        have q28 := f_r5916.2 (q27.1)
        exact MT.say (MT.ret ⟨(fun _=>trivial),(fun h_=>⟨(by first | assumption | omega),(by simpa using h_),trivial⟩)⟩)
      ·intro r5924 h5925 f_r5924
       refine MT.say (MT.ask (R := fun b_=>(b_ = true → True) ∧ (b_ = false → r5924 = false ∧ (p_a.bU.length:Int) = (p_b.bU.length:Int) ∧ True)) ?_ ?_)
       ·show MT (NZ (kL n_) p_a p_b r5924) _
        refine MT.ite (fun c5926=>?_) (fun c5926=>?_)
        ·exact MT.say (MT.ret ⟨(fun _=>trivial),(fun h_=>by cases h_)⟩)
        ·have q29 := f_r5924.2 (c5926)
         have q30 := f_r5920.2 (q29.1)
         have q31 := f_r5916.2 (q30.1)
         exact MT.say (MT.ret ⟨(fun _=>trivial),(fun h_=>⟨(by first | assumption | omega),(by simpa using h_),trivial⟩)⟩)
       ·intro r5928 h5929 f_r5928
        refine MT.say (MT.ite (fun c5931=>?_) (fun c5931=>?_))
        ·exact MT.say MT.any
        ·have q32 := f_r5928.2 (c5931)
         have q33 := f_r5924.2 (q32.1)
         have q34 := f_r5920.2 (q33.1)
         have q35 := f_r5916.2 (q34.1)
         refine MT.say (MT.eY (R := Any) ?_ ?_ ?_)
         ·refine T.cnt (fun _=>True) ?_
          intro k36 hk36
          show MT (Df (kL n_) p_a p_b ((k36:Nat) : Int)) _
          refine MT.say (MT.ite (fun c5977=>?_) (fun c5977=>?_))
          ·have c5977' := of_decide_eq_true c5977
           refine MT.say (MT.ask (dG p_a.bV ((k36:Nat) : Int) (by omega) (by omega)) (fun x5978 _ hx37=>?_))
           have := ji hx37
           have := bQ x5978
           refine MT.say (MT.ask (dG p_b.bV ((k36:Nat) : Int) (by omega) (by omega)) (fun x5980 _ hx38=>?_))
           have := ji hx38
           have := bQ x5980
           refine MT.say (MT.ask (R := Any) ?_ ?_)
           ·exact (ih x5978 x5980 (by omega) (by first | omega | (simp; done) | decide) (by first | omega | (simp; done) | decide))
           ·intro r5982 h5983 _
            refine MT.say (MT.ite (fun c5984=>?_) (fun c5984=>?_))
            ·exact MT.say (MT.ret trivial)
            ·exact MT.say (MT.ret ⟨rfl,by omega⟩)
          ·have c5977' := of_decide_eq_false c5977
           exact MT.say (MT.ret trivial)
         ·intro o5987 h5986 _
          exact MT.say MT.any
         ·intro o5988 h5986 _
          refine MT.say (MT.eY (R := Any) ?_ ?_ ?_)
          ·refine T.cnt (fun _=>True) ?_
           intro k39 hk39
           show MT (Dh (kL n_) p_a p_b ((k39:Nat) : Int)) _
           refine MT.say (MT.ite (fun c6071=>?_) (fun c6071=>?_))
           ·have c6071' := of_decide_eq_true c6071
            refine MT.say (MT.ask (R := Any) ?_ ?_)
            ·show MT (N9 (kL n_) p_a p_b ((k39:Nat) : Int)) Any
             refine MT.ask (dG p_a.bU ((k39:Nat) : Int) (by omega) (by omega)) (fun x6072 _ hx40=>?_)
             have := ig hx40
             have := gY x6072
             refine MT.say (MT.ask (dG p_b.bU ((k39:Nat) : Int) (by omega) (by omega)) (fun x6074 _ hx41=>?_))
             have := ig hx41
             have := gY x6074
             refine MT.say (MT.ite (fun c6076=>?_) (fun c6076=>?_))
             ·exact MT.say MT.any
             ·refine MT.say (MT.ask (dG p_a.bU ((k39 : Nat) : Int) (by omega) (by omega)) (fun x6077 _ hx42 => ?_))
              have := ig hx42
              have := gY x6077
              have := bQ x6077.fValue
              refine MT.say (MT.ask (dG p_b.bU ((k39:Nat) : Int) (by omega) (by omega)) (fun x6079 _ hx43=>?_))
              have := ig hx43
              have := gY x6079
              have := bQ x6079.fValue
              refine MT.say (MT.ask (R := Any) ?_ ?_)
              ·exact (ih x6077.fValue x6079.fValue (by omega) (by first | omega | (simp; done) | decide) (by first | omega | (simp; done) | decide))
              ·intro r6081 h6082 _
               exact MT.say MT.any
            ·intro r6084 h6085 _
             refine MT.say (MT.ite (fun c6086=>?_) (fun c6086=>?_))
             ·exact MT.say (MT.ret trivial)
             ·exact MT.say (MT.ret ⟨rfl,by omega⟩)
           ·have c6071' := of_decide_eq_false c6071
            exact MT.say (MT.ret trivial)
          ·intro o6089 h6088 _
           exact MT.say MT.any
          ·intro o6090 h6088 _
           exact MT.say MT.any
theorem l9 (p_a:ah) (p_b:ah) (h_p_a:aV p_a.lf1 ≤ 100000000) (h_p_b:aV p_b.lf1 ≤ 100000000) : Tot (Q7 p_a p_b) Any := EL FU p_a p_b (by have := kQ; omega) h_p_a h_p_b
theorem JJ (p_e:aC) (h_p_e:aV p_e.lf1 ≤ 100000000) : Tot (Q32 p_e) Any := by
  have := fV p_e
  have := dD p_e.cO
  have := dD p_e.bP
  have := bQ p_e.fArg
  have := jf p_e.aZ
  show MT (afJ p_e) Any
  repeat' (first | exact MT.any | refine MT.say ?_ | refine MT.ite (fun _=>?_) (fun _=>?_) | refine MT.qo ?_ (fun _ _=>?_) | exact ⟨T.wk (T.val (mZ _))⟩ | exact ⟨T.wk (l9 _ _ (by first | omega | decide) (by first | omega | decide))⟩ | exact ⟨T.wk (jR _ (by first | omega | decide))⟩ | exact ⟨T.wk (T.val (yx _))⟩ | exact ⟨T.wk (JI _)⟩ | exact ⟨T.wk (EK _ (by first | omega | decide))⟩ | refine ⟨(show MT _ Any from ?_)⟩)
theorem Ea (n_:Nat) : ∀ (p_e:aC) (p_number:Int) (p_level:Int),aV p_e.lf1 < n_ → aV p_e.lf1 ≤ 100000000 → Tot ((ql n_).m1 p_e p_number p_level) Any := by
  induction n_ with
  | zero=>intro p_e p_number p_level h; omega
  | succ n_ ih =>
    intro p_e p_number p_level h_ h_p_e
    have := fV p_e
    have := jf p_e.aZ
    show MT (aai (ql n_) p_e p_number p_level) Any
    refine MT.ask (R := fun b_=>(b_ = true → True) ∧ (b_ = false → ¬ ((16:Int) < p_level) ∧ ¬ ((256:Int) < p_number) ∧ True)) ?_ ?_
    ·show MT (Og (ql n_) p_e p_level p_number) _
     refine MT.ite (fun c5449=>?_) (fun c5449=>?_)
     ·have c5449' := of_decide_eq_true c5449
      exact MT.say (MT.ret ⟨(fun _=>trivial),(fun h_=>by cases h_)⟩)
     ·have c5449' := of_decide_eq_false c5449
      exact MT.say (MT.ret ⟨(fun _=>trivial),(fun h_=>⟨(by first | assumption | omega),(of_decide_eq_false h_),trivial⟩)⟩)
    ·intro r5451 h5452 f_r5451
     refine MT.say (MT.ite (fun c5454=>?_) (fun c5454=>?_))
     ·exact MT.say MT.any
     ·have q44 := f_r5451.2 (c5454)
      refine MT.say (MT.ask (R := Any) ?_ ?_)
      ·exact T.wk (JJ p_e (by first | omega | (simp; done) | decide))
      ·intro r6137 h6138 _
       refine MT.say (MT.ite (fun c6140=>?_) (fun c6140=>?_))
       ·have c6140' : ¬ (r6137 = 0) := by simpa using c6140
        exact MT.say MT.any
       ·have c6140' : r6137 = 0 := by simpa using c6140
        refine MT.say (MT.eY (R := Any) ?_ ?_ ?_)
        ·refine T.ae2 (fun _=>True) ?_
         intro v6182 k45 hk45
         show MT (Di (ql n_) p_e p_level (v6182,((k45:Nat) : Int))) _
         refine MT.say (MT.ite (fun c6184=>?_) (fun c6184=>?_))
         ·have c6184' := of_decide_eq_true c6184
          refine MT.say (MT.ask (dG p_e.aZ ((k45:Nat) : Int) (by omega) (by omega)) (fun x6185 _ hx46=>?_))
          have := lq hx46
          have := fV x6185
          refine MT.say (MT.ask (R := Any) ?_ ?_)
          ·exact (ih x6185 (IntKind.wrap .i64 (v6182 + 1)) (IntKind.wrap .i64 (p_level + 1)) (by omega) (by first | omega | (simp; done) | decide))
          ·intro r6187 h6188 _
           refine MT.say (MT.ite (fun c6189=>?_) (fun c6189=>?_))
           ·have c6189' : ¬ (r6187.2 = 0) := by simpa using c6189
            exact MT.say (MT.ret trivial)
           ·have c6189' : r6187.2 = 0 := by simpa using c6189
            exact MT.say (MT.ret ⟨rfl,by omega⟩)
         ·have c6184' := of_decide_eq_false c6184
          exact MT.say (MT.ret trivial)
        ·intro o6198 h6197 _
         exact MT.say MT.any
        ·intro o6199 h6197 _
         exact MT.say MT.any
theorem EM (p_e:aC) (p_number:Int) (p_level:Int) (h_p_e:aV p_e.lf1 ≤ 100000000) : Tot (Q35 p_e p_number p_level) Any := Ea FU p_e p_number p_level (by have := kQ; omega) h_p_e
theorem EN (p_e:aC) (h_p_e:aV p_e.lf1 ≤ 100000000) : Tot (ai2 p_e) Any := by
  have := fV p_e
  show MT (aaj p_e) Any
  repeat' (first | exact MT.any | refine MT.say ?_ | refine MT.ite (fun _=>?_) (fun _=>?_) | refine MT.qo ?_ (fun _ _=>?_) | exact ⟨T.wk (EM _ _ _ (by first | omega | decide))⟩)
theorem EO (n_:Nat) : ∀ (p_p:aH) (p_elem:Bool),aV p_p.lf1 < n_ → aV p_p.lf1 ≤ 100000000 → Tot ((jg n_).m1 p_p p_elem) Any := by
  induction n_ with
  | zero=>intro p_p p_elem h; omega
  | succ n_ ih =>
    intro p_p p_elem h_ h_p_p
    have := gU p_p
    have := dD p_p.cO
    have := bQ p_p.fArg
    have := fZ p_p.fArgs
    have := jv p_p.eF
    have := fV p_p.fExpr
    have := jF p_p.aZ
    show MT (ahj (jg n_) p_p p_elem) Any
    refine MT.ask (R := fun b_=>(b_ = true → True) ∧ (b_ = false → ¬ ((p_p.fOp:Int) < 1) ∧ ¬ ((24:Int) < p_p.fOp) ∧ True)) ?_ ?_
    ·show MT (U9 (jg n_) p_elem p_p) _
     refine MT.ite (fun c5011=>?_) (fun c5011=>?_)
     ·have c5011' := of_decide_eq_true c5011
      exact MT.say (MT.ret ⟨(fun _=>trivial),(fun h_=>by cases h_)⟩)
     ·have c5011' := of_decide_eq_false c5011
      exact MT.say (MT.ret ⟨(fun _=>trivial),(fun h_=>⟨(by first | assumption | omega),(of_decide_eq_false h_),trivial⟩)⟩)
    ·intro r5013 h5014 f_r5013
     refine MT.say (MT.ask (R := fun b_=>(b_ = true → True) ∧ (b_ = false → r5013 = false ∧ True)) ?_ ?_)
     ·show MT (Va (jg n_) p_elem p_p r5013) _
      refine MT.ite (fun c5015=>?_) (fun c5015=>?_)
      ·exact MT.say (MT.ret ⟨(fun _=>trivial),(fun h_=>by cases h_)⟩)
      ·have q47 := f_r5013.2 (c5015)
       refine MT.say (MT.ask (R := Any) ?_ ?_)
       ·exact T.wk (JH p_p (by first | omega | (simp; done) | decide))
       ·intro r5016 h5017 _
        exact MT.say (MT.ret ⟨(fun _=>trivial),(fun h_=>⟨(by first | assumption | omega),trivial⟩)⟩)
     ·intro r5019 h5020 f_r5019
      refine MT.say (MT.ask (R := fun b_=>(b_ = true → True) ∧ (b_ = false → r5019 = false ∧ True)) ?_ ?_)
      ·show MT (Oj (jg n_) p_elem p_p r5019) _
       refine MT.ite (fun c5021=>?_) (fun c5021=>?_)
       ·exact MT.say (MT.ret ⟨(fun _=>trivial),(fun h_=>by cases h_)⟩)
       ·have q48 := f_r5019.2 (c5021)
        have q49 := f_r5013.2 (q48.1)
        refine MT.say (MT.ask (R := Any) ?_ ?_)
        ·exact T.wk (lS p_p.fOp )
        ·intro r5022 h5023 _
         refine MT.say (MT.ite (fun c5024=>?_) (fun c5024=>?_))
         ·exact MT.say (MT.ret ⟨(fun _=>trivial),(fun h_=>⟨(by first | assumption | omega),trivial⟩)⟩)
         ·exact MT.say (MT.ret ⟨(fun h_=>by cases h_),(fun h_=>⟨(by first | assumption | omega),trivial⟩)⟩)
      ·intro r5026 h5027 f_r5026
       refine MT.say (MT.ask (R := fun b_=>(b_ = true → True) ∧ (b_ = false → r5026 = false ∧ True)) ?_ ?_)
       ·show MT (Ol (jg n_) p_elem p_p r5026) _
        refine MT.ite (fun c5028=>?_) (fun c5028=>?_)
        ·exact MT.say (MT.ret ⟨(fun _=>trivial),(fun h_=>by cases h_)⟩)
        ·have q50 := f_r5026.2 (c5028)
         have q51 := f_r5019.2 (q50.1)
         have q52 := f_r5013.2 (q51.1)
         refine MT.say (MT.ask (R := Any) ?_ ?_)
         ·exact T.wk (zY p_p (by first | omega | (simp; done) | decide))
         ·intro r5029 h5030 _
          exact MT.say (MT.ret ⟨(fun _=>trivial),(fun h_=>⟨(by first | assumption | omega),trivial⟩)⟩)
       ·intro r5032 h5033 f_r5032
        refine MT.say (MT.ite (fun c5035=>?_) (fun c5035=>?_))
        ·exact MT.say MT.any
        ·have q53 := f_r5032.2 (c5035)
         have q54 := f_r5026.2 (q53.1)
         have q55 := f_r5019.2 (q54.1)
         have q56 := f_r5013.2 (q55.1)
         refine MT.say (MT.ask (R := Any) ?_ ?_)
         ·show MT (Om (jg n_) p_elem p_p) Any
          refine MT.ask (R := Any) ?_ ?_
          ·exact T.wk (qA p_p.fOp )
          ·intro r5050 h5051 _
           refine MT.say (MT.ite (fun c5052=>?_) (fun c5052=>?_))
           ·refine MT.say (MT.ask (R := Any) ?_ ?_)
            ·exact T.wk (T.val (yx p_p.cO))
            ·intro r5053 h5054 _
             exact MT.say MT.any
           ·exact MT.say MT.any
         ·intro r5056 h5057 _
          refine MT.say (MT.ask (R := fun b_=>(b_ = true → r5056 = true ∧ True) ∧ (b_ = false → True)) ?_ ?_)
          ·show MT (Oo (jg n_) p_elem p_p r5056) _
           refine MT.ite (fun c5058=>?_) (fun c5058=>?_)
           ·refine MT.say (MT.ite (fun c5059=>?_) (fun c5059=>?_))
            ·exact MT.say (MT.ret ⟨(fun h_=>⟨(by first | assumption | omega),trivial⟩),(fun _=>trivial)⟩)
            ·exact MT.say (MT.ret ⟨(fun h_=>⟨(by first | assumption | omega),trivial⟩),(fun h_=>by cases h_)⟩)
           ·exact MT.say (MT.ret ⟨(fun h_=>by cases h_),(fun _=>trivial)⟩)
          ·intro r5061 h5062 f_r5061
           refine MT.say (MT.ite (fun c5064=>?_) (fun c5064=>?_))
           ·have q57 := f_r5061.1 (c5064)
            exact MT.say MT.any
           ·refine MT.say (MT.ask (R := Any) ?_ ?_)
            ·show MT (Oq (jg n_) p_elem p_p) Any
             refine MT.ask (R := Any) ?_ ?_
             ·exact T.wk (qB p_p.fOp )
             ·intro r5082 h5083 _
              refine MT.say (MT.ite (fun c5084=>?_) (fun c5084=>?_))
              ·refine MT.say (MT.ask (R := Any) ?_ ?_)
               ·exact T.wk (jR p_p.fArg (by first | omega | (simp; done) | decide))
               ·intro r5085 h5086 _
                refine MT.say (MT.ite (fun c5087=>?_) (fun c5087=>?_))
                ·exact MT.say MT.any
                ·refine MT.say (MT.ask (R := Any) ?_ ?_)
                 ·exact T.wk (oV p_p.fOp )
                 ·intro r5088 h5089 _
                  refine MT.say (MT.ite (fun c5090=>?_) (fun c5090=>?_))
                  ·exact MT.say MT.any
                  ·exact MT.say MT.any
              ·exact MT.say MT.any
            ·intro r5092 h5093 _
             refine MT.say (MT.ite (fun c5095=>?_) (fun c5095=>?_))
             ·exact MT.say MT.any
             ·refine MT.say (MT.eY (R := Any) ?_ ?_ ?_)
              ·refine T.cnt (fun _=>True) ?_
               intro k58 hk58
               show MT (Dj (jg n_) p_elem p_p ((k58:Nat) : Int)) _
               refine MT.ask (R := fun b_=>(b_ = true → (((k58:Nat) : Int) : Int) < (p_p.fArgs.length:Int) ∧ True) ∧ (b_ = false → True)) ?_ ?_
               ·show MT (Ot (jg n_) p_elem p_p ((k58:Nat) : Int)) _
                refine MT.say (MT.ite (fun c5152=>?_) (fun c5152=>?_))
                ·have c5152' := of_decide_eq_true c5152
                 refine MT.say (MT.ask (R := Any) ?_ ?_)
                 ·exact T.wk (lS p_p.fOp )
                 ·intro r5153 h5154 _
                  exact MT.say (MT.ret ⟨(fun h_=>⟨(by first | assumption | omega),trivial⟩),(fun _=>trivial)⟩)
                ·have c5152' := of_decide_eq_false c5152
                 exact MT.say (MT.ret ⟨(fun h_=>by cases h_),(fun _=>trivial)⟩)
               ·intro r5156 h5157 f_r5156
                refine MT.say (MT.ite (fun c5158=>?_) (fun c5158=>?_))
                ·have q59 := f_r5156.1 (c5158)
                 refine MT.say (MT.ask (dG p_p.fArgs ((k58:Nat) : Int) (by omega) (by omega)) (fun x5159 _ hx60=>?_))
                 have := ji hx60
                 have := bQ x5159
                 refine MT.say (MT.ask (R := Any) ?_ ?_)
                 ·exact T.wk (jR x5159 (by first | omega | (simp; done) | decide))
                 ·intro r5161 h5162 _
                  refine MT.say (MT.ite (fun c5163=>?_) (fun c5163=>?_))
                  ·exact MT.say (MT.ret trivial)
                  ·exact MT.say (MT.ret ⟨rfl,by omega⟩)
                ·exact MT.say (MT.ret trivial)
              ·intro o5166 h5165 _
               exact MT.say MT.any
              ·intro o5167 h5165 _
               refine MT.say (MT.eY (R := Any) ?_ ?_ ?_)
               ·show MT (Dk (jg n_) p_elem p_p) Any
                refine MT.ite (fun c5281=>?_) (fun c5281=>?_)
                ·have c5281' : p_p.fOp = 18 := by simpa using c5281
                 refine MT.say (MT.ask (R := Any) ?_ ?_)
                 ·exact T.wk (EJ p_p.eF (by first | omega | (simp; done) | decide))
                 ·intro r5282 h5283 _
                  refine MT.say (MT.ite (fun c5284=>?_) (fun c5284=>?_))
                  ·have c5284' : ¬ (r5282 = 0) := by simpa using c5284
                   exact MT.say MT.any
                  ·have c5284' : r5282 = 0 := by simpa using c5284
                   exact MT.say MT.any
                ·have c5281' : ¬ (p_p.fOp = 18) := by simpa using c5281
                 exact MT.say MT.any
               ·intro o5289 h5288 _
                exact MT.say MT.any
               ·intro o5290 h5288 _
                refine MT.say (MT.ask (R := Any) ?_ ?_)
                ·exact T.wk (D9 p_p (by first | omega | (simp; done) | decide))
                ·intro r5443 h5444 _
                 refine MT.say (MT.ite (fun c5446=>?_) (fun c5446=>?_))
                 ·exact MT.say MT.any
                 ·refine MT.say (MT.ite (fun c6206=>?_) (fun c6206=>?_))
                  ·have c6206' : p_p.fOp = 24 := by simpa using c6206
                   refine MT.say (MT.ask (R := Any) ?_ ?_)
                   ·exact T.wk (EN p_p.fExpr (by first | omega | (simp; done) | decide))
                   ·intro r6209 h6210 _
                    exact MT.say MT.any
                  ·have c6206' : ¬ (p_p.fOp = 24) := by simpa using c6206
                   refine MT.say (MT.eY (R := Any) ?_ ?_ ?_)
                   ·refine T.cnt (fun _=>True) ?_
                    intro k61 hk61
                    show MT (Dl (jg n_) p_elem p_p ((k61:Nat) : Int)) _
                    refine MT.say (MT.ite (fun c6275=>?_) (fun c6275=>?_))
                    ·have c6275' := of_decide_eq_true c6275
                     refine MT.say (MT.ask (R := Any) ?_ ?_)
                     ·show MT (Oy (jg n_) p_elem p_p ((k61:Nat) : Int)) Any
                      refine MT.ask (dG p_p.aZ ((k61:Nat) : Int) (by omega) (by omega)) (fun x6276 _ hx62=>?_)
                      have := mX hx62
                      have := gU x6276
                      refine MT.say (MT.ite (fun c6278=>?_) (fun c6278=>?_))
                      ·refine MT.say (MT.ask (R := Any) ?_ ?_)
                       ·exact (ih x6276 true (by omega) (by first | omega | (simp; done) | decide))
                       ·intro r6279 h6280 _
                        exact MT.say MT.any
                      ·refine MT.say (MT.ask (R := Any) ?_ ?_)
                       ·exact (ih x6276 (p_p.fOp == 15) (by omega) (by first | omega | (simp; done) | decide))
                       ·intro r6281 h6282 _
                        exact MT.say MT.any
                     ·intro r6284 h6285 _
                      refine MT.say (MT.ite (fun c6286=>?_) (fun c6286=>?_))
                      ·have c6286' : ¬ (r6284 = 0) := by simpa using c6286
                       exact MT.say (MT.ret trivial)
                      ·have c6286' : r6284 = 0 := by simpa using c6286
                       exact MT.say (MT.ret ⟨rfl,by omega⟩)
                    ·have c6275' := of_decide_eq_false c6275
                     exact MT.say (MT.ret trivial)
                   ·intro o6291 h6290 _
                    exact MT.say MT.any
                   ·intro o6292 h6290 _
                    exact MT.say MT.any
theorem JK (p_p:aH) (p_elem:Bool) (h_p_p:aV p_p.lf1 ≤ 100000000) : Tot (Q0 p_p p_elem) Any := EO FU p_p p_elem (by have := kQ; omega) h_p_p
theorem EP (p_p:aH) (h_p_p:aV p_p.lf1 ≤ 100000000) : Tot (ai4 p_p) Any := by
  have := gU p_p
  show MT (aan p_p) Any
  repeat' (first | exact MT.any | refine MT.say ?_ | refine MT.ite (fun _=>?_) (fun _=>?_) | refine MT.qo ?_ (fun _ _=>?_) | exact ⟨T.wk (EI _ _ _ (by first | omega | decide))⟩ | exact ⟨T.wk (JK _ _ (by first | omega | decide))⟩)
theorem Eb (p_a:List ByteArray) (p_b:List ByteArray) (h_p_a:bD (p_a.map lfS) ≤ 100000000) (h_p_b:bD (p_b.map lfS) ≤ 100000000) : Tot (Q43 p_a p_b) Any := by
  have := dD p_a
  have := dD p_b
  show MT (afK p_a p_b) Any
  refine MT.say (MT.ite (fun c6340=>?_) (fun c6340=>?_))
  ·have c6340' := of_decide_eq_true c6340
   exact MT.say MT.any
  ·have c6340' := of_decide_eq_false c6340
   refine MT.say (MT.eY (R := Any) ?_ ?_ ?_)
   ·refine T.cnt (fun _=>True) ?_
    intro k63 hk63
    show MT (Dn p_a p_b ((k63:Nat) : Int)) _
    refine MT.say (MT.ite (fun c6376=>?_) (fun c6376=>?_))
    ·have c6376' := of_decide_eq_true c6376
     refine MT.say (MT.ask (dG p_a ((k63:Nat) : Int) (by omega) (by omega)) (fun x6377 _ hx64=>?_))
     have := kW hx64
     refine MT.say (MT.ask (dG p_b ((k63:Nat) : Int) (by omega) (by omega)) (fun x6379 _ hx65=>?_))
     have := kW hx65
     refine MT.say (MT.ite (fun c6381=>?_) (fun c6381=>?_))
     ·exact MT.say (MT.ret trivial)
     ·exact MT.say (MT.ret ⟨rfl,by omega⟩)
    ·have c6376' := of_decide_eq_false c6376
     exact MT.say (MT.ret trivial)
   ·intro o6384 h6383 _
    exact MT.say MT.any
   ·intro o6385 h6383 _
    exact MT.say MT.any
theorem yA (p_a:List ByteArray) (p_b:List ByteArray) (h_p_a:bD (p_a.map lfS) ≤ 100000000) (h_p_b:bD (p_b.map lfS) ≤ 100000000) : Tot (ai5 p_a p_b) Any := by
  have := dD p_a
  have := dD p_b
  show MT (aap p_a p_b) Any
  repeat' (first | exact MT.any | refine MT.say ?_ | refine MT.ite (fun _=>?_) (fun _=>?_) | refine MT.qo ?_ (fun _ _=>?_) | exact ⟨T.wk (Eb _ _ (by first | omega | decide) (by first | omega | decide))⟩)
theorem ER (n_:Nat) : ∀ (p_a:aC) (p_b:aC),aV p_a.lf1 < n_ → aV p_a.lf1 ≤ 100000000 → aV p_b.lf1 ≤ 100000000 → Tot ((kM n_).m1 p_a p_b) Any := by
  induction n_ with
  | zero=>intro p_a p_b h; omega
  | succ n_ ih =>
    intro p_a p_b h_ h_p_a h_p_b
    have := fV p_a
    have := dD p_a.cO
    have := dD p_a.bP
    have := bQ p_a.fArg
    have := jf p_a.aZ
    have := fV p_b
    have := dD p_b.cO
    have := dD p_b.bP
    have := bQ p_b.fArg
    have := jf p_b.aZ
    show MT (aaq (kM n_) p_a p_b) Any
    refine MT.ask (R := fun b_=>(b_ = true → True) ∧ (b_ = false → p_a.fOp = p_b.fOp ∧ True)) ?_ ?_
    ·show MT (OD (kM n_) p_a p_b) _
     refine MT.ite (fun c6417=>?_) (fun c6417=>?_)
     ·have c6417' : ¬ (p_a.fOp = p_b.fOp) := by simpa using c6417
      exact MT.say (MT.ret ⟨(fun _=>trivial),(fun h_=>by cases h_)⟩)
     ·have c6417' : p_a.fOp = p_b.fOp := by simpa using c6417
      refine MT.say (MT.ask (R := Any) ?_ ?_)
      ·exact T.wk (yA p_a.cO p_b.cO (by first | omega | (simp; done) | decide) (by first | omega | (simp; done) | decide))
      ·intro r6418 h6419 _
       exact MT.say (MT.ret ⟨(fun _=>trivial),(fun h_=>⟨(by first | assumption | omega),trivial⟩)⟩)
    ·intro r6421 h6422 f_r6421
     refine MT.say (MT.ask (R := fun b_=>(b_ = true → True) ∧ (b_ = false → r6421 = false ∧ True)) ?_ ?_)
     ·show MT (OE (kM n_) p_a p_b r6421) _
      refine MT.ite (fun c6423=>?_) (fun c6423=>?_)
      ·exact MT.say (MT.ret ⟨(fun _=>trivial),(fun h_=>by cases h_)⟩)
      ·have q66 := f_r6421.2 (c6423)
       exact MT.say (MT.ret ⟨(fun _=>trivial),(fun h_=>⟨(by first | assumption | omega),trivial⟩)⟩)
     ·intro r6425 h6426 f_r6425
      refine MT.say (MT.ask (R := fun b_=>(b_ = true → True) ∧ (b_ = false → r6425 = false ∧ True)) ?_ ?_)
      ·show MT (GH (kM n_) p_a p_b r6425) _
       refine MT.ite (fun c6427=>?_) (fun c6427=>?_)
       ·exact MT.say (MT.ret ⟨(fun _=>trivial),(fun h_=>by cases h_)⟩)
       ·have q67 := f_r6425.2 (c6427)
        have q68 := f_r6421.2 (q67.1)
        refine MT.say (MT.ask (R := Any) ?_ ?_)
        ·exact T.wk (yA p_a.bP p_b.bP (by first | omega | (simp; done) | decide) (by first | omega | (simp; done) | decide))
        ·intro r6428 h6429 _
         exact MT.say (MT.ret ⟨(fun _=>trivial),(fun h_=>⟨(by first | assumption | omega),trivial⟩)⟩)
      ·intro r6431 h6432 f_r6431
       refine MT.say (MT.ask (R := fun b_=>(b_ = true → True) ∧ (b_ = false → r6431 = false ∧ True)) ?_ ?_)
       ·show MT (GK (kM n_) p_a p_b r6431) _
        refine MT.ite (fun c6433=>?_) (fun c6433=>?_)
        ·exact MT.say (MT.ret ⟨(fun _=>trivial),(fun h_=>by cases h_)⟩)
        ·have q69 := f_r6431.2 (c6433)
         have q70 := f_r6425.2 (q69.1)
         have q71 := f_r6421.2 (q70.1)
         refine MT.say (MT.ask (R := Any) ?_ ?_)
         ·exact T.wk (l9 p_a.fArg p_b.fArg (by first | omega | (simp; done) | decide) (by first | omega | (simp; done) | decide))
         ·intro r6434 h6435 _
          exact MT.say (MT.ret ⟨(fun _=>trivial),(fun h_=>⟨(by first | assumption | omega),trivial⟩)⟩)
       ·intro r6437 h6438 f_r6437
        refine MT.say (MT.ask (R := fun b_=>(b_ = true → True) ∧ (b_ = false → r6437 = false ∧ p_a.fN = p_b.fN ∧ True)) ?_ ?_)
        ·show MT (GL (kM n_) p_a p_b r6437) _
         refine MT.ite (fun c6439=>?_) (fun c6439=>?_)
         ·exact MT.say (MT.ret ⟨(fun _=>trivial),(fun h_=>by cases h_)⟩)
         ·have q72 := f_r6437.2 (c6439)
          have q73 := f_r6431.2 (q72.1)
          have q74 := f_r6425.2 (q73.1)
          have q75 := f_r6421.2 (q74.1)
          exact MT.say (MT.ret ⟨(fun _=>trivial),(fun h_=>⟨(by first | assumption | omega),(by simpa using h_),trivial⟩)⟩)
        ·intro r6441 h6442 f_r6441
         refine MT.say (MT.ask (R := fun b_=>(b_ = true → True) ∧ (b_ = false → r6441 = false ∧ (p_a.aZ.length:Int) = (p_b.aZ.length:Int) ∧ True)) ?_ ?_)
         ·show MT (GN (kM n_) p_a p_b r6441) _
          refine MT.ite (fun c6443=>?_) (fun c6443=>?_)
          ·exact MT.say (MT.ret ⟨(fun _=>trivial),(fun h_=>by cases h_)⟩)
          ·have q76 := f_r6441.2 (c6443)
           have q77 := f_r6437.2 (q76.1)
           have q78 := f_r6431.2 (q77.1)
           have q79 := f_r6425.2 (q78.1)
           have q80 := f_r6421.2 (q79.1)
           exact MT.say (MT.ret ⟨(fun _=>trivial),(fun h_=>⟨(by first | assumption | omega),(by simpa using h_),trivial⟩)⟩)
         ·intro r6445 h6446 f_r6445
          refine MT.say (MT.ite (fun c6448=>?_) (fun c6448=>?_))
          ·exact MT.say MT.any
          ·have q81 := f_r6445.2 (c6448)
           have q82 := f_r6441.2 (q81.1)
           have q83 := f_r6437.2 (q82.1)
           have q84 := f_r6431.2 (q83.1)
           have q85 := f_r6425.2 (q84.1)
           have q86 := f_r6421.2 (q85.1)
           refine MT.say (MT.eY (R := Any) ?_ ?_ ?_)
           ·refine T.cnt (fun _=>True) ?_
            intro k87 hk87
            show MT (zk (kM n_) p_a p_b ((k87:Nat) : Int)) _
            refine MT.say (MT.ite (fun c6494=>?_) (fun c6494=>?_))
            ·have c6494' := of_decide_eq_true c6494
             refine MT.say (MT.ask (dG p_a.aZ ((k87:Nat) : Int) (by omega) (by omega)) (fun x6495 _ hx88=>?_))
             have := lq hx88
             have := fV x6495
             refine MT.say (MT.ask (dG p_b.aZ ((k87:Nat) : Int) (by omega) (by omega)) (fun x6497 _ hx89=>?_))
             have := lq hx89
             have := fV x6497
             refine MT.say (MT.ask (R := Any) ?_ ?_)
             ·exact (ih x6495 x6497 (by omega) (by first | omega | (simp; done) | decide) (by first | omega | (simp; done) | decide))
             ·intro r6499 h6500 _
              refine MT.say (MT.ite (fun c6501=>?_) (fun c6501=>?_))
              ·exact MT.say (MT.ret trivial)
              ·exact MT.say (MT.ret ⟨rfl,by omega⟩)
            ·have c6494' := of_decide_eq_false c6494
             exact MT.say (MT.ret trivial)
           ·intro o6504 h6503 _
            exact MT.say MT.any
           ·intro o6505 h6503 _
            exact MT.say MT.any
theorem JL (p_a:aC) (p_b:aC) (h_p_a:aV p_a.lf1 ≤ 100000000) (h_p_b:aV p_b.lf1 ≤ 100000000) : Tot (Q16 p_a p_b) Any := ER FU p_a p_b (by have := kQ; omega) h_p_a h_p_b
theorem JM (p_p:aH) (h_p_p:aV p_p.lf1 ≤ 100000000) : Tot (Q48 p_p) Any := by
  have := gU p_p
  have := dD p_p.cO
  have := bQ p_p.fArg
  have := fZ p_p.fArgs
  have := jv p_p.eF
  have := jy p_p.eF.bW
  have := fV p_p.fExpr
  have := jF p_p.aZ
  show MT (afL p_p) Any
  repeat' (first | exact MT.any | refine MT.say ?_ | refine MT.ite (fun _=>?_) (fun _=>?_) | refine MT.qo ?_ (fun _ _=>?_) | exact ⟨T.wk (l9 _ _ (by first | omega | decide) (by first | omega | decide))⟩ | exact ⟨T.wk (JL _ _ (by first | omega | decide) (by first | omega | decide))⟩ | refine ⟨(show MT _ Any from ?_)⟩)
theorem sG (p_x:aS) (h_p_x:aV p_x.lf1 ≤ 100000000) : Tot (Q98 p_x) Any := by
  have := gK p_x
  have := jL p_x.gy
  have := gU p_x.iU
  show MT (afM p_x) Any
  refine MT.ask (R := Any) ?_ ?_
  ·exact T.wk (T.val (mZ p_x.fName))
  ·intro r4501 h4502 _
   refine MT.say (MT.ite (fun c4504=>?_) (fun c4504=>?_))
   ·exact MT.say MT.any
   ·refine MT.say (MT.ask (R := fun b_=>(b_ = true → True) ∧ (b_ = false → ¬ ((p_x.aT:Int) < 1) ∧ ¬ ((3:Int) < p_x.aT) ∧ True)) ?_ ?_)
    ·show MT (OG p_x) _
     refine MT.ite (fun c4506=>?_) (fun c4506=>?_)
     ·have c4506' := of_decide_eq_true c4506
      exact MT.say (MT.ret ⟨(fun _=>trivial),(fun h_=>by cases h_)⟩)
     ·have c4506' := of_decide_eq_false c4506
      exact MT.say (MT.ret ⟨(fun _=>trivial),(fun h_=>⟨(by first | assumption | omega),(of_decide_eq_false h_),trivial⟩)⟩)
    ·intro r4508 h4509 f_r4508
     refine MT.say (MT.ite (fun c4511=>?_) (fun c4511=>?_))
     ·exact MT.say MT.any
     ·have q90 := f_r4508.2 (c4511)
      refine MT.say (MT.ask (R := Any) ?_ ?_)
      ·exact T.wk (EH p_x.gy (by first | omega | (simp; done) | decide))
      ·intro r4751 h4752 _
       refine MT.say (MT.ite (fun c4754=>?_) (fun c4754=>?_))
       ·have c4754' : ¬ (r4751 = 0) := by simpa using c4754
        exact MT.say MT.any
       ·have c4754' : r4751 = 0 := by simpa using c4754
        refine MT.say (MT.ask (R := fun b_=>(b_ = true → True) ∧ (b_ = false → ¬ ((p_x.gy.length:Int) = 0) ∧ True)) ?_ ?_)
        ·show MT (OH p_x) _
         refine MT.say (MT.ite (fun c4761=>?_) (fun c4761=>?_))
         ·have c4761' : (p_x.gy.length : Int) = 0 := by simpa using c4761
          exact MT.say (MT.ret ⟨(fun _=>trivial),(fun h_=>by cases h_)⟩)
         ·have c4761' : ¬ ((p_x.gy.length : Int) = 0) := by simpa using c4761
          refine MT.say (MT.ite (fun c4762=>?_) (fun c4762=>?_))
          ·have c4762' : ¬ (p_x.aT = 1) := by simpa using c4762
           refine MT.say (MT.ite (fun c4763=>?_) (fun c4763=>?_))
           ·have c4763' := of_decide_eq_true c4763
            exact MT.say (MT.ret ⟨(fun _=>trivial),(fun h_=>by cases h_)⟩)
           ·have c4763' := of_decide_eq_false c4763
            refine MT.say (MT.ask (dG p_x.gy 0 (by omega) (by omega)) (fun x4764 _ hx91=>?_))
            have := kN hx91
            have := jr x4764
            refine MT.say (MT.ite (fun c4766=>?_) (fun c4766=>?_))
            ·exact MT.say (MT.ret ⟨(fun _=>trivial),(fun h_=>by cases h_)⟩)
            ·exact MT.say (MT.ret ⟨(fun _=>trivial),(fun h_=>⟨(by first | assumption | omega),trivial⟩)⟩)
          ·have c4762' : p_x.aT = 1 := by simpa using c4762
           exact MT.say (MT.ret ⟨(fun h_=>by cases h_),(fun h_=>⟨(by first | assumption | omega),trivial⟩)⟩)
        ·intro r4768 h4769 f_r4768
         refine MT.say (MT.ite (fun c4771=>?_) (fun c4771=>?_))
         ·exact MT.say MT.any
         ·have q92 := f_r4768.2 (c4771)
          refine MT.say (MT.ite (fun c6297=>?_) (fun c6297=>?_))
          ·refine MT.say (MT.ask (R := Any) ?_ ?_)
           ·exact T.wk (EP p_x.iU (by first | omega | (simp; done) | decide))
           ·intro r6300 h6301 _
            exact MT.say MT.any
          ·refine MT.say (MT.ask (R := Any) ?_ ?_)
           ·exact T.wk (JM p_x.iU (by first | omega | (simp; done) | decide))
           ·intro r6521 h6522 _
            refine MT.say (MT.ite (fun c6524=>?_) (fun c6524=>?_))
            ·exact MT.say MT.any
            ·exact MT.say MT.any
theorem Ub (p_l:List aS) (p_name:ByteArray) (h_p_l:bD (p_l.map aS.lf) ≤ 100000000) (h_p_name:p_name.size ≤ 100000000) : Tot (Q50 p_l p_name) Any := by
  have := jA p_l
  show MT (afN p_l p_name) Any
  refine MT.eY (R := Any) ?_ ?_ ?_
  ·refine T.cnt (fun _=>True) ?_
   intro k93 hk93
   show MT (Dp p_l p_name ((k93:Nat) : Int)) _
   refine MT.say (MT.ite (fun c6561=>?_) (fun c6561=>?_))
   ·have c6561' := of_decide_eq_true c6561
    refine MT.say (MT.ask (dG p_l ((k93:Nat) : Int) (by omega) (by omega)) (fun x6562 _ hx94=>?_))
    have := mD hx94
    have := gK x6562
    refine MT.say (MT.ite (fun c6564=>?_) (fun c6564=>?_))
    ·exact MT.say (MT.ret trivial)
    ·exact MT.say (MT.ret ⟨rfl,by omega⟩)
   ·have c6561' := of_decide_eq_false c6561
    exact MT.say (MT.ret trivial)
  ·intro o6568 h6567 _
   exact MT.say MT.any
  ·intro o6569 h6567 _
   exact MT.say MT.any
theorem nH (p_l:List ByteArray) (h_p_l:bD (p_l.map lfS) ≤ 100000000) : Tot (Q13 p_l) Any := by
  have := dD p_l
  show MT (afO p_l) Any
  refine MT.eY (R := Any) ?_ ?_ ?_
  ·refine T.cnt (fun _=>True) ?_
   intro k95 hk95
   show MT (Dt p_l ((k95:Nat) : Int)) _
   refine MT.say (MT.ite (fun c6846=>?_) (fun c6846=>?_))
   ·have c6846' := of_decide_eq_true c6846
    refine MT.say (MT.ask (dG p_l ((k95:Nat) : Int) (by omega) (by omega)) (fun x6847 _ hx96=>?_))
    have := kW hx96
    refine MT.say (MT.ask (R := Any) ?_ ?_)
    ·exact T.wk (T.val (mZ x6847))
    ·intro r6849 h6850 _
     refine MT.say (MT.ite (fun c6851=>?_) (fun c6851=>?_))
     ·exact MT.say (MT.ret trivial)
     ·refine MT.say (MT.eY (R := Any) ?_ ?_ ?_)
      ·refine T.cnt (fun _=>True) ?_
       intro k97 hk97
       show MT (Dq p_l ((k95:Nat) : Int) ((k97:Nat) : Int)) _
       refine MT.ite (fun c6859=>?_) (fun c6859=>?_)
       ·have c6859' := of_decide_eq_true c6859
        refine MT.say (MT.ask (dG p_l ((k97:Nat) : Int) (by omega) (by omega)) (fun x6860 _ hx98=>?_))
        have := kW hx98
        refine MT.say (MT.ask (dG p_l ((k95:Nat) : Int) (by omega) (by omega)) (fun x6862 _ hx99=>?_))
        have := kW hx99
        refine MT.say (MT.ite (fun c6864=>?_) (fun c6864=>?_))
        ·exact MT.say (MT.ret trivial)
        ·exact MT.say (MT.ret ⟨rfl,by omega⟩)
       ·have c6859' := of_decide_eq_false c6859
        exact MT.say (MT.ret trivial)
      ·intro o6867 h6866 _
       exact MT.say (MT.ret trivial)
      ·intro o6868 h6866 _
       exact MT.say (MT.ret ⟨rfl,by omega⟩)
   ·have c6846' := of_decide_eq_false c6846
    exact MT.say (MT.ret trivial)
  ·intro o6871 h6870 _
   exact MT.say MT.any
  ·intro o6872 h6870 _
   exact MT.say MT.any
theorem qC (p_has:Bool) (p_v:ah) (h_p_v:aV p_v.lf1 ≤ 100000000) : Tot (Q83 p_has p_v) Any := by
  have := bQ p_v
  show MT (afP p_has p_v) Any
  repeat' (first | exact MT.any | refine MT.say ?_ | refine MT.ite (fun _=>?_) (fun _=>?_) | refine MT.qo ?_ (fun _ _=>?_) | exact ⟨T.wk (l9 _ _ (by first | omega | decide) (by first | omega | decide))⟩ | exact ⟨T.wk (jR _ (by first | omega | decide))⟩ | refine ⟨(show MT _ Any from ?_)⟩)
theorem Ec (p_s:aB) (h_p_s:aV p_s.lf1 ≤ 100000000) : Tot (Q6 p_s) Any := by
  have := fJ p_s
  have := bQ p_s.rU
  have := bQ p_s.rV
  have := fZ p_s.jU
  have := dD p_s.gB
  have := jO p_s.dN
  have := jB p_s.fG
  show MT (ai6 p_s) Any
  refine MT.say (MT.ask (R := fun r_:List ByteArray=>bD (r_.map lfS) ≤ 100000000) (EG p_s (by omega)) (fun r6713 _ r6713'=>?_))
  refine MT.say (MT.ask (R := Any) ?_ ?_)
  ·show MT (Vg p_s r6713) Any
   refine MT.ask (R := Any) ?_ ?_
   ·exact T.wk (nH p_s.gB (by first | omega | (simp; done) | decide))
   ·intro r6878 h6879 _
    refine MT.say (MT.ite (fun c6880=>?_) (fun c6880=>?_))
    ·exact MT.say MT.any
    ·refine MT.say (MT.ask (R := Any) ?_ ?_)
     ·exact T.wk (nH r6713 (by first | omega | (simp; done) | decide))
     ·intro r6881 h6882 _
      exact MT.say MT.any
  ·intro r6885 h6886 _
   refine MT.say (MT.ite (fun c6888=>?_) (fun c6888=>?_))
   ·exact MT.say MT.any
   ·refine MT.say (MT.ask (R := fun b_=>(b_ = true → True) ∧ (b_ = false → ¬ ((p_s.jT:Int) < 0) ∧ ¬ ((Int.tmod p_s.jT 2) = 1) ∧ True)) ?_ ?_)
    ·show MT (OT p_s) _
     refine MT.ite (fun c6909=>?_) (fun c6909=>?_)
     ·have c6909' := of_decide_eq_true c6909
      exact MT.say (MT.ret ⟨(fun _=>trivial),(fun h_=>by cases h_)⟩)
     ·have c6909' := of_decide_eq_false c6909
      exact MT.say (MT.ret ⟨(fun _=>trivial),(fun h_=>⟨(by first | assumption | omega),(by simpa using h_),trivial⟩)⟩)
    ·intro r6911 h6912 f_r6911
     refine MT.say (MT.ask (R := fun b_=>(b_ = true → True) ∧ (b_ = false → r6911 = false ∧ ¬ ((4096:Int) ≤ p_s.jT) ∧ True)) ?_ ?_)
     ·show MT (OU p_s r6911) _
      refine MT.ite (fun c6913=>?_) (fun c6913=>?_)
      ·exact MT.say (MT.ret ⟨(fun _=>trivial),(fun h_=>by cases h_)⟩)
      ·have q100 := f_r6911.2 (c6913)
       exact MT.say (MT.ret ⟨(fun _=>trivial),(fun h_=>⟨(by first | assumption | omega),(of_decide_eq_false h_),trivial⟩)⟩)
     ·intro r6915 h6916 f_r6915
      refine MT.say (MT.ask (R := fun b_=>(b_ = true → True) ∧ (b_ = false → r6915 = false ∧ ¬ ((p_s.kT:Int) < 0) ∧ True)) ?_ ?_)
      ·show MT (OV p_s r6915) _
       refine MT.ite (fun c6917=>?_) (fun c6917=>?_)
       ·exact MT.say (MT.ret ⟨(fun _=>trivial),(fun h_=>by cases h_)⟩)
       ·have q101 := f_r6915.2 (c6917)
        have q102 := f_r6911.2 (q101.1)
        exact MT.say (MT.ret ⟨(fun _=>trivial),(fun h_=>⟨(by first | assumption | omega),(of_decide_eq_false h_),trivial⟩)⟩)
      ·intro r6919 h6920 f_r6919
       refine MT.say (MT.ask (R := fun b_=>(b_ = true → True) ∧ (b_ = false → r6919 = false ∧ ¬ ((p_s.kU:Int) < (-1)) ∧ True)) ?_ ?_)
       ·show MT (OW p_s r6919) _
        refine MT.ite (fun c6921=>?_) (fun c6921=>?_)
        ·exact MT.say (MT.ret ⟨(fun _=>trivial),(fun h_=>by cases h_)⟩)
        ·have q103 := f_r6919.2 (c6921)
         have q104 := f_r6915.2 (q103.1)
         have q105 := f_r6911.2 (q104.1)
         exact MT.say (MT.ret ⟨(fun _=>trivial),(fun h_=>⟨(by first | assumption | omega),(of_decide_eq_false h_),trivial⟩)⟩)
       ·intro r6923 h6924 f_r6923
        refine MT.say (MT.ask (R := fun b_=>(b_ = true → True) ∧ (b_ = false → r6923 = false ∧ ¬ ((1:Int) < (p_s.fG.length:Int)) ∧ True)) ?_ ?_)
        ·show MT (OX p_s r6923) _
         refine MT.ite (fun c6925=>?_) (fun c6925=>?_)
         ·exact MT.say (MT.ret ⟨(fun _=>trivial),(fun h_=>by cases h_)⟩)
         ·have q106 := f_r6923.2 (c6925)
          have q107 := f_r6919.2 (q106.1)
          have q108 := f_r6915.2 (q107.1)
          have q109 := f_r6911.2 (q108.1)
          exact MT.say (MT.ret ⟨(fun _=>trivial),(fun h_=>⟨(by first | assumption | omega),(of_decide_eq_false h_),trivial⟩)⟩)
        ·intro r6927 h6928 f_r6927
         refine MT.say (MT.ite (fun c6930=>?_) (fun c6930=>?_))
         ·exact MT.say MT.any
         ·have q110 := f_r6927.2 (c6930)
          have q111 := f_r6923.2 (q110.1)
          have q112 := f_r6919.2 (q111.1)
          have q113 := f_r6915.2 (q112.1)
          have q114 := f_r6911.2 (q113.1)
          refine MT.say (MT.ask (R := Any) ?_ ?_)
          ·show MT (OY p_s) Any
           refine MT.ask (R := Any) ?_ ?_
           ·exact T.wk (qC p_s.kR p_s.rU (by first | omega | (simp; done) | decide))
           ·intro r6954 h6955 _
            refine MT.say (MT.ite (fun c6956=>?_) (fun c6956=>?_))
            ·exact MT.say MT.any
            ·refine MT.say (MT.ask (R := Any) ?_ ?_)
             ·exact T.wk (qC p_s.kS p_s.rV (by first | omega | (simp; done) | decide))
             ·intro r6957 h6958 _
              exact MT.say MT.any
          ·intro r6960 h6961 _
           refine MT.say (MT.ite (fun c6963=>?_) (fun c6963=>?_))
           ·exact MT.say MT.any
           ·refine MT.say (MT.eY (R := Any) ?_ ?_ ?_)
            ·refine T.cnt (fun _=>True) ?_
             intro k115 hk115
             show MT (Du p_s ((k115:Nat) : Int)) _
             refine MT.say (MT.ite (fun c6999=>?_) (fun c6999=>?_))
             ·have c6999' := of_decide_eq_true c6999
              refine MT.say (MT.ask (dG p_s.jU ((k115:Nat) : Int) (by omega) (by omega)) (fun x7000 _ hx116=>?_))
              have := ji hx116
              have := bQ x7000
              refine MT.say (MT.ask (R := Any) ?_ ?_)
              ·exact T.wk (jR x7000 (by first | omega | (simp; done) | decide))
              ·intro r7002 h7003 _
               refine MT.say (MT.ite (fun c7004=>?_) (fun c7004=>?_))
               ·exact MT.say (MT.ret trivial)
               ·exact MT.say (MT.ret ⟨rfl,by omega⟩)
             ·have c6999' := of_decide_eq_false c6999
              exact MT.say (MT.ret trivial)
            ·intro o7007 h7006 _
             exact MT.say MT.any
            ·intro o7008 h7006 _
             exact MT.say MT.any
theorem Ed (n_:Nat) : ∀ (p_s:aB) (p_number:Int) (p_level:Int),aV p_s.lf1 < n_ → aV p_s.lf1 ≤ 100000000 → Tot ((oL n_).m1 p_s p_number p_level) Any := by
  induction n_ with
  | zero=>intro p_s p_number p_level h; omega
  | succ n_ ih =>
    intro p_s p_number p_level h_ h_p_s
    have := fJ p_s
    have := jO p_s.dN
    have := jB p_s.fG
    show MT (aaC (oL n_) p_s p_number p_level) Any
    refine MT.ask (R := fun b_=>(b_ = true → True) ∧ (b_ = false → ¬ ((16:Int) < p_level) ∧ ¬ ((64:Int) < p_number) ∧ True)) ?_ ?_
    ·show MT (O4 (oL n_) p_level p_number p_s) _
     refine MT.ite (fun c6658=>?_) (fun c6658=>?_)
     ·have c6658' := of_decide_eq_true c6658
      exact MT.say (MT.ret ⟨(fun _=>trivial),(fun h_=>by cases h_)⟩)
     ·have c6658' := of_decide_eq_false c6658
      exact MT.say (MT.ret ⟨(fun _=>trivial),(fun h_=>⟨(by first | assumption | omega),(of_decide_eq_false h_),trivial⟩)⟩)
    ·intro r6660 h6661 f_r6660
     refine MT.say (MT.ite (fun c6663=>?_) (fun c6663=>?_))
     ·exact MT.say MT.any
     ·have q117 := f_r6660.2 (c6663)
      refine MT.say (MT.ask (R := Any) ?_ ?_)
      ·exact T.wk (Ec p_s (by first | omega | (simp; done) | decide))
      ·intro r7011 h7012 _
       refine MT.say (MT.ite (fun c7014=>?_) (fun c7014=>?_))
       ·have c7014' : ¬ (r7011 = 0) := by simpa using c7014
        exact MT.say MT.any
       ·have c7014' : r7011 = 0 := by simpa using c7014
        refine MT.say (MT.eY (R := Any) ?_ ?_ ?_)
        ·refine T.ae2 (fun _=>True) ?_
         intro v7083 k118 hk118
         show MT (zn (oL n_) p_level p_s (v7083,((k118:Nat) : Int))) _
         refine MT.say (MT.ite (fun c7085=>?_) (fun c7085=>?_))
         ·have c7085' := of_decide_eq_true c7085
          rw [w64 (by omega) (by omega)] at c7085'
          refine MT.say (MT.ask (R := fun b_=>aV b_.lf1 < n_ ∧ aV b_.lf1 ≤ 100000000) ?_ (fun r7092 _ f_r7092=>?_))
          ·show MT (O5 (oL n_) p_level p_s v7083 ((k118:Nat) : Int)) _
           refine MT.ite (fun c7086=>?_) (fun c7086=>?_)
           ·have c7086' := of_decide_eq_true c7086
            refine MT.say (MT.ask (dG p_s.dN ((k118:Nat) : Int) (by omega) (by omega)) (fun x7087 _ hx119=>?_))
            have := og hx119
            have := mg x7087
            have := fJ x7087.fF
            exact MT.say (MT.ret ⟨by omega,by omega⟩)
           ·have c7086' := of_decide_eq_false c7086
            refine MT.say (MT.ask (dG p_s.fG (IntKind.wrap .i64 (((k118:Nat) : Int) - (p_s.dN.length:Int))) (by rw [w64 (by omega) (by omega)]; omega) (by rw [w64 (by omega) (by omega)]; omega)) (fun x7089 _ hx120=>?_))
            have := kP hx120
            have := fJ x7089
            exact MT.say (MT.ret ⟨by omega,by omega⟩)
          ·have f_r7092' := f_r7092.1
           have f_r7092'' := f_r7092.2
           refine MT.say (MT.ask (R := Any) ?_ ?_)
           ·exact (ih r7092 (IntKind.wrap .i64 (v7083 + 1)) (IntKind.wrap .i64 (p_level + 1)) (by omega) (by first | omega | (simp; done) | decide))
           ·intro r7094 h7095 _
            refine MT.say (MT.ite (fun c7096=>?_) (fun c7096=>?_))
            ·have c7096' : ¬ (r7094.2 = 0) := by simpa using c7096
             exact MT.say (MT.ret trivial)
            ·have c7096' : r7094.2 = 0 := by simpa using c7096
             exact MT.say (MT.ret ⟨rfl,by omega⟩)
         ·have c7085' := of_decide_eq_false c7085
          rw [w64 (by omega) (by omega)] at c7085'
          exact MT.say (MT.ret trivial)
        ·intro o7105 h7104 _
         exact MT.say MT.any
        ·intro o7106 h7104 _
         exact MT.say MT.any
theorem ES (p_s:aB) (p_number:Int) (p_level:Int) (h_p_s:aV p_s.lf1 ≤ 100000000) : Tot (Q26 p_s p_number p_level) Any := Ed FU p_s p_number p_level (by have := kQ; omega) h_p_s
theorem ET (p_s:aB) (h_p_s:aV p_s.lf1 ≤ 100000000) : Tot (ai8 p_s) Any := by
  have := fJ p_s
  show MT (aaD p_s) Any
  repeat' (first | exact MT.any | refine MT.say ?_ | refine MT.ite (fun _=>?_) (fun _=>?_) | refine MT.qo ?_ (fun _ _=>?_) | exact ⟨T.wk (ES _ _ _ (by first | omega | decide))⟩)
theorem EU (p_d:bK) (h_p_d:aV p_d.lf1 ≤ 100000000) : Tot (Q34 p_d) Any := by
  have := jw p_d
  have := jA p_d.dH
  have := fJ p_d.fF
  show MT (afQ p_d) Any
  refine MT.ask (R := Any) ?_ ?_
  ·exact T.wk (T.val (mZ p_d.fName))
  ·intro r4489 h4490 _
   refine MT.say (MT.ite (fun c4492=>?_) (fun c4492=>?_))
   ·exact MT.say MT.any
   ·refine MT.say (MT.ite (fun c4494=>?_) (fun c4494=>?_))
    ·have c4494' := of_decide_eq_true c4494
     exact MT.say MT.any
    ·have c4494' := of_decide_eq_false c4494
     refine MT.say (MT.eY (R := Any) ?_ ?_ ?_)
     ·refine T.cnt (fun _=>True) ?_
      intro k121 hk121
      show MT (Dv p_d ((k121:Nat) : Int)) _
      refine MT.say (MT.ite (fun c6619=>?_) (fun c6619=>?_))
      ·have c6619' := of_decide_eq_true c6619
       refine MT.say (MT.ask (dG p_d.dH ((k121:Nat) : Int) (by omega) (by omega)) (fun x6620 _ hx122=>?_))
       have := mD hx122
       have := gK x6620
       refine MT.say (MT.ask (R := Any) ?_ ?_)
       ·exact T.wk (sG x6620 (by first | omega | (simp; done) | decide))
       ·intro r6622 h6623 _
        refine MT.say (MT.ite (fun c6624=>?_) (fun c6624=>?_))
        ·have c6624' : ¬ (r6622 = 0) := by simpa using c6624
         exact MT.say (MT.ret trivial)
        ·have c6624' : r6622 = 0 := by simpa using c6624
         refine MT.say (MT.ask (dG p_d.dH ((k121:Nat) : Int) (by omega) (by omega)) (fun x6625 _ hx123=>?_))
         have := mD hx123
         have := gK x6625
         refine MT.say (MT.ask (R := Any) ?_ ?_)
         ·exact T.wk (Ub p_d.dH x6625.fName (by first | omega | (simp; done) | decide) (by first | omega | (simp; done) | decide))
         ·intro r6627 h6628 _
          refine MT.say (MT.ite (fun c6629=>?_) (fun c6629=>?_))
          ·have c6629' : ¬ (r6627 = ((k121 : Nat) : Int)) := by simpa using c6629
           exact MT.say (MT.ret trivial)
          ·have c6629' : r6627 = ((k121 : Nat) : Int) := by simpa using c6629
           exact MT.say (MT.ret ⟨rfl,by omega⟩)
      ·have c6619' := of_decide_eq_false c6619
       exact MT.say (MT.ret trivial)
     ·intro o6635 h6634 _
      exact MT.say MT.any
     ·intro o6636 h6634 _
      refine MT.say (MT.ask (R := fun b_=>(b_ = true → True) ∧ (b_ = false → ¬ ((p_d.oH:Int) < 0) ∧ ¬ ((2:Int) < p_d.oH) ∧ True)) ?_ ?_)
      ·show MT (O8 p_d) _
       refine MT.ite (fun c6646=>?_) (fun c6646=>?_)
       ·have c6646' := of_decide_eq_true c6646
        exact MT.say (MT.ret ⟨(fun _=>trivial),(fun h_=>by cases h_)⟩)
       ·have c6646' := of_decide_eq_false c6646
        exact MT.say (MT.ret ⟨(fun _=>trivial),(fun h_=>⟨(by first | assumption | omega),(of_decide_eq_false h_),trivial⟩)⟩)
      ·intro r6648 h6649 f_r6648
       refine MT.say (MT.ask (R := fun b_=>(b_ = true → True) ∧ (b_ = false → r6648 = false ∧ True)) ?_ ?_)
       ·show MT (GZ p_d r6648) _
        refine MT.ite (fun c6650=>?_) (fun c6650=>?_)
        ·exact MT.say (MT.ret ⟨(fun _=>trivial),(fun h_=>by cases h_)⟩)
        ·have q124 := f_r6648.2 (c6650)
         refine MT.say (MT.ite (fun c6651=>?_) (fun c6651=>?_))
         ·have c6651' : ¬ (p_d.lX = 0) := by simpa using c6651
          exact MT.say (MT.ret ⟨(fun _=>trivial),(fun h_=>⟨(by first | assumption | omega),trivial⟩)⟩)
         ·have c6651' : p_d.lX = 0 := by simpa using c6651
          exact MT.say (MT.ret ⟨(fun h_=>by cases h_),(fun h_=>⟨(by first | assumption | omega),trivial⟩)⟩)
       ·intro r6653 h6654 f_r6653
        refine MT.say (MT.ite (fun c6656=>?_) (fun c6656=>?_))
        ·exact MT.say MT.any
        ·have q125 := f_r6653.2 (c6656)
         have q126 := f_r6648.2 (q125.1)
         refine MT.say (MT.ask (R := Any) ?_ ?_)
         ·exact T.wk (ET p_d.fF (by first | omega | (simp; done) | decide))
         ·intro r7111 h7112 _
          exact MT.say MT.any
theorem Ee (p_kind:Int) : Tot (aiM p_kind) Any := by
  show MT (Y1 p_kind) Any
  repeat' (first | exact MT.any | refine MT.say ?_ | refine MT.ite (fun _=>?_) (fun _=>?_))
theorem qE (p_kind:Int) : Tot (aiN p_kind) Any := by
  show MT (Y2 p_kind) Any
  repeat' (first | exact MT.any | refine MT.say ?_ | refine MT.ite (fun _=>?_) (fun _=>?_) | refine MT.qo ?_ (fun _ _=>?_) | exact ⟨T.wk (Ee _)⟩)
theorem ng (p_kind:Int) : Tot (aiO p_kind) Any := by
  show MT (Y3 p_kind) Any
  repeat' (first | exact MT.any | refine MT.say ?_ | refine MT.ite (fun _=>?_) (fun _=>?_))
theorem sH (p_kind:Int) : Tot (aiT p_kind) Any := by
  show MT (Zw p_kind) Any
  repeat' (first | exact MT.any | refine MT.say ?_ | refine MT.ite (fun _=>?_) (fun _=>?_))
theorem lU (p_kind:Int) : Tot (aiS p_kind) Any := by
  show MT (Zv p_kind) Any
  repeat' (first | exact MT.any | refine MT.say ?_ | refine MT.ite (fun _=>?_) (fun _=>?_))
theorem Ef (p_w:aG) (h_p_w:aV p_w.lf1 ≤ 100000000) : Tot (Q22 p_w) Any := by
  have := iP p_w
  have := bQ p_w.lY
  have := bQ p_w.bU
  have := bQ p_w.gW
  have := jw p_w.nY
  have := gK p_w.bG
  have := jC p_w.dK
  have := iM p_w.eu
  show MT (afv p_w) Any
  refine MT.ask (R := fun b_=>aV b_.lf1 ≤ 100000000) ?_ (fun r792 _ f_r792=>?_)
  ·show MT (Na p_w) _
   refine MT.ite (fun c790=>?_) (fun c790=>?_)
   ·have c790' : p_w.aT = 7 := by simpa using c790
    exact MT.say (MT.ret (by first | omega | (refine Nat.le_trans (D5 _) ?_; omega)))
   ·have c790' : ¬ (p_w.aT = 7) := by simpa using c790
    exact MT.say (MT.ret (by first | omega | (refine Nat.le_trans (D5 _) ?_; omega)))
  ·have f_r792' := f_r792
   refine MT.say (MT.ask (R := Any) ?_ ?_)
   ·show MT (Nb p_w r792) Any
    refine MT.ask (R := Any) ?_ ?_
    ·exact T.wk (qE p_w.aT )
    ·intro r798 h799 _
     refine MT.say (MT.ite (fun c800=>?_) (fun c800=>?_))
     ·exact MT.say MT.any
     ·exact MT.say MT.any
   ·intro r802 h803 _
    refine MT.say (MT.ask (R := fun b_=>(b_ = true → r802 = true ∧ True) ∧ (b_ = false → True)) ?_ ?_)
    ·show MT (Gg p_w r792 r802) _
     refine MT.ite (fun c804=>?_) (fun c804=>?_)
     ·refine MT.say (MT.ask (R := Any) ?_ ?_)
      ·exact T.wk (ng p_w.aT )
      ·intro r806 h807 _
       refine MT.say (MT.ite (fun c808=>?_) (fun c808=>?_))
       ·exact MT.say (MT.ret ⟨(fun h_=>⟨(by first | assumption | omega),trivial⟩),(fun h_=>by cases h_)⟩)
       ·refine MT.say (MT.ask (R := Any) ?_ ?_)
        ·exact T.wk (T.val (jQ p_w.lY))
        ·intro r829 h830 _
         refine MT.say (MT.ite (fun c831=>?_) (fun c831=>?_))
         ·refine MT.say (MT.ask (R := Any) ?_ ?_)
          ·exact T.wk (T.val (jQ p_w.gW))
          ·intro r832 h833 _
           refine MT.say (MT.ite (fun c834=>?_) (fun c834=>?_))
           ·exact MT.say (MT.ret ⟨(fun h_=>⟨(by first | assumption | omega),trivial⟩),(fun _=>trivial)⟩)
           ·exact MT.say (MT.ret ⟨(fun h_=>by cases h_),(fun _=>trivial)⟩)
         ·exact MT.say (MT.ret ⟨(fun h_=>by cases h_),(fun _=>trivial)⟩)
     ·exact MT.say (MT.ret ⟨(fun h_=>by cases h_),(fun _=>trivial)⟩)
    ·intro r836 h837 f_r836
     refine MT.say (MT.ask (R := fun b_=>(b_ = true → r836 = true ∧ True) ∧ (b_ = false → True)) ?_ ?_)
     ·show MT (Gi p_w r792 r836) _
      refine MT.ite (fun c838=>?_) (fun c838=>?_)
      ·have q127 := f_r836.1 (c838)
       refine MT.say (MT.ite (fun c839=>?_) (fun c839=>?_))
       ·have c839' : p_w.aT = 2 := by simpa using c839
        exact MT.say (MT.ret ⟨(fun h_=>⟨(by first | assumption | omega),trivial⟩),(fun h_=>by cases h_)⟩)
       ·have c839' : ¬ (p_w.aT = 2) := by simpa using c839
        refine MT.say (MT.ask (R := Any) ?_ ?_)
        ·exact T.wk (T.val (jQ p_w.bU))
        ·intro r840 h841 _
         exact MT.say (MT.ret ⟨(fun h_=>⟨(by first | assumption | omega),trivial⟩),(fun _=>trivial)⟩)
      ·exact MT.say (MT.ret ⟨(fun h_=>by cases h_),(fun _=>trivial)⟩)
     ·intro r843 h844 f_r843
      refine MT.say (MT.ask (R := fun b_=>(b_ = true → r843 = true ∧ True) ∧ (b_ = false → True)) ?_ ?_)
      ·show MT (Gj p_w r792 r843) _
       refine MT.ite (fun c845=>?_) (fun c845=>?_)
       ·have q128 := f_r843.1 (c845)
        have q129 := f_r836.1 (q128.1)
        refine MT.say (MT.ite (fun c846=>?_) (fun c846=>?_))
        ·have c846' : p_w.aT = 4 := by simpa using c846
         exact MT.say (MT.ret ⟨(fun h_=>⟨(by first | assumption | omega),trivial⟩),(fun h_=>by cases h_)⟩)
        ·have c846' : ¬ (p_w.aT = 4) := by simpa using c846
         refine MT.say (MT.ask (R := Any) ?_ ?_)
         ·exact T.wk (Qw p_w.nY (by first | omega | (simp; done) | decide))
         ·intro r2975 h2976 _
          exact MT.say (MT.ret ⟨(fun h_=>⟨(by first | assumption | omega),trivial⟩),(fun _=>trivial)⟩)
       ·exact MT.say (MT.ret ⟨(fun h_=>by cases h_),(fun _=>trivial)⟩)
      ·intro r2978 h2979 f_r2978
       refine MT.say (MT.ask (R := fun b_=>(b_ = true → r2978 = true ∧ True) ∧ (b_ = false → True)) ?_ ?_)
       ·show MT (Gl p_w r2978 r792) _
        refine MT.ite (fun c2980=>?_) (fun c2980=>?_)
        ·have q130 := f_r2978.1 (c2980)
         have q131 := f_r843.1 (q130.1)
         have q132 := f_r836.1 (q131.1)
         refine MT.say (MT.ite (fun c2981=>?_) (fun c2981=>?_))
         ·have c2981' : p_w.aT = 6 := by simpa using c2981
          exact MT.say (MT.ret ⟨(fun h_=>⟨(by first | assumption | omega),trivial⟩),(fun h_=>by cases h_)⟩)
         ·have c2981' : ¬ (p_w.aT = 6) := by simpa using c2981
          refine MT.say (MT.ask (R := Any) ?_ ?_)
          ·exact T.wk (Qx r792 (by first | omega | (simp; done) | decide))
          ·intro r2990 h2991 _
           exact MT.say (MT.ret ⟨(fun h_=>⟨(by first | assumption | omega),trivial⟩),(fun _=>trivial)⟩)
        ·exact MT.say (MT.ret ⟨(fun h_=>by cases h_),(fun _=>trivial)⟩)
       ·intro r2996 h2997 f_r2996
        refine MT.say (MT.ask (R := fun b_=>(b_ = true → r2996 = true ∧ True) ∧ (b_ = false → True)) ?_ ?_)
        ·show MT (Gm p_w r2996) _
         refine MT.ite (fun c2998=>?_) (fun c2998=>?_)
         ·have q133 := f_r2996.1 (c2998)
          have q134 := f_r2978.1 (q133.1)
          have q135 := f_r843.1 (q134.1)
          have q136 := f_r836.1 (q135.1)
          refine MT.say (MT.ask (R := Any) ?_ ?_)
          ·exact T.wk (lU p_w.aT )
          ·intro r3000 h3001 _
           refine MT.say (MT.ite (fun c3002=>?_) (fun c3002=>?_))
           ·exact MT.say (MT.ret ⟨(fun h_=>⟨(by first | assumption | omega),trivial⟩),(fun h_=>by cases h_)⟩)
           ·exact MT.say (MT.ret ⟨(fun h_=>⟨(by first | assumption | omega),trivial⟩),(fun _=>trivial)⟩)
         ·exact MT.say (MT.ret ⟨(fun h_=>by cases h_),(fun _=>trivial)⟩)
        ·intro r3004 h3005 f_r3004
         refine MT.say (MT.ask (R := fun b_=>(b_ = true → r3004 = true ∧ True) ∧ (b_ = false → True)) ?_ ?_)
         ·show MT (Gn p_w r3004) _
          refine MT.ite (fun c3006=>?_) (fun c3006=>?_)
          ·have q137 := f_r3004.1 (c3006)
           have q138 := f_r2996.1 (q137.1)
           have q139 := f_r2978.1 (q138.1)
           have q140 := f_r843.1 (q139.1)
           have q141 := f_r836.1 (q140.1)
           refine MT.say (MT.ite (fun c3007=>?_) (fun c3007=>?_))
           ·have c3007' : p_w.aT = 10 := by simpa using c3007
            exact MT.say (MT.ret ⟨(fun h_=>⟨(by first | assumption | omega),trivial⟩),(fun h_=>by cases h_)⟩)
           ·have c3007' : ¬ (p_w.aT = 10) := by simpa using c3007
            refine MT.say (MT.ite (fun c3008=>?_) (fun c3008=>?_))
            ·have c3008' : p_w.aT = 12 := by simpa using c3008
             exact MT.say (MT.ret ⟨(fun h_=>⟨(by first | assumption | omega),trivial⟩),(fun h_=>by cases h_)⟩)
            ·have c3008' : ¬ (p_w.aT = 12) := by simpa using c3008
             exact MT.say (MT.ret ⟨(fun h_=>⟨(by first | assumption | omega),trivial⟩),(fun _=>trivial)⟩)
          ·exact MT.say (MT.ret ⟨(fun h_=>by cases h_),(fun _=>trivial)⟩)
         ·intro r3010 h3011 f_r3010
          refine MT.say (MT.ask (R := fun b_=>(b_ = true → r3010 = true ∧ True) ∧ (b_ = false → True)) ?_ ?_)
          ·show MT (Gp p_w r3010) _
           refine MT.ite (fun c3012=>?_) (fun c3012=>?_)
           ·have q142 := f_r3010.1 (c3012)
            have q143 := f_r3004.1 (q142.1)
            have q144 := f_r2996.1 (q143.1)
            have q145 := f_r2978.1 (q144.1)
            have q146 := f_r843.1 (q145.1)
            have q147 := f_r836.1 (q146.1)
            refine MT.say (MT.ask (R := Any) ?_ ?_)
            ·exact T.wk (sH p_w.aT )
            ·intro r3014 h3015 _
             refine MT.say (MT.ite (fun c3016=>?_) (fun c3016=>?_))
             ·exact MT.say (MT.ret ⟨(fun h_=>⟨(by first | assumption | omega),trivial⟩),(fun h_=>by cases h_)⟩)
             ·exact MT.say (MT.ret ⟨(fun h_=>⟨(by first | assumption | omega),trivial⟩),(fun _=>trivial)⟩)
           ·exact MT.say (MT.ret ⟨(fun h_=>by cases h_),(fun _=>trivial)⟩)
          ·intro r3018 h3019 f_r3018
           refine MT.say (MT.ask (R := fun b_=>(b_ = true → r3018 = true ∧ True) ∧ (b_ = false → True)) ?_ ?_)
           ·show MT (Gq p_w r3018) _
            refine MT.ite (fun c3020=>?_) (fun c3020=>?_)
            ·have q148 := f_r3018.1 (c3020)
             have q149 := f_r3010.1 (q148.1)
             have q150 := f_r3004.1 (q149.1)
             have q151 := f_r2996.1 (q150.1)
             have q152 := f_r2978.1 (q151.1)
             have q153 := f_r843.1 (q152.1)
             have q154 := f_r836.1 (q153.1)
             refine MT.say (MT.ite (fun c3021=>?_) (fun c3021=>?_))
             ·have c3021' : p_w.aT = 12 := by simpa using c3021
              exact MT.say (MT.ret ⟨(fun h_=>⟨(by first | assumption | omega),trivial⟩),(fun h_=>by cases h_)⟩)
             ·have c3021' : ¬ (p_w.aT = 12) := by simpa using c3021
              exact MT.say (MT.ret ⟨(fun h_=>⟨(by first | assumption | omega),trivial⟩),(fun _=>trivial)⟩)
            ·exact MT.say (MT.ret ⟨(fun h_=>by cases h_),(fun _=>trivial)⟩)
           ·intro r3026 h3027 f_r3026
            refine MT.say (MT.ask (R := Any) ?_ ?_)
            ·show MT (Gs r3026) Any
             exact MT.any
            ·intro r3028 h3029 _
             exact MT.say MT.any
theorem Eh (p_l:List Int) (h_p_l:bD (p_l.map lfI) ≤ 100000000) : Tot (Q37 p_l) Any := by
  have := iM p_l
  show MT (afw p_l) Any
  refine MT.eY (R := Any) ?_ ?_ ?_
  ·refine T.cnt (fun _=>True) ?_
   intro k155 hk155
   show MT (CQ p_l ((k155:Nat) : Int)) _
   refine MT.say (MT.ite (fun c3214=>?_) (fun c3214=>?_))
   ·have c3214' := of_decide_eq_true c3214
    refine MT.say (MT.ask (R := Any) ?_ ?_)
    ·show MT (Nc p_l ((k155:Nat) : Int)) Any
     refine MT.say (MT.ask (dG p_l ((k155:Nat) : Int) (by omega) (by omega)) (fun x3215 _ hx156=>?_))
     refine MT.say (MT.ite (fun c3217=>?_) (fun c3217=>?_))
     ·have c3217' := of_decide_eq_true c3217
      exact MT.say MT.any
     ·have c3217' := of_decide_eq_false c3217
      refine MT.say (MT.ask (dG p_l ((k155:Nat) : Int) (by omega) (by omega)) (fun x3218 _ hx157=>?_))
      refine MT.say (MT.ite (fun c3220=>?_) (fun c3220=>?_))
      ·have c3220' := of_decide_eq_true c3220
       exact MT.say MT.any
      ·have c3220' := of_decide_eq_false c3220
       refine MT.say (MT.ite (fun c3221=>?_) (fun c3221=>?_))
       ·have c3221' := of_decide_eq_true c3221
        refine MT.say (MT.ask (dG p_l (IntKind.wrap .i64 (((k155:Nat) : Int) - 1)) (by rw [w64 (by omega) (by omega)]; omega) (by rw [w64 (by omega) (by omega)]; omega)) (fun x3222 _ hx158=>?_))
        refine MT.say (MT.ask (dG p_l ((k155:Nat) : Int) (by omega) (by omega)) (fun x3224 _ hx159=>?_))
        exact MT.say MT.any
       ·have c3221' := of_decide_eq_false c3221
        exact MT.say MT.any
    ·intro r3227 h3228 _
     refine MT.say (MT.ite (fun c3229=>?_) (fun c3229=>?_))
     ·exact MT.say (MT.ret trivial)
     ·exact MT.say (MT.ret ⟨rfl,by omega⟩)
   ·have c3214' := of_decide_eq_false c3214
    exact MT.say (MT.ret trivial)
  ·intro o3232 h3231 _
   exact MT.say MT.any
  ·intro o3233 h3231 _
   exact MT.say MT.any
theorem uf (p_v:ah) (h_p_v:aV p_v.lf1 ≤ 100000000) : Tot (Q70 p_v) Any := by
  have := bQ p_v
  show MT (afx p_v) Any
  repeat' (first | exact MT.any | refine MT.say ?_ | refine MT.ite (fun _=>?_) (fun _=>?_) | refine MT.qo ?_ (fun _ _=>?_) | exact ⟨T.wk (jR _ (by first | omega | decide))⟩ | refine ⟨(show MT _ Any from ?_)⟩)
theorem zO (p_w:aG) (p_lo:Int) (p_hi:Int) (h_p_w:aV p_w.lf1 ≤ 100000000) : Tot (Q2 p_w p_lo p_hi) Any := by
  have := iP p_w
  have := bQ p_w.lY
  have := bQ p_w.bU
  have := bQ p_w.gW
  have := jw p_w.nY
  have := gK p_w.bG
  have := jC p_w.dK
  have := iM p_w.eu
  show MT (ai9 p_w p_lo p_hi) Any
  refine MT.ask (R := fun b_=>(b_ = true → True) ∧ (b_ = false → ¬ ((p_w.aT:Int) < p_lo) ∧ ¬ ((p_hi:Int) < p_w.aT) ∧ True)) ?_ ?_
  ·show MT (Vj p_hi p_lo p_w) _
   refine MT.ite (fun c3295=>?_) (fun c3295=>?_)
   ·have c3295' := of_decide_eq_true c3295
    exact MT.say (MT.ret ⟨(fun _=>trivial),(fun h_=>by cases h_)⟩)
   ·have c3295' := of_decide_eq_false c3295
    exact MT.say (MT.ret ⟨(fun _=>trivial),(fun h_=>⟨(by first | assumption | omega),(of_decide_eq_false h_),trivial⟩)⟩)
  ·intro r3297 h3298 f_r3297
   refine MT.say (MT.ask (R := fun b_=>(b_ = true → True) ∧ (b_ = false → r3297 = false ∧ True)) ?_ ?_)
   ·show MT (Vk p_w r3297) _
    refine MT.ite (fun c3299=>?_) (fun c3299=>?_)
    ·exact MT.say (MT.ret ⟨(fun _=>trivial),(fun h_=>by cases h_)⟩)
    ·have q160 := f_r3297.2 (c3299)
     refine MT.say (MT.ask (R := Any) ?_ ?_)
     ·exact T.wk (Ef p_w (by first | omega | (simp; done) | decide))
     ·intro r3300 h3301 _
      exact MT.say (MT.ret ⟨(fun _=>trivial),(fun h_=>⟨(by first | assumption | omega),trivial⟩)⟩)
   ·intro r3303 h3304 f_r3303
    refine MT.say (MT.ask (R := fun b_=>(b_ = true → True) ∧ (b_ = false → r3303 = false ∧ True)) ?_ ?_)
    ·show MT (O9 p_w r3303) _
     refine MT.ite (fun c3305=>?_) (fun c3305=>?_)
     ·exact MT.say (MT.ret ⟨(fun _=>trivial),(fun h_=>by cases h_)⟩)
     ·have q161 := f_r3303.2 (c3305)
      have q162 := f_r3297.2 (q161.1)
      refine MT.say (MT.ask (R := Any) ?_ ?_)
      ·exact T.wk (sH p_w.aT )
      ·intro r3306 h3307 _
       refine MT.say (MT.ite (fun c3308=>?_) (fun c3308=>?_))
       ·exact MT.say (MT.ret ⟨(fun _=>trivial),(fun h_=>⟨(by first | assumption | omega),trivial⟩)⟩)
       ·exact MT.say (MT.ret ⟨(fun h_=>by cases h_),(fun h_=>⟨(by first | assumption | omega),trivial⟩)⟩)
    ·intro r3310 h3311 f_r3310
     refine MT.say (MT.ask (R := Any) ?_ ?_)
     ·show MT (Pe p_w r3310) Any
      exact MT.any
     ·intro r3312 h3313 _
      refine MT.say (MT.ite (fun c3374=>?_) (fun c3374=>?_))
      ·exact MT.say MT.any
      ·have q163 := f_r3310.2 (c3374)
       have q164 := f_r3303.2 (q163.1)
       have q165 := f_r3297.2 (q164.1)
       refine MT.say (MT.ite (fun c3434=>?_) (fun c3434=>?_))
       ·have c3434' := of_decide_eq_true c3434
        exact MT.say MT.any
       ·have c3434' := of_decide_eq_false c3434
        refine MT.say (MT.ask (R := Any) ?_ ?_)
        ·show MT (Pg p_w) Any
         refine MT.ask (R := Any) ?_ ?_
         ·exact T.wk (qE p_w.aT )
         ·intro r3435 h3436 _
          refine MT.say (MT.ite (fun c3437=>?_) (fun c3437=>?_))
          ·refine MT.say (MT.ask (R := Any) ?_ ?_)
           ·exact T.wk (T.val (rP p_w.kJ))
           ·intro r3438 h3439 _
            exact MT.say MT.any
          ·exact MT.say MT.any
        ·intro r3441 h3442 _
         refine MT.say (MT.ask (R := fun b_=>(b_ = true → True) ∧ (b_ = false → r3441 = false ∧ True)) ?_ ?_)
         ·show MT (Ph p_w r3441) _
          refine MT.ite (fun c3443=>?_) (fun c3443=>?_)
          ·exact MT.say (MT.ret ⟨(fun _=>trivial),(fun h_=>by cases h_)⟩)
          ·refine MT.say (MT.ask (R := Any) ?_ ?_)
           ·exact T.wk (lU p_w.aT )
           ·intro r3444 h3445 _
            refine MT.say (MT.ite (fun c3446=>?_) (fun c3446=>?_))
            ·refine MT.say (MT.ask (R := Any) ?_ ?_)
             ·exact T.wk (T.val (rP p_w.yL))
             ·intro r3447 h3448 _
              exact MT.say (MT.ret ⟨(fun _=>trivial),(fun h_=>⟨(by first | assumption | omega),trivial⟩)⟩)
            ·exact MT.say (MT.ret ⟨(fun h_=>by cases h_),(fun h_=>⟨(by first | assumption | omega),trivial⟩)⟩)
         ·intro r3450 h3451 f_r3450
          refine MT.say (MT.ask (R := fun b_=>(b_ = true → True) ∧ (b_ = false → r3450 = false ∧ True)) ?_ ?_)
          ·show MT (Pj p_w r3450) _
           refine MT.ite (fun c3452=>?_) (fun c3452=>?_)
           ·exact MT.say (MT.ret ⟨(fun _=>trivial),(fun h_=>by cases h_)⟩)
           ·have q166 := f_r3450.2 (c3452)
            refine MT.say (MT.ite (fun c3453=>?_) (fun c3453=>?_))
            ·have c3453' : p_w.aT = 7 := by simpa using c3453
             refine MT.say (MT.ask (R := Any) ?_ ?_)
             ·exact T.wk (T.val (rP p_w.bG.fName))
             ·intro r3454 h3455 _
              exact MT.say (MT.ret ⟨(fun _=>trivial),(fun h_=>⟨(by first | assumption | omega),trivial⟩)⟩)
            ·have c3453' : ¬ (p_w.aT = 7) := by simpa using c3453
             exact MT.say (MT.ret ⟨(fun h_=>by cases h_),(fun h_=>⟨(by first | assumption | omega),trivial⟩)⟩)
          ·intro r3457 h3458 f_r3457
           refine MT.say (MT.ask (R := Any) ?_ ?_)
           ·show MT (Pm p_w r3457) Any
            exact MT.any
           ·intro r3459 h3460 _
            refine MT.say (MT.ite (fun c3493=>?_) (fun c3493=>?_))
            ·exact MT.say MT.any
            ·have q167 := f_r3457.2 (c3493)
             have q168 := f_r3450.2 (q167.1)
             refine MT.say (MT.ask (R := fun b_=>(b_ = true → p_w.aT = 10 ∧ (p_w.fO:Int) < 1 ∧ True) ∧ (b_ = false → True)) ?_ ?_)
             ·show MT (Pn p_w) _
              refine MT.ite (fun c3494=>?_) (fun c3494=>?_)
              ·have c3494' : p_w.aT = 10 := by simpa using c3494
               exact MT.say (MT.ret ⟨(fun h_=>⟨(by first | assumption | omega),(of_decide_eq_true h_),trivial⟩),(fun _=>trivial)⟩)
              ·have c3494' : ¬ (p_w.aT = 10) := by simpa using c3494
               exact MT.say (MT.ret ⟨(fun h_=>by cases h_),(fun _=>trivial)⟩)
             ·intro r3496 h3497 f_r3496
              refine MT.say (MT.ask (R := fun b_=>(b_ = true → True) ∧ (b_ = false → r3496 = false ∧ ¬ ((p_w.fO:Int) < 0) ∧ True)) ?_ ?_)
              ·show MT (Po p_w r3496) _
               refine MT.ite (fun c3498=>?_) (fun c3498=>?_)
               ·have q169 := f_r3496.1 (c3498)
                exact MT.say (MT.ret ⟨(fun _=>trivial),(fun h_=>by cases h_)⟩)
               ·exact MT.say (MT.ret ⟨(fun _=>trivial),(fun h_=>⟨(by first | assumption | omega),(of_decide_eq_false h_),trivial⟩)⟩)
              ·intro r3500 h3501 f_r3500
               refine MT.say (MT.ask (R := fun b_=>(b_ = true → True) ∧ (b_ = false → r3500 = false ∧ ¬ ((1099511627776:Int) < p_w.fO) ∧ True)) ?_ ?_)
               ·show MT (Pq p_w r3500) _
                refine MT.ite (fun c3502=>?_) (fun c3502=>?_)
                ·exact MT.say (MT.ret ⟨(fun _=>trivial),(fun h_=>by cases h_)⟩)
                ·have q170 := f_r3500.2 (c3502)
                 exact MT.say (MT.ret ⟨(fun _=>trivial),(fun h_=>⟨(by first | assumption | omega),(of_decide_eq_false h_),trivial⟩)⟩)
               ·intro r3504 h3505 f_r3504
                refine MT.say (MT.ask (R := fun b_=>(b_ = true → True) ∧ (b_ = false → r3504 = false ∧ True)) ?_ ?_)
                ·show MT (Pv p_w r3504) _
                 refine MT.ite (fun c3506=>?_) (fun c3506=>?_)
                 ·exact MT.say (MT.ret ⟨(fun _=>trivial),(fun h_=>by cases h_)⟩)
                 ·have q171 := f_r3504.2 (c3506)
                  have q172 := f_r3500.2 (q171.1)
                  refine MT.say (MT.ite (fun c3507=>?_) (fun c3507=>?_))
                  ·have c3507' : p_w.aT = 12 := by simpa using c3507
                   refine MT.say (MT.ask (R := Any) ?_ ?_)
                   ·exact T.wk (Eh p_w.eu (by first | omega | (simp; done) | decide))
                   ·intro r3508 h3509 _
                    exact MT.say (MT.ret ⟨(fun _=>trivial),(fun h_=>⟨(by first | assumption | omega),trivial⟩)⟩)
                  ·have c3507' : ¬ (p_w.aT = 12) := by simpa using c3507
                   exact MT.say (MT.ret ⟨(fun h_=>by cases h_),(fun h_=>⟨(by first | assumption | omega),trivial⟩)⟩)
                ·intro r3511 h3512 f_r3511
                 refine MT.say (MT.ask (R := Any) ?_ ?_)
                 ·show MT (Px p_w r3511) Any
                  exact MT.any
                 ·intro r3513 h3514 _
                  refine MT.say (MT.ite (fun c3525=>?_) (fun c3525=>?_))
                  ·exact MT.say MT.any
                  ·have q173 := f_r3511.2 (c3525)
                   have q174 := f_r3504.2 (q173.1)
                   have q175 := f_r3500.2 (q174.1)
                   refine MT.say (MT.ask (R := Any) ?_ ?_)
                   ·show MT (Py p_w) Any
                    refine MT.ask (R := Any) ?_ ?_
                    ·exact T.wk (ng p_w.aT )
                    ·intro r3526 h3527 _
                     refine MT.say (MT.ite (fun c3528=>?_) (fun c3528=>?_))
                     ·refine MT.say (MT.ask (R := Any) ?_ ?_)
                      ·exact T.wk (uf p_w.lY (by first | omega | (simp; done) | decide))
                      ·intro r3529 h3530 _
                       exact MT.say MT.any
                     ·exact MT.say MT.any
                   ·intro r3532 h3533 _
                    refine MT.say (MT.ite (fun c3535=>?_) (fun c3535=>?_))
                    ·exact MT.say MT.any
                    ·refine MT.say (MT.eY (R := Any) ?_ ?_ ?_)
                     ·show MT (Dw p_w) Any
                      refine MT.ite (fun c4447=>?_) (fun c4447=>?_)
                      ·have c4447' : p_w.aT = 2 := by simpa using c4447
                       refine MT.say (MT.ask (R := Any) ?_ ?_)
                       ·exact T.wk (DZ p_w.bU p_w.lY (by first | omega | (simp; done) | decide) (by first | omega | (simp; done) | decide))
                       ·intro r4448 h4449 _
                        refine MT.say (MT.ite (fun c4450=>?_) (fun c4450=>?_))
                        ·have c4450' : ¬ (r4448 = 0) := by simpa using c4450
                         exact MT.say MT.any
                        ·have c4450' : r4448 = 0 := by simpa using c4450
                         exact MT.say MT.any
                      ·have c4447' : ¬ (p_w.aT = 2) := by simpa using c4447
                       exact MT.say MT.any
                     ·intro o4455 h4454 _
                      exact MT.say MT.any
                     ·intro o4456 h4454 _
                      refine MT.say (MT.ask (R := Any) ?_ ?_)
                      ·show MT (PD p_w) Any
                       refine MT.ask (R := Any) ?_ ?_
                       ·exact T.wk (ng p_w.aT )
                       ·intro r4462 h4463 _
                        refine MT.say (MT.ite (fun c4464=>?_) (fun c4464=>?_))
                        ·refine MT.say (MT.ask (R := Any) ?_ ?_)
                         ·exact T.wk (T.val (jQ p_w.gW))
                         ·intro r4465 h4466 _
                          exact MT.say MT.any
                        ·exact MT.say MT.any
                      ·intro r4468 h4469 _
                       refine MT.say (MT.eY (R := Any) ?_ ?_ ?_)
                       ·show MT (Dx p_w r4468) Any
                        refine MT.ite (fun c4476=>?_) (fun c4476=>?_)
                        ·refine MT.say (MT.ask (R := Any) ?_ ?_)
                         ·exact T.wk (DZ p_w.gW p_w.lY (by first | omega | (simp; done) | decide) (by first | omega | (simp; done) | decide))
                         ·intro r4477 h4478 _
                          refine MT.say (MT.ite (fun c4479=>?_) (fun c4479=>?_))
                          ·have c4479' : ¬ (r4477 = 0) := by simpa using c4479
                           exact MT.say MT.any
                          ·have c4479' : r4477 = 0 := by simpa using c4479
                           exact MT.say MT.any
                        ·exact MT.say MT.any
                       ·intro o4484 h4483 _
                        exact MT.say MT.any
                       ·intro o4485 h4483 _
                        refine MT.say (MT.ite (fun c7115=>?_) (fun c7115=>?_))
                        ·have c7115' : p_w.aT = 4 := by simpa using c7115
                         refine MT.say (MT.ask (R := Any) ?_ ?_)
                         ·exact T.wk (EU p_w.nY (by first | omega | (simp; done) | decide))
                         ·intro r7118 h7119 _
                          exact MT.say MT.any
                        ·have c7115' : ¬ (p_w.aT = 4) := by simpa using c7115
                         refine MT.say (MT.ite (fun c7123=>?_) (fun c7123=>?_))
                         ·have c7123' : p_w.aT = 6 := by simpa using c7123
                          refine MT.say (MT.ask (R := Any) ?_ ?_)
                          ·exact T.wk (sG p_w.bG (by first | omega | (simp; done) | decide))
                          ·intro r7126 h7127 _
                           exact MT.say MT.any
                         ·have c7123' : ¬ (p_w.aT = 6) := by simpa using c7123
                          exact MT.say MT.any
theorem EW (p_e:au) (h_p_e:aV p_e.lf1 ≤ 100000000) : Tot (Q19 p_e) Any := by
  have := mW p_e
  have := iP p_e.iE
  have := jC p_e.iE.dK
  show MT (afS p_e) Any
  refine MT.ite (fun c756=>?_) (fun c756=>?_)
  ·have c756' := of_decide_eq_true c756
   exact MT.say MT.any
  ·have c756' := of_decide_eq_false c756
   refine MT.say (MT.ask (R := fun b_=>(b_ = true → True) ∧ (b_ = false → ¬ ((p_e.fO:Int) < 1) ∧ ¬ ((1099511627776:Int) < p_e.fO) ∧ True)) ?_ ?_)
   ·show MT (PG p_e) _
    refine MT.ite (fun c757=>?_) (fun c757=>?_)
    ·have c757' := of_decide_eq_true c757
     exact MT.say (MT.ret ⟨(fun _=>trivial),(fun h_=>by cases h_)⟩)
    ·have c757' := of_decide_eq_false c757
     exact MT.say (MT.ret ⟨(fun _=>trivial),(fun h_=>⟨(by first | assumption | omega),(of_decide_eq_false h_),trivial⟩)⟩)
   ·intro r759 h760 f_r759
    refine MT.say (MT.ask (R := fun b_=>(b_ = true → True) ∧ (b_ = false → r759 = false ∧ ¬ ((p_e.oI:Int) < 0) ∧ True)) ?_ ?_)
    ·show MT (PI p_e r759) _
     refine MT.ite (fun c761=>?_) (fun c761=>?_)
     ·exact MT.say (MT.ret ⟨(fun _=>trivial),(fun h_=>by cases h_)⟩)
     ·have q176 := f_r759.2 (c761)
      exact MT.say (MT.ret ⟨(fun _=>trivial),(fun h_=>⟨(by first | assumption | omega),(of_decide_eq_false h_),trivial⟩)⟩)
    ·intro r763 h764 f_r763
     refine MT.say (MT.ask (R := Any) ?_ ?_)
     ·show MT (G5 p_e r763) Any
      exact MT.any
     ·intro r765 h766 _
      refine MT.say (MT.ite (fun c775=>?_) (fun c775=>?_))
      ·exact MT.say MT.any
      ·have q177 := f_r763.2 (c775)
       have q178 := f_r759.2 (q177.1)
       refine MT.say (MT.ask (R := Any) ?_ ?_)
       ·show MT (G6 p_e) Any
        refine MT.ite (fun c776=>?_) (fun c776=>?_)
        ·refine MT.say (MT.ask (R := Any) ?_ ?_)
         ·exact T.wk (T.val (rP p_e.jV))
         ·intro r777 h778 _
          exact MT.say MT.any
        ·exact MT.say MT.any
       ·intro r780 h781 _
        refine MT.say (MT.ite (fun c783=>?_) (fun c783=>?_))
        ·exact MT.say MT.any
        ·refine MT.say (MT.ask (R := Any) ?_ ?_)
         ·exact T.wk (zO p_e.iE 1 12 (by first | omega | (simp; done) | decide))
         ·intro r7130 h7131 _
          refine MT.say (MT.ite (fun c7133=>?_) (fun c7133=>?_))
          ·have c7133' : ¬ (r7130 = 0) := by simpa using c7133
           exact MT.say MT.any
          ·have c7133' : r7130 = 0 := by simpa using c7133
           refine MT.say (MT.ask (R := Any) ?_ ?_)
           ·show MT (G7 p_e) Any
            refine MT.ite (fun c7135=>?_) (fun c7135=>?_)
            ·have c7135' : p_e.iE.aT = 9 := by simpa using c7135
             exact MT.say MT.any
            ·have c7135' : ¬ (p_e.iE.aT = 9) := by simpa using c7135
             exact MT.say MT.any
           ·intro r7137 h7138 _
            refine MT.say (MT.eY (R := Any) ?_ ?_ ?_)
            ·refine T.cnt (fun _=>True) ?_
             intro k179 hk179
             show MT (zo p_e r7137 ((k179:Nat) : Int)) _
             refine MT.say (MT.ite (fun c7176=>?_) (fun c7176=>?_))
             ·have c7176' := of_decide_eq_true c7176
              refine MT.say (MT.ask (dG p_e.iE.dK ((k179:Nat) : Int) (by omega) (by omega)) (fun x7177 _ hx180=>?_))
              have := mF hx180
              have := iP x7177
              refine MT.say (MT.ask (R := Any) ?_ ?_)
              ·exact T.wk (zO x7177 2 r7137 (by first | omega | (simp; done) | decide))
              ·intro r7179 h7180 _
               refine MT.say (MT.ite (fun c7181=>?_) (fun c7181=>?_))
               ·have c7181' : ¬ (r7179 = 0) := by simpa using c7181
                exact MT.say (MT.ret trivial)
               ·have c7181' : r7179 = 0 := by simpa using c7181
                exact MT.say (MT.ret ⟨rfl,by omega⟩)
             ·have c7176' := of_decide_eq_false c7176
              exact MT.say (MT.ret trivial)
            ·intro o7186 h7185 _
             exact MT.say MT.any
            ·intro o7187 h7185 _
             exact MT.say MT.any
end Go.Proofs.YtdnafbfmaphhhaaGreatDoor
set_option linter.unusedSimpArgs false
set_option linter.unusedVariables false
namespace Go.Proofs.YtdnafbfmaphhhaaGreatDoor
open Go.RowKit
theorem nU {α:Type} (f : α → List Lf) (l:List α) (k:Nat) : bD ((l.drop k).map f) ≤ bD (l.map f) := by
  have := zC ((l.take k).map f) ((l.drop k).map f)
  rw [← List.map_append,List.take_append_drop] at this; omega
theorem Ei (m:ak) (hb:aV m.lf1 ≤ 100000000) : Q88 m = some m := by
  simp only [Q88,afX,Mo.den,aJ,aN,bf,aK,aQ,aee,SQ,Mo.den,aJ,aN,bf,aK,aQ,Q55,abh,Jp,xO,Mo.den,aJ,aN,bf,aK,aQ,kC m hb,Option.bind_some,decide_eq_true (show m.bC ≤ m.bC by omega),cond_true]
theorem Aa (l:List au) (hb:bD (l.map au.lf) ≤ 10000000) : aeN l = some l := by
  have h0:¬ ((l.length:Int) < 0) := by omega
  have e1:(ak.mP ak.z l).aP = l := rfl
  have e2:(ak.mP ak.z l).aA = 0 := rfl
  have e3 := iw l (by omega)
  have hz:aV ((ak.mP ak.z l).mP []).lf1 = 12 := by kernel_rfl
  have e4 := kE ((ak.mP ak.z l).mP []) (by omega)
  simp only [aeN,abZ,Mo.den,aJ,aN,bf,aK,aQ,aeM,TB,Mo.den,aJ,aN,bf,aK,aQ,e1,e2,gt_iff_lt,Int.lt_irrefl,if_false,h0,Int.toNat_zero,List.drop_zero,List.take_zero,e3,e4,Option.bind_some]
  rw [if_pos (by omega),if_pos (by omega)]; rfl
def ae5 (l:List au) (n:Int) : Int := if 1 ≤ n then (match l[(n - 1).toNat]? with | some e=>e.bC | none=>0) else 0
theorem Ej (l:List au) (n:Int) (hl:l.length ≤ 1000000) : ahQ n l = some (ae5 l n) := by
  simp only [ahQ,abo,H6,Mo.den,aJ,aN,bf,aK,aQ,ae5]
  by_cases h1:n < 1
  · rw [decide_eq_true h1,if_neg (by omega)]; rfl
  rw [decide_eq_false h1,if_pos (by omega)]
  simp only [cond_false,Option.bind_some]
  by_cases h2:(l.length:Int) < n
  · rw [decide_eq_true h2,List.getElem?_eq_none (by omega)]; rfl
  · rw [decide_eq_false h2, w64 (by omega) (by omega)]
    obtain ⟨x,h3,h4⟩ := UD (l := l) (i := n - 1) (by omega) (by omega)
    simp only [cond_false,h3,h4,Option.bind_some]
/-- a proper message -/
structure JO (m:ak) (x:aj) : Prop where
  t0 : 0 ≤ x.bC
  i0 : 0 ≤ x.bG
  i1:x.bG ≤ 16384
  c0 : 0 ≤ x.aA
  c1:x.aA ≤ 16384
  es:x.aW.length ≤ 16
theorem Uc (m:ak) (x:aj) (hb:bD (x.aW.map au.lf) ≤ 100000000) : Tot (Q10 m x) (fun b=>b = true → JO m x) := by
  have hl := jP x.aW
  unfold Q10 afT Jk zq Hw Hu Ht Hr Hq Ho Hg Hf He PL PK
  simp only [Mo.den,aJ,aN,bf,aK,aQ]
  refine T.bind (R := fun b=>b = false → True) (T.ite (fun _=>T.ret (by simp)) fun _=>T.ret (by simp)) fun r h=>T.bind (T.orc h) fun r h=>T.bind (T.orc h) fun r h=>T.bind (T.orc h) fun r h=>T.bind (T.orc h) fun r h=>T.bind (T.orc h) fun r h=>T.bind (T.orc h) fun r h=>T.bind (T.orc h) fun r h=>T.bind (T.orc h) fun r h=>T.bind (T.orc h) fun r h=>T.ite (fun _=>T.ret (by simp)) fun hr=>?_
  have h := h hr
  refine T.bind (R := Any) ?_ ?_
  · refine T.ae1 x.aW (by omega) _ (fun k e hx => ?_) ?_
    · have hm := rM (jZ hx)
      simp only [ltt hx,gid hx,cond_true,Option.bind_some]
      refine T.bind (R := Any) (T.ite (fun _=>T.any) fun _=>T.bind (EW e (by omega)) fun v _=>T.any) fun b _=>T.ite (fun _=>T.ret trivial) fun _=>T.ret rfl
    · simp only [ltn,cond_false]
      exact T.ret trivial
  · rintro (r | r) _
    · exact T.ret (by simp)
    · exact T.ret fun _=>⟨by omega,by omega,by omega,by omega,by omega,by omega⟩
/-- what a member becomes at a later term -/
def tim (n:Int) : Int := IntKind.wrap .i64 (10 + IntKind.wrap .i64 (3 * n))
def stepS (m:ak) (t:Int) : ak := if t ≤ m.bC then m else ⟨m.fID,m.dJ,t,-1,0,-1,if m.dV = 2 then tim m.fID else m.gX,0,m.aP,m.aA,[],[]⟩
theorem acK (m:ak) (t:Int) (hb:aV m.lf1 ≤ 100000000) : aee m t = some (stepS m t) := by
  simp only [aee,SQ,Mo.den,aJ,aN,bf,aK,aQ,Q55,abh,Jp,xO,Mo.den,aJ,aN,bf,aK,aQ,ajc,abf,Mo.den,aJ,aN,bf,aK,aQ,kC m hb,Option.bind_some,stepS]
  by_cases h:t ≤ m.bC
  · rw [decide_eq_true h,if_pos h]; rfl
  · rw [decide_eq_false h,if_neg h]
    by_cases hr:m.dV = 2
    · rw [show (m.dV == 2) = true by simp [hr],if_pos hr]; rfl
    · rw [show (m.dV == 2) = false by simp [hr],if_neg hr]; rfl
def fD (m:ak) (x:aj) : ak :=
  let n := if m.bC < x.bC then stepS m x.bC else if m.dV = 1 then ak.Ri (ak.afe m 0) 0 else m
  ak.Bl (ak.IQ n x.dB) (tim n.fID)
theorem Em (m:ak) (x:aj) : (fD m x).aP = m.aP ∧ (fD m x).aA = m.aA ∧ (fD m x).fID = m.fID := by
  unfold fD stepS
  split
  · rw [if_neg (by omega)]; exact ⟨rfl,rfl,rfl⟩
  · split <;> exact ⟨rfl,rfl,rfl⟩
theorem X8 (m:ak) (x:aj) : aV (fD m x).lf1 ≤ aV m.lf1 := by
  rw [iY,iY,(Em m x).1]
  have:bD ((fD m x).fNext.map lfI) ≤ bD (m.fNext.map lfI) ∧ bD ((fD m x).bg.map lfI) ≤ bD (m.bg.map lfI) := by
    unfold fD stepS
    split
    · rw [if_neg (by omega)]; exact ⟨Nat.zero_le _,Nat.zero_le _⟩
    · split <;> exact ⟨Nat.le_refl _,Nat.le_refl _⟩
  omega
/-- the first place at which the entries are not the log's -/
def oW (a b:au) : Bool := a.bC == b.bC && a.fO == b.fO
theorem Ud (a b:au) : oW a b = oW b a := by unfold oW; rw [BEq.comm (a := a.bC),BEq.comm (a := a.fO)]
theorem acL (a b:au) : aen a b = some (oW a b) := by
  simp only [aen,abp,Mo.den,aJ,aN,bf,aK,aQ,oW]
  cases a.bC == b.bC <;> rfl
def dif (l:List au) : List au → Nat → Option Nat
  | [],_=>none
  | e :: r,i=>match l[i]? with
    | none=>none
    | some a=>if oW a e then dif l r (i + 1) else some i
theorem VE {l:List au} {e:au} {r:List au} {i:Nat} (hx:l[i]? = none) : dif l (e :: r) i = none := by unfold dif; rw [hx]
theorem VF {l:List au} {e a:au} {r:List au} {i:Nat} (hx:l[i]? = some a) (hs:oW a e = true) : dif l (e :: r) i = dif l r (i + 1) := by
  show (match l[i]? with | none=>none | some a=>if oW a e then dif l r (i + 1) else some i) = _
  rw [hx]; exact if_pos hs
theorem Qy {l:List au} {e a:au} {r:List au} {i:Nat} (hx:l[i]? = some a) (hs:oW a e = false) : dif l (e :: r) i = some i := by
  show (match l[i]? with | none=>none | some a=>if oW a e then dif l r (i + 1) else some i) = _
  rw [hx]; exact if_neg (by rw [hs]; simp)
theorem JQ {l:List au} : ∀ {es:List au} {i p:Nat},dif l es i = some p → i ≤ p ∧ p < l.length
  | [],_,_,h=>by cases h
  | e :: r,i,p,h=>by
    cases hx:l[i]? with
    | none=>rw [VE hx] at h; cases h
    | some a =>
      have hi := (List.getElem?_eq_some_iff.1 hx).1
      cases hs:oW a e with
      | true =>
        rw [VF hx hs] at h
        have := JQ h; omega
      | false =>
        rw [Qy hx hs] at h
        cases h; omega
theorem drop_at {es:List au} {k:Nat} {e:au} (hx:es[k]? = some e) : es.drop k = e :: es.drop (k + 1) := by
  have hk := (List.getElem?_eq_some_iff.1 hx)
  rw [List.drop_eq_getElem_cons hk.1,hk.2]
def ae6 (o:Option Nat) (d:Int) : Int := match o with | some p=>(p:Int) | none=>d
theorem zQ (x:aj) (n:aF) (i:Nat) (hi:x.bG = i) (hi2:i ≤ 20000) (he:x.aW.length ≤ 1000) : Q27 x n = some (ae6 (dif n.aI.aP x.aW i) (n.aI.aP.length:Int)) := by
  have h1:Tot (Tc n x 0) (fun r=>r = (match dif n.aI.aP x.aW i with | some p=>.inr (p:Int) | none=>.inl ())) := by
    refine T.zX x.aW.length (by omega) (fun k s=>s = (k:Int) ∧ dif n.aI.aP (x.aW.drop k) (i + k) = dif n.aI.aP x.aW i) _ ⟨rfl,rfl⟩ ?_ ?_
    · rintro k s hk ⟨rfl,hs⟩
      have hx := List.getElem?_eq_getElem hk
      have ew:IntKind.wrap .i64 ((i:Int) + (k:Int)) = ((i + k:Nat) : Int) := by rw [w64 (by omega) (by omega)]; omega
      rw [drop_at hx] at hs
      simp only [xP,Mo.den,aJ,aN,bf,aK,aQ,ltt hx,gid hx,cond_true,Option.bind_some,hi,ew]
      by_cases hq:i + k < n.aI.aP.length
      · have hy := List.getElem?_eq_getElem hq
        rw [decide_eq_false (show ¬ (n.aI.aP.length:Int) ≤ ((i + k:Nat) : Int) by omega),gid hy]
        simp only [cond_false,Option.bind_some,acL]
        rw [Ud]
        cases hse:oW n.aI.aP[i + k] x.aW[k] with
        | true =>
          rw [VF hy hse] at hs
          exact ⟨_,rfl,inc k (by omega),hs⟩
        | false =>
          rw [Qy hy hse] at hs
          exact ⟨_,rfl,by rw [← hs]; rfl⟩
      · rw [VE (List.getElem?_eq_none (by omega))] at hs
        rw [decide_eq_true (show (n.aI.aP.length:Int) ≤ ((i + k:Nat) : Int) by omega)]
        exact ⟨_,rfl,by rw [← hs]; rfl⟩
    · rintro s ⟨rfl,hs⟩
      rw [List.drop_eq_nil_of_le (Nat.le_refl _)] at hs
      have hs:none = _ := hs
      simp only [xP,Mo.den,aJ,aN,bf,aK,aQ,ltn,cond_false]
      exact ⟨_,rfl,by rw [← hs]; rfl⟩
  obtain ⟨r,h1,h2⟩ := h1
  simp only [Q27,afY,Mo.den,aJ,aN,bf,aK,aQ,h1]
  rw [h2]
  cases dif n.aI.aP x.aW i <;> rfl
end Go.Proofs.YtdnafbfmaphhhaaGreatDoor
set_option linter.unusedSimpArgs false
set_option linter.unusedVariables false
namespace Go.Proofs.YtdnafbfmaphhhaaGreatDoor
open Go.RowKit
theorem Ih (d:Int) : ae6 none d = d := rfl
theorem Ii (p:Nat) (d:Int) : ae6 (some p) d = (p:Int) := rfl
theorem ae7 (m:ak) (p:Nat) (c0 : 0 ≤ m.aA) (hc:m.aA ≤ p) (hp:p ≤ m.aP.length) (hl:m.aP.length ≤ 1000000) (hb:aV m.lf1 ≤ 100000000) : aeM m (p:Int) = some (ak.mP m (m.aP.take p),⟨m.fID,m.bC,(p:Int),m.aP.drop p⟩) := by
  have h1:(if m.aA > (p:Int) then m.aA else (p:Int)) = (p:Int) := if_neg (by omega)
  have h2:(if (0:Int) > (p:Int) then (0:Int) else (p:Int)) = (p:Int) := if_neg (by omega)
  have h3:(if (m.aP.length:Int) < (p:Int) then (m.aP.length:Int) else (p:Int)) = (p:Int) := if_neg (by omega)
  have hbm := iY m
  have hd := nU au.lf m.aP p
  have e1 := iw (m.aP.drop p) (by omega)
  have e2 := kE (ak.mP m (m.aP.take p)) (by
    have ht := kX au.lf m.aP p
    rw [iY]
    show 12 + bD ((m.aP.take p).map au.lf) + bD (m.fNext.map lfI) + bD (m.bg.map lfI) ≤ _
    omega)
  simp only [aeM,TB,Mo.den,aJ,aN,bf,aK,aQ,h1,h2,h3,Int.toNat_natCast,e1,e2,Option.bind_some]
  rw [if_pos (by omega),if_pos (by omega)]
def noR:bM := ⟨-1,0,0,[]⟩
def ae8 (m:ak) (x:aj) (ok:Bool) (n:Int) : aj := aj.sOK (aj.tu (aj.mO (aj.kZ (aj.sTo (aj.nZ aj.z m.fID) x.dB) 4) m.bC) n) ok
theorem zD (x:aj) (ok:Bool) (n:Int) (b:aF) (h:b.cZ.length ≤ 1000) : ahP x ok n b = some ⟨b.aI,b.cZ ++ [ae8 b.aI x ok n],b.eG⟩ := by
  simp only [ahP,abn,Mo.den,aJ,aN,bf,aK,aQ]
  rw [if_pos (by simp only [List.length_cons,List.length_nil]; omega)]; rfl
theorem JR:Q78 = some noR := rfl
def zF (x:aj) : Int := IntKind.wrap .i64 (x.bG + (x.aW.length:Int))
/-- are the entries refused -/
def X9 (m:ak) (x:aj) (i:Nat) : Bool :=
  decide ((m.aP.length:Int) < x.bG) || (ae5 m.aP x.bG != x.mM) || (match dif m.aP x.aW i with | some p=>decide ((p:Int) < m.aA) | none=>false) || decide (16384 < zF x)
theorem Qz (x:aj) (b:aF) (i:Nat) (hi:x.bG = i) (hi2:i ≤ 20000) (he:x.aW.length ≤ 1000) (hl:b.aI.aP.length ≤ 1000000) (c1:b.aI.aA ≤ b.aI.aP.length) : ahR x b = some (X9 b.aI x i) := by
  have h0:decide (x.bG < 0) = false := decide_eq_false (by omega)
  simp only [ahR,abq,H7,Mo.den,aJ,aN,bf,aK,aQ,h0,cond_false,Ej _ _ hl,Option.bind_some,zQ x b i hi hi2 he,X9]
  by_cases h1:(b.aI.aP.length:Int) < x.bG
  · rw [decide_eq_true h1]; simp
  rw [decide_eq_false h1]
  simp only [cond_false,Option.bind_some,Bool.false_or]
  cases ae5 b.aI.aP x.bG != x.mM with
  | true=>simp
  | false =>
    cases hd:dif b.aI.aP x.aW i with
    | none =>
      have h2:¬ (b.aI.aP.length:Int) < b.aI.aA := by omega
      rw [Ih,decide_eq_false h2]; rfl
    | some p =>
      rw [Ii]
      simp only [cond_false,Option.bind_some,Bool.false_or]
      by_cases h2:(p:Int) < b.aI.aA
      · rw [decide_eq_true h2]; rfl
      · rw [decide_eq_false h2]; rfl
/-- what is taken -/
def ctS (m:ak) : Option Nat → ak × bM
  | none=>(m,noR)
  | some p=>(ak.mP m (m.aP.take p),⟨m.fID,m.bC,(p:Int),m.aP.drop p⟩)
def JU (m:ak) (x:aj) : Int := if (if zF x < x.aA then zF x else x.aA) > m.aA then (if zF x < x.aA then zF x else x.aA) else m.aA
def ajy (m:ak) (x:aj) (i:Nat) : ak := ak.Aj (ak.mP m (m.aP ++ x.aW.drop (m.aP.length - i))) (JU m x)
def Ij (m:ak) (x:aj) (i:Nat) : ak × List aj × bM :=
  let c := ctS m (dif m.aP x.aW i)
  (ajy c.1 x i,[ae8 (ajy c.1 x i) x true (zF x)],c.2)
theorem ae9 (m:ak) (l:List au) (i:Nat) (hi:i ≤ m.aP.length) : i ≤ (ctS m (dif m.aP l i)).1.aP.length ∧ (ctS m (dif m.aP l i)).1.aP.length ≤ m.aP.length := by
  cases h:dif m.aP l i with
  | none=>exact ⟨hi,Nat.le_refl _⟩
  | some p =>
    have := JQ h
    show i ≤ (m.aP.take p).length ∧ (m.aP.take p).length ≤ _
    rw [List.length_take]; omega
theorem acM (x:aj) (b:aF) (i:Nat) (hs:b.cZ = []) (hr:b.eG = noR) (hi:x.bG = i) (hi2:i ≤ 20000) (he:x.aW.length ≤ 1000) (hl:b.aI.aP.length ≤ 1000000) (hil:i ≤ b.aI.aP.length) (c0 : 0 ≤ b.aI.aA) (hc:∀ p,dif b.aI.aP x.aW i = some p → b.aI.aA ≤ p) (hb:aV b.aI.lf1 ≤ 10000000) (hx:bD (x.aW.map au.lf) ≤ 10000000) : Q38 x b = some ⟨(Ij b.aI x i).1,(Ij b.aI x i).2.1,(Ij b.aI x i).2.2⟩ := by
  obtain ⟨m,s,r⟩ := b
  obtain rfl:s = [] := hs
  obtain rfl:r = noR := hr
  have hl:m.aP.length ≤ 1000000 := hl
  have hil:i ≤ m.aP.length := hil
  have hb:aV m.lf1 ≤ 10000000 := hb
  have hcl := ae9 m x.aW i hil
  have j0:Ju ⟨m,[],noR⟩ x (ae6 (dif m.aP x.aW i) (m.aP.length:Int)) = some (let c := ctS m (dif m.aP x.aW i); (c.1.fID,c.1.dJ,c.1.bC,c.1.jm,c.1.dV,c.1.iq,c.1.gX,c.1.fQ,c.1.aA,c.2.dP,c.2.bC,c.2.fAt,c.2.aW,c.1.aP,c.1.fNext,c.1.bg)) := by
    unfold Ju DC
    simp only [Mo.den,aJ,aN,bf,aK,aQ]
    cases h:dif m.aP x.aW i with
    | none =>
      rw [Ih]
      rw [decide_eq_false (show ¬ (m.aP.length:Int) < (m.aP.length:Int) by omega)]; rfl
    | some p =>
      have hp := JQ h
      rw [Ii]
      rw [decide_eq_true (show (p:Int) < (m.aP.length:Int) by omega),ae7 m p c0 (hc p h) (by omega) hl (by omega)]; rfl
  simp only [Q38,af4,Mo.den,aJ,aN,bf,aK,aQ,zQ x ⟨m,[],noR⟩ i hi hi2 he,Option.bind_some,j0]
  generalize hcc:ctS m (dif m.aP x.aW i) = c at hcl
  have j5:∀ r:(Int × Int × Int × Int × Int × Int × Int × Int × Int × Int × Int × Int × List au × List au × List Int × List Int),r.2.2.2.2.2.2.2.2.2.2.2.2.2.1 = c.1.aP → Jv ⟨m,[],noR⟩ x r = some (c.1.aP ++ x.aW.drop (c.1.aP.length - i)) := by
    intro r hr
    have hw:IntKind.wrap .i64 ((c.1.aP.length:Int) - (i:Int)) = ((c.1.aP.length - i:Nat) : Int) := by rw [w64 (by omega) (by omega)]; omega
    have hm:(if ((c.1.aP.length - i:Nat) : Int) > 0 then ((c.1.aP.length - i:Nat) : Int) else 0) = ((c.1.aP.length - i:Nat) : Int) := by split <;> omega
    unfold Jv DI
    simp only [Mo.den,aJ,aN,bf,aK,aQ,hr,hi,hw,hm,Int.toNat_natCast]
    by_cases h:c.1.aP.length - i < x.aW.length
    · have hd := nU au.lf x.aW (c.1.aP.length - i)
      rw [iLt h]
      simp only [cond_true,Aa _ (Nat.le_trans hd hx),Option.bind_some]
      rw [if_pos (by omega),if_pos (by rw [List.length_drop]; omega)]
    · rw [V5 h,List.drop_eq_nil_of_le (by omega),List.append_nil]; rfl
  rw [j5 _ rfl]
  simp only [Option.bind_some]
  rw [zD _ _ _ _ (by simp)]
  simp only [Ij,hcc]
  rfl
/-- what Entries answers -/
def ajz (m:ak) (x:aj) : Int :=
  let a := if IntKind.wrap .i64 (x.bG - 1) < (m.aP.length:Int) then IntKind.wrap .i64 (x.bG - 1) else (m.aP.length:Int)
  if a > 0 then a else 0
def QA (m:ak) (x:aj) (i:Nat) : ak × List aj × bM :=
  if x.bC < m.bC then (m,[ae8 m x false 0],noR)
  else if x.bC = m.bC ∧ m.dV = 2 then (m,[],noR)
  else if X9 (fD m x) x i = true then (fD m x,[ae8 (fD m x) x false (ajz (fD m x) x)],noR)
  else Ij (fD m x) x i
theorem En {m:ak} {x:aj} {i:Nat} (h:X9 m x i = false) : x.bG ≤ m.aP.length ∧ (∀ p,dif m.aP x.aW i = some p → m.aA ≤ p) ∧ zF x ≤ 16384 := by
  unfold X9 at h
  simp only [Bool.or_eq_false_iff,decide_eq_false_iff_not] at h
  obtain ⟨⟨⟨h1,_⟩,h2⟩,h3⟩ := h
  refine ⟨by omega,fun p hp=>?_,by omega⟩
  rw [hp] at h2
  have := of_decide_eq_false h2
  omega
theorem acN (m:ak) (x:aj) : (bif x.bC == m.bC then some (m.dV == 2) else some false) = some (decide (x.bC = m.bC ∧ m.dV = 2)) := by
  by_cases h1:x.bC = m.bC
  · rw [show (x.bC == m.bC) = true by simp [h1]]
    by_cases h2:m.dV = 2
    · rw [show (m.dV == 2) = true by simp [h2],decide_eq_true ⟨h1,h2⟩]; rfl
    · rw [show (m.dV == 2) = false by simp [h2],decide_eq_false (fun h=>h2 h.2)]; rfl
  · rw [show (x.bC == m.bC) = false by simp [h1],decide_eq_false (fun h=>h1 h.1)]; rfl
theorem QB (m:ak) (x:aj) (i:Nat) (g:Good m) (px:JO m x) (hi:x.bG = i) (hb:aV m.lf1 ≤ 10000000) (hx:bD (x.aW.map au.lf) ≤ 10000000) : Q30 x ⟨m,[],noR⟩ = some ⟨(QA m x i).1,(QA m x i).2.1,(QA m x i).2.2⟩ := by
  have lg := g.lg
  have c0 := g.c0
  have c1 := g.c1
  have i1 := px.i1
  have he := px.es
  obtain ⟨fl,fc,fi⟩ := Em m x
  have hfb := X8 m x
  have hj:∃ r j,Jw ⟨m,[],noR⟩ x = some r ∧ Jy ⟨m,[],noR⟩ x r = some j ∧ ak.mk r.1 r.2.1 r.2.2.1 r.2.2.2.1 j.1 x.dB (IntKind.wrap .i64 (10 + (IntKind.wrap .i64 (3 * r.1)))) j.2 r.2.2.2.2.2.2.2.2.2.1 r.2.2.2.2.2.2.2.2.1 r.2.2.2.2.2.2.2.2.2.2.1 r.2.2.2.2.2.2.2.2.2.2.2 = fD m x := by
    unfold Jw DK Jy H8 fD
    simp only [Mo.den,aJ,aN,bf,aK,aQ]
    by_cases h:m.bC < x.bC
    · have hs : stepS m x.bC = ⟨m.fID, m.dJ, x.bC, -1, 0, -1, if m.dV = 2 then tim m.fID else m.gX, 0, m.aP, m.aA, [], []⟩ := if_neg (by omega)
      rw [decide_eq_true h,if_pos h,acK m _ (by omega),hs]
      exact ⟨_,(0,0),rfl,rfl,rfl⟩
    · rw [decide_eq_false h,if_neg h]
      by_cases hr:m.dV = 1
      · refine ⟨_, (0, 0), rfl, ?_, by rw [if_pos hr]; rfl⟩
        show (bif m.dV == 1 then some ((0:Int),(0:Int)) else some (m.dV,m.fQ)) = _
        rw [show (m.dV == 1) = true by simp [hr]]; rfl
      · refine ⟨_, (m.dV, m.fQ), rfl, ?_, by rw [if_neg hr]; rfl⟩
        show (bif m.dV == 1 then some ((0:Int),(0:Int)) else some (m.dV,m.fQ)) = _
        rw [show (m.dV == 1) = false by simp [hr]]; rfl
  obtain ⟨r,j,hr,hjj,hm⟩ := hj
  have hlog:r.2.2.2.2.2.2.2.2.2.1 = (fD m x).aP := by rw [← hm]
  unfold Q30 af5 Ql
  simp only [Mo.den,aJ,aN,bf,aK,aQ,acN,Option.bind_some,hr,hjj,hm,QA]
  by_cases h1:x.bC < m.bC
  · rw [decide_eq_true h1,if_pos h1]
    simp only [cond_true]
    rw [zD _ _ _ _ (by simp)]; rfl
  rw [decide_eq_false h1,if_neg h1]
  simp only [cond_false]
  by_cases h2:x.bC = m.bC ∧ m.dV = 2
  · rw [decide_eq_true h2,if_pos h2]; rfl
  rw [decide_eq_false h2,if_neg h2]
  simp only [cond_false]
  rw [Qz x ⟨fD m x,[],noR⟩ i hi (by omega) (by omega) (by show (fD m x).aP.length ≤ _; rw [fl]; omega) (by show (fD m x).aA ≤ ((fD m x).aP.length:Int); rw [fl,fc]; exact c1)]
  simp only [Option.bind_some]
  cases hq:X9 (fD m x) x i with
  | true =>
    simp only [cond_true,if_true,hlog]
    rw [zD _ _ _ _ (by simp)]; rfl
  | false =>
    obtain ⟨k1,k2,k3⟩ := En hq
    simp only [cond_false]
    rw [acM x ⟨fD m x,[],noR⟩ i rfl rfl hi (by omega) (by omega) (by show (fD m x).aP.length ≤ _; rw [fl]; omega) (by show i ≤ (fD m x).aP.length; omega) (by show 0 ≤ (fD m x).aA; rw [fc]; exact c0) k2 (by show aV (fD m x).lf1 ≤ _; omega) hx]
    rfl
theorem QC (m:ak) (x:aj) (i:Nat) (g:Good m) (px:JO m x) (hi:x.bG = i) (hb:aV m.lf1 ≤ 10000000) (hx:bD (x.aW.map au.lf) ≤ 10000000) : aij m x = some (QA m x i) := by
  unfold aij acv
  simp only [Mo.den,aJ,aN,bf,aK,aQ,Ei m (by omega),JR,Option.bind_some,QB m x i g px hi hb hx]
theorem JV (x:aj) : bD (x.aW.map au.lf) ≤ aV x.lf1 := by simp only [aj.lf1,aV,Lf.bulk]; omega
end Go.Proofs.YtdnafbfmaphhhaaGreatDoor
set_option linter.unusedSimpArgs false
set_option linter.unusedVariables false
namespace Go.Proofs.YtdnafbfmaphhhaaGreatDoor
open Go.RowKit
structure ajA (m:ak) (q:ak × List aj × bM) : Prop where
  c0:m.aA ≤ q.1.aA
  c1:q.1.aA ≤ q.1.aP.length
  t:m.bC ≤ q.1.bC
  rep:(q.2.2 = noR ∧ m.aP.length ≤ q.1.aP.length ∧ q.1.aP.take m.aP.length = m.aP) ∨ ∃ (p:Nat) (t:Int),q.2.2 = ⟨m.fID,t,(p:Int),m.aP.drop p⟩ ∧ m.aA ≤ p ∧ p < m.aP.length ∧ p ≤ q.1.aP.length ∧ q.1.aP.take p = m.aP.take p
theorem Ya (m:ak) (x:aj) : m.bC ≤ (fD m x).bC := by
  unfold fD stepS
  split
  · rename_i h
    rw [if_neg (by omega)]
    show m.bC ≤ x.bC
    omega
  · split
    · exact Int.le_refl _
    · exact Int.le_refl _
theorem VG (m:ak) (x:aj) : m.aA ≤ JU m x := by unfold JU; split <;> omega
theorem VH (m:ak) (x:aj) (n:Int) (h1:m.aA ≤ n) (h2:zF x ≤ n) : JU m x ≤ n := by
  unfold JU
  generalize hA:(if zF x < x.aA then zF x else x.aA) = A
  have:A ≤ zF x := by subst hA; split <;> omega
  split <;> omega
theorem Yb (m:ak) (x:aj) (i:Nat) (g:Good m) (px:JO m x) (hi:x.bG = i) : ajA m (QA m x i) := by
  have lg := g.lg
  have c0 := g.c0
  have c1 := g.c1
  have i1 := px.i1
  have he := px.es
  obtain ⟨fl,fc,fi⟩ := Em m x
  have ft := Ya m x
  have same:m.aP.take m.aP.length = m.aP := List.take_length
  unfold QA
  split
  · exact ⟨Int.le_refl _,c1,Int.le_refl _,.inl ⟨rfl,Nat.le_refl _,same⟩⟩
  · split
    · exact ⟨Int.le_refl _,c1,Int.le_refl _,.inl ⟨rfl,Nat.le_refl _,same⟩⟩
    · split
      · exact ⟨by show m.aA ≤ (fD m x).aA; omega,by show (fD m x).aA ≤ ((fD m x).aP.length:Int); rw [fl,fc]; exact c1,ft,.inl ⟨rfl,by show m.aP.length ≤ (fD m x).aP.length; rw [fl]; exact Nat.le_refl _,by show (fD m x).aP.take _ = _; rw [fl]; exact same⟩⟩
      · rename_i hq
        obtain ⟨k1,k2,k3⟩ := En (by simpa using hq)
        have hfl:(fD m x).aP.length = m.aP.length := by rw [fl]
        have hen:zF x = ((i + x.aW.length:Nat) : Int) := by unfold zF; rw [w64 (by omega) (by omega)]; omega
        unfold Ij
        cases ho:dif (fD m x).aP x.aW i with
        | none =>
          have hlen:((fD m x).aP ++ x.aW.drop ((fD m x).aP.length - i)).length = (fD m x).aP.length + (x.aW.length - ((fD m x).aP.length - i)) := by rw [List.length_append,List.length_drop]
          refine ⟨?_,?_,ft,.inl ⟨rfl,?_,?_⟩⟩
          · show m.aA ≤ JU (fD m x) x
            have := VG (fD m x) x; omega
          · show JU (fD m x) x ≤ (((fD m x).aP ++ x.aW.drop ((fD m x).aP.length - i)).length:Int)
            rw [hlen]
            exact VH _ _ _ (by omega) (by omega)
          · show m.aP.length ≤ ((fD m x).aP ++ x.aW.drop ((fD m x).aP.length - i)).length
            rw [hlen]; omega
          · show ((fD m x).aP ++ x.aW.drop ((fD m x).aP.length - i)).take m.aP.length = m.aP
            rw [fl,List.take_left' rfl]
        | some p =>
          have hp := JQ ho
          have hcm := k2 p ho
          have ht:((fD m x).aP.take p).length = p := by rw [List.length_take]; omega
          have hlen:((fD m x).aP.take p ++ x.aW.drop (((fD m x).aP.take p).length - i)).length = p + (x.aW.length - (p - i)) := by rw [List.length_append,List.length_drop,ht]
          refine ⟨?_,?_,ft,.inr ⟨p,(fD m x).bC,?_,by omega,by omega,?_,?_⟩⟩
          · show m.aA ≤ JU (ak.mP (fD m x) ((fD m x).aP.take p)) x
            have := VG (ak.mP (fD m x) ((fD m x).aP.take p)) x
            have h2:(ak.mP (fD m x) ((fD m x).aP.take p)).aA = (fD m x).aA := rfl
            omega
          · show JU (ak.mP (fD m x) ((fD m x).aP.take p)) x ≤ (((fD m x).aP.take p ++ x.aW.drop (((fD m x).aP.take p).length - i)).length:Int)
            rw [hlen]
            have h2:(ak.mP (fD m x) ((fD m x).aP.take p)).aA = (fD m x).aA := rfl
            exact VH _ _ _ (by omega) (by omega)
          · show (⟨(fD m x).fID,(fD m x).bC,(p:Int),(fD m x).aP.drop p⟩ : bM) = _
            rw [fi,fl]
          · show p ≤ ((fD m x).aP.take p ++ x.aW.drop (((fD m x).aP.take p).length - i)).length
            rw [hlen]; omega
          · show ((fD m x).aP.take p ++ x.aW.drop (((fD m x).aP.take p).length - i)).take p = _
            rw [List.take_left' ht,fl]
theorem Yc (m:ak) (x:aj) (hb:aV m.lf1 ≤ 10000000) (hx:bD (x.aW.map au.lf) ≤ 10000000) : Q8 m x = some true := by
  have hbm := iY m
  unfold Q8 aju TN DT Qr Qq TM DR VA Vz
  obtain ⟨b,hg,hG⟩ := acF m (by omega)
  obtain ⟨c,hp,hP⟩ := Uc m x (by omega)
  simp only [Mo.den,aJ,aN,bf,aK,aQ,hg,hp,Option.bind_some,X0]
  cases b with
  | false=>rfl
  | true =>
    cases c with
    | false=>rfl
    | true =>
      simp only [Bool.not_true,cond_false,Option.bind_some]
      by_cases hk:x.aT = 3
      · rw [show (x.aT != 3) = false by simp [hk]]
        have g := hG rfl
        have px := hP rfl
        have i0 := px.i0
        have hi:x.bG = ((x.bG.toNat:Nat) : Int) := by omega
        have k := Yb m x x.bG.toNat g px hi
        simp only [cond_false,QC m x x.bG.toNat g px hi hb hx,Option.bind_some]
        generalize QA m x x.bG.toNat = q at k
        obtain ⟨a,l,r⟩ := q
        have k0:m.aA ≤ a.aA := k.c0
        have k1:a.aA ≤ a.aP.length := k.c1
        have k2:m.bC ≤ a.bC := k.t
        simp only [decide_eq_false (show ¬ a.aA < m.aA by omega),decide_eq_false (show ¬ (a.aP.length:Int) < a.aA by omega),decide_eq_false (show ¬ a.bC < m.bC by omega),cond_false,Option.bind_some]
        rcases k.rep with ⟨e,h1,h2⟩ | ⟨p,t,e,h1,h2,h3,h4⟩
        · obtain rfl:r = noR := e
          have h1:m.aP.length ≤ a.aP.length := h1
          have h2:a.aP.take m.aP.length = m.aP := h2
          have e1:(noR.dP != (-1:Int)) = false := rfl
          simp only [e1,cond_false,Option.bind_some,decide_eq_true (show (m.aP.length:Int) ≤ (a.aP.length:Int) by omega),cond_true,Int.toNat_natCast,h2,List.take_length,iV _ (show bD (m.aP.map au.lf) ≤ 100000000 by omega)]
          rw [if_pos (by omega),if_pos (by omega)]
        · obtain rfl:r = ⟨m.fID,t,(p:Int),m.aP.drop p⟩ := e
          have h3:p ≤ a.aP.length := h3
          have h4:a.aP.take p = m.aP.take p := h4
          have i0 := g.i0
          have e1:(m.fID != (-1:Int)) = true := by simp; omega
          have e2:(m.fID != m.fID) = false := by simp
          have hd := nU au.lf m.aP p
          have ht := kX au.lf m.aP p
          simp only [e1,e2,cond_true,cond_false,Option.bind_some,decide_eq_false (show ¬ (p:Int) < m.aA by omega),decide_eq_false (show ¬ (m.aP.length:Int) ≤ (p:Int) by omega),decide_eq_true (show (p:Int) ≤ (a.aP.length:Int) by omega),Int.toNat_natCast,h4,iV _ (show bD ((m.aP.drop p).map au.lf) ≤ 100000000 by omega),iV _ (show bD ((m.aP.take p).map au.lf) ≤ 100000000 by omega),Bool.not_true]
          rw [if_pos (by omega)]
          simp only [cond_true,cond_false,Option.bind_some,decide_eq_false (show ¬ (p:Int) < m.aA by omega),decide_eq_false (show ¬ (m.aP.length:Int) ≤ (p:Int) by omega),decide_eq_true (show (p:Int) ≤ (a.aP.length:Int) by omega),Int.toNat_natCast,h4,iV _ (show bD ((m.aP.drop p).map au.lf) ≤ 100000000 by omega),iV _ (show bD ((m.aP.take p).map au.lf) ≤ 100000000 by omega),Bool.not_true]
          rw [if_pos (by omega),if_pos (by omega)]
      · rw [show (x.aT != 3) = true by simp [hk]]; rfl
end Go.Proofs.YtdnafbfmaphhhaaGreatDoor
