/- Plain: the reference's writer on raw data: writes, entries, Code. -/
import Derived.Test.YtdnafbfmaphhhaaGreatDoorQE7
set_option linter.unusedSimpArgs false
set_option linter.unusedVariables false
namespace Go.Proofs.YtdnafbfmaphhhaaGreatDoor
open Go.RowKit
theorem Zr (n:Nat) : ∀ x:aG,aW x.lf1 < n → aW x.lf1 ≤ 100000000 → Ap ((oV n).m1 x) (wrL x.lf1) := by
  induction n with
  | zero=>intro x h _; omega
  | succ n ih =>
    intro x h hb
    have hl := jB x.dL
    have hl1 := iy x.eu
    rw [iQ] at h hb
    have hL:Ap (KZ (oV n) x 0) (wrQ (x.dL.map aG.lf)) := by
      refine Ap.of' (fun b hb=>by unfold KZ; rfl) (Ap.loop aG.lf x.dL (fun p b=>(oV n).m1 p b) _ (by omega) (fun x hx=>by have h1 := mO hx; exact (ih _ (by omega) (by omega)).to (by rw [aG.aV])) fun k s=>⟨fun y h=>?_,fun h=>?_⟩) rfl
      · obtain ⟨h1,h2⟩ := (dU x.dL k).1 y h
        simp only [yI,Mo.den,aI,aJ,h1,h2,cond_true,Option.bind_some,Option.bind_assoc]
      · simp only [yI,Mo.den,aI,aJ,(dU x.dL k).2 h,cond_false]
    have hL2:Ap (Vr (oV n) x 0) (wrQ (x.eu.map lfI)) := by
      refine Ap.of' (fun b hb=>by unfold Vr; rfl) (Ap.loop lfI x.eu (fun p b=>Q19 p b) _ (by omega) (fun x hx=>(fD x).to (by simp only [lfI,wrL,wrF,ByteArray.append_empty])) fun k s=>⟨fun y h=>?_,fun h=>?_⟩) rfl
      · obtain ⟨h1,h2⟩ := (dU x.eu k).1 y h
        simp only [Eo,Mo.den,aI,aJ,h1,h2,cond_true,Option.bind_some,Option.bind_assoc]
      · simp only [Eo,Mo.den,aI,aJ,(dU x.eu k).2 h,cond_false]
    refine Ap.of' (fun b hr=>?_) (Ap.bind (fD (x.aU)) (Ap.bind (og (x.kM)) (Ap.bind (ny (x.mg) (by omega)) (Ap.bind (ny (x.bU) (by omega)) (Ap.bind (ny (x.gY) (by omega)) (Ap.bind (EF (x.ou) (by omega)) (Ap.bind (yR (x.aY) (by omega)) (Ap.bind (og (x.zq)) (Ap.bind (fD (x.fB)) (Ap.bind (fD ((x.dL.length:Int))) (Ap.bind hL (Ap.bind (fD ((x.eu.length:Int))) (Ap.bind hL2 (Ap.bind (mF (x.kY)) Ap.nil)))))))))))))) ?_
    · simp only [oV,adU,Mo.den,aI,aJ]
    · simp only [aG.lf1,mD,wrL,wrF,List.length_map,ByteArray.append_empty,ByteArray.append_assoc]
theorem ad4 (v:aG) (hb:aW v.lf1 ≤ 100000000) : Ap (Q28 v) (wrL v.lf1) := Zr FU v (jQ (by omega)) hb
theorem ad5 (x:ay) (hb:aW x.lf1 ≤ 100000000) : Ap (ajU x) (wrL x.lf1) := by
  rw [ng] at hb
  refine Ap.of' (fun b hb=>?_) (Ap.bind (fD (x.bD)) (Ap.bind (fD (x.fB)) (Ap.bind (og (x.jZ)) (Ap.bind (fD (x.oN)) (Ap.bind (ad4 (x.iH) (by omega)) Ap.nil))))) ?_
  · simp only [ajU,adV,Mo.den,aI,aJ]
  · simp only [ay.lf1,mD,wrL,wrF,ByteArray.append_empty,ByteArray.append_assoc]
theorem ad6 (x:ay) (hb:aW x.lf1 ≤ 100000000) : adX x = some (wrL x.lf1) := by
  have h1 := uy x.lf1
  have h2 := ad5 x hb ⟨⟨#[]⟩,false,true⟩ rfl (by show 0 + _ ≤ _; omega)
  simp only [adX,adW,Mo.den,aI,aN,aZ,aJ,aP,h2,Option.bind_some]
  exact congrArg some ByteArray.empty_append
end Go.Proofs.YtdnafbfmaphhhaaGreatDoor
set_option linter.unusedSimpArgs false
set_option linter.unusedVariables false
namespace Go.Proofs.YtdnafbfmaphhhaaGreatDoor
open Go.RowKit
theorem Zt:Q37 = some true := by kernel_rfl
namespace T
theorem aj2 {p q:Prop} [Decidable p] [Decidable q] : Tot (bif decide p then some true else some (decide q)) (fun b=>b = false → ¬ p ∧ ¬ q) :=
  ite (fun h=>ret (by simp)) (fun h=>ret fun h2=>⟨of_decide_eq_false h,of_decide_eq_false h2⟩)
theorem orc {r:Bool} {p A:Prop} [Decidable p] (hr:r = false → A) : Tot (bif r then some true else some (decide p)) (fun b=>b = false → A ∧ ¬ p) :=
  ite (fun h=>ret (by simp)) (fun h=>ret fun h2=>⟨hr h,of_decide_eq_false h2⟩)
theorem ald {r:Bool} {x:Bool} {A:Prop} (hr:r = true → A) : Tot (bif r then some x else some false) (fun b=>b = true → A ∧ x = true) :=
  ite (fun h=>ret fun h2=>⟨hr h,h2⟩) (fun h=>ret (by simp))
theorem ale {r:Bool} {m:Option Bool} {A:Prop} {Q:Prop} (hr:r = true → A) (hm:Tot m (fun b=>b = true → Q)) : Tot (bif r then m.bind fun a=>some a else some false) (fun b=>b = true → A ∧ Q) :=
  ite (fun h=>bind hm fun a ha=>ret fun h2=>⟨hr h,ha h2⟩) (fun h=>ret (by simp))
end T
theorem EG (l:List Int) (most:Int) (hl:l.length ≤ 100000000) : Tot (Q34 l most) (fun b=>b = true → ∀ x ∈ l,0 ≤ x ∧ x ≤ most) := by
  have h1:Tot (Ue l most 0) (LP (fun _=>True) (fun _=>∀ x ∈ l,0 ≤ x ∧ x ≤ most)) := by
    refine T.yP l.length (by omega) (fun k s=>s = (k:Int) ∧ ∀ x ∈ l.take k,0 ≤ x ∧ x ≤ most) _ ⟨rfl,by simp⟩ ?_ ?_
    · rintro k s hk ⟨rfl,hs⟩
      have hx := List.getElem?_eq_getElem hk
      simp only [vg,Np,Mo.den,aI,aN,aZ,aJ,aP,ltt hx,gid hx,cond_true,Option.bind_some]
      refine T.bind T.aj2 fun b hb=>T.ite (fun _=>T.ret trivial) fun h=>T.ret ⟨inc k (by omega),fun x hx2=>?_⟩
      have hb := hb h
      rw [List.take_succ_eq_append_getElem hk] at hx2
      rcases List.mem_append.1 hx2 with h2 | h2
      · exact hs x h2
      · obtain rfl : x = l[k] := by simpa using h2
        omega
    · rintro s ⟨rfl,hs⟩
      simp only [vg,Mo.den,aI,aN,aZ,aJ,aP,ltn,cond_false]
      rw [List.take_length] at hs
      exact T.ret hs
  unfold Q34 agN
  simp only [Mo.den,aI,aN,aZ,aJ,aP]
  refine T.bind h1 ?_
  rintro (r | r) hr
  · exact T.ret (by simp)
  · exact T.ret fun _=>hr
theorem Vy (m:aj) : Tot (Q9 m) (fun b=>b = true → m.aQ.length ≤ 16384 ∧ 0 ≤ m.au ∧ m.au ≤ m.aQ.length) := by
  unfold Q9 aat
  simp only [Mo.den,aI,aN,aZ,aJ,aP]
  refine T.ite (fun _=>T.ret (by simp)) fun h0=>?_
  have h0 := of_decide_eq_false h0
  refine T.bind (R := Any) ?_ ?_
  · refine T.yP m.aQ.length (by omega) (fun k s => s.2.2 = (k : Int)) _ rfl ?_ ?_
    · rintro k ⟨a,b,i⟩ hk rfl
      have hx := List.getElem?_eq_getElem hk
      simp only [Q9,aat,uZ,uY,CO,qw,uU,Bj,Bh,Mo.den,aI,aN,aZ,aJ,aP,ltt hx,gid hx,cond_true,Option.bind_some]
      refine T.bind (R := Any) (T.wk T.aj2) fun r _=>T.bind (R := Any) (T.wk (T.orc (A := True) fun _=>trivial)) fun r _=>T.bind (R := Any) (T.wk (T.orc (A := True) fun _=>trivial)) fun r _=>T.ite (fun _=>T.ret trivial) fun _=>T.ret ?_
      exact inc k (by omega)
    · rintro ⟨a,b,i⟩ rfl
      simp only [Q9,aat,uZ,uY,CO,qw,uU,Bj,Bh,Mo.den,aI,aN,aZ,aJ,aP,ltn,cond_false]
      exact T.ret trivial
  · rintro (r | r) _
    · exact T.ret (by simp)
    · simp only [Q9,aat,uZ,uY,CO,qw,uU,Bj,Bh,Mo.den,aI,aN,aZ,aJ,aP,Option.bind_some]
      refine T.bind (T.ite (fun h=>T.ret (Q := fun b=>b = true → 0 ≤ m.au ∧ m.au ≤ m.aQ.length) fun h2=>⟨of_decide_eq_true h,of_decide_eq_true h2⟩) (fun h=>T.ret (by simp))) fun b hb=>T.ret fun h=>⟨by omega,hb h⟩
theorem Zu (s n:Int) (hn:n ≤ 1000) : Tot (aeP s n) Any := by
  unfold aeP aau
  simp only [Mo.den,aI,aN,aZ,aJ,aP]
  refine T.bind (R := Any) (T.agD _ fun a k hk=>?_) fun r _=>T.any
  simp only [Gu,Mo.den,aI,aN,aZ,aJ,aP]
  refine T.ite (fun h=>T.grd (by omega) (T.ret ⟨rfl,?_⟩)) fun _=>T.ret trivial
  have := of_decide_eq_true h; omega
def maj (n:Int) : Int := if n < 1 ∨ 7 < n then 0 else n / 2 + 1
theorem FB (n:Int) : aeR n = some (maj n) := by
  simp only [aeR,aav,Gv,Mo.den,aI,aN,aZ,aJ,aP,maj]
  by_cases h1:n < 1
  · rw [decide_eq_true h1,if_pos (.inl h1)]; rfl
  rw [decide_eq_false h1]
  by_cases h2 : 7 < n
  · rw [decide_eq_true h2,if_pos (.inr h2)]; rfl
  rw [decide_eq_false h2,if_neg (by omega)]
  simp only [cond_false,Option.bind_some]
  obtain ⟨k,rfl⟩ := Int.eq_ofNat_of_zero_le (show 0 ≤ n by omega)
  rw [show Int.tdiv (k:Int) 2 = (k:Int) / 2 from Int.tdiv_eq_ediv_of_nonneg (by omega),w64 (x := (k:Int) / 2) (by omega) (by omega),w64 (by omega) (by omega)]
/-- what is known of a member that is examined -/
structure Good (m:aj) : Prop where
  s1 : 1 ≤ m.dI
  s7:m.dI ≤ 7
  i0 : 0 ≤ m.fID
  i1:m.fID < m.dI
  t0 : 0 ≤ m.bD
  tm : 0 ≤ m.gI
  lg:m.aQ.length ≤ 200
  c0 : 0 ≤ m.au
  c1:m.au ≤ m.aQ.length
  v0 : 0 ≤ m.fH
  v1:m.fH < yY .i64 1 m.dI
  pr:m.dM = 2 → (m.fNext.length:Int) = m.dI ∧ (m.bn.length:Int) = m.dI ∧ (∀ x ∈ m.fNext,0 ≤ x ∧ x ≤ m.aQ.length) ∧ ∀ x ∈ m.bn,0 ≤ x ∧ x ≤ m.aQ.length
theorem ad7 (m:aj) (hb:aW m.lf1 ≤ 100000000) : Tot (aib m) (fun b=>b = true → Good m) := by
  rw [gX] at hb
  have hl1 := iy m.fNext
  have hl2 := iy m.bn
  simp only [aib,aax,Mo.den,aI,aN,aZ,aJ,aP]
  refine T.ite (fun h200=>?_) fun _=>T.ret (by simp)
  have h200 := of_decide_eq_true h200
  refine T.bind (R := fun b=>b = true → Good m) ?_ fun b hb=>T.ret hb
  simp only [Q6,akq,Uf,CP,NP,NM,NK,NJ,NI,NH,NG,ND,NC,Nz,Ny,Nw,Nv,Nu,Ns,WA,Wy,Mo.den,aI,aN,aZ,aJ,aP,FB,Option.bind_some]
  refine T.bind T.aj2 fun r h=>T.bind (T.orc h) fun r h=>T.bind (T.orc h) fun r h=>T.bind (T.orc h) fun r h=>T.bind (T.orc h) fun r h=>T.bind (T.orc h) fun r h=>T.bind (T.orc h) fun r h=>T.bind (T.orc h) fun r h=>T.ite (fun _=>T.ret (by simp)) fun hr=>?_
  have h := h hr
  refine T.bind (R := fun b=>b = false → 0 ≤ m.gI ∧ 0 ≤ m.fH ∧ m.fH < yY .i64 1 m.dI ∧ m.aQ.length ≤ 16384 ∧ 0 ≤ m.au ∧ m.au ≤ m.aQ.length) ?_ fun r2 h2=>T.ite (fun _=>T.ret (by simp)) fun hr2=>?_
  · refine T.ite (fun _ => T.ret (by simp)) fun _ => T.ite (fun _ => T.ret (by simp)) fun _ => T.ite (fun _ => T.ret (by simp)) fun ht => T.ite (fun _ => T.ret (by simp)) fun hv => T.grd (by omega) (T.ite (fun _ => T.ret (by simp)) fun hw => ?_)
    have ht := of_decide_eq_false ht
    have hv := of_decide_eq_false hv
    have hw := of_decide_eq_false hw
    exact T.bind (Vy m) fun b hb=>T.ret fun h=>⟨by omega,by omega,by omega,hb (by simpa using h)⟩
  have h2 := h2 hr2
  refine T.bind (R := Any) (T.ite (fun _=>T.ite (fun _=>T.any) fun _=>T.ite (fun _=>T.any) fun _=>T.grd (by omega) T.any) fun _=>T.any) fun _ _=>T.ite (fun _=>T.ret (by simp)) fun _=>?_
  refine T.bind (Zu _ _ (by omega)) fun v _=>?_
  have G:(m.dM = 2 → (m.fNext.length:Int) = m.dI ∧ (m.bn.length:Int) = m.dI ∧ (∀ x ∈ m.fNext,0 ≤ x ∧ x ≤ m.aQ.length) ∧ ∀ x ∈ m.bn,0 ≤ x ∧ x ≤ m.aQ.length) → Good m := fun hp=>⟨by omega,by omega,by omega,by omega,by omega,by omega,by omega,by omega,by omega,by omega,by omega,hp⟩
  refine T.bind (R := LP (fun b=>b = true → Good m) (fun _=>¬ m.dM = 2)) ?_ ?_
  · refine T.ite (fun h1 => ?_) fun _ => T.ite (fun h3 => ?_) fun h3 => T.ret (by show ¬ m.dM = 2; simpa using h3)
    · have h1 : m.dM = 1 := by simpa using h1
      refine T.bind (R := Any) (T.ite (fun _=>T.any) fun _=>T.any) fun _ _=>T.ite (fun _=>T.ret (by show false = true → _; simp)) fun _=>T.ret (by show ¬ m.dM = 2; omega)
    · refine T.bind (R := Any) (T.ite (fun _ => T.any) fun _ => T.any) fun r0 _ => T.bind (T.ald (A := True) fun _ => trivial) fun r1 k1 => T.bind (T.ald k1) fun r2 k2 => T.bind (T.ale k2 (EG _ _ (by omega))) fun r3 k3 => T.bind (T.ale k3 (EG _ _ (by omega))) fun r4 k4 => T.ret fun h5 => G fun _ => ?_
      have k := k4 h5
      exact ⟨by simpa using k.1.1.1.2,by simpa using k.1.1.2,k.1.2,k.2⟩
  · rintro (b | u) hb2
    · exact T.ret hb2
    · exact T.ite (fun _=>T.ret fun _=>G fun h=>absurd h hb2) fun _=>T.ret (by simp)
theorem kT (l:List ay) (hb:bG (l.map ay.lf) ≤ 100000000) : Q25 l l = some true := by
  have hl := jS l
  have e1:Tot (Vs l l 0) (fun r=>r = .inr ()) := by
    refine T.Zp l (by omega) _ (fun k x hx=>?_) ?_
    · have hm := rY (jO hx)
      simp only [yJ,Mo.den,aI,aN,aZ,aJ,aP,ltt hx,gid hx,cond_true,Option.bind_some,ad6 x (by omega),decide_true,Bool.not_true,cond_false]; exact T.ret rfl
    · simp only [yJ,Mo.den,aI,aN,aZ,aJ,aP,ltn,cond_false]; exact T.ret rfl
  obtain ⟨_,e1,rfl⟩ := e1
  simp only [Q25,ahD,Mo.den,aI,aN,aZ,aJ,aP,bne_self_eq_false,cond_false,e1,Option.bind_some]
theorem oG (l:List Int) (hl:l.length ≤ 100000000) : Q30 l l = some true := by
  have e1:Tot (Vq l l 0) (fun r=>r = .inr ()) := by
    refine T.Zp l (by omega) _ (fun k x hx=>?_) ?_
    · simp only [yF,Mo.den,aI,aN,aZ,aJ,aP,ltt hx,gid hx,cond_true,Option.bind_some,bne_self_eq_false,cond_false]; exact T.ret rfl
    · simp only [yF,Mo.den,aI,aN,aZ,aJ,aP,ltn,cond_false]; exact T.ret rfl
  obtain ⟨_,e1,rfl⟩ := e1
  simp only [Q30,ahC,Mo.den,aI,aN,aZ,aJ,aP,bne_self_eq_false,cond_false,e1,Option.bind_some]
theorem jI (m:aj) (hb:aW m.lf1 ≤ 100000000) : Q14 m m = some true := by
  rw [gX] at hb
  have hl1 := iy m.fNext
  have hl2 := iy m.bn
  unfold Q14 ahE Jo Jm Jl Jk Jj Ji Jh Jg Jf Je Sj Si
  simp only [Mo.den,aI,aN,aZ,aJ,aP,BEq.rfl,cond_true,Option.bind_some,oG _ (show m.fNext.length ≤ 100000000 by omega),oG _ (show m.bn.length ≤ 100000000 by omega),kT _ (show bG (m.aQ.map ay.lf) ≤ 100000000 by omega)]
theorem nN (l:List ah) (hl:l.length ≤ 100000000) (hb:∀ x ∈ l,bG (x.aH.map ay.lf) ≤ 100000000) : Q1 l l = some true := by
  have e1:Tot (Ez l l 0) (fun r=>r = .inr ()) := by
    refine T.Zp l (by omega) _ (fun k x hx=>?_) ?_
    · simp only [Q1,agA,Ez,yM,Ey,Ew,Eu,Et,Es,Ep,Lc,La,Mo.den,aI,aN,aZ,aJ,aP,ltt hx,gid hx,cond_true,Option.bind_some,bne_self_eq_false,cond_false,BEq.rfl,Bool.not_true,kT _ (hb x (jO hx))]; exact T.ret rfl
    · simp only [Q1,agA,Ez,yM,Ey,Ew,Eu,Et,Es,Ep,Lc,La,Mo.den,aI,aN,aZ,aJ,aP,ltn,cond_false]; exact T.ret rfl
  obtain ⟨_,e1,rfl⟩ := e1
  simp only [Q1,agA,Mo.den,aI,aN,aZ,aJ,aP,bne_self_eq_false,cond_false,e1,Option.bind_some]
end Go.Proofs.YtdnafbfmaphhhaaGreatDoor
set_option linter.unusedSimpArgs false
set_option linter.unusedVariables false
namespace Go.Proofs.YtdnafbfmaphhhaaGreatDoor
open Go.RowKit
/-- names -/
theorem nC (s:ByteArray) : Q21 s = some (nameB s) := by
  unfold Q21 agO J4 zx Gx Gw NS NR
  simp only [Mo.den,aI,aN,aZ,aJ,aP]
  by_cases h0:s.size < 1
  · rw [decide_eq_true (show (s.size:Int) < 1 by omega),XW s (by omega)]; rfl
  rw [decide_eq_false (show ¬ (s.size:Int) < 1 by omega)]; simp only [cond_false,Option.bind_some]
  by_cases h1 : 32 < s.size
  · rw [decide_eq_true (show (32:Int) < (s.size:Int) by omega),XV s h1]; rfl
  rw [decide_eq_false (show ¬ (32:Int) < (s.size:Int) by omega)]; simp only [cond_false]
  have hz:lM s 0 = some s[0] := oW s 0 (by omega)
  rw [hz,Ua s (by omega) (by omega)]
  simp only [Option.bind_some]
  have e36:((s[0].toNat:Int) == 36) = (s[0].toNat == 36) := by rw [Bool.eq_iff_iff]; simp; omega
  rw [e36]
  cases hq:s[0].toNat == 36 with
  | true=>rfl
  | false =>
    simp only [cond_false,Bool.not_false,Bool.true_and]
    refine Na s.size (by omega) (fun n k=>k = n ∧ ∀ i (hi:i < s.size),i < n → Gs s[i].toNat = true) (fun r=>match r with | .inl _=>s.data.toList.all (fun c=>Gs c.toNat) = false | .inr _=>s.data.toList.all (fun c=>Gs c.toNat) = true) ⟨rfl,by omega⟩ ?_ ?_ ?_
    · rintro n k hn ⟨rfl,hv⟩
      simp only [iLt hn,cond_true,oW s n hn,Option.bind_some]
      have hc:Gs s[n].toNat = (decide (33 ≤ s[n].toNat) && decide (s[n].toNat ≤ 126) && !(s[n].toNat == 46)) := rfl
      have e46:((s[n].toNat:Int) == 46) = (s[n].toNat == 46) := by rw [Bool.eq_iff_iff]; simp; omega
      by_cases a1:s[n].toNat < 33
      · rw [decide_eq_true (show (s[n].toNat : Int) < 33 by omega)]; right
        exact ⟨_,rfl,Ub s _ n hn (by rw [hc,decide_eq_false (show ¬ 33 ≤ s[n].toNat by omega)]; rfl)⟩
      rw [decide_eq_false (show ¬ (s[n].toNat:Int) < 33 by omega)]; simp only [cond_false]
      by_cases a2 : 126 < s[n].toNat
      · rw [decide_eq_true (show (126 : Int) < (s[n].toNat : Int) by omega)]; right
        exact ⟨_,rfl,Ub s _ n hn (by rw [hc,decide_eq_false (show ¬ s[n].toNat ≤ 126 by omega),Bool.and_false]; rfl)⟩
      rw [decide_eq_false (show ¬ (126:Int) < (s[n].toNat:Int) by omega),e46]; simp only [cond_false,Option.bind_some]
      cases a3:s[n].toNat == 46 with
      | true=>right; exact ⟨_,rfl,Ub s _ n hn (by rw [hc,a3,Bool.not_true,Bool.and_false])⟩
      | false =>
        left
        refine ⟨_,rfl,inc n (by omega),fun i hi hl=>?_⟩
        rcases Nat.lt_succ_iff_lt_or_eq.1 hl with h3 | rfl
        · exact hv i hi h3
        · rw [hc,a3,decide_eq_true (show 33 ≤ s[i].toNat by omega),decide_eq_true (show s[i].toNat ≤ 126 by omega)]; rfl
    · rintro k ⟨rfl,hv⟩
      exact ⟨.inr (),by simp only [XY (Nat.lt_irrefl _),cond_false],aeK s _ fun i hi=>hv i hi hi⟩
    · rintro (u | u) h2
      · exact congrArg some h2.symm
      · exact congrArg some h2.symm
/-- a path -/
def ad8 (p:List ByteArray) : Bool := decide (1 ≤ p.length) && decide (p.length ≤ 16) && p.all nameB
theorem ad9 {α:Type} (f : α → Bool) {l:List α} {k:Nat} {x : α} (h:l[k]? = some x) : (l.take (k + 1)).all f = ((l.take k).all f && f x) := by
  have hk := Vw h
  have:l[k] = x := by rw [List.getElem?_eq_getElem hk] at h; injection h
  rw [List.take_succ_eq_append_getElem hk,List.all_append,this]; simp
theorem aj3 {α:Type} (f : α → Bool) {l:List α} {k:Nat} {x : α} (h:l[k]? = some x) (hf:f x = false) : l.all f = false := by
  rw [List.all_eq_false]; exact ⟨x,jO h,by simp [hf]⟩
theorem yS (p:List ByteArray) : Q33 p = some (ad8 p) := by
  unfold Q33 agP Ug CQ NT
  simp only [Mo.den,aI,aN,aZ,aJ,aP,ad8]
  by_cases h0:p.length < 1
  · rw [decide_eq_true (show (p.length:Int) < 1 by omega),decide_eq_false (show ¬ 1 ≤ p.length by omega)]; rfl
  rw [decide_eq_false (show ¬ (p.length:Int) < 1 by omega),decide_eq_true (show 1 ≤ p.length by omega)]; simp only [cond_false,Option.bind_some,Bool.true_and]
  by_cases h1 : 16 < p.length
  · rw [decide_eq_true (show (16:Int) < (p.length:Int) by omega),decide_eq_false (show ¬ p.length ≤ 16 by omega)]; rfl
  rw [decide_eq_false (show ¬ (16:Int) < (p.length:Int) by omega),decide_eq_true (show p.length ≤ 16 by omega)]; simp only [cond_false,Bool.true_and]
  refine Na p.length (by omega) (fun n k=>k = n ∧ (p.take n).all nameB = true) (fun r=>match r with | .inl _=>p.all nameB = false | .inr _=>p.all nameB = true) ⟨rfl,by simp⟩ ?_ ?_ ?_
  · rintro n k hn ⟨rfl,hv⟩
    have hx := List.getElem?_eq_getElem hn
    simp only [iLt hn,cond_true,gid hx,Option.bind_some,nC]
    cases hb:nameB p[n] with
    | false=>right; exact ⟨_,rfl,aj3 _ hx hb⟩
    | true=>left; exact ⟨_,rfl,inc n (by omega),by rw [ad9 _ hx,hv,hb]; rfl⟩
  · rintro k ⟨rfl,hv⟩
    exact ⟨.inr (),by simp only [XY (Nat.lt_irrefl _),cond_false],by rw [List.take_length] at hv; exact hv⟩
  · rintro (u | u) h2
    · exact congrArg some h2.symm
    · exact congrArg some h2.symm
theorem sD (s:ByteArray) : aic s = some (nameB s) := by
  simp only [aic,aay,Mo.den,aI,aN,aZ,aJ,aP,yS,Option.bind_some,ad8,List.length_cons,List.length_nil,List.all_cons,List.all_nil,Bool.and_true]; rfl
/-- the missing value -/
def ahH (v:ak) : Bool := v.aU == 0 && v.jL == 0 && decide (v.fText = ⟨#[]⟩) && (v.bV.length:Int) == 0 && (v.bU.length:Int) == 0
theorem jT (v:ak) : Q47 v = some (ahH v) := by
  simp only [Q47,agQ,GL,GK,GH,NY,NW,Mo.den,aI,aN,aZ,aJ,aP,ahH]
  cases v.aU == 0 <;> cases v.jL == 0 <;> cases decide (v.fText = ⟨#[]⟩) <;> cases (v.bV.length:Int) == 0 <;> rfl
/-- parts -/
def parts (v:ak) : List ak := (if v.aU = 6 then v.bV else []) ++ (if v.aU = 5 then v.bU.map aS.fValue else [])
theorem Jv (v:ak) (hb:aW v.lf1 ≤ 100000000) : Q12 v = some (parts v) := by
  have hl := fZ v.bV
  have hd := ig v.bU
  rw [bT] at hb
  have h0:J7 v 0 [] = some v.bV := by
    have:Tot (J7 v 0 []) (fun r=>r = v.bV) := by
      refine T.yP v.bV.length (by omega) (fun k s=>s = ((k:Int),v.bV.take k)) _ rfl ?_ ?_
      · rintro k s hk rfl
        have hx := List.getElem?_eq_getElem hk
        simp only [vI,Mo.den,aI,aN,aZ,aJ,aP,ltt hx,gid hx,cond_true,Option.bind_some]
        refine T.grd (by simp only [List.length_take,List.length_cons,List.length_nil]; omega) (T.ret ?_)
        show _ = _
        rw [inc k (by omega),List.take_succ_eq_append_getElem hk]
      · rintro s rfl
        simp only [vI,Mo.den,aI,aN,aZ,aJ,aP,ltn,cond_false]
        exact T.ret (show _ = _ by rw [List.take_length])
    obtain ⟨r,h,rfl⟩ := this; exact h
  have h1:∀ l0:List ak,l0.length ≤ 100000000 → J8 v 0 l0 = some (l0 ++ v.bU.map aS.fValue) := by
    intro l0 hl0
    have:Tot (J8 v 0 l0) (fun r=>r = l0 ++ v.bU.map aS.fValue) := by
      refine T.yP v.bU.length (by omega) (fun k s=>s = ((k:Int),l0 ++ (v.bU.take k).map aS.fValue)) _ (by simp) ?_ ?_
      · rintro k s hk rfl
        have hx := List.getElem?_eq_getElem hk
        simp only [zC,Mo.den,aI,aN,aZ,aJ,aP,ltt hx,gid hx,cond_true,Option.bind_some]
        refine T.grd (by simp only [List.length_append,List.length_map,List.length_take,List.length_cons,List.length_nil]; omega) (T.ret ?_)
        show _ = _
        rw [inc k (by omega),List.take_succ_eq_append_getElem hk,List.map_append,List.append_assoc]; rfl
      · rintro s rfl
        simp only [zC,Mo.den,aI,aN,aZ,aJ,aP,ltn,cond_false]
        exact T.ret (show _ = _ by rw [List.take_length])
    obtain ⟨r,h,rfl⟩ := this; exact h
  unfold Q12 agW Ui CW J9 zD parts
  simp only [Mo.den,aI,aN,aZ,aJ,aP,h0]
  by_cases a:v.aU = 6
  · have b : v.aU ≠ 5 := by omega
    rw [show (v.aU == 6) = true by simpa using a,show (v.aU == 5) = false by simpa using b]
    simp [a]
  · rw [show (v.aU == 6) = false by simpa using a]
    by_cases b:v.aU = 5
    · rw [show (v.aU == 5) = true by simpa using b]; simp [a,b,h1]
    · rw [show (v.aU == 5) = false by simpa using b]; simp [a,b]
theorem EH {v x:ak} (h:x ∈ parts v) : aW x.lf1 < aW v.lf1 := by
  rw [bT v]
  unfold parts at h
  rcases List.mem_append.1 h with h | h
  · split at h
    · have := ji h; omega
    · simp at h
  · split at h
    · obtain ⟨f,hf,rfl⟩ := List.mem_map.1 h
      have := iq hf; rw [gZ] at this; omega
    · simp at h
theorem Jw (v:ak) : (parts v).length ≤ aW v.lf1 := by
  have hl := fZ v.bV
  have hd := ig v.bU
  rw [bT v]
  unfold parts
  rw [List.length_append]
  split <;> split <;> simp <;> omega
theorem Vz (n:Nat) : ∀ (F:Nat) (v:ak) (m:Int),m ≤ n → n < F → aW v.lf1 ≤ 100000000 → n ≤ 100 → Tot ((GU F).m1 v m) Any := by
  induction n using Nat.strongRecOn with
  | _ n ih =>
    intro F v m hm hF hb hn
    obtain ⟨F,rfl⟩ : ∃ G,F = G + 1 := ⟨F - 1,by omega⟩
    have hpl := Jw v
    simp only [GU,aaG,Uj,CX,Mo.den,aI,aN,aZ,aJ,aP,Jv v hb,Option.bind_some]
    by_cases h2:m < 2
    · rw [decide_eq_true h2]; exact T.any
    · rw [decide_eq_false h2]
      simp only [cond_false,Option.bind_some]
      refine T.ite (fun _=>T.any) (fun _=>T.bind (R := Any) ?_ (fun r _=>T.any))
      refine T.yP (parts v).length (by omega) (fun k s=>s.2 = (k:Int)) _ rfl ?_ ?_
      · rintro k ⟨a,i⟩ hk rfl
        have hx := List.getElem?_eq_getElem hk
        have hxb := EH (jO hx)
        simp only [CY,Mo.den,aI,aN,aZ,aJ,aP,ltt hx,gid hx,cond_true,Option.bind_some]
        refine T.bind (ih (n - 1) (by omega) F _ _ (by rw [w64 (by omega) (by omega)]; omega) (by omega) (by omega) (by omega)) fun r _=>T.ret ?_
        exact inc k (by omega)
      · rintro ⟨a,i⟩ rfl
        simp only [CY,Mo.den,aI,aN,aZ,aJ,aP,ltn,cond_false]
        exact T.ret trivial
theorem Zv (n:Nat) : ∀ (F:Nat) (v:ak) (m:Int),m ≤ n → n < F → aW v.lf1 ≤ 100000000 → n ≤ 2000 → Tot ((GV F).m1 v m) (fun r=>1 ≤ r ∧ (r ≤ m ∨ r = 1)) := by
  induction n using Nat.strongRecOn with
  | _ n ih =>
    intro F v m hm hF hb hn
    obtain ⟨F,rfl⟩ : ∃ G,F = G + 1 := ⟨F - 1,by omega⟩
    have hpl := Jw v
    simp only [GV,aaK,Mo.den,aI,aN,aZ,aJ,aP,Jv v hb,Option.bind_some]
    refine T.bind (R := fun r=>1 ≤ r ∧ (r ≤ m ∨ r = 1)) ?_ (fun r h=>T.ret h)
    refine T.yP (parts v).length (by omega) (fun k s=>s.2 = (k:Int) ∧ 1 ≤ s.1 ∧ (s.1 ≤ m ∨ s.1 = 1)) _ ⟨rfl,by show (1:Int) ≤ 1; omega,.inr rfl⟩ ?_ ?_
    · rintro k ⟨a,i⟩ hk ⟨h1,h2,h3⟩
      obtain rfl:i = (k:Int) := h1
      have h2 : 1 ≤ a := h2
      have h3:a ≤ m ∨ a = 1 := h3
      have hx := List.getElem?_eq_getElem hk
      have hxb := EH (jO hx)
      simp only [vN,CZ,Mo.den,aI,aN,aZ,aJ,aP,ltt hx,gid hx,cond_true,Option.bind_some]
      refine T.ite (fun h=>?_) (fun h=>T.ret ⟨h2,h3⟩)
      have h := of_decide_eq_true h
      refine T.bind (ih (n - 1) (by omega) F _ _ (by rw [w64 (by omega) (by omega)]; omega) (by omega) (by omega) (by omega)) fun r hr=>T.ret ?_
      rw [w64 (by omega) (by omega)] at hr
      exact ⟨inc k (by omega),by rw [w64 (by omega) (by omega)]; omega,by rw [w64 (by omega) (by omega)]; omega⟩
    · rintro ⟨a,i⟩ ⟨h1,h2,h3⟩
      obtain rfl:i = ((parts v).length:Int) := h1
      simp only [vN,CZ,Mo.den,aI,aN,aZ,aJ,aP,ltn,cond_false,Option.bind_some]
      exact T.ret ⟨h2,h3⟩
theorem Zw (v:ak) (hb:aW v.lf1 ≤ 100000000) : Tot (aii v) Any := by
  simp only [aii,aaH,Mo.den,aI,aN,aZ,aJ,aP,Q45]
  exact T.bind (Vz 17 FU v 17 (by omega) (by have := kS; omega) hb (by omega)) fun r _=>T.any
theorem Zx (v:ak) (hb:aW v.lf1 ≤ 100000000) : Tot (aik v) Any := by
  simp only [aik,aaL,Mo.den,aI,aN,aZ,aJ,aP,Q46]
  exact T.bind (Zv 1025 FU v 1025 (by omega) (by have := kS; omega) hb (by omega)) fun r _=>T.any
/-- text -/
theorem aea (s:ByteArray) (i:Nat) (n:Int) (hs:s.size ≤ 100000000) (hi:i ≤ 100000000) (h0 : 0 ≤ n) (h1:n ≤ 10) : Tot (Q44 s (i:Int) n) (fun b=>b = true → (i:Int) + n ≤ s.size) := by
  unfold Q44 agX
  simp only [Mo.den,aI,aN,aZ,aJ,aP]
  rw [w64 (by omega) (by omega)]
  refine T.ite (fun _=>T.ret (by simp)) (fun h=>?_)
  have h := of_decide_eq_false h
  obtain ⟨n,rfl⟩ := Int.eq_ofNat_of_zero_le h0
  refine T.bind (R := Any) ?_ ?_
  · refine T.Zo n (by omega) _ (fun k hk => ?_) ?_
    · have e:lM s (IntKind.wrap .i64 ((i:Int) + (k:Int))) = some s[i + k] := by
        rw [w64 (by omega) (by omega),show (i:Int) + (k:Int) = ((i + k:Nat) : Int) by omega]; exact oW s _ (by omega)
      simp only [vP,Oa,Mo.den,aI,aN,aZ,aJ,aP,iLt hk,cond_true,e,Option.bind_some]
      refine T.bind (R := Any) (T.ite (fun _=>T.any) (fun _=>T.any)) fun b _=>T.ite (fun _=>T.ret trivial) (fun _=>T.ret rfl)
    · simp only [vP,Mo.den,aI,aN,aZ,aJ,aP,ltn,cond_false]
      exact T.ret trivial
  · rintro (r | r) _
    · exact T.ret (by simp)
    · exact T.ret fun _=>by omega
theorem aeb (s:ByteArray) (hs:s.size ≤ 100000000) : Tot (Q2 s) Any := by
  unfold Q2 aeZ
  simp only [Mo.den,aI,aN,aZ,aJ,aP]
  refine T.bind (R := Any) ?_ (by rintro (r | r) _ <;> exact T.any)
  refine uf (fun v:Int=>0 ≤ v ∧ v ≤ s.size) (fun v:Int=>s.size - v.toNat) Any ?_ FU 0 ⟨by omega,by omega⟩ (by have := kS; omega)
  rintro v ⟨h0,h1⟩
  obtain ⟨k,rfl⟩ := Int.eq_ofNat_of_zero_le h0
  have key:Tot (mY s (k:Int)).den (LP (fun v'=>(k:Int) < v' ∧ v' ≤ s.size) Any) := by
    by_cases hk:k < s.size
    · simp only [mY,Mo.den,aI,aN,aZ,aJ,aP,iLt hk,cond_true,oW s k hk,Option.bind_some]
      refine T.bind (R := LP (fun n:Int=>(n = 0 ∧ s[k].toNat < 128) ∨ (1 ≤ n ∧ n ≤ 3)) Any) ?_ ?_
      · simp only [Q2,aeZ,Kt,mY,Di,Dh,Df,Dc,Kr,vU,C9,Kq,Ko,Mo.den,aI,aN,aZ,aJ,aP]
        refine T.ite (fun h => T.ret (.inl ⟨rfl, by have := of_decide_eq_true h; omega⟩)) fun _ => T.bind (R := Any) (T.ite (fun _ => T.any) fun _ => T.any) fun b _ => T.ite (fun _ => T.ret (.inr (by omega))) fun _ =>
          T.bind (R := Any) (T.ite (fun _=>T.any) fun _=>T.any) fun b _=>T.ite (fun _=>T.ret (.inr (by omega))) fun _=>T.bind (R := Any) (T.ite (fun _=>T.any) fun _=>T.any) fun b _=>T.ite (fun _=>T.ret (.inr (by omega))) fun _=>T.ret trivial
      · rintro (n | u) hn
        · have hn:(n = 0 ∧ s[k].toNat < 128) ∨ (1 ≤ n ∧ n ≤ 3) := hn
          simp only
          rw [inc k (by omega)]
          refine T.bind (aea s (k + 1) n hs (by omega) (by omega) (by omega)) fun b hb=>T.ite (fun _=>T.ret trivial) fun h=>?_
          have hb := hb (by simpa using h)
          have e:∀ c:Nat,128 ≤ c → ((s[k].toNat:Int) == (c:Int)) = true → ∃ x,lM s ((k + 1:Nat) : Int) = some x := by
            intro c hc h
            have h:(s[k].toNat:Int) = c := by simpa using h
            exact ⟨_,oW s (k + 1) (by omega)⟩
          simp only [Q2,aeZ,Kt,mY,Di,Dh,Df,Dc,Kr,vU,C9,Kq,Ko,Mo.den,aI,aN,aZ,aJ,aP]
          rw [inc k (by omega)]
          refine T.bind (R := Any) (T.ite (fun h=>by obtain ⟨x,hx⟩ := e 224 (by omega) h; rw [hx]; exact T.any) fun _=>T.any) fun b1 _=>?_
          refine T.bind (R := Any) (T.ite (fun h=>T.any) fun _=>T.ite (fun h=>by obtain ⟨x,hx⟩ := e 237 (by omega) h; rw [hx]; exact T.any) fun _=>T.any) fun b2 _=>?_
          refine T.bind (R := Any) (T.ite (fun h=>T.any) fun _=>T.ite (fun h=>by obtain ⟨x,hx⟩ := e 240 (by omega) h; rw [hx]; exact T.any) fun _=>T.any) fun b3 _=>?_
          refine T.bind (R := Any) (T.ite (fun h=>T.any) fun _=>T.ite (fun h=>by obtain ⟨x,hx⟩ := e 244 (by omega) h; rw [hx]; exact T.any) fun _=>T.any) fun b4 _=>?_
          refine T.ite (fun _=>T.ret trivial) fun _=>T.ret ?_
          show (k:Int) < IntKind.wrap .i64 (IntKind.wrap .i64 ((k:Int) + n) + 1) ∧ IntKind.wrap .i64 (IntKind.wrap .i64 ((k:Int) + n) + 1) ≤ s.size
          rw [w64 (x := (k:Int) + n) (by omega) (by omega),w64 (by omega) (by omega)]; omega
        · exact T.ret trivial
    · simp only [mY,Mo.den,aI,aN,aZ,aJ,aP,XY hk,cond_false]
      exact T.ret trivial
  obtain ⟨r,h2,h3⟩ := key
  rcases r with v' | r
  · have h3:(k:Int) < v' ∧ v' ≤ s.size := h3
    exact .inl ⟨v',h2,⟨by omega,h3.2⟩,by omega⟩
  · exact .inr ⟨r,h2,trivial⟩
theorem VA (f:Nat) : (∀ v:ak,2 * aW v.lf1 + 1 < f → aW v.lf1 ≤ 100000000 → Tot ((qx f).m1 v true) Any) ∧ ∀ v:ak,2 * aW v.lf1 < f → aW v.lf1 ≤ 100000000 → Tot ((qx f).m2 v true) Any := by
  induction f with
  | zero=>exact ⟨fun v h=>by omega,fun v h=>by omega⟩
  | succ f ih =>
    refine ⟨fun v h hb=>?_,fun v h hb=>?_⟩
    · have hm2 := ih.2 v (by omega) hb
      have hl := fZ v.bV
      have hbv := bT v
      simp only [qx,Q5,aio,Uk,Dj,OA,Oz,Oy,Ox,Ov,Ou,Ot,Oq,Oo,Om,Ol,Oj,WG,WE,Mo.den,aI,aN,aZ,aJ,aP,Option.bind_some]
      refine T.bind (R := Any) (T.ite (fun _=>T.any) fun _=>T.any) fun _ _=>?_
      refine T.bind (R := Any) (T.ite (fun _=>T.any) fun _=>T.ite (fun _=>T.any) fun _=>T.any) fun _ _=>T.ite (fun _=>T.any) fun _=>?_
      refine T.bind (R := Any) (T.ite (fun _=>T.any) fun _=>T.any) fun _ _=>?_
      refine T.bind (R := Any) (T.ite (fun _=>T.any) fun _=>T.any) fun _ _=>?_
      refine T.bind (R := Any) (T.ite (fun _=>T.any) fun _=>T.any) fun _ _=>?_
      refine T.bind (R := Any) (T.ite (fun _=>T.any) fun _=>T.any) fun _ _=>?_
      refine T.bind (R := Any) (T.ite (fun _=>T.any) fun _=>T.any) fun _ _=>?_
      refine T.bind (R := Any) (T.ite (fun _=>T.any) fun _=>T.ite (fun _=>T.any) fun _=>T.any) fun _ _=>?_
      refine T.bind (R := Any) (T.ite (fun _=>T.any) fun _=>T.any) fun _ _=>?_
      refine T.bind (R := Any) (T.ite (fun _=>T.any) fun _=>T.any) fun _ _=>T.ite (fun _=>T.any) fun _=>?_
      refine T.ite (fun _=>T.bind (R := Any) (T.ite (fun _=>T.any) fun _=>T.any) fun _ _=>T.any) fun _=>T.ite (fun _=>T.any) fun _=>?_
      refine T.ite (fun _=>T.bind (R := Any) (T.ite (fun _=>T.bind (aeb _ (by omega)) fun _ _=>T.any) fun _=>T.any) fun _ _=>T.any) fun _=>T.ite (fun _=>T.any) fun _=>T.ite (fun _=>T.any) fun _=>?_
      refine T.bind (R := Any) ?_ (by rintro (r | r) _; exact T.any; exact T.bind hm2 fun _ _=>T.any)
      refine T.Zp v.bV (by omega) _ (fun k x hx=>?_) ?_
      · have hxb := ji (jO hx)
        simp only [ltt hx,gid hx,cond_true,Option.bind_some]
        exact T.bind (ih.1 x (by omega) (by omega)) fun b _=>T.ite (fun _=>T.ret trivial) fun _=>T.ret rfl
      · simp only [ltn,cond_false]; exact T.ret trivial
    · have hl := ig v.bU
      have hbv := bT v
      simp only [qx,Q11,aaP,Kv,zH,Ku,zG,G5,OE,OD,Mo.den,aI,aN,aZ,aJ,aP,nC,cond_true,Option.bind_some,Bool.not_true,cond_false]
      refine T.bind (R := Any) ?_ (by rintro (r | r) _ <;> exact T.any)
      refine T.Zp v.bU (by omega) _ (fun k x hx=>?_) ?_
      · have hxb := iq (jO hx)
        have hk := Vw hx
        rw [gZ] at hxb
        simp only [ltt hx,gid hx,cond_true,Option.bind_some]
        refine T.bind (R := Any) (T.ite (fun _=>T.any) fun _=>T.any) fun _ _=>?_
        refine T.bind (R := Any) (T.ite (fun _=>T.any) fun _=>T.bind (ih.1 x.fValue (by omega) (by omega)) fun _ _=>T.any) fun _ _=>T.ite (fun _=>T.ret trivial) fun _=>?_
        refine T.bind (R := Any) ?_ (by rintro (r | r) _; exact T.ret trivial; exact T.ret rfl)
        refine T.Zo k (by omega) _ (fun j hj=>?_) ?_
        · have hy := List.getElem?_eq_getElem (show j < v.bU.length by omega)
          simp only [iLt hj,gid hy,cond_true,Option.bind_some]
          exact T.ite (fun _=>T.ret trivial) fun _=>T.ret rfl
        · simp only [ltn,cond_false]; exact T.ret trivial
      · simp only [ltn,cond_false]; exact T.ret trivial
theorem jU (v:ak) (hb:aW v.lf1 ≤ 100000000) : Tot (Q96 v) Any := by
  simp only [Q96,agY,Mo.den,aI,aN,aZ,aJ,aP,Q5]
  refine T.bind (Zw v hb) fun _ _=>T.ite (fun _=>T.bind (Zx v hb) fun _ _=>T.ite (fun _=>T.bind ((VA FU).1 v (by have := kS; omega) hb) fun _ _=>T.any) fun _=>T.any) fun _=>T.any
end Go.Proofs.YtdnafbfmaphhhaaGreatDoor
set_option linter.unusedSimpArgs false
set_option linter.unusedVariables false
namespace Go.Proofs.YtdnafbfmaphhhaaGreatDoor
open Go.RowKit
theorem Zy (f:Nat) : ∀ v:ak,aW v.lf1 < f → aW v.lf1 ≤ 100000000 → Tot ((Ak f).m1 v) (fun r=>r.size ≤ 12 * aW v.lf1) := by
  induction f with
  | zero=>intro v h; omega
  | succ f ih =>
    intro v h hb
    have hl := fZ v.bV
    have hd := ig v.bU
    have hbv := bT v
    have e1:∀ n,(EC n).size ≤ 11 := rZ
    have hL:∀ s0:ByteArray,s0.size ≤ 100 → Tot (WH (Ak f) v s0 0) (fun r=>r.size ≤ s0.size + 12 * bG (v.bV.map ak.lf)) := by
      intro s0 hs0
      refine T.yP v.bV.length (by omega) (fun k s=>s.2 = (k:Int) ∧ s.1.size ≤ s0.size + 12 * bG ((v.bV.take k).map ak.lf)) _ ⟨rfl,by simp⟩ ?_ ?_
      · rintro k ⟨s,i⟩ hk ⟨h1,h2⟩
        obtain rfl:i = (k:Int) := h1
        have h2:s.size ≤ s0.size + 12 * bG ((v.bV.take k).map ak.lf) := h2
        have hx := List.getElem?_eq_getElem hk
        have hxb := ji (jO hx)
        have ht := ED ak.lf hx
        have ht2 := lq ak.lf v.bV k
        rw [ak.aV] at ht
        simp only [zI,Mo.den,aI,aN,aZ,aJ,aP,ltt hx,gid hx,cond_true,Option.bind_some]
        refine T.bind (ih _ (by omega) (by omega)) fun r hr=>T.grd (by omega) (T.ret ⟨inc k (by omega),?_⟩)
        show (s ++ r).size ≤ _
        rw [ByteArray.size_append]; omega
      · rintro ⟨s,i⟩ ⟨h1,h2⟩
        obtain rfl:i = (v.bV.length:Int) := h1
        simp only [zI,Mo.den,aI,aN,aZ,aJ,aP,ltn,cond_false]
        rw [List.take_length] at h2
        exact T.ret h2
    have hF:∀ s0:ByteArray,s0.size ≤ 100 → Tot (WI (Ak f) v s0 0) (fun r=>r.size ≤ s0.size + 12 * bG (v.bU.map aS.lf)) := by
      intro s0 hs0
      refine T.yP v.bU.length (by omega) (fun k s=>s.2 = (k:Int) ∧ s.1.size ≤ s0.size + 12 * bG ((v.bU.take k).map aS.lf)) _ ⟨rfl,by simp⟩ ?_ ?_
      · rintro k ⟨s,i⟩ hk ⟨h1,h2⟩
        obtain rfl:i = (k:Int) := h1
        have h2:s.size ≤ s0.size + 12 * bG ((v.bU.take k).map aS.lf) := h2
        have hx := List.getElem?_eq_getElem hk
        have hxb := iq (jO hx)
        have ht := ED aS.lf hx
        have ht2 := lq aS.lf v.bU k
        rw [aS.aV] at ht
        have hf := gZ v.bU[k]
        have hn := e1 (v.bU[k].fName.size:Int)
        simp only [zJ,Mo.den,aI,aN,aZ,aJ,aP,ltt hx,gid hx,cond_true,Option.bind_some,Lh,ByteArray.size_append]
        refine T.grd (by omega) (T.grd (by omega) (T.bind (ih _ (by omega) (by omega)) fun r hr=>T.grd (by omega) (T.ret ⟨inc k (by omega),?_⟩)))
        show (s ++ EC _ ++ v.bU[k].fName ++ r).size ≤ _
        simp only [ByteArray.size_append]; omega
      · rintro ⟨s,i⟩ ⟨h1,h2⟩
        obtain rfl:i = (v.bU.length:Int) := h1
        simp only [zJ,Mo.den,aI,aN,aZ,aJ,aP,ltn,cond_false]
        rw [List.take_length] at h2
        exact T.ret h2
    simp only [Ak,aaQ,Kw,zK,OG,OH,Mo.den,aI,aN,aZ,aJ,aP,Lh,Option.bind_some,ByteArray.size_append,gU]
    refine T.bind (R := fun r=>r.size ≤ 12 * aW v.lf1) ?_ fun r hr=>T.ret hr
    have e2 := e1 v.jL
    have e3 := e1 (v.fText.size:Int)
    have e4 := e1 (v.bV.length:Int)
    have e5 := e1 (v.bU.length:Int)
    refine T.bind (R := Any) (T.ite (fun _=>T.any) fun _=>T.any) fun _ _=>?_
    refine T.ite (fun _=>T.grd (by omega) (T.ret (by simp only [ByteArray.size_append,gU]; omega))) fun _=>?_
    refine T.ite (fun _=>T.grd (by omega) (T.ret (by simp only [ByteArray.size_append,gU]; omega))) fun _=>?_
    refine T.bind (R := Any) (T.ite (fun _=>T.any) fun _=>T.any) fun _ _=>?_
    refine T.ite (fun _=>T.grd (by omega) (T.grd (by omega) (T.ret (by simp only [ByteArray.size_append,gU]; omega)))) fun _=>?_
    refine T.ite (fun _=>T.grd (by omega) (T.ret (by simp only [ByteArray.size_append,gU]; omega))) fun _=>?_
    refine T.ite (fun _=>T.grd (by omega) (T.bind (hL _ (by simp only [ByteArray.size_append,gU]; omega)) fun r hr=>T.ret (by simp only [ByteArray.size_append,gU] at hr; omega))) fun _=>?_
    refine T.ite (fun _=>T.grd (by omega) (T.bind (hF _ (by simp only [ByteArray.size_append,gU]; omega)) fun r hr=>T.ret (by simp only [ByteArray.size_append,gU] at hr; omega))) fun _=>?_
    exact T.ret (by simp only [gU]; omega)
theorem VB (v:ak) (hb:aW v.lf1 ≤ 100000000) : Tot (air v) (fun r=>r.1.size ≤ 12 * aW v.lf1 ∧ (r.2 = 0 ∨ r.2 = 8)) := by
  simp only [air,aaR,Mo.den,aI,aN,aZ,aJ,aP,Q23]
  refine T.bind (jU v hb) fun b _=>T.ite (fun _=>T.ret ⟨Nat.zero_le _,.inr rfl⟩) fun _=>?_
  exact T.bind (Zy FU v (by have := kS; omega) hb) fun r hr=>T.ret ⟨hr,.inl rfl⟩
theorem VD (v:ak) (hb:aW v.lf1 ≤ 100000000) : Tot (aiC v) (fun r=>r.2 = 0 ∨ r.2 = 8) := by
  simp only [aiC,aa7,Mo.den,aI,aN,aZ,aJ,aP]
  exact T.bind (VB v hb) fun r hr=>T.ret hr.2
theorem aj6 {α:Type} {l:List α} (h : 0 < l.length) : bM l 0 = some l[0] := agC l 0 h
theorem aj7 (v:ak) (hb:aW v.lf1 ≤ 100000000) : Tot (Q54 v) (fun r=>r.2 = true → 0 < v.bU.length) := by
  unfold Q54 ag5 Hz Kz zL OU OT
  simp only [Mo.den,aI,aN,aZ,aJ,aP]
  refine T.bind (R := fun b=>b = false → 0 < v.bU.length) (T.bind (jU v hb) fun b _=>T.ite (fun _=>T.ret (by simp)) fun _=>T.ret fun h=>?_) fun b hb=>?_
  · have h : ¬ (v.bU.length : Int) = 0 := by simpa using h
    omega
  refine T.bind (R := fun b=>b = false → 0 < v.bU.length) (T.ite (fun _=>T.ret (by simp)) fun h=>?_) fun c hc=>T.ite (fun _=>T.ret (by simp)) fun h=>?_
  · rw [aj6 (hb h)]; exact T.ret fun _=>hb h
  · have h0 := hc h
    rw [aj6 h0]
    simp only [Option.bind_some]
    exact T.bind (R := Any) (T.ite (fun _=>T.any) fun _=>T.any) fun _ _=>T.bind (R := Any) (T.ite (fun _=>T.any) fun _=>T.any) fun _ _=>T.ite (fun _=>T.ret (by simp)) fun _=>T.ret fun _=>h0
theorem Storing_tot' (v:ak) (hb:aW v.lf1 ≤ 100000000) : Tot (afa v) (fun e=>e = 0 ∨ e = 2 → 0 < v.bU.length) := by
  simp only [afa,aa8,Mo.den,aI,aN,aZ,aJ,aP]
  refine T.bind (aj7 v hb) fun r hr=>T.ite (fun _=>T.ret (by omega)) fun h=>?_
  have h0 := hr (by simpa using h)
  exact T.bind (VD v hb) fun r hr=>T.ite (fun _=>T.ret fun _=>h0) fun _=>T.ite (fun _=>T.ret fun _=>h0) fun _=>T.ret fun _=>h0
theorem SC (v:ak) (hb:aW v.lf1 ≤ 100000000) : Tot (afa v) Any := T.wk (Storing_tot' v hb)
theorem oH (a b:Int) : Tot (afb a b) Any := by
  simp only [afb,aa9,Mo.den,aI,aN,aZ,aJ,aP]
  exact T.ite (fun _=>T.any) fun _=>T.ite (fun _=>T.any) fun _=>T.any
theorem Jy (a b:ByteArray) (ha:a.size ≤ 100000000) (hb:b.size ≤ 100000000) : Tot (Q38 a b) Any := by
  unfold Q38 ag6 Uy Dy OV
  simp only [Mo.den,aI,aN,aZ,aJ,aP]
  refine T.bind (R := Any) ?_ (by rintro (r | r) _; exact T.any; exact T.bind (oH _ _) fun _ _=>T.any)
  refine T.Zo (min a.size b.size) (by omega) _ (fun k hk=>?_) ?_
  · simp only [iLt (show k < a.size by omega), iLt (show k < b.size by omega), cond_true, Option.bind_some, oW a k (by omega), oW b k (by omega)]
    exact T.ite (fun _=>T.bind (oH _ _) fun _ _=>T.ret trivial) fun _=>T.ret rfl
  · have:(bif decide (((min a.size b.size:Nat) : Int) < (a.size:Int)) then some (decide (((min a.size b.size:Nat) : Int) < (b.size:Int))) else some false) = some false := by
      by_cases h:a.size ≤ b.size
      · rw [Nat.min_eq_left h,ltn]; rfl
      · rw [Nat.min_eq_right (by omega),ltn]; cases decide ((b.size:Int) < (a.size:Int)) <;> rfl
    rw [this]; exact T.ret trivial
theorem Ll (f:Nat) : ∀ a b:ak,aW a.lf1 < f → aW a.lf1 ≤ 100000000 → aW b.lf1 ≤ 100000000 → Tot ((HY f).m1 a b) Any := by
  induction f with
  | zero=>intro a b h; omega
  | succ f ih =>
    intro a b h ha hb
    have hla := fZ a.bV
    have hda := ig a.bU
    have hlb := fZ b.bV
    have hdb := ig b.bU
    have hav := bT a
    have hbv := bT b
    simp only [HY,Q4,aiD,UA,DC,O5,O4,Uz,Dz,OY,WR,WQ,Mo.den,aI,aN,aZ,aJ,aP]
    refine T.ite (fun _=>T.bind (oH _ _) fun _ _=>T.any) fun _=>?_
    refine T.bind (R := Any) (T.ite (fun _=>T.any) fun _=>T.ite (fun _=>T.any) fun _=>T.any) fun _ _=>T.ite (fun _=>T.bind (oH _ _) fun _ _=>T.any) fun _=>?_
    refine T.bind (R := Any) (T.ite (fun _=>T.any) fun _=>T.ite (fun _=>T.any) fun _=>T.any) fun _ _=>T.ite (fun _=>T.bind (Jy _ _ (by omega) (by omega)) fun _ _=>T.any) fun _=>?_
    refine T.ite (fun _=>?_) fun _=>T.ite (fun _=>?_) fun _=>T.any
    · refine T.bind (R := Any) ?_ (by rintro (r | r) _; exact T.any; exact T.bind (oH _ _) fun _ _ => T.any)
      refine T.Zo (min a.bV.length b.bV.length) (by omega) _ (fun k hk=>?_) ?_
      · have hx := List.getElem?_eq_getElem (show k < a.bV.length by omega)
        have hy := List.getElem?_eq_getElem (show k < b.bV.length by omega)
        have hxb := ji (jO hx)
        have hyb := ji (jO hy)
        simp only [ltt hx,ltt hy,gid hx,gid hy,cond_true,Option.bind_some]
        exact T.bind (ih _ _ (by omega) (by omega) (by omega)) fun _ _=>T.ite (fun _=>T.ret trivial) fun _=>T.ret rfl
      · have:(bif decide (((min a.bV.length b.bV.length:Nat) : Int) < (a.bV.length:Int)) then some (decide (((min a.bV.length b.bV.length:Nat) : Int) < (b.bV.length:Int))) else some false) = some false := by
          by_cases h:a.bV.length ≤ b.bV.length
          · rw [Nat.min_eq_left h,ltn]; rfl
          · rw [Nat.min_eq_right (by omega),ltn]; cases decide ((b.bV.length:Int) < (a.bV.length:Int)) <;> rfl
        rw [this]; exact T.ret trivial
    · refine T.bind (R := Any) ?_ (by rintro (r | r) _; exact T.any; exact T.bind (oH _ _) fun _ _ => T.any)
      refine T.Zo (min a.bU.length b.bU.length) (by omega) _ (fun k hk=>?_) ?_
      · have hx := List.getElem?_eq_getElem (show k < a.bU.length by omega)
        have hy := List.getElem?_eq_getElem (show k < b.bU.length by omega)
        have hxb := iq (jO hx)
        have hyb := iq (jO hy)
        rw [gZ] at hxb hyb
        simp only [ltt hx,ltt hy,gid hx,gid hy,cond_true,Option.bind_some]
        exact T.bind (Jy _ _ (by omega) (by omega)) fun _ _=>T.bind (R := Any) (T.ite (fun _=>T.bind (ih _ _ (by omega) (by omega) (by omega)) fun _ _=>T.any) fun _=>T.any) fun _ _=>T.ite (fun _=>T.ret trivial) fun _=>T.ret rfl
      · have:(bif decide (((min a.bU.length b.bU.length:Nat) : Int) < (a.bU.length:Int)) then some (decide (((min a.bU.length b.bU.length:Nat) : Int) < (b.bU.length:Int))) else some false) = some false := by
          by_cases h:a.bU.length ≤ b.bU.length
          · rw [Nat.min_eq_left h,ltn]; rfl
          · rw [Nat.min_eq_right (by omega),ltn]; cases decide ((b.bU.length:Int) < (a.bU.length:Int)) <;> rfl
        rw [this]; exact T.ret trivial
theorem SE (a b:ak) (ha:aW a.lf1 ≤ 100000000) (hb:aW b.lf1 ≤ 100000000) : Tot (Q4 a b) Any := Ll FU a b (by have := kS; omega) ha hb
theorem EI (d k:ak) (hd:aW d.lf1 ≤ 100000000) (hk:aW k.lf1 ≤ 100000000) : Tot (aiF d k) Any := by
  have hbv := bT d
  simp only [aiF,abd,H6,Mo.den,aI,aN,aZ,aJ,aP]
  refine T.bind (Storing_tot' d hd) fun e he=>T.bind (R := fun b=>b = false → 0 < d.bU.length) (T.ite (fun _=>T.ret fun h=>he (.inr (by simpa using h))) fun h=>T.ret fun _=>he (.inl (by simpa using h))) fun b hb=>T.ite (fun _=>T.any) fun h=>?_
  have h0 := hb h
  have hm := iq (List.getElem_mem h0)
  rw [gZ] at hm
  rw [aj6 h0]
  simp only [Option.bind_some]
  exact T.bind (SE _ _ (by omega) hk) fun _ _=>T.ite (fun _=>T.any) fun _=>T.bind (SC d hd) fun _ _=>T.any
theorem SG (d:bP) (hb:aW d.lf1 ≤ 100000000) : Tot (aiw d) Any := by
  have h1 := uy d.lf1
  have h2 := EF d hb ⟨⟨#[]⟩,false,true⟩ rfl (by show 0 + _ ≤ _; omega)
  have hz:aW (bP.mk ⟨#[]⟩ [] aB.z 0 0).lf1 = 25 := by kernel_rfl
  have h3 := uy (bP.mk ⟨#[]⟩ [] aB.z 0 0).lf1
  have h4 := EF (bP.mk ⟨#[]⟩ [] aB.z 0 0) (by omega) ⟨⟨#[]⟩,false,true⟩ rfl (by show 0 + _ ≤ _; omega)
  simp only [aiw,aa0,He,Mo.den,aI,aN,aZ,aJ,aP,h2,h4,Option.bind_some]
  exact T.bind (R := Any) (T.ite (fun _=>T.any) fun _=>T.any) fun _ _=>T.ite (fun _=>T.any) fun _=>T.any
theorem SH (d:aT) (hb:aW d.lf1 ≤ 100000000) : Tot (aix d) Any := by
  have h1 := uy d.lf1
  have h2 := yR d hb ⟨⟨#[]⟩,false,true⟩ rfl (by show 0 + _ ≤ _; omega)
  have hz:aW aT.z.lf1 = 31 := by kernel_rfl
  have h3 := uy aT.z.lf1
  have h4 := yR aT.z (by omega) ⟨⟨#[]⟩,false,true⟩ rfl (by show 0 + _ ≤ _; omega)
  simp only [aix,aa1,Mo.den,aI,aN,aZ,aJ,aP,h2,h4,Option.bind_some]
  exact T.any
theorem FC (s:aB) (hb:aW s.lf1 ≤ 100000000) : Tot (Xc s 0 []) (fun r=>bG (r.map lfS) ≤ 100000000) := by
  have hl := jR s.dN
  rw [fK] at hb
  have e:∀ l:List bH,bG ((l.map bH.fName).map lfS) ≤ bG (l.map bH.lf) := by
    intro l
    induction l with
    | nil=>simp
    | cons x l ih=>simp only [List.map_cons,bG,bH.aV,mJ,Vu]; omega
  have:Tot (Xc s 0 []) (fun r=>r = s.dN.map bH.fName) := by
    refine T.yP s.dN.length (by omega) (fun k v=>v = ((k:Int),(s.dN.take k).map bH.fName)) _ rfl ?_ ?_
    · rintro k v hk rfl
      have hx := List.getElem?_eq_getElem hk
      simp only [Bo,Mo.den,aI,aN,aZ,aJ,aP,ltt hx,gid hx,cond_true,Option.bind_some]
      refine T.grd (by simp only [List.length_map,List.length_take,List.length_cons,List.length_nil]; omega) (T.ret ?_)
      show _ = _
      rw [inc k (by omega),List.take_succ_eq_append_getElem hk,List.map_append]; rfl
    · rintro v rfl
      simp only [Bo,Mo.den,aI,aN,aZ,aJ,aP,ltn,cond_false]
      exact T.ret (show _ = _ by rw [List.take_length])
  refine T.mono this ?_
  rintro r rfl
  have := e s.dN
  omega
theorem EJ (x:aT) : aW (aT.aae x ⟨#[]⟩).lf1 ≤ aW x.lf1 := by
  rw [gQ,gQ]
  show 6 + 0 + bG (x.gu.map bf.lf) + aW x.iV.lf1 ≤ _
  omega
end Go.Proofs.YtdnafbfmaphhhaaGreatDoor
set_option linter.unusedSimpArgs false
set_option linter.unusedVariables false
namespace Go.Proofs.YtdnafbfmaphhhaaGreatDoor
open Go.RowKit
theorem Lm (p_a:List ByteArray) (p_b:List ByteArray) (h_p_a:bG (p_a.map lfS) ≤ 100000000) (h_p_b:bG (p_b.map lfS) ≤ 100000000) : Tot (Q52 p_a p_b) Any := by
  have := dD p_a
  have := dD p_b
  show MT (ag7 p_a p_b) Any
  refine MT.say (MT.ite (fun c4533=>?_) (fun c4533=>?_))
  ·have c4533' : ¬ ((p_a.length : Int) = (p_b.length : Int)) := by simpa using c4533
   exact MT.say MT.any
  ·have c4533' : (p_a.length : Int) = (p_b.length : Int) := by simpa using c4533
   refine MT.say (MT.eP (R := Any) ?_ ?_ ?_)
   ·refine T.cnt (fun _=>True) ?_
    intro k1 hk1
    show MT (DF p_a p_b ((k1:Nat) : Int)) _
    refine MT.say (MT.ite (fun c4569=>?_) (fun c4569=>?_))
    ·have c4569' := of_decide_eq_true c4569
     refine MT.say (MT.ask (dG p_a ((k1:Nat) : Int) (by omega) (by omega)) (fun x4570 _ hx2=>?_))
     have := kZ hx2
     refine MT.say (MT.ask (dG p_b ((k1:Nat) : Int) (by omega) (by omega)) (fun x4572 _ hx3=>?_))
     have := kZ hx3
     refine MT.say (MT.ite (fun c4574=>?_) (fun c4574=>?_))
     ·exact MT.say (MT.ret trivial)
     ·exact MT.say (MT.ret ⟨rfl,by omega⟩)
    ·have c4569' := of_decide_eq_false c4569
     exact MT.say (MT.ret trivial)
   ·intro o4577 h4576 _
    exact MT.say MT.any
   ·intro o4578 h4576 _
    exact MT.say MT.any
theorem FD (p_l:List bf) (h_p_l:bG (p_l.map bf.lf) ≤ 100000000) : Tot (Q15 p_l) Any := by
  have := jM p_l
  show MT (ag8 p_l) Any
  refine MT.say (MT.ite (fun c4513=>?_) (fun c4513=>?_))
  ·have c4513' := of_decide_eq_true c4513
   exact MT.say MT.any
  ·have c4513' := of_decide_eq_false c4513
   refine MT.say (MT.eP (R := Any) ?_ ?_ ?_)
   ·refine T.cnt (fun _=>True) ?_
    intro k4 hk4
    show MT (DJ p_l ((k4:Nat) : Int)) _
    refine MT.say (MT.ite (fun c4717=>?_) (fun c4717=>?_))
    ·have c4717' := of_decide_eq_true c4717
     refine MT.say (MT.ask (dG p_l ((k4:Nat) : Int) (by omega) (by omega)) (fun x4718 _ hx5=>?_))
     have := kQ hx5
     have := jq x4718
     have := dD x4718.cZ
     refine MT.say (MT.ask (R := Any) ?_ ?_)
     ·exact T.wk (T.val (yS x4718.cZ))
     ·intro r4720 h4721 _
      refine MT.say (MT.ite (fun c4722=>?_) (fun c4722=>?_))
      ·exact MT.say (MT.ret trivial)
      ·refine MT.say (MT.eP (R := Any) ?_ ?_ ?_)
       ·refine T.cnt (fun _=>True) ?_
        intro k6 hk6
        show MT (DI p_l ((k4:Nat) : Int) ((k6:Nat) : Int)) _
        refine MT.ite (fun c4732=>?_) (fun c4732=>?_)
        ·have c4732' := of_decide_eq_true c4732
         refine MT.say (MT.ask (dG p_l ((k4:Nat) : Int) (by omega) (by omega)) (fun x4733 _ hx7=>?_))
         have := kQ hx7
         have := jq x4733
         have := dD x4733.cZ
         refine MT.say (MT.ask (dG p_l ((k6:Nat) : Int) (by omega) (by omega)) (fun x4735 _ hx8=>?_))
         have := kQ hx8
         have := jq x4735
         have := dD x4735.cZ
         refine MT.say (MT.ask (R := Any) ?_ ?_)
         ·exact T.wk (Lm x4733.cZ x4735.cZ (by first | omega | (simp; done) | decide) (by first | omega | (simp; done) | decide))
         ·intro r4737 h4738 _
          refine MT.say (MT.ite (fun c4739=>?_) (fun c4739=>?_))
          ·exact MT.say (MT.ret trivial)
          ·exact MT.say (MT.ret ⟨rfl,by omega⟩)
        ·have c4732' := of_decide_eq_false c4732
         exact MT.say (MT.ret trivial)
       ·intro o4742 h4741 _
        exact MT.say (MT.ret trivial)
       ·intro o4743 h4741 _
        exact MT.say (MT.ret ⟨rfl,by omega⟩)
    ·have c4717' := of_decide_eq_false c4717
     exact MT.say (MT.ret trivial)
   ·intro o4747 h4746 _
    exact MT.say MT.any
   ·intro o4748 h4746 _
    exact MT.say MT.any
theorem EK (n_:Nat) : ∀ (p_p:aK) (p_levels:Int) (p_left:Int),aW p_p.lf1 < n_ → aW p_p.lf1 ≤ 100000000 → Tot ((oQ n_).m1 p_p p_levels p_left) Any := by
  induction n_ with
  | zero=>intro p_p p_levels p_left h; omega
  | succ n_ ih =>
    intro p_p p_levels p_left h_ h_p_p
    have := gV p_p
    have := jE p_p.bg
    show MT (abh (oQ n_) p_p p_levels p_left) Any
    refine MT.ask (R := fun b_=>(b_ = true → True) ∧ (b_ = false → ¬ (p_levels = 0) ∧ ¬ ((p_left:Int) ≤ 0) ∧ True)) ?_ ?_
    ·show MT (Pm (oQ n_) p_left p_levels p_p) _
     refine MT.ite (fun c4774=>?_) (fun c4774=>?_)
     ·have c4774' : p_levels = 0 := by simpa using c4774
      exact MT.say (MT.ret ⟨(fun _=>trivial),(fun h_=>by cases h_)⟩)
     ·have c4774' : ¬ (p_levels = 0) := by simpa using c4774
      exact MT.say (MT.ret ⟨(fun _=>trivial),(fun h_=>⟨(by first | assumption | omega),(of_decide_eq_false h_),trivial⟩)⟩)
    ·intro r4776 h4777 f_r4776
     refine MT.say (MT.ite (fun c4779=>?_) (fun c4779=>?_))
     ·exact MT.say MT.any
     ·have q9 := f_r4776.2 (c4779)
      refine MT.say (MT.ask (R := Any) ?_ ?_)
      ·refine T.agD (fun _=>True) ?_
       intro v4823 k10 hk10
       show MT (H7 (oQ n_) p_levels p_p (v4823,((k10:Nat) : Int))) _
       refine MT.ask (R := fun b_=>(b_ = true → (((k10:Nat) : Int) : Int) < (p_p.bg.length:Int) ∧ (0:Int) ≤ v4823 ∧ True) ∧ (b_ = false → True)) ?_ ?_
       ·show MT (Pn (oQ n_) p_levels p_p v4823 ((k10:Nat) : Int)) _
        refine MT.say (MT.ite (fun c4825=>?_) (fun c4825=>?_))
        ·have c4825' := of_decide_eq_true c4825
         exact MT.say (MT.ret ⟨(fun h_=>⟨(by first | assumption | omega),(of_decide_eq_true h_),trivial⟩),(fun _=>trivial)⟩)
        ·have c4825' := of_decide_eq_false c4825
         exact MT.say (MT.ret ⟨(fun h_=>by cases h_),(fun _=>trivial)⟩)
       ·intro r4827 h4828 f_r4827
        refine MT.say (MT.ite (fun c4829=>?_) (fun c4829=>?_))
        ·have q11 := f_r4827.1 (c4829)
         refine MT.say (MT.ask (dG p_p.bg ((k10:Nat) : Int) (by omega) (by omega)) (fun x4830 _ hx12=>?_))
         have := ni hx12
         have := gV x4830
         refine MT.say (MT.ask (R := Any) ?_ ?_)
         ·exact (ih x4830 (IntKind.wrap .i64 (p_levels - 1)) v4823 (by omega) (by first | omega | (simp; done) | decide))
         ·intro r4832 h4833 _
          exact MT.say (MT.ret ⟨rfl,by omega⟩)
        ·exact MT.say (MT.ret trivial)
      ·intro r4836 h4837 _
       exact MT.say MT.any
theorem FI (p_p:aK) (p_levels:Int) (p_left:Int) (h_p_p:aW p_p.lf1 ≤ 100000000) : Tot (Q71 p_p p_levels p_left) Any := EK FU p_p p_levels p_left (by have := kS; omega) h_p_p
theorem Lp (p_p:aK) (h_p_p:aW p_p.lf1 ≤ 100000000) : Tot (akB p_p) Any := by
  have := gV p_p
  have := jE p_p.bg
  show MT (abj p_p) Any
  repeat' (first | exact MT.any | refine MT.say ?_ | refine MT.ite (fun _=>?_) (fun _=>?_) | refine MT.qC ?_ (fun _ _=>?_) | refine ⟨(show MT _ Any from ?_)⟩)
theorem lX (p_op:Int) : Tot (akC p_op) Any := by
  show MT (abk p_op) Any
  repeat' (first | exact MT.any | refine MT.say ?_ | refine MT.ite (fun _=>?_) (fun _=>?_))
theorem AP (p_p:aK) (h_p_p:aW p_p.lf1 ≤ 100000000) : Tot (Q75 p_p) Any := by
  have := gV p_p
  show MT (ag9 p_p) Any
  repeat' (first | exact MT.any | refine MT.say ?_ | refine MT.ite (fun _=>?_) (fun _=>?_) | refine MT.qC ?_ (fun _ _=>?_) | refine ⟨(show MT _ Any from ?_)⟩)
theorem qI (p_op:Int) : Tot (akD p_op) Any := by
  show MT (abn p_op) Any
  repeat' (first | exact MT.any | refine MT.say ?_ | refine MT.ite (fun _=>?_) (fun _=>?_))
theorem pq (p_op:Int) : Tot (akE p_op) Any := by
  show MT (abo p_op) Any
  repeat' (first | exact MT.any | refine MT.say ?_ | refine MT.ite (fun _=>?_) (fun _=>?_))
theorem qJ (p_op:Int) : Tot (akF p_op) Any := by
  show MT (abp p_op) Any
  repeat' (first | exact MT.any | refine MT.say ?_ | refine MT.ite (fun _=>?_) (fun _=>?_) | refine MT.qC ?_ (fun _ _=>?_) | exact ⟨T.wk (pq _)⟩)
theorem EL (p_n:Int) : Tot (akG p_n) Any := by
  show MT (abq p_n) Any
  repeat' (first | exact MT.any | refine MT.say ?_ | refine MT.ite (fun _=>?_) (fun _=>?_))
theorem VE (p_p:dF) (h_p_p:aW p_p.lf1 ≤ 100000000) : Tot (akH p_p) Any := by
  have := uw p_p
  show MT (abr p_p) Any
  repeat' (first | exact MT.any | refine MT.say ?_ | refine MT.ite (fun _=>?_) (fun _=>?_) | refine MT.qC ?_ (fun _ _=>?_) | exact ⟨T.wk (EL _)⟩)
theorem FK (p_s:bZ) (h_p_s:aW p_s.lf1 ≤ 100000000) : Tot (Q27 p_s) Any := by
  have := jr p_s
  have := jw p_s.bW
  show MT (aha p_s) Any
  refine MT.say (MT.ite (fun c5170=>?_) (fun c5170=>?_))
  ·have c5170' := of_decide_eq_true c5170
   exact MT.say MT.any
  ·have c5170' := of_decide_eq_false c5170
   refine MT.say (MT.eP (R := Any) ?_ ?_ ?_)
   ·refine T.cnt (fun _=>True) ?_
    intro k13 hk13
    show MT (DK p_s ((k13:Nat) : Int)) _
    refine MT.ite (fun c5212=>?_) (fun c5212=>?_)
    ·have c5212' := of_decide_eq_true c5212
     refine MT.say (MT.ask (dG p_s.bW ((k13:Nat) : Int) (by omega) (by omega)) (fun x5213 _ hx14=>?_))
     have := uw x5213
     refine MT.say (MT.ask (R := Any) ?_ ?_)
     ·exact T.wk (VE x5213 (by first | omega | (simp; done) | decide))
     ·intro r5215 h5216 _
      refine MT.say (MT.ite (fun c5217=>?_) (fun c5217=>?_))
      ·exact MT.say (MT.ret trivial)
      ·exact MT.say (MT.ret ⟨rfl,by omega⟩)
    ·have c5212' := of_decide_eq_false c5212
     exact MT.say (MT.ret trivial)
   ·intro o5220 h5219 _
    exact MT.say MT.any
   ·intro o5221 h5219 _
    refine MT.say (MT.ask (R := fun b_=>(b_ = true → p_s.aU = 1 ∧ (p_s.bW.length:Int) = 2 ∧ True) ∧ (b_ = false → True)) ?_ ?_)
    ·show MT (Pv p_s) _
     refine MT.ite (fun c5248=>?_) (fun c5248=>?_)
     ·have c5248' : p_s.aU = 1 := by simpa using c5248
      exact MT.say (MT.ret ⟨(fun h_=>⟨(by first | assumption | omega),(by simpa using h_),trivial⟩),(fun _=>trivial)⟩)
     ·have c5248' : ¬ (p_s.aU = 1) := by simpa using c5248
      exact MT.say (MT.ret ⟨(fun h_=>by cases h_),(fun _=>trivial)⟩)
    ·intro r5250 h5251 f_r5250
     refine MT.say (MT.ask (R := fun b_=>(b_ = true → r5250 = true ∧ p_s.fR = 0 ∧ True) ∧ (b_ = false → True)) ?_ ?_)
     ·show MT (H8 p_s r5250) _
      refine MT.ite (fun c5252=>?_) (fun c5252=>?_)
      ·have q15 := f_r5250.1 (c5252)
       exact MT.say (MT.ret ⟨(fun h_=>⟨(by first | assumption | omega),(by simpa using h_),trivial⟩),(fun _=>trivial)⟩)
      ·exact MT.say (MT.ret ⟨(fun h_=>by cases h_),(fun _=>trivial)⟩)
     ·intro r5254 h5255 f_r5254
      refine MT.say (MT.ask (R := fun b_=>(b_ = true → True) ∧ (b_ = false → r5254 = false ∧ True)) ?_ ?_)
      ·show MT (H9 p_s r5254) _
       refine MT.ite (fun c5256=>?_) (fun c5256=>?_)
       ·have q16 := f_r5254.1 (c5256)
        have q17 := f_r5250.1 (q16.1)
        exact MT.say (MT.ret ⟨(fun _=>trivial),(fun h_=>by cases h_)⟩)
       ·refine MT.say (MT.ite (fun c5257=>?_) (fun c5257=>?_))
        ·have c5257' : p_s.aU = 2 := by simpa using c5257
         refine MT.say (MT.ite (fun c5258=>?_) (fun c5258=>?_))
         ·have c5258' : (p_s.bW.length : Int) = 1 := by simpa using c5258
          refine MT.say (MT.ask (R := Any) ?_ ?_)
          ·exact T.wk (EL p_s.fR )
          ·intro r5259 h5260 _
           exact MT.say (MT.ret ⟨(fun _=>trivial),(fun h_=>⟨(by first | assumption | omega),trivial⟩)⟩)
         ·have c5258' : ¬ ((p_s.bW.length : Int) = 1) := by simpa using c5258
          exact MT.say (MT.ret ⟨(fun h_=>by cases h_),(fun h_=>⟨(by first | assumption | omega),trivial⟩)⟩)
        ·have c5257' : ¬ (p_s.aU = 2) := by simpa using c5257
         exact MT.say (MT.ret ⟨(fun h_=>by cases h_),(fun h_=>⟨(by first | assumption | omega),trivial⟩)⟩)
      ·intro r5262 h5263 f_r5262
       refine MT.say (MT.ask (R := fun b_=>(b_ = true → True) ∧ (b_ = false → r5262 = false ∧ True)) ?_ ?_)
       ·show MT (Ia p_s r5262) _
        refine MT.ite (fun c5264=>?_) (fun c5264=>?_)
        ·exact MT.say (MT.ret ⟨(fun _=>trivial),(fun h_=>by cases h_)⟩)
        ·have q18 := f_r5262.2 (c5264)
         refine MT.say (MT.ite (fun c5265=>?_) (fun c5265=>?_))
         ·have c5265' : p_s.aU = 3 := by simpa using c5265
          refine MT.say (MT.ite (fun c5266=>?_) (fun c5266=>?_))
          ·have c5266' := of_decide_eq_true c5266
           exact MT.say (MT.ret ⟨(fun _=>trivial),(fun h_=>⟨(by first | assumption | omega),trivial⟩)⟩)
          ·have c5266' := of_decide_eq_false c5266
           exact MT.say (MT.ret ⟨(fun h_=>by cases h_),(fun h_=>⟨(by first | assumption | omega),trivial⟩)⟩)
         ·have c5265' : ¬ (p_s.aU = 3) := by simpa using c5265
          exact MT.say (MT.ret ⟨(fun h_=>by cases h_),(fun h_=>⟨(by first | assumption | omega),trivial⟩)⟩)
       ·intro r5272 h5273 f_r5272
        refine MT.say (MT.ite (fun c5275=>?_) (fun c5275=>?_))
        ·exact MT.say MT.any
        ·have q19 := f_r5272.2 (c5275)
         have q20 := f_r5262.2 (q19.1)
         exact MT.say MT.any
theorem AQ (p_s:bZ) (h_p_s:aW p_s.lf1 ≤ 100000000) : Tot (Q97 p_s) Any := by
  have := jr p_s
  have := jw p_s.bW
  show MT (ahb p_s) Any
  repeat' (first | exact MT.any | refine MT.say ?_ | refine MT.ite (fun _=>?_) (fun _=>?_) | refine MT.qC ?_ (fun _ _=>?_) | refine ⟨(show MT _ Any from ?_)⟩)
theorem EM (p_e:aC) (h_p_e:aW p_e.lf1 ≤ 100000000) : Tot (Q66 p_e) Any := by
  have := fV p_e
  have := dD p_e.cZ
  have := dD p_e.bQ
  have := bT p_e.fArg
  have := jf p_e.bg
  show MT (ahc p_e) Any
  repeat' (first | exact MT.any | refine MT.say ?_ | refine MT.ite (fun _=>?_) (fun _=>?_) | refine MT.qC ?_ (fun _ _=>?_) | exact ⟨T.wk (T.val (jT _))⟩ | refine ⟨(show MT _ Any from ?_)⟩)
theorem EN (p_p:aK) (h_p_p:aW p_p.lf1 ≤ 100000000) : Tot (Q49 p_p) Any := by
  have := gV p_p
  have := dD p_p.cZ
  have := bT p_p.fArg
  have := fZ p_p.fArgs
  have := jr p_p.eF
  have := fV p_p.fExpr
  show MT (ahd p_p) Any
  repeat' (first | exact MT.any | refine MT.say ?_ | refine MT.ite (fun _=>?_) (fun _=>?_) | refine MT.qC ?_ (fun _ _=>?_) | exact ⟨T.wk (T.val (jT _))⟩ | exact ⟨T.wk (qI _)⟩ | exact ⟨T.wk (qJ _)⟩ | exact ⟨T.wk (lX _)⟩ | exact ⟨T.wk (EM _ (by first | omega | decide))⟩ | exact ⟨T.wk (AQ _ (by first | omega | decide))⟩ | refine ⟨(show MT _ Any from ?_)⟩)
theorem Lr (p_op:Int) : Tot (Q58 p_op) Any := by
  show MT (ahe p_op) Any
  repeat' (first | exact MT.any | refine MT.say ?_ | refine MT.ite (fun _=>?_) (fun _=>?_) | refine MT.qC ?_ (fun _ _=>?_) | refine ⟨(show MT _ Any from ?_)⟩)
theorem FM (p_l:List ByteArray) (h_p_l:bG (p_l.map lfS) ≤ 100000000) : Tot (Q16 p_l) Any := by
  have := dD p_l
  show MT (ahf p_l) Any
  refine MT.eP (R := Any) ?_ ?_ ?_
  ·refine T.cnt (fun _=>True) ?_
   intro k21 hk21
   show MT (DN p_l ((k21:Nat) : Int)) _
   refine MT.say (MT.ite (fun c5820=>?_) (fun c5820=>?_))
   ·have c5820' := of_decide_eq_true c5820
    refine MT.say (MT.ask (dG p_l ((k21:Nat) : Int) (by omega) (by omega)) (fun x5821 _ hx22=>?_))
    have := kZ hx22
    refine MT.say (MT.ask (R := Any) ?_ ?_)
    ·exact T.wk (T.val (nC x5821))
    ·intro r5823 h5824 _
     refine MT.say (MT.ite (fun c5825=>?_) (fun c5825=>?_))
     ·exact MT.say (MT.ret trivial)
     ·refine MT.say (MT.eP (R := Any) ?_ ?_ ?_)
      ·refine T.cnt (fun _=>True) ?_
       intro k23 hk23
       show MT (DL p_l ((k21:Nat) : Int) ((k23:Nat) : Int)) _
       refine MT.ite (fun c5833=>?_) (fun c5833=>?_)
       ·have c5833' := of_decide_eq_true c5833
        refine MT.say (MT.ask (dG p_l ((k23:Nat) : Int) (by omega) (by omega)) (fun x5834 _ hx24=>?_))
        have := kZ hx24
        refine MT.say (MT.ask (dG p_l ((k21:Nat) : Int) (by omega) (by omega)) (fun x5836 _ hx25=>?_))
        have := kZ hx25
        refine MT.say (MT.ite (fun c5838=>?_) (fun c5838=>?_))
        ·exact MT.say (MT.ret trivial)
        ·exact MT.say (MT.ret ⟨rfl,by omega⟩)
       ·have c5833' := of_decide_eq_false c5833
        exact MT.say (MT.ret trivial)
      ·intro o5841 h5840 _
       exact MT.say (MT.ret trivial)
      ·intro o5842 h5840 _
       exact MT.say (MT.ret ⟨rfl,by omega⟩)
   ·have c5820' := of_decide_eq_false c5820
    exact MT.say (MT.ret trivial)
  ·intro o5845 h5844 _
   exact MT.say MT.any
  ·intro o5846 h5844 _
   exact MT.say MT.any
theorem FN (n_:Nat) : ∀ (p_a:ak) (p_b:ak),aW p_a.lf1 < n_ → aW p_a.lf1 ≤ 100000000 → aW p_b.lf1 ≤ 100000000 → Tot ((kN n_).m1 p_a p_b) Any := by
  induction n_ with
  | zero=>intro p_a p_b h; omega
  | succ n_ ih =>
    intro p_a p_b h_ h_p_a h_p_b
    have := bT p_a
    have := fZ p_a.bV
    have := ig p_a.bU
    have := bT p_b
    have := fZ p_b.bV
    have := ig p_b.bU
    show MT (aiP (kN n_) p_a p_b) Any
    refine MT.ask (R := fun b_=>(b_ = true → True) ∧ (b_ = false → p_a.aU = p_b.aU ∧ p_a.jL = p_b.jL ∧ True)) ?_ ?_
    ·show MT (WV (kN n_) p_a p_b) _
     refine MT.ite (fun c5914=>?_) (fun c5914=>?_)
     ·have c5914' : ¬ (p_a.aU = p_b.aU) := by simpa using c5914
      exact MT.say (MT.ret ⟨(fun _=>trivial),(fun h_=>by cases h_)⟩)
     ·have c5914' : p_a.aU = p_b.aU := by simpa using c5914
      exact MT.say (MT.ret ⟨(fun _=>trivial),(fun h_=>⟨(by first | assumption | omega),(by simpa using h_),trivial⟩)⟩)
    ·intro r5916 h5917 f_r5916
     refine MT.say (MT.ask (R := fun b_=>(b_ = true → True) ∧ (b_ = false → r5916 = false ∧ True)) ?_ ?_)
     ·show MT (WW (kN n_) p_a p_b r5916) _
      refine MT.ite (fun c5918=>?_) (fun c5918=>?_)
      ·exact MT.say (MT.ret ⟨(fun _=>trivial),(fun h_=>by cases h_)⟩)
      ·have q26 := f_r5916.2 (c5918)
       exact MT.say (MT.ret ⟨(fun _=>trivial),(fun h_=>⟨(by first | assumption | omega),trivial⟩)⟩)
     ·intro r5920 h5921 f_r5920
      refine MT.say (MT.ask (R := fun b_=>(b_ = true → True) ∧ (b_ = false → r5920 = false ∧ (p_a.bV.length:Int) = (p_b.bV.length:Int) ∧ True)) ?_ ?_)
      ·show MT (PE (kN n_) p_a p_b r5920) _
       refine MT.ite (fun c5922=>?_) (fun c5922=>?_)
       ·exact MT.say (MT.ret ⟨(fun _=>trivial),(fun h_=>by cases h_)⟩)
       ·have q27 := f_r5920.2 (c5922)
        have q28 := f_r5916.2 (q27.1)
        exact MT.say (MT.ret ⟨(fun _=>trivial),(fun h_=>⟨(by first | assumption | omega),(by simpa using h_),trivial⟩)⟩)
      ·intro r5924 h5925 f_r5924
       refine MT.say (MT.ask (R := fun b_=>(b_ = true → True) ∧ (b_ = false → r5924 = false ∧ (p_a.bU.length:Int) = (p_b.bU.length:Int) ∧ True)) ?_ ?_)
       ·show MT (PG (kN n_) p_a p_b r5924) _
        refine MT.ite (fun c5926=>?_) (fun c5926=>?_)
        ·exact MT.say (MT.ret ⟨(fun _=>trivial),(fun h_=>by cases h_)⟩)
        ·have q29 := f_r5924.2 (c5926)
         have q30 := f_r5920.2 (q29.1)
         have q31 := f_r5916.2 (q30.1)
         exact MT.say (MT.ret ⟨(fun _=>trivial),(fun h_=>⟨(by first | assumption | omega),(by simpa using h_),trivial⟩)⟩)
       ·intro r5928 h5929 f_r5928
        refine MT.say (MT.ite (fun c5931=>?_) (fun c5931=>?_))
        ·exact MT.say MT.any
        ·have q32 := f_r5928.2 (c5931)
         have q33 := f_r5924.2 (q32.1)
         have q34 := f_r5920.2 (q33.1)
         have q35 := f_r5916.2 (q34.1)
         refine MT.say (MT.eP (R := Any) ?_ ?_ ?_)
         ·refine T.cnt (fun _=>True) ?_
          intro k36 hk36
          show MT (DR (kN n_) p_a p_b ((k36:Nat) : Int)) _
          refine MT.say (MT.ite (fun c5977=>?_) (fun c5977=>?_))
          ·have c5977' := of_decide_eq_true c5977
           refine MT.say (MT.ask (dG p_a.bV ((k36:Nat) : Int) (by omega) (by omega)) (fun x5978 _ hx37=>?_))
           have := ji hx37
           have := bT x5978
           refine MT.say (MT.ask (dG p_b.bV ((k36:Nat) : Int) (by omega) (by omega)) (fun x5980 _ hx38=>?_))
           have := ji hx38
           have := bT x5980
           refine MT.say (MT.ask (R := Any) ?_ ?_)
           ·exact (ih x5978 x5980 (by omega) (by first | omega | (simp; done) | decide) (by first | omega | (simp; done) | decide))
           ·intro r5982 h5983 _
            refine MT.say (MT.ite (fun c5984=>?_) (fun c5984=>?_))
            ·exact MT.say (MT.ret trivial)
            ·exact MT.say (MT.ret ⟨rfl,by omega⟩)
          ·have c5977' := of_decide_eq_false c5977
           exact MT.say (MT.ret trivial)
         ·intro o5987 h5986 _
          exact MT.say MT.any
         ·intro o5988 h5986 _
          refine MT.say (MT.eP (R := Any) ?_ ?_ ?_)
          ·refine T.cnt (fun _=>True) ?_
           intro k39 hk39
           show MT (DT (kN n_) p_a p_b ((k39:Nat) : Int)) _
           refine MT.say (MT.ite (fun c6071=>?_) (fun c6071=>?_))
           ·have c6071' := of_decide_eq_true c6071
            refine MT.say (MT.ask (R := Any) ?_ ?_)
            ·show MT (PL (kN n_) p_a p_b ((k39:Nat) : Int)) Any
             refine MT.ask (dG p_a.bU ((k39:Nat) : Int) (by omega) (by omega)) (fun x6072 _ hx40=>?_)
             have := iq hx40
             have := gZ x6072
             refine MT.say (MT.ask (dG p_b.bU ((k39:Nat) : Int) (by omega) (by omega)) (fun x6074 _ hx41=>?_))
             have := iq hx41
             have := gZ x6074
             refine MT.say (MT.ite (fun c6076=>?_) (fun c6076=>?_))
             ·exact MT.say MT.any
             ·refine MT.say (MT.ask (dG p_a.bU ((k39 : Nat) : Int) (by omega) (by omega)) (fun x6077 _ hx42 => ?_))
              have := iq hx42
              have := gZ x6077
              have := bT x6077.fValue
              refine MT.say (MT.ask (dG p_b.bU ((k39:Nat) : Int) (by omega) (by omega)) (fun x6079 _ hx43=>?_))
              have := iq hx43
              have := gZ x6079
              have := bT x6079.fValue
              refine MT.say (MT.ask (R := Any) ?_ ?_)
              ·exact (ih x6077.fValue x6079.fValue (by omega) (by first | omega | (simp; done) | decide) (by first | omega | (simp; done) | decide))
              ·intro r6081 h6082 _
               exact MT.say MT.any
            ·intro r6084 h6085 _
             refine MT.say (MT.ite (fun c6086=>?_) (fun c6086=>?_))
             ·exact MT.say (MT.ret trivial)
             ·exact MT.say (MT.ret ⟨rfl,by omega⟩)
           ·have c6071' := of_decide_eq_false c6071
            exact MT.say (MT.ret trivial)
          ·intro o6089 h6088 _
           exact MT.say MT.any
          ·intro o6090 h6088 _
           exact MT.say MT.any
theorem mG (p_a:ak) (p_b:ak) (h_p_a:aW p_a.lf1 ≤ 100000000) (h_p_b:aW p_b.lf1 ≤ 100000000) : Tot (Q8 p_a p_b) Any := FN FU p_a p_b (by have := kS; omega) h_p_a h_p_b
theorem Ls (p_e:aC) (h_p_e:aW p_e.lf1 ≤ 100000000) : Tot (Q36 p_e) Any := by
  have := fV p_e
  have := dD p_e.cZ
  have := dD p_e.bQ
  have := bT p_e.fArg
  have := jf p_e.bg
  show MT (ahg p_e) Any
  repeat' (first | exact MT.any | refine MT.say ?_ | refine MT.ite (fun _=>?_) (fun _=>?_) | refine MT.qC ?_ (fun _ _=>?_) | exact ⟨T.wk (T.val (nC _))⟩ | exact ⟨T.wk (mG _ _ (by first | omega | decide) (by first | omega | decide))⟩ | exact ⟨T.wk (jU _ (by first | omega | decide))⟩ | exact ⟨T.wk (T.val (yS _))⟩ | exact ⟨T.wk (Lr _)⟩ | exact ⟨T.wk (FM _ (by first | omega | decide))⟩ | refine ⟨(show MT _ Any from ?_)⟩)
theorem EO (n_:Nat) : ∀ (p_e:aC) (p_number:Int) (p_level:Int),aW p_e.lf1 < n_ → aW p_e.lf1 ≤ 100000000 → Tot ((qA n_).m1 p_e p_number p_level) Any := by
  induction n_ with
  | zero=>intro p_e p_number p_level h; omega
  | succ n_ ih =>
    intro p_e p_number p_level h_ h_p_e
    have := fV p_e
    have := jf p_e.bg
    show MT (abK (qA n_) p_e p_number p_level) Any
    refine MT.ask (R := fun b_=>(b_ = true → True) ∧ (b_ = false → ¬ ((16:Int) < p_level) ∧ ¬ ((256:Int) < p_number) ∧ True)) ?_ ?_
    ·show MT (PU (qA n_) p_e p_level p_number) _
     refine MT.ite (fun c5449=>?_) (fun c5449=>?_)
     ·have c5449' := of_decide_eq_true c5449
      exact MT.say (MT.ret ⟨(fun _=>trivial),(fun h_=>by cases h_)⟩)
     ·have c5449' := of_decide_eq_false c5449
      exact MT.say (MT.ret ⟨(fun _=>trivial),(fun h_=>⟨(by first | assumption | omega),(of_decide_eq_false h_),trivial⟩)⟩)
    ·intro r5451 h5452 f_r5451
     refine MT.say (MT.ite (fun c5454=>?_) (fun c5454=>?_))
     ·exact MT.say MT.any
     ·have q44 := f_r5451.2 (c5454)
      refine MT.say (MT.ask (R := Any) ?_ ?_)
      ·exact T.wk (Ls p_e (by first | omega | (simp; done) | decide))
      ·intro r6137 h6138 _
       refine MT.say (MT.ite (fun c6140=>?_) (fun c6140=>?_))
       ·have c6140' : ¬ (r6137 = 0) := by simpa using c6140
        exact MT.say MT.any
       ·have c6140' : r6137 = 0 := by simpa using c6140
        refine MT.say (MT.eP (R := Any) ?_ ?_ ?_)
        ·refine T.agD (fun _=>True) ?_
         intro v6182 k45 hk45
         show MT (DU (qA n_) p_e p_level (v6182,((k45:Nat) : Int))) _
         refine MT.say (MT.ite (fun c6184=>?_) (fun c6184=>?_))
         ·have c6184' := of_decide_eq_true c6184
          refine MT.say (MT.ask (dG p_e.bg ((k45:Nat) : Int) (by omega) (by omega)) (fun x6185 _ hx46=>?_))
          have := lF hx46
          have := fV x6185
          refine MT.say (MT.ask (R := Any) ?_ ?_)
          ·exact (ih x6185 (IntKind.wrap .i64 (v6182 + 1)) (IntKind.wrap .i64 (p_level + 1)) (by omega) (by first | omega | (simp; done) | decide))
          ·intro r6187 h6188 _
           refine MT.say (MT.ite (fun c6189=>?_) (fun c6189=>?_))
           ·have c6189' : ¬ (r6187.2 = 0) := by simpa using c6189
            exact MT.say (MT.ret trivial)
           ·have c6189' : r6187.2 = 0 := by simpa using c6189
            exact MT.say (MT.ret ⟨rfl,by omega⟩)
         ·have c6184' := of_decide_eq_false c6184
          exact MT.say (MT.ret trivial)
        ·intro o6198 h6197 _
         exact MT.say MT.any
        ·intro o6199 h6197 _
         exact MT.say MT.any
theorem FP (p_e:aC) (p_number:Int) (p_level:Int) (h_p_e:aW p_e.lf1 ≤ 100000000) : Tot (Q40 p_e p_number p_level) Any := EO FU p_e p_number p_level (by have := kS; omega) h_p_e
theorem FQ (p_e:aC) (h_p_e:aW p_e.lf1 ≤ 100000000) : Tot (akI p_e) Any := by
  have := fV p_e
  show MT (abL p_e) Any
  repeat' (first | exact MT.any | refine MT.say ?_ | refine MT.ite (fun _=>?_) (fun _=>?_) | refine MT.qC ?_ (fun _ _=>?_) | exact ⟨T.wk (FP _ _ _ (by first | omega | decide))⟩)
theorem FT (n_:Nat) : ∀ (p_p:aK) (p_elem:Bool),aW p_p.lf1 < n_ → aW p_p.lf1 ≤ 100000000 → Tot ((jg n_).m1 p_p p_elem) Any := by
  induction n_ with
  | zero=>intro p_p p_elem h; omega
  | succ n_ ih =>
    intro p_p p_elem h_ h_p_p
    have := gV p_p
    have := dD p_p.cZ
    have := bT p_p.fArg
    have := fZ p_p.fArgs
    have := jr p_p.eF
    have := fV p_p.fExpr
    have := jE p_p.bg
    show MT (aiT (jg n_) p_p p_elem) Any
    refine MT.ask (R := fun b_=>(b_ = true → True) ∧ (b_ = false → ¬ ((p_p.fOp:Int) < 1) ∧ ¬ ((24:Int) < p_p.fOp) ∧ True)) ?_ ?_
    ·show MT (WY (jg n_) p_elem p_p) _
     refine MT.ite (fun c5011=>?_) (fun c5011=>?_)
     ·have c5011' := of_decide_eq_true c5011
      exact MT.say (MT.ret ⟨(fun _=>trivial),(fun h_=>by cases h_)⟩)
     ·have c5011' := of_decide_eq_false c5011
      exact MT.say (MT.ret ⟨(fun _=>trivial),(fun h_=>⟨(by first | assumption | omega),(of_decide_eq_false h_),trivial⟩)⟩)
    ·intro r5013 h5014 f_r5013
     refine MT.say (MT.ask (R := fun b_=>(b_ = true → True) ∧ (b_ = false → r5013 = false ∧ True)) ?_ ?_)
     ·show MT (WZ (jg n_) p_elem p_p r5013) _
      refine MT.ite (fun c5015=>?_) (fun c5015=>?_)
      ·exact MT.say (MT.ret ⟨(fun _=>trivial),(fun h_=>by cases h_)⟩)
      ·have q47 := f_r5013.2 (c5015)
       refine MT.say (MT.ask (R := Any) ?_ ?_)
       ·exact T.wk (Lp p_p (by first | omega | (simp; done) | decide))
       ·intro r5016 h5017 _
        exact MT.say (MT.ret ⟨(fun _=>trivial),(fun h_=>⟨(by first | assumption | omega),trivial⟩)⟩)
     ·intro r5019 h5020 f_r5019
      refine MT.say (MT.ask (R := fun b_=>(b_ = true → True) ∧ (b_ = false → r5019 = false ∧ True)) ?_ ?_)
      ·show MT (PX (jg n_) p_elem p_p r5019) _
       refine MT.ite (fun c5021=>?_) (fun c5021=>?_)
       ·exact MT.say (MT.ret ⟨(fun _=>trivial),(fun h_=>by cases h_)⟩)
       ·have q48 := f_r5019.2 (c5021)
        have q49 := f_r5013.2 (q48.1)
        refine MT.say (MT.ask (R := Any) ?_ ?_)
        ·exact T.wk (lX p_p.fOp )
        ·intro r5022 h5023 _
         refine MT.say (MT.ite (fun c5024=>?_) (fun c5024=>?_))
         ·exact MT.say (MT.ret ⟨(fun _=>trivial),(fun h_=>⟨(by first | assumption | omega),trivial⟩)⟩)
         ·exact MT.say (MT.ret ⟨(fun h_=>by cases h_),(fun h_=>⟨(by first | assumption | omega),trivial⟩)⟩)
      ·intro r5026 h5027 f_r5026
       refine MT.say (MT.ask (R := fun b_=>(b_ = true → True) ∧ (b_ = false → r5026 = false ∧ True)) ?_ ?_)
       ·show MT (PY (jg n_) p_elem p_p r5026) _
        refine MT.ite (fun c5028=>?_) (fun c5028=>?_)
        ·exact MT.say (MT.ret ⟨(fun _=>trivial),(fun h_=>by cases h_)⟩)
        ·have q50 := f_r5026.2 (c5028)
         have q51 := f_r5019.2 (q50.1)
         have q52 := f_r5013.2 (q51.1)
         refine MT.say (MT.ask (R := Any) ?_ ?_)
         ·exact T.wk (AP p_p (by first | omega | (simp; done) | decide))
         ·intro r5029 h5030 _
          exact MT.say (MT.ret ⟨(fun _=>trivial),(fun h_=>⟨(by first | assumption | omega),trivial⟩)⟩)
       ·intro r5032 h5033 f_r5032
        refine MT.say (MT.ite (fun c5035=>?_) (fun c5035=>?_))
        ·exact MT.say MT.any
        ·have q53 := f_r5032.2 (c5035)
         have q54 := f_r5026.2 (q53.1)
         have q55 := f_r5019.2 (q54.1)
         have q56 := f_r5013.2 (q55.1)
         refine MT.say (MT.ask (R := Any) ?_ ?_)
         ·show MT (PZ (jg n_) p_elem p_p) Any
          refine MT.ask (R := Any) ?_ ?_
          ·exact T.wk (qI p_p.fOp )
          ·intro r5050 h5051 _
           refine MT.say (MT.ite (fun c5052=>?_) (fun c5052=>?_))
           ·refine MT.say (MT.ask (R := Any) ?_ ?_)
            ·exact T.wk (T.val (yS p_p.cZ))
            ·intro r5053 h5054 _
             exact MT.say MT.any
           ·exact MT.say MT.any
         ·intro r5056 h5057 _
          refine MT.say (MT.ask (R := fun b_=>(b_ = true → r5056 = true ∧ True) ∧ (b_ = false → True)) ?_ ?_)
          ·show MT (P5 (jg n_) p_elem p_p r5056) _
           refine MT.ite (fun c5058=>?_) (fun c5058=>?_)
           ·refine MT.say (MT.ite (fun c5059=>?_) (fun c5059=>?_))
            ·exact MT.say (MT.ret ⟨(fun h_=>⟨(by first | assumption | omega),trivial⟩),(fun _=>trivial)⟩)
            ·exact MT.say (MT.ret ⟨(fun h_=>⟨(by first | assumption | omega),trivial⟩),(fun h_=>by cases h_)⟩)
           ·exact MT.say (MT.ret ⟨(fun h_=>by cases h_),(fun _=>trivial)⟩)
          ·intro r5061 h5062 f_r5061
           refine MT.say (MT.ite (fun c5064=>?_) (fun c5064=>?_))
           ·have q57 := f_r5061.1 (c5064)
            exact MT.say MT.any
           ·refine MT.say (MT.ask (R := Any) ?_ ?_)
            ·show MT (P6 (jg n_) p_elem p_p) Any
             refine MT.ask (R := Any) ?_ ?_
             ·exact T.wk (qJ p_p.fOp )
             ·intro r5082 h5083 _
              refine MT.say (MT.ite (fun c5084=>?_) (fun c5084=>?_))
              ·refine MT.say (MT.ask (R := Any) ?_ ?_)
               ·exact T.wk (jU p_p.fArg (by first | omega | (simp; done) | decide))
               ·intro r5085 h5086 _
                refine MT.say (MT.ite (fun c5087=>?_) (fun c5087=>?_))
                ·exact MT.say MT.any
                ·refine MT.say (MT.ask (R := Any) ?_ ?_)
                 ·exact T.wk (pq p_p.fOp )
                 ·intro r5088 h5089 _
                  refine MT.say (MT.ite (fun c5090=>?_) (fun c5090=>?_))
                  ·exact MT.say MT.any
                  ·exact MT.say MT.any
              ·exact MT.say MT.any
            ·intro r5092 h5093 _
             refine MT.say (MT.ite (fun c5095=>?_) (fun c5095=>?_))
             ·exact MT.say MT.any
             ·refine MT.say (MT.eP (R := Any) ?_ ?_ ?_)
              ·refine T.cnt (fun _=>True) ?_
               intro k58 hk58
               show MT (DV (jg n_) p_elem p_p ((k58:Nat) : Int)) _
               refine MT.ask (R := fun b_=>(b_ = true → (((k58:Nat) : Int) : Int) < (p_p.fArgs.length:Int) ∧ True) ∧ (b_ = false → True)) ?_ ?_
               ·show MT (P7 (jg n_) p_elem p_p ((k58:Nat) : Int)) _
                refine MT.say (MT.ite (fun c5152=>?_) (fun c5152=>?_))
                ·have c5152' := of_decide_eq_true c5152
                 refine MT.say (MT.ask (R := Any) ?_ ?_)
                 ·exact T.wk (lX p_p.fOp )
                 ·intro r5153 h5154 _
                  exact MT.say (MT.ret ⟨(fun h_=>⟨(by first | assumption | omega),trivial⟩),(fun _=>trivial)⟩)
                ·have c5152' := of_decide_eq_false c5152
                 exact MT.say (MT.ret ⟨(fun h_=>by cases h_),(fun _=>trivial)⟩)
               ·intro r5156 h5157 f_r5156
                refine MT.say (MT.ite (fun c5158=>?_) (fun c5158=>?_))
                ·have q59 := f_r5156.1 (c5158)
                 refine MT.say (MT.ask (dG p_p.fArgs ((k58:Nat) : Int) (by omega) (by omega)) (fun x5159 _ hx60=>?_))
                 have := ji hx60
                 have := bT x5159
                 refine MT.say (MT.ask (R := Any) ?_ ?_)
                 ·exact T.wk (jU x5159 (by first | omega | (simp; done) | decide))
                 ·intro r5161 h5162 _
                  refine MT.say (MT.ite (fun c5163=>?_) (fun c5163=>?_))
                  ·exact MT.say (MT.ret trivial)
                  ·exact MT.say (MT.ret ⟨rfl,by omega⟩)
                ·exact MT.say (MT.ret trivial)
              ·intro o5166 h5165 _
               exact MT.say MT.any
              ·intro o5167 h5165 _
               refine MT.say (MT.eP (R := Any) ?_ ?_ ?_)
               ·show MT (DW (jg n_) p_elem p_p) Any
                refine MT.ite (fun c5281=>?_) (fun c5281=>?_)
                ·have c5281' : p_p.fOp = 18 := by simpa using c5281
                 refine MT.say (MT.ask (R := Any) ?_ ?_)
                 ·exact T.wk (FK p_p.eF (by first | omega | (simp; done) | decide))
                 ·intro r5282 h5283 _
                  refine MT.say (MT.ite (fun c5284=>?_) (fun c5284=>?_))
                  ·have c5284' : ¬ (r5282 = 0) := by simpa using c5284
                   exact MT.say MT.any
                  ·have c5284' : r5282 = 0 := by simpa using c5284
                   exact MT.say MT.any
                ·have c5281' : ¬ (p_p.fOp = 18) := by simpa using c5281
                 exact MT.say MT.any
               ·intro o5289 h5288 _
                exact MT.say MT.any
               ·intro o5290 h5288 _
                refine MT.say (MT.ask (R := Any) ?_ ?_)
                ·exact T.wk (EN p_p (by first | omega | (simp; done) | decide))
                ·intro r5443 h5444 _
                 refine MT.say (MT.ite (fun c5446=>?_) (fun c5446=>?_))
                 ·exact MT.say MT.any
                 ·refine MT.say (MT.ite (fun c6206=>?_) (fun c6206=>?_))
                  ·have c6206' : p_p.fOp = 24 := by simpa using c6206
                   refine MT.say (MT.ask (R := Any) ?_ ?_)
                   ·exact T.wk (FQ p_p.fExpr (by first | omega | (simp; done) | decide))
                   ·intro r6209 h6210 _
                    exact MT.say MT.any
                  ·have c6206' : ¬ (p_p.fOp = 24) := by simpa using c6206
                   refine MT.say (MT.eP (R := Any) ?_ ?_ ?_)
                   ·refine T.cnt (fun _=>True) ?_
                    intro k61 hk61
                    show MT (DX (jg n_) p_elem p_p ((k61:Nat) : Int)) _
                    refine MT.say (MT.ite (fun c6275=>?_) (fun c6275=>?_))
                    ·have c6275' := of_decide_eq_true c6275
                     refine MT.say (MT.ask (R := Any) ?_ ?_)
                     ·show MT (Qb (jg n_) p_elem p_p ((k61:Nat) : Int)) Any
                      refine MT.ask (dG p_p.bg ((k61:Nat) : Int) (by omega) (by omega)) (fun x6276 _ hx62=>?_)
                      have := ni hx62
                      have := gV x6276
                      refine MT.say (MT.ite (fun c6278=>?_) (fun c6278=>?_))
                      ·refine MT.say (MT.ask (R := Any) ?_ ?_)
                       ·exact (ih x6276 true (by omega) (by first | omega | (simp; done) | decide))
                       ·intro r6279 h6280 _
                        exact MT.say MT.any
                      ·refine MT.say (MT.ask (R := Any) ?_ ?_)
                       ·exact (ih x6276 (p_p.fOp == 15) (by omega) (by first | omega | (simp; done) | decide))
                       ·intro r6281 h6282 _
                        exact MT.say MT.any
                     ·intro r6284 h6285 _
                      refine MT.say (MT.ite (fun c6286=>?_) (fun c6286=>?_))
                      ·have c6286' : ¬ (r6284 = 0) := by simpa using c6286
                       exact MT.say (MT.ret trivial)
                      ·have c6286' : r6284 = 0 := by simpa using c6286
                       exact MT.say (MT.ret ⟨rfl,by omega⟩)
                    ·have c6275' := of_decide_eq_false c6275
                     exact MT.say (MT.ret trivial)
                   ·intro o6291 h6290 _
                    exact MT.say MT.any
                   ·intro o6292 h6290 _
                    exact MT.say MT.any
theorem Lu (p_p:aK) (p_elem:Bool) (h_p_p:aW p_p.lf1 ≤ 100000000) : Tot (Q0 p_p p_elem) Any := FT FU p_p p_elem (by have := kS; omega) h_p_p
theorem FW (p_p:aK) (h_p_p:aW p_p.lf1 ≤ 100000000) : Tot (akK p_p) Any := by
  have := gV p_p
  show MT (abP p_p) Any
  repeat' (first | exact MT.any | refine MT.say ?_ | refine MT.ite (fun _=>?_) (fun _=>?_) | refine MT.qC ?_ (fun _ _=>?_) | exact ⟨T.wk (FI _ _ _ (by first | omega | decide))⟩ | exact ⟨T.wk (Lu _ _ (by first | omega | decide))⟩)
theorem EP (p_a:List ByteArray) (p_b:List ByteArray) (h_p_a:bG (p_a.map lfS) ≤ 100000000) (h_p_b:bG (p_b.map lfS) ≤ 100000000) : Tot (Q48 p_a p_b) Any := by
  have := dD p_a
  have := dD p_b
  show MT (ahh p_a p_b) Any
  refine MT.say (MT.ite (fun c6340=>?_) (fun c6340=>?_))
  ·have c6340' := of_decide_eq_true c6340
   exact MT.say MT.any
  ·have c6340' := of_decide_eq_false c6340
   refine MT.say (MT.eP (R := Any) ?_ ?_ ?_)
   ·refine T.cnt (fun _=>True) ?_
    intro k63 hk63
    show MT (DY p_a p_b ((k63:Nat) : Int)) _
    refine MT.say (MT.ite (fun c6376=>?_) (fun c6376=>?_))
    ·have c6376' := of_decide_eq_true c6376
     refine MT.say (MT.ask (dG p_a ((k63:Nat) : Int) (by omega) (by omega)) (fun x6377 _ hx64=>?_))
     have := kZ hx64
     refine MT.say (MT.ask (dG p_b ((k63:Nat) : Int) (by omega) (by omega)) (fun x6379 _ hx65=>?_))
     have := kZ hx65
     refine MT.say (MT.ite (fun c6381=>?_) (fun c6381=>?_))
     ·exact MT.say (MT.ret trivial)
     ·exact MT.say (MT.ret ⟨rfl,by omega⟩)
    ·have c6376' := of_decide_eq_false c6376
     exact MT.say (MT.ret trivial)
   ·intro o6384 h6383 _
    exact MT.say MT.any
   ·intro o6385 h6383 _
    exact MT.say MT.any
theorem yT (p_a:List ByteArray) (p_b:List ByteArray) (h_p_a:bG (p_a.map lfS) ≤ 100000000) (h_p_b:bG (p_b.map lfS) ≤ 100000000) : Tot (akL p_a p_b) Any := by
  have := dD p_a
  have := dD p_b
  show MT (abR p_a p_b) Any
  repeat' (first | exact MT.any | refine MT.say ?_ | refine MT.ite (fun _=>?_) (fun _=>?_) | refine MT.qC ?_ (fun _ _=>?_) | exact ⟨T.wk (EP _ _ (by first | omega | decide) (by first | omega | decide))⟩)
theorem FX (n_:Nat) : ∀ (p_a:aC) (p_b:aC),aW p_a.lf1 < n_ → aW p_a.lf1 ≤ 100000000 → aW p_b.lf1 ≤ 100000000 → Tot ((kP n_).m1 p_a p_b) Any := by
  induction n_ with
  | zero=>intro p_a p_b h; omega
  | succ n_ ih =>
    intro p_a p_b h_ h_p_a h_p_b
    have := fV p_a
    have := dD p_a.cZ
    have := dD p_a.bQ
    have := bT p_a.fArg
    have := jf p_a.bg
    have := fV p_b
    have := dD p_b.cZ
    have := dD p_b.bQ
    have := bT p_b.fArg
    have := jf p_b.bg
    show MT (abS (kP n_) p_a p_b) Any
    refine MT.ask (R := fun b_=>(b_ = true → True) ∧ (b_ = false → p_a.fOp = p_b.fOp ∧ True)) ?_ ?_
    ·show MT (Qh (kP n_) p_a p_b) _
     refine MT.ite (fun c6417=>?_) (fun c6417=>?_)
     ·have c6417' : ¬ (p_a.fOp = p_b.fOp) := by simpa using c6417
      exact MT.say (MT.ret ⟨(fun _=>trivial),(fun h_=>by cases h_)⟩)
     ·have c6417' : p_a.fOp = p_b.fOp := by simpa using c6417
      refine MT.say (MT.ask (R := Any) ?_ ?_)
      ·exact T.wk (yT p_a.cZ p_b.cZ (by first | omega | (simp; done) | decide) (by first | omega | (simp; done) | decide))
      ·intro r6418 h6419 _
       exact MT.say (MT.ret ⟨(fun _=>trivial),(fun h_=>⟨(by first | assumption | omega),trivial⟩)⟩)
    ·intro r6421 h6422 f_r6421
     refine MT.say (MT.ask (R := fun b_=>(b_ = true → True) ∧ (b_ = false → r6421 = false ∧ True)) ?_ ?_)
     ·show MT (Qi (kP n_) p_a p_b r6421) _
      refine MT.ite (fun c6423=>?_) (fun c6423=>?_)
      ·exact MT.say (MT.ret ⟨(fun _=>trivial),(fun h_=>by cases h_)⟩)
      ·have q66 := f_r6421.2 (c6423)
       exact MT.say (MT.ret ⟨(fun _=>trivial),(fun h_=>⟨(by first | assumption | omega),trivial⟩)⟩)
     ·intro r6425 h6426 f_r6425
      refine MT.say (MT.ask (R := fun b_=>(b_ = true → True) ∧ (b_ = false → r6425 = false ∧ True)) ?_ ?_)
      ·show MT (Ib (kP n_) p_a p_b r6425) _
       refine MT.ite (fun c6427=>?_) (fun c6427=>?_)
       ·exact MT.say (MT.ret ⟨(fun _=>trivial),(fun h_=>by cases h_)⟩)
       ·have q67 := f_r6425.2 (c6427)
        have q68 := f_r6421.2 (q67.1)
        refine MT.say (MT.ask (R := Any) ?_ ?_)
        ·exact T.wk (yT p_a.bQ p_b.bQ (by first | omega | (simp; done) | decide) (by first | omega | (simp; done) | decide))
        ·intro r6428 h6429 _
         exact MT.say (MT.ret ⟨(fun _=>trivial),(fun h_=>⟨(by first | assumption | omega),trivial⟩)⟩)
      ·intro r6431 h6432 f_r6431
       refine MT.say (MT.ask (R := fun b_=>(b_ = true → True) ∧ (b_ = false → r6431 = false ∧ True)) ?_ ?_)
       ·show MT (Ic (kP n_) p_a p_b r6431) _
        refine MT.ite (fun c6433=>?_) (fun c6433=>?_)
        ·exact MT.say (MT.ret ⟨(fun _=>trivial),(fun h_=>by cases h_)⟩)
        ·have q69 := f_r6431.2 (c6433)
         have q70 := f_r6425.2 (q69.1)
         have q71 := f_r6421.2 (q70.1)
         refine MT.say (MT.ask (R := Any) ?_ ?_)
         ·exact T.wk (mG p_a.fArg p_b.fArg (by first | omega | (simp; done) | decide) (by first | omega | (simp; done) | decide))
         ·intro r6434 h6435 _
          exact MT.say (MT.ret ⟨(fun _=>trivial),(fun h_=>⟨(by first | assumption | omega),trivial⟩)⟩)
       ·intro r6437 h6438 f_r6437
        refine MT.say (MT.ask (R := fun b_=>(b_ = true → True) ∧ (b_ = false → r6437 = false ∧ p_a.fN = p_b.fN ∧ True)) ?_ ?_)
        ·show MT (Ie (kP n_) p_a p_b r6437) _
         refine MT.ite (fun c6439=>?_) (fun c6439=>?_)
         ·exact MT.say (MT.ret ⟨(fun _=>trivial),(fun h_=>by cases h_)⟩)
         ·have q72 := f_r6437.2 (c6439)
          have q73 := f_r6431.2 (q72.1)
          have q74 := f_r6425.2 (q73.1)
          have q75 := f_r6421.2 (q74.1)
          exact MT.say (MT.ret ⟨(fun _=>trivial),(fun h_=>⟨(by first | assumption | omega),(by simpa using h_),trivial⟩)⟩)
        ·intro r6441 h6442 f_r6441
         refine MT.say (MT.ask (R := fun b_=>(b_ = true → True) ∧ (b_ = false → r6441 = false ∧ (p_a.bg.length:Int) = (p_b.bg.length:Int) ∧ True)) ?_ ?_)
         ·show MT (Ig (kP n_) p_a p_b r6441) _
          refine MT.ite (fun c6443=>?_) (fun c6443=>?_)
          ·exact MT.say (MT.ret ⟨(fun _=>trivial),(fun h_=>by cases h_)⟩)
          ·have q76 := f_r6441.2 (c6443)
           have q77 := f_r6437.2 (q76.1)
           have q78 := f_r6431.2 (q77.1)
           have q79 := f_r6425.2 (q78.1)
           have q80 := f_r6421.2 (q79.1)
           exact MT.say (MT.ret ⟨(fun _=>trivial),(fun h_=>⟨(by first | assumption | omega),(by simpa using h_),trivial⟩)⟩)
         ·intro r6445 h6446 f_r6445
          refine MT.say (MT.ite (fun c6448=>?_) (fun c6448=>?_))
          ·exact MT.say MT.any
          ·have q81 := f_r6445.2 (c6448)
           have q82 := f_r6441.2 (q81.1)
           have q83 := f_r6437.2 (q82.1)
           have q84 := f_r6431.2 (q83.1)
           have q85 := f_r6425.2 (q84.1)
           have q86 := f_r6421.2 (q85.1)
           refine MT.say (MT.eP (R := Any) ?_ ?_ ?_)
           ·refine T.cnt (fun _=>True) ?_
            intro k87 hk87
            show MT (zN (kP n_) p_a p_b ((k87:Nat) : Int)) _
            refine MT.say (MT.ite (fun c6494=>?_) (fun c6494=>?_))
            ·have c6494' := of_decide_eq_true c6494
             refine MT.say (MT.ask (dG p_a.bg ((k87:Nat) : Int) (by omega) (by omega)) (fun x6495 _ hx88=>?_))
             have := lF hx88
             have := fV x6495
             refine MT.say (MT.ask (dG p_b.bg ((k87:Nat) : Int) (by omega) (by omega)) (fun x6497 _ hx89=>?_))
             have := lF hx89
             have := fV x6497
             refine MT.say (MT.ask (R := Any) ?_ ?_)
             ·exact (ih x6495 x6497 (by omega) (by first | omega | (simp; done) | decide) (by first | omega | (simp; done) | decide))
             ·intro r6499 h6500 _
              refine MT.say (MT.ite (fun c6501=>?_) (fun c6501=>?_))
              ·exact MT.say (MT.ret trivial)
              ·exact MT.say (MT.ret ⟨rfl,by omega⟩)
            ·have c6494' := of_decide_eq_false c6494
             exact MT.say (MT.ret trivial)
           ·intro o6504 h6503 _
            exact MT.say MT.any
           ·intro o6505 h6503 _
            exact MT.say MT.any
theorem LC (p_a:aC) (p_b:aC) (h_p_a:aW p_a.lf1 ≤ 100000000) (h_p_b:aW p_b.lf1 ≤ 100000000) : Tot (Q18 p_a p_b) Any := FX FU p_a p_b (by have := kS; omega) h_p_a h_p_b
theorem LD (p_p:aK) (h_p_p:aW p_p.lf1 ≤ 100000000) : Tot (Q53 p_p) Any := by
  have := gV p_p
  have := dD p_p.cZ
  have := bT p_p.fArg
  have := fZ p_p.fArgs
  have := jr p_p.eF
  have := jw p_p.eF.bW
  have := fV p_p.fExpr
  have := jE p_p.bg
  show MT (ahi p_p) Any
  repeat' (first | exact MT.any | refine MT.say ?_ | refine MT.ite (fun _=>?_) (fun _=>?_) | refine MT.qC ?_ (fun _ _=>?_) | exact ⟨T.wk (mG _ _ (by first | omega | decide) (by first | omega | decide))⟩ | exact ⟨T.wk (LC _ _ (by first | omega | decide) (by first | omega | decide))⟩ | refine ⟨(show MT _ Any from ?_)⟩)
theorem tq (p_x:aT) (h_p_x:aW p_x.lf1 ≤ 100000000) : Tot (akM p_x) Any := by
  have := gQ p_x
  have := jM p_x.gu
  have := gV p_x.iV
  show MT (abV p_x) Any
  refine MT.ask (R := Any) ?_ ?_
  ·exact T.wk (T.val (nC p_x.fName))
  ·intro r4501 h4502 _
   refine MT.say (MT.ite (fun c4504=>?_) (fun c4504=>?_))
   ·exact MT.say MT.any
   ·refine MT.say (MT.ask (R := fun b_=>(b_ = true → True) ∧ (b_ = false → ¬ ((p_x.aU:Int) < 1) ∧ ¬ ((3:Int) < p_x.aU) ∧ True)) ?_ ?_)
    ·show MT (Ij p_x) _
     refine MT.ite (fun c4506=>?_) (fun c4506=>?_)
     ·have c4506' := of_decide_eq_true c4506
      exact MT.say (MT.ret ⟨(fun _=>trivial),(fun h_=>by cases h_)⟩)
     ·have c4506' := of_decide_eq_false c4506
      exact MT.say (MT.ret ⟨(fun _=>trivial),(fun h_=>⟨(by first | assumption | omega),(of_decide_eq_false h_),trivial⟩)⟩)
    ·intro r4508 h4509 f_r4508
     refine MT.say (MT.ite (fun c4511=>?_) (fun c4511=>?_))
     ·exact MT.say MT.any
     ·have q90 := f_r4508.2 (c4511)
      refine MT.say (MT.ask (R := Any) ?_ ?_)
      ·exact T.wk (FD p_x.gu (by first | omega | (simp; done) | decide))
      ·intro r4751 h4752 _
       refine MT.say (MT.ite (fun c4754=>?_) (fun c4754=>?_))
       ·have c4754' : ¬ (r4751 = 0) := by simpa using c4754
        exact MT.say MT.any
       ·have c4754' : r4751 = 0 := by simpa using c4754
        refine MT.say (MT.ask (R := fun b_=>(b_ = true → True) ∧ (b_ = false → ¬ ((p_x.gu.length:Int) = 0) ∧ True)) ?_ ?_)
        ·show MT (Ik p_x) _
         refine MT.say (MT.ite (fun c4761=>?_) (fun c4761=>?_))
         ·have c4761' : (p_x.gu.length : Int) = 0 := by simpa using c4761
          exact MT.say (MT.ret ⟨(fun _=>trivial),(fun h_=>by cases h_)⟩)
         ·have c4761' : ¬ ((p_x.gu.length : Int) = 0) := by simpa using c4761
          refine MT.say (MT.ite (fun c4762=>?_) (fun c4762=>?_))
          ·have c4762' : ¬ (p_x.aU = 1) := by simpa using c4762
           refine MT.say (MT.ite (fun c4763=>?_) (fun c4763=>?_))
           ·have c4763' := of_decide_eq_true c4763
            exact MT.say (MT.ret ⟨(fun _=>trivial),(fun h_=>by cases h_)⟩)
           ·have c4763' := of_decide_eq_false c4763
            refine MT.say (MT.ask (dG p_x.gu 0 (by omega) (by omega)) (fun x4764 _ hx91=>?_))
            have := kQ hx91
            have := jq x4764
            refine MT.say (MT.ite (fun c4766=>?_) (fun c4766=>?_))
            ·exact MT.say (MT.ret ⟨(fun _=>trivial),(fun h_=>by cases h_)⟩)
            ·exact MT.say (MT.ret ⟨(fun _=>trivial),(fun h_=>⟨(by first | assumption | omega),trivial⟩)⟩)
          ·have c4762' : p_x.aU = 1 := by simpa using c4762
           exact MT.say (MT.ret ⟨(fun h_=>by cases h_),(fun h_=>⟨(by first | assumption | omega),trivial⟩)⟩)
        ·intro r4768 h4769 f_r4768
         refine MT.say (MT.ite (fun c4771=>?_) (fun c4771=>?_))
         ·exact MT.say MT.any
         ·have q92 := f_r4768.2 (c4771)
          refine MT.say (MT.ite (fun c6297=>?_) (fun c6297=>?_))
          ·refine MT.say (MT.ask (R := Any) ?_ ?_)
           ·exact T.wk (FW p_x.iV (by first | omega | (simp; done) | decide))
           ·intro r6300 h6301 _
            exact MT.say MT.any
          ·refine MT.say (MT.ask (R := Any) ?_ ?_)
           ·exact T.wk (LD p_x.iV (by first | omega | (simp; done) | decide))
           ·intro r6521 h6522 _
            refine MT.say (MT.ite (fun c6524=>?_) (fun c6524=>?_))
            ·exact MT.say MT.any
            ·exact MT.say MT.any
theorem VF (p_l:List aT) (p_name:ByteArray) (h_p_l:bG (p_l.map aT.lf) ≤ 100000000) (h_p_name:p_name.size ≤ 100000000) : Tot (Q55 p_l p_name) Any := by
  have := jy p_l
  show MT (ahj p_l p_name) Any
  refine MT.eP (R := Any) ?_ ?_ ?_
  ·refine T.cnt (fun _=>True) ?_
   intro k93 hk93
   show MT (DZ p_l p_name ((k93:Nat) : Int)) _
   refine MT.say (MT.ite (fun c6561=>?_) (fun c6561=>?_))
   ·have c6561' := of_decide_eq_true c6561
    refine MT.say (MT.ask (dG p_l ((k93:Nat) : Int) (by omega) (by omega)) (fun x6562 _ hx94=>?_))
    have := mM hx94
    have := gQ x6562
    refine MT.say (MT.ite (fun c6564=>?_) (fun c6564=>?_))
    ·exact MT.say (MT.ret trivial)
    ·exact MT.say (MT.ret ⟨rfl,by omega⟩)
   ·have c6561' := of_decide_eq_false c6561
    exact MT.say (MT.ret trivial)
  ·intro o6568 h6567 _
   exact MT.say MT.any
  ·intro o6569 h6567 _
   exact MT.say MT.any
theorem nO (p_l:List ByteArray) (h_p_l:bG (p_l.map lfS) ≤ 100000000) : Tot (Q13 p_l) Any := by
  have := dD p_l
  show MT (ahk p_l) Any
  refine MT.eP (R := Any) ?_ ?_ ?_
  ·refine T.cnt (fun _=>True) ?_
   intro k95 hk95
   show MT (D6 p_l ((k95:Nat) : Int)) _
   refine MT.say (MT.ite (fun c6846=>?_) (fun c6846=>?_))
   ·have c6846' := of_decide_eq_true c6846
    refine MT.say (MT.ask (dG p_l ((k95:Nat) : Int) (by omega) (by omega)) (fun x6847 _ hx96=>?_))
    have := kZ hx96
    refine MT.say (MT.ask (R := Any) ?_ ?_)
    ·exact T.wk (T.val (nC x6847))
    ·intro r6849 h6850 _
     refine MT.say (MT.ite (fun c6851=>?_) (fun c6851=>?_))
     ·exact MT.say (MT.ret trivial)
     ·refine MT.say (MT.eP (R := Any) ?_ ?_ ?_)
      ·refine T.cnt (fun _=>True) ?_
       intro k97 hk97
       show MT (D5 p_l ((k95:Nat) : Int) ((k97:Nat) : Int)) _
       refine MT.ite (fun c6859=>?_) (fun c6859=>?_)
       ·have c6859' := of_decide_eq_true c6859
        refine MT.say (MT.ask (dG p_l ((k97:Nat) : Int) (by omega) (by omega)) (fun x6860 _ hx98=>?_))
        have := kZ hx98
        refine MT.say (MT.ask (dG p_l ((k95:Nat) : Int) (by omega) (by omega)) (fun x6862 _ hx99=>?_))
        have := kZ hx99
        refine MT.say (MT.ite (fun c6864=>?_) (fun c6864=>?_))
        ·exact MT.say (MT.ret trivial)
        ·exact MT.say (MT.ret ⟨rfl,by omega⟩)
       ·have c6859' := of_decide_eq_false c6859
        exact MT.say (MT.ret trivial)
      ·intro o6867 h6866 _
       exact MT.say (MT.ret trivial)
      ·intro o6868 h6866 _
       exact MT.say (MT.ret ⟨rfl,by omega⟩)
   ·have c6846' := of_decide_eq_false c6846
    exact MT.say (MT.ret trivial)
  ·intro o6871 h6870 _
   exact MT.say MT.any
  ·intro o6872 h6870 _
   exact MT.say MT.any
theorem qK (p_has:Bool) (p_v:ak) (h_p_v:aW p_v.lf1 ≤ 100000000) : Tot (Q89 p_has p_v) Any := by
  have := bT p_v
  show MT (ahl p_has p_v) Any
  repeat' (first | exact MT.any | refine MT.say ?_ | refine MT.ite (fun _=>?_) (fun _=>?_) | refine MT.qC ?_ (fun _ _=>?_) | exact ⟨T.wk (mG _ _ (by first | omega | decide) (by first | omega | decide))⟩ | exact ⟨T.wk (jU _ (by first | omega | decide))⟩ | refine ⟨(show MT _ Any from ?_)⟩)
theorem ER (p_s:aB) (h_p_s:aW p_s.lf1 ≤ 100000000) : Tot (Q7 p_s) Any := by
  have := fK p_s
  have := bT p_s.sH
  have := bT p_s.sJ
  have := fZ p_s.jY
  have := dD p_s.gy
  have := jR p_s.dN
  have := jA p_s.fG
  show MT (akN p_s) Any
  refine MT.say (MT.ask (R := fun r_:List ByteArray=>bG (r_.map lfS) ≤ 100000000) (FC p_s (by omega)) (fun r6713 _ r6713'=>?_))
  refine MT.say (MT.ask (R := Any) ?_ ?_)
  ·show MT (Xe p_s r6713) Any
   refine MT.ask (R := Any) ?_ ?_
   ·exact T.wk (nO p_s.gy (by first | omega | (simp; done) | decide))
   ·intro r6878 h6879 _
    refine MT.say (MT.ite (fun c6880=>?_) (fun c6880=>?_))
    ·exact MT.say MT.any
    ·refine MT.say (MT.ask (R := Any) ?_ ?_)
     ·exact T.wk (nO r6713 (by first | omega | (simp; done) | decide))
     ·intro r6881 h6882 _
      exact MT.say MT.any
  ·intro r6885 h6886 _
   refine MT.say (MT.ite (fun c6888=>?_) (fun c6888=>?_))
   ·exact MT.say MT.any
   ·refine MT.say (MT.ask (R := fun b_=>(b_ = true → True) ∧ (b_ = false → ¬ ((p_s.jX:Int) < 0) ∧ ¬ ((Int.tmod p_s.jX 2) = 1) ∧ True)) ?_ ?_)
    ·show MT (Qp p_s) _
     refine MT.ite (fun c6909=>?_) (fun c6909=>?_)
     ·have c6909' := of_decide_eq_true c6909
      exact MT.say (MT.ret ⟨(fun _=>trivial),(fun h_=>by cases h_)⟩)
     ·have c6909' := of_decide_eq_false c6909
      exact MT.say (MT.ret ⟨(fun _=>trivial),(fun h_=>⟨(by first | assumption | omega),(by simpa using h_),trivial⟩)⟩)
    ·intro r6911 h6912 f_r6911
     refine MT.say (MT.ask (R := fun b_=>(b_ = true → True) ∧ (b_ = false → r6911 = false ∧ ¬ ((4096:Int) ≤ p_s.jX) ∧ True)) ?_ ?_)
     ·show MT (Qq p_s r6911) _
      refine MT.ite (fun c6913=>?_) (fun c6913=>?_)
      ·exact MT.say (MT.ret ⟨(fun _=>trivial),(fun h_=>by cases h_)⟩)
      ·have q100 := f_r6911.2 (c6913)
       exact MT.say (MT.ret ⟨(fun _=>trivial),(fun h_=>⟨(by first | assumption | omega),(of_decide_eq_false h_),trivial⟩)⟩)
     ·intro r6915 h6916 f_r6915
      refine MT.say (MT.ask (R := fun b_=>(b_ = true → True) ∧ (b_ = false → r6915 = false ∧ ¬ ((p_s.kW:Int) < 0) ∧ True)) ?_ ?_)
      ·show MT (Qr p_s r6915) _
       refine MT.ite (fun c6917=>?_) (fun c6917=>?_)
       ·exact MT.say (MT.ret ⟨(fun _=>trivial),(fun h_=>by cases h_)⟩)
       ·have q101 := f_r6915.2 (c6917)
        have q102 := f_r6911.2 (q101.1)
        exact MT.say (MT.ret ⟨(fun _=>trivial),(fun h_=>⟨(by first | assumption | omega),(of_decide_eq_false h_),trivial⟩)⟩)
      ·intro r6919 h6920 f_r6919
       refine MT.say (MT.ask (R := fun b_=>(b_ = true → True) ∧ (b_ = false → r6919 = false ∧ ¬ ((p_s.kX:Int) < (-1)) ∧ True)) ?_ ?_)
       ·show MT (Qs p_s r6919) _
        refine MT.ite (fun c6921=>?_) (fun c6921=>?_)
        ·exact MT.say (MT.ret ⟨(fun _=>trivial),(fun h_=>by cases h_)⟩)
        ·have q103 := f_r6919.2 (c6921)
         have q104 := f_r6915.2 (q103.1)
         have q105 := f_r6911.2 (q104.1)
         exact MT.say (MT.ret ⟨(fun _=>trivial),(fun h_=>⟨(by first | assumption | omega),(of_decide_eq_false h_),trivial⟩)⟩)
       ·intro r6923 h6924 f_r6923
        refine MT.say (MT.ask (R := fun b_=>(b_ = true → True) ∧ (b_ = false → r6923 = false ∧ ¬ ((1:Int) < (p_s.fG.length:Int)) ∧ True)) ?_ ?_)
        ·show MT (Qu p_s r6923) _
         refine MT.ite (fun c6925=>?_) (fun c6925=>?_)
         ·exact MT.say (MT.ret ⟨(fun _=>trivial),(fun h_=>by cases h_)⟩)
         ·have q106 := f_r6923.2 (c6925)
          have q107 := f_r6919.2 (q106.1)
          have q108 := f_r6915.2 (q107.1)
          have q109 := f_r6911.2 (q108.1)
          exact MT.say (MT.ret ⟨(fun _=>trivial),(fun h_=>⟨(by first | assumption | omega),(of_decide_eq_false h_),trivial⟩)⟩)
        ·intro r6927 h6928 f_r6927
         refine MT.say (MT.ite (fun c6930=>?_) (fun c6930=>?_))
         ·exact MT.say MT.any
         ·have q110 := f_r6927.2 (c6930)
          have q111 := f_r6923.2 (q110.1)
          have q112 := f_r6919.2 (q111.1)
          have q113 := f_r6915.2 (q112.1)
          have q114 := f_r6911.2 (q113.1)
          refine MT.say (MT.ask (R := Any) ?_ ?_)
          ·show MT (Qv p_s) Any
           refine MT.ask (R := Any) ?_ ?_
           ·exact T.wk (qK p_s.kU p_s.sH (by first | omega | (simp; done) | decide))
           ·intro r6954 h6955 _
            refine MT.say (MT.ite (fun c6956=>?_) (fun c6956=>?_))
            ·exact MT.say MT.any
            ·refine MT.say (MT.ask (R := Any) ?_ ?_)
             ·exact T.wk (qK p_s.kV p_s.sJ (by first | omega | (simp; done) | decide))
             ·intro r6957 h6958 _
              exact MT.say MT.any
          ·intro r6960 h6961 _
           refine MT.say (MT.ite (fun c6963=>?_) (fun c6963=>?_))
           ·exact MT.say MT.any
           ·refine MT.say (MT.eP (R := Any) ?_ ?_ ?_)
            ·refine T.cnt (fun _=>True) ?_
             intro k115 hk115
             show MT (D7 p_s ((k115:Nat) : Int)) _
             refine MT.say (MT.ite (fun c6999=>?_) (fun c6999=>?_))
             ·have c6999' := of_decide_eq_true c6999
              refine MT.say (MT.ask (dG p_s.jY ((k115:Nat) : Int) (by omega) (by omega)) (fun x7000 _ hx116=>?_))
              have := ji hx116
              have := bT x7000
              refine MT.say (MT.ask (R := Any) ?_ ?_)
              ·exact T.wk (jU x7000 (by first | omega | (simp; done) | decide))
              ·intro r7002 h7003 _
               refine MT.say (MT.ite (fun c7004=>?_) (fun c7004=>?_))
               ·exact MT.say (MT.ret trivial)
               ·exact MT.say (MT.ret ⟨rfl,by omega⟩)
             ·have c6999' := of_decide_eq_false c6999
              exact MT.say (MT.ret trivial)
            ·intro o7007 h7006 _
             exact MT.say MT.any
            ·intro o7008 h7006 _
             exact MT.say MT.any
theorem ES (n_:Nat) : ∀ (p_s:aB) (p_number:Int) (p_level:Int),aW p_s.lf1 < n_ → aW p_s.lf1 ≤ 100000000 → Tot ((oU n_).m1 p_s p_number p_level) Any := by
  induction n_ with
  | zero=>intro p_s p_number p_level h; omega
  | succ n_ ih =>
    intro p_s p_number p_level h_ h_p_s
    have := fK p_s
    have := jR p_s.dN
    have := jA p_s.fG
    show MT (ab5 (oU n_) p_s p_number p_level) Any
    refine MT.ask (R := fun b_=>(b_ = true → True) ∧ (b_ = false → ¬ ((16:Int) < p_level) ∧ ¬ ((64:Int) < p_number) ∧ True)) ?_ ?_
    ·show MT (Qy (oU n_) p_level p_number p_s) _
     refine MT.ite (fun c6658=>?_) (fun c6658=>?_)
     ·have c6658' := of_decide_eq_true c6658
      exact MT.say (MT.ret ⟨(fun _=>trivial),(fun h_=>by cases h_)⟩)
     ·have c6658' := of_decide_eq_false c6658
      exact MT.say (MT.ret ⟨(fun _=>trivial),(fun h_=>⟨(by first | assumption | omega),(of_decide_eq_false h_),trivial⟩)⟩)
    ·intro r6660 h6661 f_r6660
     refine MT.say (MT.ite (fun c6663=>?_) (fun c6663=>?_))
     ·exact MT.say MT.any
     ·have q117 := f_r6660.2 (c6663)
      refine MT.say (MT.ask (R := Any) ?_ ?_)
      ·exact T.wk (ER p_s (by first | omega | (simp; done) | decide))
      ·intro r7011 h7012 _
       refine MT.say (MT.ite (fun c7014=>?_) (fun c7014=>?_))
       ·have c7014' : ¬ (r7011 = 0) := by simpa using c7014
        exact MT.say MT.any
       ·have c7014' : r7011 = 0 := by simpa using c7014
        refine MT.say (MT.eP (R := Any) ?_ ?_ ?_)
        ·refine T.agD (fun _=>True) ?_
         intro v7083 k118 hk118
         show MT (zO (oU n_) p_level p_s (v7083,((k118:Nat) : Int))) _
         refine MT.say (MT.ite (fun c7085=>?_) (fun c7085=>?_))
         ·have c7085' := of_decide_eq_true c7085
          rw [w64 (by omega) (by omega)] at c7085'
          refine MT.say (MT.ask (R := fun b_=>aW b_.lf1 < n_ ∧ aW b_.lf1 ≤ 100000000) ?_ (fun r7092 _ f_r7092=>?_))
          ·show MT (Qz (oU n_) p_level p_s v7083 ((k118:Nat) : Int)) _
           refine MT.ite (fun c7086=>?_) (fun c7086=>?_)
           ·have c7086' := of_decide_eq_true c7086
            refine MT.say (MT.ask (dG p_s.dN ((k118:Nat) : Int) (by omega) (by omega)) (fun x7087 _ hx119=>?_))
            have := oz hx119
            have := mJ x7087
            have := fK x7087.fF
            exact MT.say (MT.ret ⟨by omega,by omega⟩)
           ·have c7086' := of_decide_eq_false c7086
            refine MT.say (MT.ask (dG p_s.fG (IntKind.wrap .i64 (((k118:Nat) : Int) - (p_s.dN.length:Int))) (by rw [w64 (by omega) (by omega)]; omega) (by rw [w64 (by omega) (by omega)]; omega)) (fun x7089 _ hx120=>?_))
            have := kR hx120
            have := fK x7089
            exact MT.say (MT.ret ⟨by omega,by omega⟩)
          ·have f_r7092' := f_r7092.1
           have f_r7092'' := f_r7092.2
           refine MT.say (MT.ask (R := Any) ?_ ?_)
           ·exact (ih r7092 (IntKind.wrap .i64 (v7083 + 1)) (IntKind.wrap .i64 (p_level + 1)) (by omega) (by first | omega | (simp; done) | decide))
           ·intro r7094 h7095 _
            refine MT.say (MT.ite (fun c7096=>?_) (fun c7096=>?_))
            ·have c7096' : ¬ (r7094.2 = 0) := by simpa using c7096
             exact MT.say (MT.ret trivial)
            ·have c7096' : r7094.2 = 0 := by simpa using c7096
             exact MT.say (MT.ret ⟨rfl,by omega⟩)
         ·have c7085' := of_decide_eq_false c7085
          rw [w64 (by omega) (by omega)] at c7085'
          exact MT.say (MT.ret trivial)
        ·intro o7105 h7104 _
         exact MT.say MT.any
        ·intro o7106 h7104 _
         exact MT.say MT.any
theorem FY (p_s:aB) (p_number:Int) (p_level:Int) (h_p_s:aW p_s.lf1 ≤ 100000000) : Tot (Q31 p_s p_number p_level) Any := ES FU p_s p_number p_level (by have := kS; omega) h_p_s
theorem FZ (p_s:aB) (h_p_s:aW p_s.lf1 ≤ 100000000) : Tot (akP p_s) Any := by
  have := fK p_s
  show MT (ab6 p_s) Any
  repeat' (first | exact MT.any | refine MT.say ?_ | refine MT.ite (fun _=>?_) (fun _=>?_) | refine MT.qC ?_ (fun _ _=>?_) | exact ⟨T.wk (FY _ _ _ (by first | omega | decide))⟩)
theorem F5 (p_d:bP) (h_p_d:aW p_d.lf1 ≤ 100000000) : Tot (Q39 p_d) Any := by
  have := jv p_d
  have := jy p_d.dH
  have := fK p_d.fF
  show MT (ahm p_d) Any
  refine MT.ask (R := Any) ?_ ?_
  ·exact T.wk (T.val (nC p_d.fName))
  ·intro r4489 h4490 _
   refine MT.say (MT.ite (fun c4492=>?_) (fun c4492=>?_))
   ·exact MT.say MT.any
   ·refine MT.say (MT.ite (fun c4494=>?_) (fun c4494=>?_))
    ·have c4494' := of_decide_eq_true c4494
     exact MT.say MT.any
    ·have c4494' := of_decide_eq_false c4494
     refine MT.say (MT.eP (R := Any) ?_ ?_ ?_)
     ·refine T.cnt (fun _=>True) ?_
      intro k121 hk121
      show MT (D8 p_d ((k121:Nat) : Int)) _
      refine MT.say (MT.ite (fun c6619=>?_) (fun c6619=>?_))
      ·have c6619' := of_decide_eq_true c6619
       refine MT.say (MT.ask (dG p_d.dH ((k121:Nat) : Int) (by omega) (by omega)) (fun x6620 _ hx122=>?_))
       have := mM hx122
       have := gQ x6620
       refine MT.say (MT.ask (R := Any) ?_ ?_)
       ·exact T.wk (tq x6620 (by first | omega | (simp; done) | decide))
       ·intro r6622 h6623 _
        refine MT.say (MT.ite (fun c6624=>?_) (fun c6624=>?_))
        ·have c6624' : ¬ (r6622 = 0) := by simpa using c6624
         exact MT.say (MT.ret trivial)
        ·have c6624' : r6622 = 0 := by simpa using c6624
         refine MT.say (MT.ask (dG p_d.dH ((k121:Nat) : Int) (by omega) (by omega)) (fun x6625 _ hx123=>?_))
         have := mM hx123
         have := gQ x6625
         refine MT.say (MT.ask (R := Any) ?_ ?_)
         ·exact T.wk (VF p_d.dH x6625.fName (by first | omega | (simp; done) | decide) (by first | omega | (simp; done) | decide))
         ·intro r6627 h6628 _
          refine MT.say (MT.ite (fun c6629=>?_) (fun c6629=>?_))
          ·have c6629' : ¬ (r6627 = ((k121 : Nat) : Int)) := by simpa using c6629
           exact MT.say (MT.ret trivial)
          ·have c6629' : r6627 = ((k121 : Nat) : Int) := by simpa using c6629
           exact MT.say (MT.ret ⟨rfl,by omega⟩)
      ·have c6619' := of_decide_eq_false c6619
       exact MT.say (MT.ret trivial)
     ·intro o6635 h6634 _
      exact MT.say MT.any
     ·intro o6636 h6634 _
      refine MT.say (MT.ask (R := fun b_=>(b_ = true → True) ∧ (b_ = false → ¬ ((p_d.oM:Int) < 0) ∧ ¬ ((2:Int) < p_d.oM) ∧ True)) ?_ ?_)
      ·show MT (QC p_d) _
       refine MT.ite (fun c6646=>?_) (fun c6646=>?_)
       ·have c6646' := of_decide_eq_true c6646
        exact MT.say (MT.ret ⟨(fun _=>trivial),(fun h_=>by cases h_)⟩)
       ·have c6646' := of_decide_eq_false c6646
        exact MT.say (MT.ret ⟨(fun _=>trivial),(fun h_=>⟨(by first | assumption | omega),(of_decide_eq_false h_),trivial⟩)⟩)
      ·intro r6648 h6649 f_r6648
       refine MT.say (MT.ask (R := fun b_=>(b_ = true → True) ∧ (b_ = false → r6648 = false ∧ True)) ?_ ?_)
       ·show MT (Ip p_d r6648) _
        refine MT.ite (fun c6650=>?_) (fun c6650=>?_)
        ·exact MT.say (MT.ret ⟨(fun _=>trivial),(fun h_=>by cases h_)⟩)
        ·have q124 := f_r6648.2 (c6650)
         refine MT.say (MT.ite (fun c6651=>?_) (fun c6651=>?_))
         ·have c6651' : ¬ (p_d.l9 = 0) := by simpa using c6651
          exact MT.say (MT.ret ⟨(fun _=>trivial),(fun h_=>⟨(by first | assumption | omega),trivial⟩)⟩)
         ·have c6651' : p_d.l9 = 0 := by simpa using c6651
          exact MT.say (MT.ret ⟨(fun h_=>by cases h_),(fun h_=>⟨(by first | assumption | omega),trivial⟩)⟩)
       ·intro r6653 h6654 f_r6653
        refine MT.say (MT.ite (fun c6656=>?_) (fun c6656=>?_))
        ·exact MT.say MT.any
        ·have q125 := f_r6653.2 (c6656)
         have q126 := f_r6648.2 (q125.1)
         refine MT.say (MT.ask (R := Any) ?_ ?_)
         ·exact T.wk (FZ p_d.fF (by first | omega | (simp; done) | decide))
         ·intro r7111 h7112 _
          exact MT.say MT.any
theorem ET (p_kind:Int) : Tot (aks p_kind) Any := by
  show MT (aaz p_kind) Any
  repeat' (first | exact MT.any | refine MT.say ?_ | refine MT.ite (fun _=>?_) (fun _=>?_))
theorem qL (p_kind:Int) : Tot (akt p_kind) Any := by
  show MT (aaA p_kind) Any
  repeat' (first | exact MT.any | refine MT.say ?_ | refine MT.ite (fun _=>?_) (fun _=>?_) | refine MT.qC ?_ (fun _ _=>?_) | exact ⟨T.wk (ET _)⟩)
theorem nD (p_kind:Int) : Tot (aku p_kind) Any := by
  show MT (aaB p_kind) Any
  repeat' (first | exact MT.any | refine MT.say ?_ | refine MT.ite (fun _=>?_) (fun _=>?_))
theorem tu (p_kind:Int) : Tot (akz p_kind) Any := by
  show MT (aa3 p_kind) Any
  repeat' (first | exact MT.any | refine MT.say ?_ | refine MT.ite (fun _=>?_) (fun _=>?_))
theorem lZ (p_kind:Int) : Tot (aky p_kind) Any := by
  show MT (aa2 p_kind) Any
  repeat' (first | exact MT.any | refine MT.say ?_ | refine MT.ite (fun _=>?_) (fun _=>?_))
theorem EU (p_w:aG) (h_p_w:aW p_w.lf1 ≤ 100000000) : Tot (Q26 p_w) Any := by
  have := iQ p_w
  have := bT p_w.mg
  have := bT p_w.bU
  have := bT p_w.gY
  have := jv p_w.ou
  have := gQ p_w.aY
  have := jB p_w.dL
  have := iy p_w.eu
  show MT (ag2 p_w) Any
  refine MT.ask (R := fun b_=>aW b_.lf1 ≤ 100000000) ?_ (fun r792 _ f_r792=>?_)
  ·show MT (OJ p_w) _
   refine MT.ite (fun c790=>?_) (fun c790=>?_)
   ·have c790' : p_w.aU = 7 := by simpa using c790
    exact MT.say (MT.ret (by first | omega | (refine Nat.le_trans (EJ _) ?_; omega)))
   ·have c790' : ¬ (p_w.aU = 7) := by simpa using c790
    exact MT.say (MT.ret (by first | omega | (refine Nat.le_trans (EJ _) ?_; omega)))
  ·have f_r792' := f_r792
   refine MT.say (MT.ask (R := Any) ?_ ?_)
   ·show MT (OL p_w r792) Any
    refine MT.ask (R := Any) ?_ ?_
    ·exact T.wk (qL p_w.aU )
    ·intro r798 h799 _
     refine MT.say (MT.ite (fun c800=>?_) (fun c800=>?_))
     ·exact MT.say MT.any
     ·exact MT.say MT.any
   ·intro r802 h803 _
    refine MT.say (MT.ask (R := fun b_=>(b_ = true → r802 = true ∧ True) ∧ (b_ = false → True)) ?_ ?_)
    ·show MT (Hf p_w r792 r802) _
     refine MT.ite (fun c804=>?_) (fun c804=>?_)
     ·refine MT.say (MT.ask (R := Any) ?_ ?_)
      ·exact T.wk (nD p_w.aU )
      ·intro r806 h807 _
       refine MT.say (MT.ite (fun c808=>?_) (fun c808=>?_))
       ·exact MT.say (MT.ret ⟨(fun h_=>⟨(by first | assumption | omega),trivial⟩),(fun h_=>by cases h_)⟩)
       ·refine MT.say (MT.ask (R := Any) ?_ ?_)
        ·exact T.wk (T.val (jT p_w.mg))
        ·intro r829 h830 _
         refine MT.say (MT.ite (fun c831=>?_) (fun c831=>?_))
         ·refine MT.say (MT.ask (R := Any) ?_ ?_)
          ·exact T.wk (T.val (jT p_w.gY))
          ·intro r832 h833 _
           refine MT.say (MT.ite (fun c834=>?_) (fun c834=>?_))
           ·exact MT.say (MT.ret ⟨(fun h_=>⟨(by first | assumption | omega),trivial⟩),(fun _=>trivial)⟩)
           ·exact MT.say (MT.ret ⟨(fun h_=>by cases h_),(fun _=>trivial)⟩)
         ·exact MT.say (MT.ret ⟨(fun h_=>by cases h_),(fun _=>trivial)⟩)
     ·exact MT.say (MT.ret ⟨(fun h_=>by cases h_),(fun _=>trivial)⟩)
    ·intro r836 h837 f_r836
     refine MT.say (MT.ask (R := fun b_=>(b_ = true → r836 = true ∧ True) ∧ (b_ = false → True)) ?_ ?_)
     ·show MT (Hg p_w r792 r836) _
      refine MT.ite (fun c838=>?_) (fun c838=>?_)
      ·have q127 := f_r836.1 (c838)
       refine MT.say (MT.ite (fun c839=>?_) (fun c839=>?_))
       ·have c839' : p_w.aU = 2 := by simpa using c839
        exact MT.say (MT.ret ⟨(fun h_=>⟨(by first | assumption | omega),trivial⟩),(fun h_=>by cases h_)⟩)
       ·have c839' : ¬ (p_w.aU = 2) := by simpa using c839
        refine MT.say (MT.ask (R := Any) ?_ ?_)
        ·exact T.wk (T.val (jT p_w.bU))
        ·intro r840 h841 _
         exact MT.say (MT.ret ⟨(fun h_=>⟨(by first | assumption | omega),trivial⟩),(fun _=>trivial)⟩)
      ·exact MT.say (MT.ret ⟨(fun h_=>by cases h_),(fun _=>trivial)⟩)
     ·intro r843 h844 f_r843
      refine MT.say (MT.ask (R := fun b_=>(b_ = true → r843 = true ∧ True) ∧ (b_ = false → True)) ?_ ?_)
      ·show MT (Ho p_w r792 r843) _
       refine MT.ite (fun c845=>?_) (fun c845=>?_)
       ·have q128 := f_r843.1 (c845)
        have q129 := f_r836.1 (q128.1)
        refine MT.say (MT.ite (fun c846=>?_) (fun c846=>?_))
        ·have c846' : p_w.aU = 4 := by simpa using c846
         exact MT.say (MT.ret ⟨(fun h_=>⟨(by first | assumption | omega),trivial⟩),(fun h_=>by cases h_)⟩)
        ·have c846' : ¬ (p_w.aU = 4) := by simpa using c846
         refine MT.say (MT.ask (R := Any) ?_ ?_)
         ·exact T.wk (SG p_w.ou (by first | omega | (simp; done) | decide))
         ·intro r2975 h2976 _
          exact MT.say (MT.ret ⟨(fun h_=>⟨(by first | assumption | omega),trivial⟩),(fun _=>trivial)⟩)
       ·exact MT.say (MT.ret ⟨(fun h_=>by cases h_),(fun _=>trivial)⟩)
      ·intro r2978 h2979 f_r2978
       refine MT.say (MT.ask (R := fun b_=>(b_ = true → r2978 = true ∧ True) ∧ (b_ = false → True)) ?_ ?_)
       ·show MT (Hq p_w r2978 r792) _
        refine MT.ite (fun c2980=>?_) (fun c2980=>?_)
        ·have q130 := f_r2978.1 (c2980)
         have q131 := f_r843.1 (q130.1)
         have q132 := f_r836.1 (q131.1)
         refine MT.say (MT.ite (fun c2981=>?_) (fun c2981=>?_))
         ·have c2981' : p_w.aU = 6 := by simpa using c2981
          exact MT.say (MT.ret ⟨(fun h_=>⟨(by first | assumption | omega),trivial⟩),(fun h_=>by cases h_)⟩)
         ·have c2981' : ¬ (p_w.aU = 6) := by simpa using c2981
          refine MT.say (MT.ask (R := Any) ?_ ?_)
          ·exact T.wk (SH r792 (by first | omega | (simp; done) | decide))
          ·intro r2990 h2991 _
           exact MT.say (MT.ret ⟨(fun h_=>⟨(by first | assumption | omega),trivial⟩),(fun _=>trivial)⟩)
        ·exact MT.say (MT.ret ⟨(fun h_=>by cases h_),(fun _=>trivial)⟩)
       ·intro r2996 h2997 f_r2996
        refine MT.say (MT.ask (R := fun b_=>(b_ = true → r2996 = true ∧ True) ∧ (b_ = false → True)) ?_ ?_)
        ·show MT (Hr p_w r2996) _
         refine MT.ite (fun c2998=>?_) (fun c2998=>?_)
         ·have q133 := f_r2996.1 (c2998)
          have q134 := f_r2978.1 (q133.1)
          have q135 := f_r843.1 (q134.1)
          have q136 := f_r836.1 (q135.1)
          refine MT.say (MT.ask (R := Any) ?_ ?_)
          ·exact T.wk (lZ p_w.aU )
          ·intro r3000 h3001 _
           refine MT.say (MT.ite (fun c3002=>?_) (fun c3002=>?_))
           ·exact MT.say (MT.ret ⟨(fun h_=>⟨(by first | assumption | omega),trivial⟩),(fun h_=>by cases h_)⟩)
           ·exact MT.say (MT.ret ⟨(fun h_=>⟨(by first | assumption | omega),trivial⟩),(fun _=>trivial)⟩)
         ·exact MT.say (MT.ret ⟨(fun h_=>by cases h_),(fun _=>trivial)⟩)
        ·intro r3004 h3005 f_r3004
         refine MT.say (MT.ask (R := fun b_=>(b_ = true → r3004 = true ∧ True) ∧ (b_ = false → True)) ?_ ?_)
         ·show MT (Ht p_w r3004) _
          refine MT.ite (fun c3006=>?_) (fun c3006=>?_)
          ·have q137 := f_r3004.1 (c3006)
           have q138 := f_r2996.1 (q137.1)
           have q139 := f_r2978.1 (q138.1)
           have q140 := f_r843.1 (q139.1)
           have q141 := f_r836.1 (q140.1)
           refine MT.say (MT.ite (fun c3007=>?_) (fun c3007=>?_))
           ·have c3007' : p_w.aU = 10 := by simpa using c3007
            exact MT.say (MT.ret ⟨(fun h_=>⟨(by first | assumption | omega),trivial⟩),(fun h_=>by cases h_)⟩)
           ·have c3007' : ¬ (p_w.aU = 10) := by simpa using c3007
            refine MT.say (MT.ite (fun c3008=>?_) (fun c3008=>?_))
            ·have c3008' : p_w.aU = 12 := by simpa using c3008
             exact MT.say (MT.ret ⟨(fun h_=>⟨(by first | assumption | omega),trivial⟩),(fun h_=>by cases h_)⟩)
            ·have c3008' : ¬ (p_w.aU = 12) := by simpa using c3008
             exact MT.say (MT.ret ⟨(fun h_=>⟨(by first | assumption | omega),trivial⟩),(fun _=>trivial)⟩)
          ·exact MT.say (MT.ret ⟨(fun h_=>by cases h_),(fun _=>trivial)⟩)
         ·intro r3010 h3011 f_r3010
          refine MT.say (MT.ask (R := fun b_=>(b_ = true → r3010 = true ∧ True) ∧ (b_ = false → True)) ?_ ?_)
          ·show MT (Hu p_w r3010) _
           refine MT.ite (fun c3012=>?_) (fun c3012=>?_)
           ·have q142 := f_r3010.1 (c3012)
            have q143 := f_r3004.1 (q142.1)
            have q144 := f_r2996.1 (q143.1)
            have q145 := f_r2978.1 (q144.1)
            have q146 := f_r843.1 (q145.1)
            have q147 := f_r836.1 (q146.1)
            refine MT.say (MT.ask (R := Any) ?_ ?_)
            ·exact T.wk (tu p_w.aU )
            ·intro r3014 h3015 _
             refine MT.say (MT.ite (fun c3016=>?_) (fun c3016=>?_))
             ·exact MT.say (MT.ret ⟨(fun h_=>⟨(by first | assumption | omega),trivial⟩),(fun h_=>by cases h_)⟩)
             ·exact MT.say (MT.ret ⟨(fun h_=>⟨(by first | assumption | omega),trivial⟩),(fun _=>trivial)⟩)
           ·exact MT.say (MT.ret ⟨(fun h_=>by cases h_),(fun _=>trivial)⟩)
          ·intro r3018 h3019 f_r3018
           refine MT.say (MT.ask (R := fun b_=>(b_ = true → r3018 = true ∧ True) ∧ (b_ = false → True)) ?_ ?_)
           ·show MT (Hw p_w r3018) _
            refine MT.ite (fun c3020=>?_) (fun c3020=>?_)
            ·have q148 := f_r3018.1 (c3020)
             have q149 := f_r3010.1 (q148.1)
             have q150 := f_r3004.1 (q149.1)
             have q151 := f_r2996.1 (q150.1)
             have q152 := f_r2978.1 (q151.1)
             have q153 := f_r843.1 (q152.1)
             have q154 := f_r836.1 (q153.1)
             refine MT.say (MT.ite (fun c3021=>?_) (fun c3021=>?_))
             ·have c3021' : p_w.aU = 12 := by simpa using c3021
              exact MT.say (MT.ret ⟨(fun h_=>⟨(by first | assumption | omega),trivial⟩),(fun h_=>by cases h_)⟩)
             ·have c3021' : ¬ (p_w.aU = 12) := by simpa using c3021
              exact MT.say (MT.ret ⟨(fun h_=>⟨(by first | assumption | omega),trivial⟩),(fun _=>trivial)⟩)
            ·exact MT.say (MT.ret ⟨(fun h_=>by cases h_),(fun _=>trivial)⟩)
           ·intro r3026 h3027 f_r3026
            refine MT.say (MT.ask (R := Any) ?_ ?_)
            ·show MT (Hy r3026) Any
             exact MT.any
            ·intro r3028 h3029 _
             exact MT.say MT.any
theorem EW (p_l:List Int) (h_p_l:bG (p_l.map lfI) ≤ 100000000) : Tot (Q42 p_l) Any := by
  have := iy p_l
  show MT (ag3 p_l) Any
  refine MT.eP (R := Any) ?_ ?_ ?_
  ·refine T.cnt (fun _=>True) ?_
   intro k155 hk155
   show MT (Dx p_l ((k155:Nat) : Int)) _
   refine MT.say (MT.ite (fun c3214=>?_) (fun c3214=>?_))
   ·have c3214' := of_decide_eq_true c3214
    refine MT.say (MT.ask (R := Any) ?_ ?_)
    ·show MT (OM p_l ((k155:Nat) : Int)) Any
     refine MT.say (MT.ask (dG p_l ((k155:Nat) : Int) (by omega) (by omega)) (fun x3215 _ hx156=>?_))
     refine MT.say (MT.ite (fun c3217=>?_) (fun c3217=>?_))
     ·have c3217' := of_decide_eq_true c3217
      exact MT.say MT.any
     ·have c3217' := of_decide_eq_false c3217
      refine MT.say (MT.ask (dG p_l ((k155:Nat) : Int) (by omega) (by omega)) (fun x3218 _ hx157=>?_))
      refine MT.say (MT.ite (fun c3220=>?_) (fun c3220=>?_))
      ·have c3220' := of_decide_eq_true c3220
       exact MT.say MT.any
      ·have c3220' := of_decide_eq_false c3220
       refine MT.say (MT.ite (fun c3221=>?_) (fun c3221=>?_))
       ·have c3221' := of_decide_eq_true c3221
        refine MT.say (MT.ask (dG p_l (IntKind.wrap .i64 (((k155:Nat) : Int) - 1)) (by rw [w64 (by omega) (by omega)]; omega) (by rw [w64 (by omega) (by omega)]; omega)) (fun x3222 _ hx158=>?_))
        refine MT.say (MT.ask (dG p_l ((k155:Nat) : Int) (by omega) (by omega)) (fun x3224 _ hx159=>?_))
        exact MT.say MT.any
       ·have c3221' := of_decide_eq_false c3221
        exact MT.say MT.any
    ·intro r3227 h3228 _
     refine MT.say (MT.ite (fun c3229=>?_) (fun c3229=>?_))
     ·exact MT.say (MT.ret trivial)
     ·exact MT.say (MT.ret ⟨rfl,by omega⟩)
   ·have c3214' := of_decide_eq_false c3214
    exact MT.say (MT.ret trivial)
  ·intro o3232 h3231 _
   exact MT.say MT.any
  ·intro o3233 h3231 _
   exact MT.say MT.any
theorem uz (p_v:ak) (h_p_v:aW p_v.lf1 ≤ 100000000) : Tot (Q76 p_v) Any := by
  have := bT p_v
  show MT (ag4 p_v) Any
  repeat' (first | exact MT.any | refine MT.say ?_ | refine MT.ite (fun _=>?_) (fun _=>?_) | refine MT.qC ?_ (fun _ _=>?_) | exact ⟨T.wk (jU _ (by first | omega | decide))⟩ | refine ⟨(show MT _ Any from ?_)⟩)
theorem Ar (p_w:aG) (p_lo:Int) (p_hi:Int) (h_p_w:aW p_w.lf1 ≤ 100000000) : Tot (Q3 p_w p_lo p_hi) Any := by
  have := iQ p_w
  have := bT p_w.mg
  have := bT p_w.bU
  have := bT p_w.gY
  have := jv p_w.ou
  have := gQ p_w.aY
  have := jB p_w.dL
  have := iy p_w.eu
  show MT (akQ p_w p_lo p_hi) Any
  refine MT.ask (R := fun b_=>(b_ = true → True) ∧ (b_ = false → ¬ ((p_w.aU:Int) < p_lo) ∧ ¬ ((p_hi:Int) < p_w.aU) ∧ True)) ?_ ?_
  ·show MT (Xg p_hi p_lo p_w) _
   refine MT.ite (fun c3295=>?_) (fun c3295=>?_)
   ·have c3295' := of_decide_eq_true c3295
    exact MT.say (MT.ret ⟨(fun _=>trivial),(fun h_=>by cases h_)⟩)
   ·have c3295' := of_decide_eq_false c3295
    exact MT.say (MT.ret ⟨(fun _=>trivial),(fun h_=>⟨(by first | assumption | omega),(of_decide_eq_false h_),trivial⟩)⟩)
  ·intro r3297 h3298 f_r3297
   refine MT.say (MT.ask (R := fun b_=>(b_ = true → True) ∧ (b_ = false → r3297 = false ∧ True)) ?_ ?_)
   ·show MT (Xh p_w r3297) _
    refine MT.ite (fun c3299=>?_) (fun c3299=>?_)
    ·exact MT.say (MT.ret ⟨(fun _=>trivial),(fun h_=>by cases h_)⟩)
    ·have q160 := f_r3297.2 (c3299)
     refine MT.say (MT.ask (R := Any) ?_ ?_)
     ·exact T.wk (EU p_w (by first | omega | (simp; done) | decide))
     ·intro r3300 h3301 _
      exact MT.say (MT.ret ⟨(fun _=>trivial),(fun h_=>⟨(by first | assumption | omega),trivial⟩)⟩)
   ·intro r3303 h3304 f_r3303
    refine MT.say (MT.ask (R := fun b_=>(b_ = true → True) ∧ (b_ = false → r3303 = false ∧ True)) ?_ ?_)
    ·show MT (QD p_w r3303) _
     refine MT.ite (fun c3305=>?_) (fun c3305=>?_)
     ·exact MT.say (MT.ret ⟨(fun _=>trivial),(fun h_=>by cases h_)⟩)
     ·have q161 := f_r3303.2 (c3305)
      have q162 := f_r3297.2 (q161.1)
      refine MT.say (MT.ask (R := Any) ?_ ?_)
      ·exact T.wk (tu p_w.aU )
      ·intro r3306 h3307 _
       refine MT.say (MT.ite (fun c3308=>?_) (fun c3308=>?_))
       ·exact MT.say (MT.ret ⟨(fun _=>trivial),(fun h_=>⟨(by first | assumption | omega),trivial⟩)⟩)
       ·exact MT.say (MT.ret ⟨(fun h_=>by cases h_),(fun h_=>⟨(by first | assumption | omega),trivial⟩)⟩)
    ·intro r3310 h3311 f_r3310
     refine MT.say (MT.ask (R := Any) ?_ ?_)
     ·show MT (QE p_w r3310) Any
      exact MT.any
     ·intro r3312 h3313 _
      refine MT.say (MT.ite (fun c3374=>?_) (fun c3374=>?_))
      ·exact MT.say MT.any
      ·have q163 := f_r3310.2 (c3374)
       have q164 := f_r3303.2 (q163.1)
       have q165 := f_r3297.2 (q164.1)
       refine MT.say (MT.ite (fun c3434=>?_) (fun c3434=>?_))
       ·have c3434' := of_decide_eq_true c3434
        exact MT.say MT.any
       ·have c3434' := of_decide_eq_false c3434
        refine MT.say (MT.ask (R := Any) ?_ ?_)
        ·show MT (QF p_w) Any
         refine MT.ask (R := Any) ?_ ?_
         ·exact T.wk (qL p_w.aU )
         ·intro r3435 h3436 _
          refine MT.say (MT.ite (fun c3437=>?_) (fun c3437=>?_))
          ·refine MT.say (MT.ask (R := Any) ?_ ?_)
           ·exact T.wk (T.val (sD p_w.kM))
           ·intro r3438 h3439 _
            exact MT.say MT.any
          ·exact MT.say MT.any
        ·intro r3441 h3442 _
         refine MT.say (MT.ask (R := fun b_=>(b_ = true → True) ∧ (b_ = false → r3441 = false ∧ True)) ?_ ?_)
         ·show MT (QG p_w r3441) _
          refine MT.ite (fun c3443=>?_) (fun c3443=>?_)
          ·exact MT.say (MT.ret ⟨(fun _=>trivial),(fun h_=>by cases h_)⟩)
          ·refine MT.say (MT.ask (R := Any) ?_ ?_)
           ·exact T.wk (lZ p_w.aU )
           ·intro r3444 h3445 _
            refine MT.say (MT.ite (fun c3446=>?_) (fun c3446=>?_))
            ·refine MT.say (MT.ask (R := Any) ?_ ?_)
             ·exact T.wk (T.val (sD p_w.zq))
             ·intro r3447 h3448 _
              exact MT.say (MT.ret ⟨(fun _=>trivial),(fun h_=>⟨(by first | assumption | omega),trivial⟩)⟩)
            ·exact MT.say (MT.ret ⟨(fun h_=>by cases h_),(fun h_=>⟨(by first | assumption | omega),trivial⟩)⟩)
         ·intro r3450 h3451 f_r3450
          refine MT.say (MT.ask (R := fun b_=>(b_ = true → True) ∧ (b_ = false → r3450 = false ∧ True)) ?_ ?_)
          ·show MT (QH p_w r3450) _
           refine MT.ite (fun c3452=>?_) (fun c3452=>?_)
           ·exact MT.say (MT.ret ⟨(fun _=>trivial),(fun h_=>by cases h_)⟩)
           ·have q166 := f_r3450.2 (c3452)
            refine MT.say (MT.ite (fun c3453=>?_) (fun c3453=>?_))
            ·have c3453' : p_w.aU = 7 := by simpa using c3453
             refine MT.say (MT.ask (R := Any) ?_ ?_)
             ·exact T.wk (T.val (sD p_w.aY.fName))
             ·intro r3454 h3455 _
              exact MT.say (MT.ret ⟨(fun _=>trivial),(fun h_=>⟨(by first | assumption | omega),trivial⟩)⟩)
            ·have c3453' : ¬ (p_w.aU = 7) := by simpa using c3453
             exact MT.say (MT.ret ⟨(fun h_=>by cases h_),(fun h_=>⟨(by first | assumption | omega),trivial⟩)⟩)
          ·intro r3457 h3458 f_r3457
           refine MT.say (MT.ask (R := Any) ?_ ?_)
           ·show MT (QI p_w r3457) Any
            exact MT.any
           ·intro r3459 h3460 _
            refine MT.say (MT.ite (fun c3493=>?_) (fun c3493=>?_))
            ·exact MT.say MT.any
            ·have q167 := f_r3457.2 (c3493)
             have q168 := f_r3450.2 (q167.1)
             refine MT.say (MT.ask (R := fun b_=>(b_ = true → p_w.aU = 10 ∧ (p_w.fB:Int) < 1 ∧ True) ∧ (b_ = false → True)) ?_ ?_)
             ·show MT (QJ p_w) _
              refine MT.ite (fun c3494=>?_) (fun c3494=>?_)
              ·have c3494' : p_w.aU = 10 := by simpa using c3494
               exact MT.say (MT.ret ⟨(fun h_=>⟨(by first | assumption | omega),(of_decide_eq_true h_),trivial⟩),(fun _=>trivial)⟩)
              ·have c3494' : ¬ (p_w.aU = 10) := by simpa using c3494
               exact MT.say (MT.ret ⟨(fun h_=>by cases h_),(fun _=>trivial)⟩)
             ·intro r3496 h3497 f_r3496
              refine MT.say (MT.ask (R := fun b_=>(b_ = true → True) ∧ (b_ = false → r3496 = false ∧ ¬ ((p_w.fB:Int) < 0) ∧ True)) ?_ ?_)
              ·show MT (QK p_w r3496) _
               refine MT.ite (fun c3498=>?_) (fun c3498=>?_)
               ·have q169 := f_r3496.1 (c3498)
                exact MT.say (MT.ret ⟨(fun _=>trivial),(fun h_=>by cases h_)⟩)
               ·exact MT.say (MT.ret ⟨(fun _=>trivial),(fun h_=>⟨(by first | assumption | omega),(of_decide_eq_false h_),trivial⟩)⟩)
              ·intro r3500 h3501 f_r3500
               refine MT.say (MT.ask (R := fun b_=>(b_ = true → True) ∧ (b_ = false → r3500 = false ∧ ¬ ((1099511627776:Int) < p_w.fB) ∧ True)) ?_ ?_)
               ·show MT (QL p_w r3500) _
                refine MT.ite (fun c3502=>?_) (fun c3502=>?_)
                ·exact MT.say (MT.ret ⟨(fun _=>trivial),(fun h_=>by cases h_)⟩)
                ·have q170 := f_r3500.2 (c3502)
                 exact MT.say (MT.ret ⟨(fun _=>trivial),(fun h_=>⟨(by first | assumption | omega),(of_decide_eq_false h_),trivial⟩)⟩)
               ·intro r3504 h3505 f_r3504
                refine MT.say (MT.ask (R := fun b_=>(b_ = true → True) ∧ (b_ = false → r3504 = false ∧ True)) ?_ ?_)
                ·show MT (QM p_w r3504) _
                 refine MT.ite (fun c3506=>?_) (fun c3506=>?_)
                 ·exact MT.say (MT.ret ⟨(fun _=>trivial),(fun h_=>by cases h_)⟩)
                 ·have q171 := f_r3504.2 (c3506)
                  have q172 := f_r3500.2 (q171.1)
                  refine MT.say (MT.ite (fun c3507=>?_) (fun c3507=>?_))
                  ·have c3507' : p_w.aU = 12 := by simpa using c3507
                   refine MT.say (MT.ask (R := Any) ?_ ?_)
                   ·exact T.wk (EW p_w.eu (by first | omega | (simp; done) | decide))
                   ·intro r3508 h3509 _
                    exact MT.say (MT.ret ⟨(fun _=>trivial),(fun h_=>⟨(by first | assumption | omega),trivial⟩)⟩)
                  ·have c3507' : ¬ (p_w.aU = 12) := by simpa using c3507
                   exact MT.say (MT.ret ⟨(fun h_=>by cases h_),(fun h_=>⟨(by first | assumption | omega),trivial⟩)⟩)
                ·intro r3511 h3512 f_r3511
                 refine MT.say (MT.ask (R := Any) ?_ ?_)
                 ·show MT (QN p_w r3511) Any
                  exact MT.any
                 ·intro r3513 h3514 _
                  refine MT.say (MT.ite (fun c3525=>?_) (fun c3525=>?_))
                  ·exact MT.say MT.any
                  ·have q173 := f_r3511.2 (c3525)
                   have q174 := f_r3504.2 (q173.1)
                   have q175 := f_r3500.2 (q174.1)
                   refine MT.say (MT.ask (R := Any) ?_ ?_)
                   ·show MT (QO p_w) Any
                    refine MT.ask (R := Any) ?_ ?_
                    ·exact T.wk (nD p_w.aU )
                    ·intro r3526 h3527 _
                     refine MT.say (MT.ite (fun c3528=>?_) (fun c3528=>?_))
                     ·refine MT.say (MT.ask (R := Any) ?_ ?_)
                      ·exact T.wk (uz p_w.mg (by first | omega | (simp; done) | decide))
                      ·intro r3529 h3530 _
                       exact MT.say MT.any
                     ·exact MT.say MT.any
                   ·intro r3532 h3533 _
                    refine MT.say (MT.ite (fun c3535=>?_) (fun c3535=>?_))
                    ·exact MT.say MT.any
                    ·refine MT.say (MT.eP (R := Any) ?_ ?_ ?_)
                     ·show MT (D9 p_w) Any
                      refine MT.ite (fun c4447=>?_) (fun c4447=>?_)
                      ·have c4447' : p_w.aU = 2 := by simpa using c4447
                       refine MT.say (MT.ask (R := Any) ?_ ?_)
                       ·exact T.wk (EI p_w.bU p_w.mg (by first | omega | (simp; done) | decide) (by first | omega | (simp; done) | decide))
                       ·intro r4448 h4449 _
                        refine MT.say (MT.ite (fun c4450=>?_) (fun c4450=>?_))
                        ·have c4450' : ¬ (r4448 = 0) := by simpa using c4450
                         exact MT.say MT.any
                        ·have c4450' : r4448 = 0 := by simpa using c4450
                         exact MT.say MT.any
                      ·have c4447' : ¬ (p_w.aU = 2) := by simpa using c4447
                       exact MT.say MT.any
                     ·intro o4455 h4454 _
                      exact MT.say MT.any
                     ·intro o4456 h4454 _
                      refine MT.say (MT.ask (R := Any) ?_ ?_)
                      ·show MT (QT p_w) Any
                       refine MT.ask (R := Any) ?_ ?_
                       ·exact T.wk (nD p_w.aU )
                       ·intro r4462 h4463 _
                        refine MT.say (MT.ite (fun c4464=>?_) (fun c4464=>?_))
                        ·refine MT.say (MT.ask (R := Any) ?_ ?_)
                         ·exact T.wk (T.val (jT p_w.gY))
                         ·intro r4465 h4466 _
                          exact MT.say MT.any
                        ·exact MT.say MT.any
                      ·intro r4468 h4469 _
                       refine MT.say (MT.eP (R := Any) ?_ ?_ ?_)
                       ·show MT (Ea p_w r4468) Any
                        refine MT.ite (fun c4476=>?_) (fun c4476=>?_)
                        ·refine MT.say (MT.ask (R := Any) ?_ ?_)
                         ·exact T.wk (EI p_w.gY p_w.mg (by first | omega | (simp; done) | decide) (by first | omega | (simp; done) | decide))
                         ·intro r4477 h4478 _
                          refine MT.say (MT.ite (fun c4479=>?_) (fun c4479=>?_))
                          ·have c4479' : ¬ (r4477 = 0) := by simpa using c4479
                           exact MT.say MT.any
                          ·have c4479' : r4477 = 0 := by simpa using c4479
                           exact MT.say MT.any
                        ·exact MT.say MT.any
                       ·intro o4484 h4483 _
                        exact MT.say MT.any
                       ·intro o4485 h4483 _
                        refine MT.say (MT.ite (fun c7115=>?_) (fun c7115=>?_))
                        ·have c7115' : p_w.aU = 4 := by simpa using c7115
                         refine MT.say (MT.ask (R := Any) ?_ ?_)
                         ·exact T.wk (F5 p_w.ou (by first | omega | (simp; done) | decide))
                         ·intro r7118 h7119 _
                          exact MT.say MT.any
                        ·have c7115' : ¬ (p_w.aU = 4) := by simpa using c7115
                         refine MT.say (MT.ite (fun c7123=>?_) (fun c7123=>?_))
                         ·have c7123' : p_w.aU = 6 := by simpa using c7123
                          refine MT.say (MT.ask (R := Any) ?_ ?_)
                          ·exact T.wk (tq p_w.aY (by first | omega | (simp; done) | decide))
                          ·intro r7126 h7127 _
                           exact MT.say MT.any
                         ·have c7123' : ¬ (p_w.aU = 6) := by simpa using c7123
                          exact MT.say MT.any
theorem F6 (p_e:ay) (h_p_e:aW p_e.lf1 ≤ 100000000) : Tot (Q22 p_e) Any := by
  have := ng p_e
  have := iQ p_e.iH
  have := jB p_e.iH.dL
  show MT (aho p_e) Any
  refine MT.ite (fun c756=>?_) (fun c756=>?_)
  ·have c756' := of_decide_eq_true c756
   exact MT.say MT.any
  ·have c756' := of_decide_eq_false c756
   refine MT.say (MT.ask (R := fun b_=>(b_ = true → True) ∧ (b_ = false → ¬ ((p_e.fB:Int) < 1) ∧ ¬ ((1099511627776:Int) < p_e.fB) ∧ True)) ?_ ?_)
   ·show MT (QV p_e) _
    refine MT.ite (fun c757=>?_) (fun c757=>?_)
    ·have c757' := of_decide_eq_true c757
     exact MT.say (MT.ret ⟨(fun _=>trivial),(fun h_=>by cases h_)⟩)
    ·have c757' := of_decide_eq_false c757
     exact MT.say (MT.ret ⟨(fun _=>trivial),(fun h_=>⟨(by first | assumption | omega),(of_decide_eq_false h_),trivial⟩)⟩)
   ·intro r759 h760 f_r759
    refine MT.say (MT.ask (R := fun b_=>(b_ = true → True) ∧ (b_ = false → r759 = false ∧ ¬ ((p_e.oN:Int) < 0) ∧ True)) ?_ ?_)
    ·show MT (QW p_e r759) _
     refine MT.ite (fun c761=>?_) (fun c761=>?_)
     ·exact MT.say (MT.ret ⟨(fun _=>trivial),(fun h_=>by cases h_)⟩)
     ·have q176 := f_r759.2 (c761)
      exact MT.say (MT.ret ⟨(fun _=>trivial),(fun h_=>⟨(by first | assumption | omega),(of_decide_eq_false h_),trivial⟩)⟩)
    ·intro r763 h764 f_r763
     refine MT.say (MT.ask (R := Any) ?_ ?_)
     ·show MT (Iq p_e r763) Any
      exact MT.any
     ·intro r765 h766 _
      refine MT.say (MT.ite (fun c775=>?_) (fun c775=>?_))
      ·exact MT.say MT.any
      ·have q177 := f_r763.2 (c775)
       have q178 := f_r759.2 (q177.1)
       refine MT.say (MT.ask (R := Any) ?_ ?_)
       ·show MT (Ir p_e) Any
        refine MT.ite (fun c776=>?_) (fun c776=>?_)
        ·refine MT.say (MT.ask (R := Any) ?_ ?_)
         ·exact T.wk (T.val (sD p_e.jZ))
         ·intro r777 h778 _
          exact MT.say MT.any
        ·exact MT.say MT.any
       ·intro r780 h781 _
        refine MT.say (MT.ite (fun c783=>?_) (fun c783=>?_))
        ·exact MT.say MT.any
        ·refine MT.say (MT.ask (R := Any) ?_ ?_)
         ·exact T.wk (Ar p_e.iH 1 12 (by first | omega | (simp; done) | decide))
         ·intro r7130 h7131 _
          refine MT.say (MT.ite (fun c7133=>?_) (fun c7133=>?_))
          ·have c7133' : ¬ (r7130 = 0) := by simpa using c7133
           exact MT.say MT.any
          ·have c7133' : r7130 = 0 := by simpa using c7133
           refine MT.say (MT.ask (R := Any) ?_ ?_)
           ·show MT (Iu p_e) Any
            refine MT.ite (fun c7135=>?_) (fun c7135=>?_)
            ·have c7135' : p_e.iH.aU = 9 := by simpa using c7135
             exact MT.say MT.any
            ·have c7135' : ¬ (p_e.iH.aU = 9) := by simpa using c7135
             exact MT.say MT.any
           ·intro r7137 h7138 _
            refine MT.say (MT.eP (R := Any) ?_ ?_ ?_)
            ·refine T.cnt (fun _=>True) ?_
             intro k179 hk179
             show MT (zQ p_e r7137 ((k179:Nat) : Int)) _
             refine MT.say (MT.ite (fun c7176=>?_) (fun c7176=>?_))
             ·have c7176' := of_decide_eq_true c7176
              refine MT.say (MT.ask (dG p_e.iH.dL ((k179:Nat) : Int) (by omega) (by omega)) (fun x7177 _ hx180=>?_))
              have := mO hx180
              have := iQ x7177
              refine MT.say (MT.ask (R := Any) ?_ ?_)
              ·exact T.wk (Ar x7177 2 r7137 (by first | omega | (simp; done) | decide))
              ·intro r7179 h7180 _
               refine MT.say (MT.ite (fun c7181=>?_) (fun c7181=>?_))
               ·have c7181' : ¬ (r7179 = 0) := by simpa using c7181
                exact MT.say (MT.ret trivial)
               ·have c7181' : r7179 = 0 := by simpa using c7181
                exact MT.say (MT.ret ⟨rfl,by omega⟩)
             ·have c7176' := of_decide_eq_false c7176
              exact MT.say (MT.ret trivial)
            ·intro o7186 h7185 _
             exact MT.say MT.any
            ·intro o7187 h7185 _
             exact MT.say MT.any
end Go.Proofs.YtdnafbfmaphhhaaGreatDoor
set_option linter.unusedSimpArgs false
set_option linter.unusedVariables false
namespace Go.Proofs.YtdnafbfmaphhhaaGreatDoor
open Go.RowKit
theorem lu {α:Type} (f : α → List Lf) (l:List α) (k:Nat) : bG ((l.drop k).map f) ≤ bG (l.map f) := by
  have := su ((l.take k).map f) ((l.drop k).map f)
  rw [← List.map_append,List.take_append_drop] at this; omega
theorem EX (m:aj) (hb:aW m.lf1 ≤ 100000000) : Q94 m = some m := by
  simp only [Q94,aht,Mo.den,aI,aN,aZ,aJ,aP,afG,UR,Mo.den,aI,aN,aZ,aJ,aP,Q61,acR,KJ,yh,Mo.den,aI,aN,aZ,aJ,aP,kF m hb,Option.bind_some,decide_eq_true (show m.bD ≤ m.bD by omega),cond_true]
theorem AU (l:List ay) (hb:bG (l.map ay.lf) ≤ 10000000) : agc l = some l := by
  have h0:¬ ((l.length:Int) < 0) := by omega
  have e1:(aj.mW aj.z l).aQ = l := rfl
  have e2:(aj.mW aj.z l).au = 0 := rfl
  have e3 := iw l (by omega)
  have hz:aW ((aj.mW aj.z l).mW []).lf1 = 12 := by kernel_rfl
  have e4 := kH ((aj.mW aj.z l).mW []) (by omega)
  simp only [agc,adx,Mo.den,aI,aN,aZ,aJ,aP,agb,Vg,Mo.den,aI,aN,aZ,aJ,aP,e1,e2,gt_iff_lt,Int.lt_irrefl,if_false,h0,Int.toNat_zero,List.drop_zero,List.take_zero,e3,e4,Option.bind_some]
  rw [if_pos (by omega),if_pos (by omega)]; rfl
def VG (l:List ay) (n:Int) : Int := if 1 ≤ n then (match l[(n - 1).toNat]? with | some e=>e.bD | none=>0) else 0
theorem EY (l:List ay) (n:Int) (hl:l.length ≤ 1000000) : ajp n l = some (VG l n) := by
  simp only [ajp,acX,IX,Mo.den,aI,aN,aZ,aJ,aP,VG]
  by_cases h1:n < 1
  · rw [decide_eq_true h1,if_neg (by omega)]; rfl
  rw [decide_eq_false h1,if_pos (by omega)]
  simp only [cond_false,Option.bind_some]
  by_cases h2:(l.length:Int) < n
  · rw [decide_eq_true h2,List.getElem?_eq_none (by omega)]; rfl
  · rw [decide_eq_false h2, w64 (by omega) (by omega)]
    obtain ⟨x,h3,h4⟩ := JZ (l := l) (i := n - 1) (by omega) (by omega)
    simp only [cond_false,h3,h4,Option.bind_some]
theorem VH (l:List ay) (n:Int) (hl:l.length ≤ 1000000) : ajQ l n = some (VG l n) := by
  simp only [ajQ,adQ,Jc,Mo.den,aI,aN,aZ,aJ,aP,VG]
  by_cases h1:n < 1
  · rw [decide_eq_true h1,if_neg (by omega)]; rfl
  rw [decide_eq_false h1,if_pos (by omega)]
  simp only [cond_false,Option.bind_some]
  by_cases h2:(l.length:Int) < n
  · rw [decide_eq_true h2,List.getElem?_eq_none (by omega)]; rfl
  · rw [decide_eq_false h2, w64 (by omega) (by omega)]
    obtain ⟨x,h3,h4⟩ := JZ (l := l) (i := n - 1) (by omega) (by omega)
    simp only [cond_false,h3,h4,Option.bind_some]
/-- a proper message -/
structure LG (m:aj) (x:ah) : Prop where
  t0 : 0 ≤ x.bD
  i0 : 0 ≤ x.aY
  i1:x.aY ≤ 16384
  c0 : 0 ≤ x.au
  c1:x.au ≤ 16384
  es:x.aH.length ≤ 16
theorem VI (m:aj) (x:ah) (hb:bG (x.aH.map ay.lf) ≤ 100000000) : Tot (Q10 m x) (fun b=>b = true → LG m x) := by
  have hl := jS x.aH
  unfold Q10 ahp KF zS IL IK IJ II IG IE IC IB Iz QY QX
  simp only [Mo.den,aI,aN,aZ,aJ,aP]
  refine T.bind (R := fun b=>b = false → True) (T.ite (fun _=>T.ret (by simp)) fun _=>T.ret (by simp)) fun r h=>T.bind (T.orc h) fun r h=>T.bind (T.orc h) fun r h=>T.bind (T.orc h) fun r h=>T.bind (T.orc h) fun r h=>T.bind (T.orc h) fun r h=>T.bind (T.orc h) fun r h=>T.bind (T.orc h) fun r h=>T.bind (T.orc h) fun r h=>T.bind (T.orc h) fun r h=>T.ite (fun _=>T.ret (by simp)) fun hr=>?_
  have h := h hr
  refine T.bind (R := Any) ?_ ?_
  · refine T.Zp x.aH (by omega) _ (fun k e hx => ?_) ?_
    · have hm := rY (jO hx)
      simp only [ltt hx,gid hx,cond_true,Option.bind_some]
      refine T.bind (R := Any) (T.ite (fun _=>T.any) fun _=>T.bind (F6 e (by omega)) fun v _=>T.any) fun b _=>T.ite (fun _=>T.ret trivial) fun _=>T.ret rfl
    · simp only [ltn,cond_false]
      exact T.ret trivial
  · rintro (r | r) _
    · exact T.ret (by simp)
    · exact T.ret fun _=>⟨by omega,by omega,by omega,by omega,by omega,by omega⟩
/-- what a member becomes at a later term -/
def tim (n:Int) : Int := IntKind.wrap .i64 (10 + IntKind.wrap .i64 (3 * n))
def stepS (m:aj) (t:Int) : aj := if t ≤ m.bD then m else ⟨m.fID,m.dI,t,-1,0,-1,if m.dM = 2 then tim m.fID else m.gI,0,m.aQ,m.au,[],[]⟩
theorem aec (m:aj) (t:Int) (hb:aW m.lf1 ≤ 100000000) : afG m t = some (stepS m t) := by
  simp only [afG,UR,Mo.den,aI,aN,aZ,aJ,aP,Q61,acR,KJ,yh,Mo.den,aI,aN,aZ,aJ,aP,akU,acP,Mo.den,aI,aN,aZ,aJ,aP,kF m hb,Option.bind_some,stepS]
  by_cases h:t ≤ m.bD
  · rw [decide_eq_true h,if_pos h]; rfl
  · rw [decide_eq_false h,if_neg h]
    by_cases hr:m.dM = 2
    · rw [show (m.dM == 2) = true by simp [hr],if_pos hr]; rfl
    · rw [show (m.dM == 2) = false by simp [hr],if_neg hr]; rfl
theorem Zz (m:aj) (t:Int) : ajO m t = some (stepS m t) := by
  simp only [ajO,adM,Ja,Mo.den,aI,aN,aZ,aJ,aP,akR,acd,Mo.den,aI,aN,aZ,aJ,aP,stepS]
  by_cases h:t ≤ m.bD
  · rw [decide_eq_true h,if_pos h]; rfl
  · rw [decide_eq_false h,if_neg h]
    by_cases hr:m.dM = 2
    · rw [show (m.dM == 2) = true by simp [hr],if_pos hr]; rfl
    · rw [show (m.dM == 2) = false by simp [hr],if_neg hr]; rfl
def iF (m:aj) (x:ah) : aj :=
  let n := if m.bD < x.bD then stepS m x.bD else if m.dM = 1 then aj.JW (aj.aah m 0) 0 else m
  aj.qo (aj.uQ n x.dh) (tim n.fID)
theorem EZ (m:aj) (x:ah) : (iF m x).aQ = m.aQ ∧ (iF m x).au = m.au ∧ (iF m x).fID = m.fID := by
  unfold iF stepS
  split
  · rw [if_neg (by omega)]; exact ⟨rfl,rfl,rfl⟩
  · split <;> exact ⟨rfl,rfl,rfl⟩
theorem Jz (m:aj) (x:ah) : aW (iF m x).lf1 ≤ aW m.lf1 := by
  rw [gX,gX,(EZ m x).1]
  have:bG ((iF m x).fNext.map lfI) ≤ bG (m.fNext.map lfI) ∧ bG ((iF m x).bn.map lfI) ≤ bG (m.bn.map lfI) := by
    unfold iF stepS
    split
    · rw [if_neg (by omega)]; exact ⟨Nat.zero_le _,Nat.zero_le _⟩
    · split <;> exact ⟨Nat.le_refl _,Nat.le_refl _⟩
  omega
theorem SK (m:aj) (x:ah) : ags m x = some (iF m x) := by
  simp only [ags,adO,Jb,Mo.den,aI,aN,aZ,aJ,aP,Zz,iF,tim]
  by_cases h:m.bD < x.bD
  · rw [decide_eq_true h,if_pos h]; rfl
  · rw [decide_eq_false h,if_neg h]
    by_cases hr:m.dM = 1
    · rw [show (m.dM == 1) = true by simp [hr],if_pos hr]; rfl
    · rw [show (m.dM == 1) = false by simp [hr],if_neg hr]; rfl
/-- the first place at which the entries are not the log's -/
def nG (a b:ay) : Bool := a.bD == b.bD && a.fB == b.fB
theorem VJ (a b:ay) : nG a b = nG b a := by unfold nG; rw [BEq.comm (a := a.bD),BEq.comm (a := a.fB)]
theorem aed (a b:ay) : afP a b = some (nG a b) := by
  simp only [afP,acY,Mo.den,aI,aN,aZ,aJ,aP,nG]
  cases a.bD == b.bD <;> rfl
theorem ZA (a b:ay) : agu a b = some (nG a b) := by
  simp only [agu,adP,Mo.den,aI,aN,aZ,aJ,aP,nG]
  cases a.bD == b.bD <;> rfl
def dif (l:List ay) : List ay → Nat → Option Nat
  | [],_=>none
  | e :: r,i=>match l[i]? with
    | none=>none
    | some a=>if nG a e then dif l r (i + 1) else some i
theorem BD {l:List ay} {e:ay} {r:List ay} {i:Nat} (hx:l[i]? = none) : dif l (e :: r) i = none := by unfold dif; rw [hx]
theorem LH {l:List ay} {e a:ay} {r:List ay} {i:Nat} (hx:l[i]? = some a) (hs:nG a e = true) : dif l (e :: r) i = dif l r (i + 1) := by
  show (match l[i]? with | none=>none | some a=>if nG a e then dif l r (i + 1) else some i) = _
  rw [hx]; exact if_pos hs
theorem E5 {l:List ay} {e a:ay} {r:List ay} {i:Nat} (hx:l[i]? = some a) (hs:nG a e = false) : dif l (e :: r) i = some i := by
  show (match l[i]? with | none=>none | some a=>if nG a e then dif l r (i + 1) else some i) = _
  rw [hx]; exact if_neg (by rw [hs]; simp)
theorem aee {l:List ay} : ∀ {es:List ay} {i:Nat},l.length ≤ i → dif l es i = none
  | [],_,_=>rfl
  | e :: r,i,h=>BD (List.getElem?_eq_none h)
theorem LJ {l:List ay} : ∀ {es:List ay} {i p:Nat},dif l es i = some p → i ≤ p ∧ p < l.length
  | [],_,_,h=>by cases h
  | e :: r,i,p,h=>by
    cases hx:l[i]? with
    | none=>rw [BD hx] at h; cases h
    | some a =>
      have hi := (List.getElem?_eq_some_iff.1 hx).1
      cases hs:nG a e with
      | true =>
        rw [LH hx hs] at h
        have := LJ h; omega
      | false =>
        rw [E5 hx hs] at h
        cases h; omega
theorem drop_at {es:List ay} {k:Nat} {e:ay} (hx:es[k]? = some e) : es.drop k = e :: es.drop (k + 1) := by
  have hk := (List.getElem?_eq_some_iff.1 hx)
  rw [List.drop_eq_getElem_cons hk.1,hk.2]
def VK (o:Option Nat) (d:Int) : Int := match o with | some p=>(p:Int) | none=>d
theorem Au (x:ah) (n:aF) (i:Nat) (hi:x.aY = i) (hi2:i ≤ 20000) (he:x.aH.length ≤ 1000) : Q32 x n = some (VK (dif n.aO.aQ x.aH i) (n.aO.aQ.length:Int)) := by
  have h1:Tot (U1 n x 0) (fun r=>r = (match dif n.aO.aQ x.aH i with | some p=>.inr (p:Int) | none=>.inl ())) := by
    refine T.yP x.aH.length (by omega) (fun k s=>s = (k:Int) ∧ dif n.aO.aQ (x.aH.drop k) (i + k) = dif n.aO.aQ x.aH i) _ ⟨rfl,rfl⟩ ?_ ?_
    · rintro k s hk ⟨rfl,hs⟩
      have hx := List.getElem?_eq_getElem hk
      have ew:IntKind.wrap .i64 ((i:Int) + (k:Int)) = ((i + k:Nat) : Int) := by rw [w64 (by omega) (by omega)]; omega
      rw [drop_at hx] at hs
      simp only [yj,Mo.den,aI,aN,aZ,aJ,aP,ltt hx,gid hx,cond_true,Option.bind_some,hi,ew]
      by_cases hq:i + k < n.aO.aQ.length
      · have hy := List.getElem?_eq_getElem hq
        rw [decide_eq_false (show ¬ (n.aO.aQ.length:Int) ≤ ((i + k:Nat) : Int) by omega),gid hy]
        simp only [cond_false,Option.bind_some,aed]
        rw [VJ]
        cases hse:nG n.aO.aQ[i + k] x.aH[k] with
        | true =>
          rw [LH hy hse] at hs
          exact ⟨_,rfl,inc k (by omega),hs⟩
        | false =>
          rw [E5 hy hse] at hs
          exact ⟨_,rfl,by rw [← hs]; rfl⟩
      · rw [BD (List.getElem?_eq_none (by omega))] at hs
        rw [decide_eq_true (show (n.aO.aQ.length:Int) ≤ ((i + k:Nat) : Int) by omega)]
        exact ⟨_,rfl,by rw [← hs]; rfl⟩
    · rintro s ⟨rfl,hs⟩
      rw [List.drop_eq_nil_of_le (Nat.le_refl _)] at hs
      have hs:none = _ := hs
      simp only [yj,Mo.den,aI,aN,aZ,aJ,aP,ltn,cond_false]
      exact ⟨_,rfl,by rw [← hs]; rfl⟩
  obtain ⟨r,h1,h2⟩ := h1
  simp only [Q32,ahu,Mo.den,aI,aN,aZ,aJ,aP,h1]
  rw [h2]
  cases dif n.aO.aQ x.aH i <;> rfl
theorem LK (m:aj) (x:ah) (i:Nat) (hi:x.aY = i) (hi2:i ≤ 20000) (he:x.aH.length ≤ 1000) : Q24 m x = some (VK (dif m.aQ x.aH i) (-1)) := by
  have h1:Tot (Em m x 0) (fun r=>r = (match dif m.aQ x.aH i with | some p=>.inl (p:Int) | none=>.inr ())) := by
    refine T.yP x.aH.length (by omega) (fun k s=>s = (k:Int) ∧ dif m.aQ (x.aH.drop k) (i + k) = dif m.aQ x.aH i) _ ⟨rfl,rfl⟩ ?_ ?_
    · rintro k s hk ⟨rfl,hs⟩
      have hx := List.getElem?_eq_getElem hk
      have ew:IntKind.wrap .i64 ((i:Int) + (k:Int)) = ((i + k:Nat) : Int) := by rw [w64 (by omega) (by omega)]; omega
      rw [drop_at hx] at hs
      simp only [Q24,Xz,Em,yC,Ej,Mo.den,aI,aN,aZ,aJ,aP,ltt hx,gid hx,cond_true,Option.bind_some,hi,ew]
      by_cases hq:i + k < m.aQ.length
      · have hy := List.getElem?_eq_getElem hq
        rw [decide_eq_true (show ((i + k:Nat) : Int) < (m.aQ.length:Int) by omega),gid hy]
        simp only [cond_true,Option.bind_some,ZA]
        cases hse:nG m.aQ[i + k] x.aH[k] with
        | true =>
          rw [LH hy hse] at hs
          exact ⟨_,rfl,inc k (by omega),hs⟩
        | false =>
          rw [E5 hy hse] at hs
          exact ⟨_,rfl,by rw [← hs]; rfl⟩
      · rw [BD (List.getElem?_eq_none (by omega))] at hs
        rw [decide_eq_false (show ¬ ((i + k:Nat) : Int) < (m.aQ.length:Int) by omega)]
        refine ⟨_,rfl,inc k (by omega),?_⟩
        rw [← hs]; exact aee (by omega)
    · rintro s ⟨rfl,hs⟩
      rw [List.drop_eq_nil_of_le (Nat.le_refl _)] at hs
      have hs:none = _ := hs
      simp only [Q24,Xz,Em,yC,Ej,Mo.den,aI,aN,aZ,aJ,aP,ltn,cond_false]
      exact ⟨_,rfl,by rw [← hs]; rfl⟩
  obtain ⟨r,h1,h2⟩ := h1
  simp only [Q24,Xz,Mo.den,aI,aN,aZ,aJ,aP,h1]
  rw [h2]
  cases dif m.aQ x.aH i <;> rfl
end Go.Proofs.YtdnafbfmaphhhaaGreatDoor
set_option linter.unusedSimpArgs false
set_option linter.unusedVariables false
namespace Go.Proofs.YtdnafbfmaphhhaaGreatDoor
open Go.RowKit
theorem Ad (d:Int) : VK none d = d := rfl
theorem sF (p:Nat) (d:Int) : VK (some p) d = (p:Int) := rfl
theorem agG (m:aj) (p:Nat) (c0 : 0 ≤ m.au) (hc:m.au ≤ p) (hp:p ≤ m.aQ.length) (hl:m.aQ.length ≤ 1000000) (hb:aW m.lf1 ≤ 100000000) : agb m (p:Int) = some (aj.mW m (m.aQ.take p),⟨m.fID,m.bD,(p:Int),m.aQ.drop p⟩) := by
  have h1:(if m.au > (p:Int) then m.au else (p:Int)) = (p:Int) := if_neg (by omega)
  have h2:(if (0:Int) > (p:Int) then (0:Int) else (p:Int)) = (p:Int) := if_neg (by omega)
  have h3:(if (m.aQ.length:Int) < (p:Int) then (m.aQ.length:Int) else (p:Int)) = (p:Int) := if_neg (by omega)
  have hbm := gX m
  have hd := lu ay.lf m.aQ p
  have e1 := iw (m.aQ.drop p) (by omega)
  have e2 := kH (aj.mW m (m.aQ.take p)) (by
    have ht := lq ay.lf m.aQ p
    rw [gX]
    show 12 + bG ((m.aQ.take p).map ay.lf) + bG (m.fNext.map lfI) + bG (m.bn.map lfI) ≤ _
    omega)
  simp only [agb,Vg,Mo.den,aI,aN,aZ,aJ,aP,h1,h2,h3,Int.toNat_natCast,e1,e2,Option.bind_some]
  rw [if_pos (by omega),if_pos (by omega)]
theorem aef (m:aj) (p:Nat) (c0 : 0 ≤ m.au) (hc:m.au ≤ p) (hp:p ≤ m.aQ.length) (hl:m.aQ.length ≤ 1000000) : ajR m (p:Int) = some (aj.mW m (m.aQ.take p),⟨m.fID,m.bD,(p:Int),m.aQ.drop p⟩) := by
  have h1:(if m.au > (p:Int) then m.au else (p:Int)) = (p:Int) := if_neg (by omega)
  have h2:(if (0:Int) > (p:Int) then (0:Int) else (p:Int)) = (p:Int) := if_neg (by omega)
  have h3:(if (m.aQ.length:Int) < (p:Int) then (m.aQ.length:Int) else (p:Int)) = (p:Int) := if_neg (by omega)
  have h4:(m.aQ.drop p).length ≤ 1000000 := by rw [List.length_drop]; omega
  have h5:(m.aQ.take p).length ≤ 1000000 := by rw [List.length_take]; omega
  simp only [ajR,adR,Mo.den,aI,aN,aZ,aJ,aP,h1,h2,h3,Int.toNat_natCast]
  rw [if_pos (by omega),if_pos (by simp only [List.length_nil]; omega),if_pos (by omega),if_pos (by simp only [List.length_nil]; omega)]
def noR:bF := ⟨-1,0,0,[]⟩
def SL (m:aj) (x:ah) (ok:Bool) (n:Int) : ah := ah.sOK (ah.mV (ah.jP (ah.jG (ah.sTo (ah.lD ah.z m.fID) x.dh) 4) m.bD) n) ok
theorem Ae (x:ah) (ok:Bool) (n:Int) (b:aF) (h:b.dw.length ≤ 1000) : ajo x ok n b = some ⟨b.aO,b.dw ++ [SL b.aO x ok n],b.eG⟩ := by
  simp only [ajo,acW,Mo.den,aI,aN,aZ,aJ,aP]
  rw [if_pos (by simp only [List.length_cons,List.length_nil]; omega)]; rfl
theorem VL (m:aj) (x:ah) (ok:Bool) (n:Int) : agr m x ok n = some [SL m x ok n] := by
  simp only [agr,adN,Mo.den,aI,aN,aZ,aJ,aP]; rfl
theorem aeg:alb = some noR := rfl
theorem LM:Q84 = some noR := rfl
def VN (x:ah) : Int := IntKind.wrap .i64 (x.aY + (x.aH.length:Int))
/-- are the entries refused -/
def LQ (m:aj) (x:ah) (i:Nat) : Bool :=
  decide ((m.aQ.length:Int) < x.aY) || (VG m.aQ x.aY != x.ku) || (match dif m.aQ x.aH i with | some p=>decide ((p:Int) < m.au) | none=>false) || decide (16384 < VN x)
theorem SN (x:ah) (b:aF) (i:Nat) (hi:x.aY = i) (hi2:i ≤ 20000) (he:x.aH.length ≤ 1000) (hl:b.aO.aQ.length ≤ 1000000) (c1:b.aO.au ≤ b.aO.aQ.length) : ajq x b = some (LQ b.aO x i) := by
  have h0:decide (x.aY < 0) = false := decide_eq_false (by omega)
  simp only [ajq,acZ,IY,Mo.den,aI,aN,aZ,aJ,aP,h0,cond_false,EY _ _ hl,Option.bind_some,Au x b i hi hi2 he,LQ]
  by_cases h1:(b.aO.aQ.length:Int) < x.aY
  · rw [decide_eq_true h1]; simp
  rw [decide_eq_false h1]
  simp only [cond_false,Option.bind_some,Bool.false_or]
  cases VG b.aO.aQ x.aY != x.ku with
  | true=>simp
  | false =>
    cases hd:dif b.aO.aQ x.aH i with
    | none =>
      have h2:¬ (b.aO.aQ.length:Int) < b.aO.au := by omega
      rw [Ad,decide_eq_false h2]; rfl
    | some p =>
      rw [sF]
      simp only [cond_false,Option.bind_some,Bool.false_or]
      by_cases h2:(p:Int) < b.aO.au
      · rw [decide_eq_true h2]; rfl
      · rw [decide_eq_false h2]; rfl
theorem VO (m:aj) (x:ah) (i:Nat) (hi:x.aY = i) (hl:m.aQ.length ≤ 1000000) : Vp x m (VK (dif m.aQ x.aH i) (-1)) = some (LQ m x i) := by
  unfold Vp RS
  simp only [Mo.den,aI,aN,aZ,aJ,aP,VH _ _ hl,Option.bind_some,LQ]
  by_cases h1:(m.aQ.length:Int) < x.aY
  · rw [decide_eq_true h1]; simp
  rw [decide_eq_false h1]
  simp only [cond_false,Bool.false_or]
  cases VG m.aQ x.aY != x.ku with
  | true=>simp
  | false =>
    cases hd:dif m.aQ x.aH i with
    | none=>rw [Ad]; rfl
    | some p =>
      rw [sF]
      simp only [cond_false,Bool.false_or,decide_eq_true (show (0:Int) ≤ (p:Int) by omega),cond_true]
      by_cases h2:(p:Int) < m.au
      · rw [decide_eq_true h2]; rfl
      · rw [decide_eq_false h2]; rfl
/-- what is taken -/
def ctS (m:aj) : Option Nat → aj × bF
  | none=>(m,noR)
  | some p=>(aj.mW m (m.aQ.take p),⟨m.fID,m.bD,(p:Int),m.aQ.drop p⟩)
def alN (m:aj) (x:ah) : Int := if (if VN x < x.au then VN x else x.au) > m.au then (if VN x < x.au then VN x else x.au) else m.au
def agH (m:aj) (x:ah) (i:Nat) : aj := aj.oO (aj.mW m (m.aQ ++ x.aH.drop (m.aQ.length - i))) (alN m x)
def SQ (m:aj) (x:ah) (i:Nat) : aj × List ah × bF :=
  let c := ctS m (dif m.aQ x.aH i)
  (agH c.1 x i,[SL (agH c.1 x i) x true (VN x)],c.2)
theorem XD (m:aj) (l:List ay) (i:Nat) (hi:i ≤ m.aQ.length) : i ≤ (ctS m (dif m.aQ l i)).1.aQ.length ∧ (ctS m (dif m.aQ l i)).1.aQ.length ≤ m.aQ.length := by
  cases h:dif m.aQ l i with
  | none=>exact ⟨hi,Nat.le_refl _⟩
  | some p =>
    have := LJ h
    show i ≤ (m.aQ.take p).length ∧ (m.aQ.take p).length ≤ _
    rw [List.length_take]; omega
theorem aeh (x:ah) (b:aF) (i:Nat) (hs:b.dw = []) (hr:b.eG = noR) (hi:x.aY = i) (hi2:i ≤ 20000) (he:x.aH.length ≤ 1000) (hl:b.aO.aQ.length ≤ 1000000) (hil:i ≤ b.aO.aQ.length) (c0 : 0 ≤ b.aO.au) (hc:∀ p,dif b.aO.aQ x.aH i = some p → b.aO.au ≤ p) (hb:aW b.aO.lf1 ≤ 10000000) (hx:bG (x.aH.map ay.lf) ≤ 10000000) : Q43 x b = some ⟨(SQ b.aO x i).1,(SQ b.aO x i).2.1,(SQ b.aO x i).2.2⟩ := by
  obtain ⟨m,s,r⟩ := b
  obtain rfl:s = [] := hs
  obtain rfl:r = noR := hr
  have hl:m.aQ.length ≤ 1000000 := hl
  have hil:i ≤ m.aQ.length := hil
  have hb:aW m.lf1 ≤ 10000000 := hb
  have hcl := XD m x.aH i hil
  have j0:KQ ⟨m,[],noR⟩ x (VK (dif m.aQ x.aH i) (m.aQ.length:Int)) = some (let c := ctS m (dif m.aQ x.aH i); (c.1.fID,c.1.dI,c.1.bD,c.1.je,c.1.dM,c.1.gJ,c.1.gI,c.1.fH,c.1.au,c.2.dX,c.2.bD,c.2.fAt,c.2.aH,c.1.aQ,c.1.fNext,c.1.bn)) := by
    unfold KQ Ed
    simp only [Mo.den,aI,aN,aZ,aJ,aP]
    cases h:dif m.aQ x.aH i with
    | none =>
      rw [Ad]
      rw [decide_eq_false (show ¬ (m.aQ.length:Int) < (m.aQ.length:Int) by omega)]; rfl
    | some p =>
      have hp := LJ h
      rw [sF]
      rw [decide_eq_true (show (p:Int) < (m.aQ.length:Int) by omega),agG m p c0 (hc p h) (by omega) hl (by omega)]; rfl
  simp only [Q43,ahy,Mo.den,aI,aN,aZ,aJ,aP,Au x ⟨m,[],noR⟩ i hi hi2 he,Option.bind_some,j0]
  generalize hcc:ctS m (dif m.aQ x.aH i) = c at hcl
  have j5:∀ r:(Int × Int × Int × Int × Int × Int × Int × Int × Int × Int × Int × Int × List ay × List ay × List Int × List Int),r.2.2.2.2.2.2.2.2.2.2.2.2.2.1 = c.1.aQ → KR ⟨m,[],noR⟩ x r = some (c.1.aQ ++ x.aH.drop (c.1.aQ.length - i)) := by
    intro r hr
    have hw:IntKind.wrap .i64 ((c.1.aQ.length:Int) - (i:Int)) = ((c.1.aQ.length - i:Nat) : Int) := by rw [w64 (by omega) (by omega)]; omega
    have hm:(if ((c.1.aQ.length - i:Nat) : Int) > 0 then ((c.1.aQ.length - i:Nat) : Int) else 0) = ((c.1.aQ.length - i:Nat) : Int) := by split <;> omega
    unfold KR Ef
    simp only [Mo.den,aI,aN,aZ,aJ,aP,hr,hi,hw,hm,Int.toNat_natCast]
    by_cases h:c.1.aQ.length - i < x.aH.length
    · have hd := lu ay.lf x.aH (c.1.aQ.length - i)
      rw [iLt h]
      simp only [cond_true,AU _ (Nat.le_trans hd hx),Option.bind_some]
      rw [if_pos (by omega),if_pos (by rw [List.length_drop]; omega)]
    · rw [XY h,List.drop_eq_nil_of_le (by omega),List.append_nil]; rfl
  rw [j5 _ rfl]
  simp only [Option.bind_some]
  rw [Ae _ _ _ _ (by simp)]
  simp only [SQ,hcc]
  rfl
theorem aei (x:ah) (c:aj × bF) (i:Nat) (hi:x.aY = i) (hi2:i ≤ 20000) (he:x.aH.length ≤ 1000) (hl:c.1.aQ.length ≤ 1000000) (hil:i ≤ c.1.aQ.length) : BA x c 0 c.1.aQ = some (c.1.aQ ++ x.aH.drop (c.1.aQ.length - i)) := by
  suffices h:Tot (BA x c 0 c.1.aQ) (fun r=>r = c.1.aQ ++ x.aH.drop (c.1.aQ.length - i)) by
    obtain ⟨r,h1,rfl⟩ := h; exact h1
  unfold BA
  refine T.yP x.aH.length (by omega) (fun k s=>s = ((k:Int),c.1.aQ ++ (x.aH.take k).drop (c.1.aQ.length - i))) _ (by simp) ?_ ?_
  · rintro k s hk rfl
    have hx := List.getElem?_eq_getElem hk
    have ew:IntKind.wrap .i64 ((i:Int) + (k:Int)) = ((i + k:Nat) : Int) := by rw [w64 (by omega) (by omega)]; omega
    unfold Aa Jd
    simp only [Mo.den,aI,aN,aZ,aJ,aP,ltt hx,gid hx,cond_true,Option.bind_some,hi,ew]
    have hlen:((x.aH.take k).drop (c.1.aQ.length - i)).length ≤ 1000 := by rw [List.length_drop,List.length_take]; omega
    rw [List.take_succ_eq_append_getElem hk]
    by_cases h:c.1.aQ.length ≤ i + k
    · rw [decide_eq_true (show (c.1.aQ.length : Int) ≤ ((i + k : Nat) : Int) by omega)]
      simp only [cond_true]
      rw [if_pos (by simp only [List.length_append,List.length_cons,List.length_nil]; omega)]
      refine ⟨_,rfl,?_⟩
      show (_,_) = (_,_)
      rw [inc k (by omega),List.drop_append_of_le_length (by rw [List.length_take]; omega),List.append_assoc]
    · rw [decide_eq_false (show ¬ (c.1.aQ.length : Int) ≤ ((i + k : Nat) : Int) by omega)]
      refine ⟨_,rfl,?_⟩
      show (_,_) = (_,_)
      rw [inc k (by omega),List.drop_eq_nil_of_le (by rw [List.length_take]; omega),List.drop_eq_nil_of_le (by simp only [List.length_append,List.length_take,List.length_cons,List.length_nil]; omega)]
  · rintro s rfl
    unfold Aa
    simp only [Mo.den,aI,aN,aZ,aJ,aP,ltn,cond_false]
    exact ⟨_,rfl,by rw [List.take_length]; rfl⟩
/-- what Entries answers -/
def alf (m:aj) (x:ah) : Int :=
  let a := if IntKind.wrap .i64 (x.aY - 1) < (m.aQ.length:Int) then IntKind.wrap .i64 (x.aY - 1) else (m.aQ.length:Int)
  if a > 0 then a else 0
def yU (m:aj) (x:ah) (i:Nat) : aj × List ah × bF :=
  if x.bD < m.bD then (m,[SL m x false 0],noR)
  else if x.bD = m.bD ∧ m.dM = 2 then (m,[],noR)
  else if LQ (iF m x) x i = true then (iF m x,[SL (iF m x) x false (alf (iF m x) x)],noR)
  else SQ (iF m x) x i
theorem E8 {m:aj} {x:ah} {i:Nat} (h:LQ m x i = false) : x.aY ≤ m.aQ.length ∧ (∀ p,dif m.aQ x.aH i = some p → m.au ≤ p) ∧ VN x ≤ 16384 := by
  unfold LQ at h
  simp only [Bool.or_eq_false_iff,decide_eq_false_iff_not] at h
  obtain ⟨⟨⟨h1,_⟩,h2⟩,h3⟩ := h
  refine ⟨by omega,fun p hp=>?_,by omega⟩
  rw [hp] at h2
  have := of_decide_eq_false h2
  omega
theorem SS (m:aj) (x:ah) : (bif x.bD == m.bD then some (m.dM == 2) else some false) = some (decide (x.bD = m.bD ∧ m.dM = 2)) := by
  by_cases h1:x.bD = m.bD
  · rw [show (x.bD == m.bD) = true by simp [h1]]
    by_cases h2:m.dM = 2
    · rw [show (m.dM == 2) = true by simp [h2],decide_eq_true ⟨h1,h2⟩]; rfl
    · rw [show (m.dM == 2) = false by simp [h2],decide_eq_false (fun h=>h2 h.2)]; rfl
  · rw [show (x.bD == m.bD) = false by simp [h1],decide_eq_false (fun h=>h1 h.1)]; rfl
theorem SV (m:aj) (x:ah) (i:Nat) (g:Good m) (px:LG m x) (hi:x.aY = i) (hb:aW m.lf1 ≤ 10000000) (hx:bG (x.aH.map ay.lf) ≤ 10000000) : Q35 x ⟨m,[],noR⟩ = some ⟨(yU m x i).1,(yU m x i).2.1,(yU m x i).2.2⟩ := by
  have lg := g.lg
  have c0 := g.c0
  have c1 := g.c1
  have i1 := px.i1
  have he := px.es
  obtain ⟨fl,fc,fi⟩ := EZ m x
  have hfb := Jz m x
  have hj:∃ r j,KT ⟨m,[],noR⟩ x = some r ∧ KU ⟨m,[],noR⟩ x r = some j ∧ aj.mk r.1 r.2.1 r.2.2.1 r.2.2.2.1 j.1 x.dh (IntKind.wrap .i64 (10 + (IntKind.wrap .i64 (3 * r.1)))) j.2 r.2.2.2.2.2.2.2.2.2.1 r.2.2.2.2.2.2.2.2.1 r.2.2.2.2.2.2.2.2.2.2.1 r.2.2.2.2.2.2.2.2.2.2.2 = iF m x := by
    unfold KT Ei KU I7 iF
    simp only [Mo.den,aI,aN,aZ,aJ,aP]
    by_cases h:m.bD < x.bD
    · have hs : stepS m x.bD = ⟨m.fID, m.dI, x.bD, -1, 0, -1, if m.dM = 2 then tim m.fID else m.gI, 0, m.aQ, m.au, [], []⟩ := if_neg (by omega)
      rw [decide_eq_true h,if_pos h,aec m _ (by omega),hs]
      exact ⟨_,(0,0),rfl,rfl,rfl⟩
    · rw [decide_eq_false h,if_neg h]
      by_cases hr:m.dM = 1
      · refine ⟨_, (0, 0), rfl, ?_, by rw [if_pos hr]; rfl⟩
        show (bif m.dM == 1 then some ((0:Int),(0:Int)) else some (m.dM,m.fH)) = _
        rw [show (m.dM == 1) = true by simp [hr]]; rfl
      · refine ⟨_, (m.dM, m.fH), rfl, ?_, by rw [if_neg hr]; rfl⟩
        show (bif m.dM == 1 then some ((0:Int),(0:Int)) else some (m.dM,m.fH)) = _
        rw [show (m.dM == 1) = false by simp [hr]]; rfl
  obtain ⟨r,j,hr,hjj,hm⟩ := hj
  have hlog:r.2.2.2.2.2.2.2.2.2.1 = (iF m x).aQ := by rw [← hm]
  unfold Q35 ahz RI
  simp only [Mo.den,aI,aN,aZ,aJ,aP,SS,Option.bind_some,hr,hjj,hm,yU]
  by_cases h1:x.bD < m.bD
  · rw [decide_eq_true h1,if_pos h1]
    simp only [cond_true]
    rw [Ae _ _ _ _ (by simp)]; rfl
  rw [decide_eq_false h1,if_neg h1]
  simp only [cond_false]
  by_cases h2:x.bD = m.bD ∧ m.dM = 2
  · rw [decide_eq_true h2,if_pos h2]; rfl
  rw [decide_eq_false h2,if_neg h2]
  simp only [cond_false]
  rw [SN x ⟨iF m x,[],noR⟩ i hi (by omega) (by omega) (by show (iF m x).aQ.length ≤ _; rw [fl]; omega) (by show (iF m x).au ≤ ((iF m x).aQ.length:Int); rw [fl,fc]; exact c1)]
  simp only [Option.bind_some]
  cases hq:LQ (iF m x) x i with
  | true =>
    simp only [cond_true,if_true,hlog]
    rw [Ae _ _ _ _ (by simp)]; rfl
  | false =>
    obtain ⟨k1,k2,k3⟩ := E8 hq
    simp only [cond_false]
    rw [aeh x ⟨iF m x,[],noR⟩ i rfl rfl hi (by omega) (by omega) (by show (iF m x).aQ.length ≤ _; rw [fl]; omega) (by show i ≤ (iF m x).aQ.length; omega) (by show 0 ≤ (iF m x).au; rw [fc]; exact c0) k2 (by show aW (iF m x).lf1 ≤ _; omega) hx]
    rfl
theorem SX (m:aj) (x:ah) (i:Nat) (g:Good m) (px:LG m x) (hi:x.aY = i) (hb:aW m.lf1 ≤ 10000000) (hx:bG (x.aH.map ay.lf) ≤ 10000000) : ajX m x = some (yU m x i) := by
  unfold ajX adY
  simp only [Mo.den,aI,aN,aZ,aJ,aP,EX m (by omega),LM,Option.bind_some,SV m x i g px hi hb hx]
theorem LU (m:aj) (x:ah) (i:Nat) (g:Good m) (px:LG m x) (hi:x.aY = i) (hb:aW m.lf1 ≤ 10000000) (hx:bG (x.aH.map ay.lf) ≤ 10000000) : Q20 m x = some (yU m x i) := by
  have lg := g.lg
  have c0 := g.c0
  have c1 := g.c1
  have i1 := px.i1
  have he := px.es
  obtain ⟨fl,fc,fi⟩ := EZ m x
  unfold Q20 ahB RQ
  simp only [Mo.den,aI,aN,aZ,aJ,aP,SS,Option.bind_some,VL,aeg,SK,yU]
  by_cases h1:x.bD < m.bD
  · rw [decide_eq_true h1,if_pos h1]; rfl
  rw [decide_eq_false h1,if_neg h1]
  simp only [cond_false]
  by_cases h2:x.bD = m.bD ∧ m.dM = 2
  · rw [decide_eq_true h2,if_pos h2]; rfl
  rw [decide_eq_false h2,if_neg h2]
  simp only [cond_false]
  rw [LK (iF m x) x i hi (by omega) (by omega)]
  simp only [Option.bind_some]
  rw [VO (iF m x) x i hi (by rw [fl]; omega)]
  simp only [Option.bind_some]
  cases hq:LQ (iF m x) x i with
  | true =>
    simp only [cond_true,if_true]
    have hba:∀ a:Int,(if 0 > a then 0 else a) = (if a > 0 then a else 0) := fun a=>by split <;> split <;> omega
    rw [hba]; rfl
  | false =>
    obtain ⟨k1,k2,k3⟩ := E8 hq
    have hcl := XD (iF m x) x.aH i (by omega)
    have hfl:(iF m x).aQ.length ≤ 200 := by rw [fl]; exact lg
    have j10:Bz x (iF m x) (VK (dif (iF m x).aQ x.aH i) (-1)) noR = some (ctS (iF m x) (dif (iF m x).aQ x.aH i)) := by
      unfold Bz zY
      simp only [Mo.den,aI,aN,aZ,aJ,aP]
      cases h:dif (iF m x).aQ x.aH i with
      | none=>rfl
      | some p =>
        have hp := LJ h
        rw [sF]
        rw [decide_eq_true (show (0:Int) ≤ (p:Int) by omega),aef (iF m x) p (by omega) (k2 p h) (by omega) (by rw [fl]; omega)]; rfl
    simp only [cond_false,j10,Option.bind_some]
    rw [if_pos (by simp only [List.length_nil]; omega),aei x _ i hi (by omega) (by omega) (by omega) hcl.1]
    rfl
theorem LV (x:ah) : bG (x.aH.map ay.lf) ≤ aW x.lf1 := by simp only [ah.lf1,aW,Lf.bulk]; omega
theorem pz (r:bF) (hb:bG (r.aH.map ay.lf) ≤ 100000000) : Q56 r r = some true := by
  unfold Q56 ahF Jq Jp Sz Sv
  simp only [Mo.den,aI,aN,aZ,aJ,aP,BEq.rfl,cond_true,Option.bind_some,kT _ hb]
theorem aej (m:aj) (o:Option Nat) : aW (ctS m o).1.lf1 ≤ aW m.lf1 ∧ bG ((ctS m o).2.aH.map ay.lf) ≤ aW m.lf1 := by
  have hbm := gX m
  cases o with
  | none=>exact ⟨Nat.le_refl _,Nat.zero_le _⟩
  | some p =>
    have ht := lq ay.lf m.aQ p
    have hd := lu ay.lf m.aQ p
    refine ⟨?_,?_⟩
    · rw [gX]
      show 12 + bG ((m.aQ.take p).map ay.lf) + bG (m.fNext.map lfI) + bG (m.bn.map lfI) ≤ _
      omega
    · show bG ((m.aQ.drop p).map ay.lf) ≤ _
      omega
theorem ZB (m:aj) (x:ah) (i:Nat) : aW (agH m x i).lf1 ≤ aW m.lf1 + bG (x.aH.map ay.lf) := by
  have hd := lu ay.lf x.aH (m.aQ.length - i)
  have ha := su (m.aQ.map ay.lf) ((x.aH.drop (m.aQ.length - i)).map ay.lf)
  rw [← List.map_append] at ha
  rw [gX,gX m]
  show 12 + bG ((m.aQ ++ x.aH.drop (m.aQ.length - i)).map ay.lf) + bG (m.fNext.map lfI) + bG (m.bn.map lfI) ≤ _
  omega
theorem aek (m:aj) (x:ah) (i:Nat) (hb:aW m.lf1 ≤ 10000000) (hx:bG (x.aH.map ay.lf) ≤ 10000000) : Q14 (yU m x i).1 (yU m x i).1 = some true ∧ Q1 (yU m x i).2.1 (yU m x i).2.1 = some true ∧ Q56 (yU m x i).2.2 (yU m x i).2.2 = some true := by
  have hfb := Jz m x
  have one : ∀ f ok n, Q1 [SL f x ok n] [SL f x ok n] = some true := fun f ok n => nN _ (by simp) fun y hy => by
    obtain rfl:y = SL f x ok n := by simpa using hy
    exact Nat.zero_le _
  have nil:Q1 [] [] = some true := nN [] (by simp) (by simp)
  have rep:Q56 noR noR = some true := pz _ (Nat.zero_le _)
  unfold yU
  split
  · exact ⟨jI m (by omega),one _ _ _,rep⟩
  · split
    · exact ⟨jI m (by omega),nil,rep⟩
    · split
      · exact ⟨jI (iF m x) (by omega),one _ _ _,rep⟩
      · have h1 := aej (iF m x) (dif (iF m x).aQ x.aH i)
        have h2 := ZB (ctS (iF m x) (dif (iF m x).aQ x.aH i)).1 x i
        exact ⟨jI _ (by show aW (agH (ctS (iF m x) (dif (iF m x).aQ x.aH i)).1 x i).lf1 ≤ _; omega),one _ _ _,pz _ (by show bG ((ctS (iF m x) (dif (iF m x).aQ x.aH i)).2.aH.map ay.lf) ≤ _; omega)⟩
theorem SY (m:aj) (x:ah) (hb:aW m.lf1 ≤ 10000000) (hx:bG (x.aH.map ay.lf) ≤ 10000000) : Q17 m x = some true := by
  unfold Q17 ahG Jt Js Jr Ld Ac SB SA
  obtain ⟨b,hg,hG⟩ := ad7 m (by omega)
  obtain ⟨c,hp,hP⟩ := VI m x (by omega)
  simp only [Mo.den,aI,aN,aZ,aJ,aP,hg,hp,Option.bind_some,Zt]
  cases b with
  | false=>rfl
  | true =>
    cases c with
    | false=>rfl
    | true =>
      simp only [Bool.not_true,cond_false,Option.bind_some]
      by_cases hk:x.aU = 3
      · rw [show (x.aU != 3) = false by simp [hk]]
        have g := hG rfl
        have px := hP rfl
        have i0 := px.i0
        have hi:x.aY = ((x.aY.toNat:Nat) : Int) := by omega
        have h := aek m x x.aY.toNat hb hx
        simp only [cond_false,SX m x x.aY.toNat g px hi hb hx,LU m x x.aY.toNat g px hi hb hx,h.1,h.2.1,h.2.2,Option.bind_some,cond_true]
      · rw [show (x.aU != 3) = true by simp [hk]]; rfl
end Go.Proofs.YtdnafbfmaphhhaaGreatDoor
