/- The commit point of a primary, in plain words. -/
import Derived.Test.YtdnafbfmaphhhaaGreatDoorQV8
set_option linter.unusedSimpArgs false
set_option linter.unusedVariables false
namespace Go.Proofs.YtdnafbfmaphhhaaGreatDoor
open Go.RowKit
/-- an element, 0 behind the end -/
def ia (l:List Int) (k:Nat) : Int := l[k]?.getD 0
theorem kQ {l:List Int} {k:Nat} (h:k < l.length) : bP l (k:Int) = some (ia l k) := by
  rw [wG,ia,List.getElem?_eq_getElem h]; rfl
theorem G9 (l:List Int) (k:Nat) (v:Int) (p:Nat) (h:k < l.length) : ia (l.set k v) p = if p = k then v else ia l p := by
  unfold ia
  by_cases e:p = k
  · subst e; rw [if_pos rfl,List.getElem?_set_self h]; rfl
  · rw [if_neg e,List.getElem?_set_ne (fun x=>e x.symm)]
theorem OH {l:List Int} {k:Nat} (h:k < l.length) : l[k] = ia l k := by
  unfold ia; rw [List.getElem?_eq_getElem h]; rfl
/-- sorted up to i, but for place j -/
def Srt (l:List Int) (i j:Nat) : Prop := ∀ p q,p < q → q < i → q ≠ j → ia l p ≤ ia l q
theorem agm (x y:Int) : aib x y = some (decide (x < y)) := by
  simp only [aib,aft,FP,KP,KO,Mo.den,aC,aF,aS,aG,aK,anf,afs,Mo.den,aC,aF,aS,aG,aK]
  simp
theorem swap_perm (l:List Int) (j:Nat) (h:j + 1 < l.length) : ((l.set (j + 1) (ia l j)).set j (ia l (j + 1))).Perm l := by
  have := List.set_set_perm (show j + 1 < l.length from h) (show j < l.length by omega)
  rwa [OH,OH] at this
theorem agn (l:List Int) (i j:Nat) (hi:i < l.length) (hj:j + 1 ≤ i) (hs:Srt l (i + 1) (j + 1)) (h:ia l (j + 1) < ia l j) : Srt ((l.set (j + 1) (ia l j)).set j (ia l (j + 1))) (i + 1) j := by
  intro p q h1 h2 h3
  have hl1:j < (l.set (j + 1) (ia l j)).length := by rw [List.length_set]; omega
  rw [G9 _ j _ p hl1,G9 _ j _ q hl1,G9 l (j + 1) _ p (by omega),G9 l (j + 1) _ q (by omega),if_neg h3]
  by_cases e1:q = j + 1
  · rw [if_pos e1]
    by_cases e2:p = j
    · rw [if_pos e2]; omega
    · rw [if_neg e2, if_neg (by omega)]
      exact hs p j (by omega) (by omega) (by omega)
  · rw [if_neg e1]
    by_cases e2:p = j
    · rw [if_pos e2]; exact hs (j + 1) q (by omega) (by omega) (by omega)
    · rw [if_neg e2]
      by_cases e3:p = j + 1
      · rw [if_pos e3]; exact hs j q (by omega) (by omega) (by omega)
      · rw [if_neg e3]; exact hs p q h1 h2 e1
theorem abJ (l:List Int) (b i:Int) (j:Nat) (h:j < l.length) (hl:l.length ≤ 1000) : XQ l 0 b i (j:Int) = some (decide (0 < j ∧ ia l j < ia l (j - 1))) := by
  unfold XQ UZ
  simp only [Mo.den,aC,aF,aS,aG,aK]
  by_cases h0 : 0 < j
  · have e : IntKind.wrap .i64 ((j : Int) - 1) = ((j - 1 : Nat) : Int) := by rw [w64 (by omega) (by omega)]; omega
    rw [decide_eq_true (show (0:Int) < (j:Int) by omega),e,kQ h,kQ (by omega)]
    simp only [cond_true,Option.bind_some,agm,h0,true_and]
  · rw [decide_eq_false (show ¬ (0:Int) < (j:Int) by omega),decide_eq_false (by omega)]; rfl
theorem aiE (l0:List Int) (i:Nat) (b:Int) (hi:i < l0.length) (hl:l0.length ≤ 1000) (hs:Srt l0 i i) : Tot (XR 0 b (i:Int) (i:Int) l0) (fun r=>r.Perm l0 ∧ Srt r (i + 1) (i + 1)) := by
  unfold XR
  refine jV (fun v=>∃ j:Nat,v.1 = (j:Int) ∧ j ≤ i ∧ v.2.Perm l0 ∧ Srt v.2 (i + 1) j) (fun v=>v.1.toNat) _ ?_ FU _ ⟨i,rfl,Nat.le_refl _,List.Perm.refl _,fun p q h1 h2 h3=>hs p q h1 (by omega) h3⟩ (jm (by show (i:Int).toNat ≤ _; omega))
  rintro ⟨jj,l⟩ ⟨j,h1,h2,h3,h4⟩
  obtain rfl:jj = (j:Int) := h1
  have h3:l.Perm l0 := h3
  have h4:Srt l (i + 1) j := h4
  have hlen := h3.length_eq
  unfold U0
  simp only [Mo.den,aC,aF,aS,aG,aK]
  rw [abJ l b i j (by omega) (by omega)]
  simp only [Option.bind_some]
  by_cases hc : 0 < j ∧ ia l j < ia l (j - 1)
  · obtain ⟨k, rfl⟩ : ∃ k, j = k + 1 := ⟨j - 1, by omega⟩
    have hc2:ia l (k + 1) < ia l k := hc.2
    have e:IntKind.wrap .i64 (((k + 1:Nat) : Int) - 1) = (k:Int) := by rw [w64 (by omega) (by omega)]; omega
    have e2:((k + 1:Nat) : Int).toNat = k + 1 := by omega
    have e3:(k:Int).toNat = k := by omega
    rw [decide_eq_true hc,e,kQ (l := l) (by omega),kQ (l := l) (by omega)]
    simp only [cond_true,Option.bind_some,e2,e3]
    rw [kQ (by simp; omega)]
    exact .inl ⟨_,rfl,⟨k,rfl,by omega,(swap_perm l k (by omega)).trans h3,agn l i k (by omega) (by omega) h4 hc2⟩,by show (k:Int).toNat < ((k + 1:Nat) : Int).toNat; omega⟩
  · rw [decide_eq_false hc]
    refine .inr ⟨l,rfl,h3,fun p q k1 k2 k3=>?_⟩
    by_cases e:q = j
    · subst e
      have h5:ia l (q - 1) ≤ ia l q := by have:¬ ia l q < ia l (q - 1) := fun x=>hc ⟨by omega,x⟩; omega
      by_cases e:p = q - 1
      · rw [e]; exact h5
      · exact Int.le_trans (h4 p (q - 1) (by omega) (by omega) (by omega)) h5
    · exact h4 p q k1 k2 e
theorem agp (l0:List Int) (hl:l0.length ≤ 1000) : Tot (Q33 0 (l0.length:Int) l0) (fun r=>r.Perm l0 ∧ Srt r l0.length l0.length) := by
  unfold Q33 ajB
  simp only [Mo.den,aC,aF,aS,aG,aK]
  refine T.bind (R := fun r=>r.Perm l0 ∧ Srt r l0.length l0.length) ?_ fun r h=>T.ret h
  unfold ZL
  have e1:IntKind.wrap .i64 ((0:Int) + 1) = 1 := by decide
  rw [e1]
  refine jV (fun v=>∃ i:Nat,v.1 = (i:Int) ∧ 1 ≤ i ∧ i ≤ l0.length + 1 ∧ v.2.Perm l0 ∧ Srt v.2 i i) (fun v=>2000 - v.1.toNat) _ ?_ FU _ ⟨1,rfl,by omega,by omega,List.Perm.refl _,fun p q h1 h2 h3=>by omega⟩ (jm (by omega))
  rintro ⟨ii,l⟩ ⟨i,h1,h1',h2,h3,h4⟩
  obtain rfl:ii = (i:Int) := h1
  have h3:l.Perm l0 := h3
  have h4:Srt l i i := h4
  have hlen := h3.length_eq
  unfold KQ
  simp only [Mo.den,aC,aF,aS,aG,aK]
  by_cases hc:i < l0.length
  · obtain ⟨r, k1, k2, k3⟩ := aiE l i (l0.length : Int) (by omega) (by omega) h4
    rw [iLt hc,k1]
    simp only [cond_true,Option.bind_some]
    rw [inc i (by omega)]
    exact .inl ⟨_,rfl,⟨i + 1,rfl,by omega,by omega,k2.trans h3,k3⟩,by show 2000 - ((i + 1:Nat) : Int).toNat < 2000 - (i:Int).toNat; omega⟩
  · rw [PI hc]
    exact .inr ⟨l,rfl,h3,fun p q k1 k2 k3=>h4 p q k1 (by omega) (by omega)⟩
theorem aiF (n:Nat) (h:n ≤ 7) : Tot (ane (IntKind.wrap .u64 (n:Int))) Any := by
  have:n = 0 ∨ n = 1 ∨ n = 2 ∨ n = 3 ∨ n = 4 ∨ n = 5 ∨ n = 6 ∨ n = 7 := by omega
  rcases this with rfl | rfl | rfl | rfl | rfl | rfl | rfl | rfl
  · exact ⟨0,by kernel_rfl,trivial⟩
  · exact ⟨1,by kernel_rfl,trivial⟩
  · exact ⟨2,by kernel_rfl,trivial⟩
  · exact ⟨2,by kernel_rfl,trivial⟩
  · exact ⟨3,by kernel_rfl,trivial⟩
  · exact ⟨3,by kernel_rfl,trivial⟩
  · exact ⟨3,by kernel_rfl,trivial⟩
  · exact ⟨3,by kernel_rfl,trivial⟩
theorem aiG (l:List Int) (hl:l.length ≤ 12) (lim:Int) (n:Nat) (hn : 0 < n) : Tot ((BG n).m1 0 (l.length:Int) lim l) (fun r=>r.Perm l ∧ Srt r l.length l.length) := by
  obtain ⟨k,rfl⟩ : ∃ k,n = k + 1 := ⟨n - 1,by omega⟩
  show Tot (Mo.den (ZM (BG k) 0 (l.length:Int) lim l)) _
  unfold ZM
  simp only [Mo.den,aC,aF,aS,aG,aK]
  refine T.bind (R := fun r=>r.Perm l ∧ Srt r l.length l.length) ?_ fun r h=>T.ret h
  unfold afv
  refine T.uM 0 (by omega) (fun _ _=>True) _ trivial (fun k s h=>by omega) fun s _=>?_
  unfold U1
  simp only [Mo.den,aC,aF,aS,aG,aK]
  rw [w64 (by omega) (by omega),decide_eq_true (show (l.length:Int) - 0 ≤ 12 by omega)]
  simp only [cond_true]
  exact T.bind (agp l (by omega)) fun r h=>T.ret h
theorem agq (l:List Int) (hl:l.length ≤ 7) : Tot (aif l) (fun r=>r.Perm l ∧ Srt r l.length l.length) := by
  unfold aif afw
  simp only [Mo.den,aC,aF,aS,aG,aK]
  refine T.bind (aiF l.length hl) fun b _=>?_
  refine T.bind (R := fun r=>r.Perm l ∧ Srt r l.length l.length) ?_ fun r h=>T.ret h
  unfold Q81
  exact aiG l (by omega) b FU (jm (by omega))
/-- how many have come to v -/
def cnt (l:List Int) (v:Int) : Nat := l.countP (fun x=>decide (v ≤ x))
theorem Yl (s:List Int) (k:Nat) (v:Int) (hk:k < s.length) (hs:Srt s s.length s.length) : v ≤ ia s k ↔ s.length - k ≤ cnt s v := by
  have hmem:∀ {p:Nat} {a:Int},s[p]? = some a → ia s p = a := fun h=>by unfold ia; rw [h]; rfl
  constructor
  · intro h
    have h1:cnt s v = cnt (s.take k) v + cnt (s.drop k) v := by unfold cnt; rw [← List.countP_append,List.take_append_drop]
    have h2:cnt (s.drop k) v = (s.drop k).length := by
      unfold cnt
      rw [List.countP_eq_length]
      intro a ha
      obtain ⟨i,hi⟩ := List.mem_iff_getElem?.1 ha
      rw [List.getElem?_drop] at hi
      have hlt := (List.getElem?_eq_some_iff.1 hi).1
      have h3 := hmem hi
      have h4:ia s k ≤ ia s (k + i) := by
        by_cases e:i = 0
        · subst e; exact Int.le_refl _
        · exact hs k (k + i) (by omega) hlt (by omega)
      exact decide_eq_true (by omega)
    rw [h1,h2,List.length_drop]; omega
  · intro h
    apply Decidable.byContradiction
    intro hn
    have h1:cnt s v = cnt (s.take (k + 1)) v + cnt (s.drop (k + 1)) v := by unfold cnt; rw [← List.countP_append,List.take_append_drop]
    have h2:cnt (s.take (k + 1)) v = 0 := by
      unfold cnt
      rw [List.countP_eq_zero]
      intro a ha
      obtain ⟨i,hi⟩ := List.mem_iff_getElem?.1 ha
      rw [List.getElem?_take] at hi
      split at hi
      · rename_i hik
        have h3 := hmem hi
        have h4:ia s i ≤ ia s k := by
          by_cases e:i = k
          · subst e; exact Int.le_refl _
          · exact hs i k (by omega) hk (by omega)
        simp only [decide_eq_true_eq]; omega
      · cases hi
    have h3:cnt (s.drop (k + 1)) v ≤ s.length - (k + 1) := by
      have := List.countP_le_length (p := fun x=>decide (v ≤ x)) (l := s.drop (k + 1))
      rwa [List.length_drop] at this
    omega
/-- the reference's count -/
theorem abK (m:aj) (v:Int) (hl:m.bg.length ≤ 1000) : Oa m v 0 0 = some (cnt m.bg v:Int) := by
  suffices h:Tot (Oa m v 0 0) (fun r=>r = (cnt m.bg v:Int)) by
    obtain ⟨r,h1,rfl⟩ := h; exact h1
  unfold Oa
  refine T.uM m.bg.length (by omega) (fun k s=>s = ((cnt (m.bg.take k) v:Int),(k:Int))) _ rfl ?_ ?_
  · rintro k s hk rfl
    have hx := List.getElem?_eq_getElem hk
    have hc:cnt (m.bg.take (k + 1)) v = cnt (m.bg.take k) v + (if v ≤ m.bg[k] then 1 else 0) := by
      unfold cnt
      rw [List.take_add_one,hx,List.countP_append]
      simp only [Option.toList,List.countP_cons,List.countP_nil,Nat.zero_add,decide_eq_true_eq]
    have hb:cnt (m.bg.take k) v ≤ 1000 := by
      have h1 := List.countP_le_length (p := fun x=>decide (v ≤ x)) (l := m.bg.take k)
      have h2:(m.bg.take k).length ≤ k := List.length_take_le _ _
      unfold cnt; omega
    unfold F6 Vd
    simp only [Mo.den,aC,aF,aS,aG,aK]
    rw [iLt hk,gid hx,inc k (by omega)]
    simp only [cond_true,Option.bind_some]
    by_cases e:v ≤ m.bg[k]
    · rw [decide_eq_true e, inc _ (by omega)]
      rw [if_pos e] at hc
      exact ⟨_,rfl,by rw [hc]; rfl⟩
    · rw [decide_eq_false e]
      rw [if_neg e] at hc
      exact ⟨_,rfl,by rw [hc]; rfl⟩
  · rintro s rfl
    unfold F6
    simp only [Mo.den,aC,aF,aS,aG,aK]
    rw [PI (Nat.lt_irrefl _)]
    exact ⟨_,rfl,by rw [List.take_length]; rfl⟩
/-- the new commit point, seen from k downwards -/
def trm (m:aj) (k:Nat) : Int := match m.aP[k]? with | some e=>e.bf | none=>0
def uO (m:aj) (med:Int) : Nat → Int
  | 0=>m.au
  | k + 1=>if m.au < ((k + 1:Nat) : Int) then (if ((k + 1:Nat) : Int) ≤ med ∧ trm m k = m.bf then ((k + 1:Nat) : Int) else uO m med k) else m.au
theorem uD (m:aj) (med:Int) (k:Nat) : uO m med (k + 1) = if m.au < ((k + 1:Nat) : Int) then (if ((k + 1:Nat) : Int) ≤ med ∧ trm m k = m.bf then ((k + 1:Nat) : Int) else uO m med k) else m.au := rfl
theorem He (m:aj) (med:Int) : ∀ k:Nat,(k:Int) ≤ m.au → uO m med k = m.au
  | 0,_=>rfl
  | k + 1,h=>by rw [uD,if_neg (by omega)]
theorem VG (m:aj) (b:Nat) : ∀ k:Nat,uO m (b:Int) (b + k) = uO m (b:Int) b
  | 0=>rfl
  | k + 1=>by
    show uO m (b:Int) (b + k + 1) = _
    have ih := VG m b k
    rw [uD]
    by_cases h:m.au < ((b + k + 1:Nat) : Int)
    · rw [if_pos h,if_neg (by omega)]; exact ih
    · rw [if_neg h]
      exact (He m b b (by omega)).symm
theorem agr (m:aj) (med:Int) (K:Nat) (hK:(K:Int) ≤ med) (hl:K ≤ m.aP.length) (hb:m.aP.length ≤ 100000) (h0 : 0 ≤ m.au) : Tot (Dq m (K:Int)) (fun r=>(if m.au > r then m.au else r) = uO m med K) := by
  unfold Dq
  refine jV (fun v=>∃ k:Nat,v = (k:Int) ∧ k ≤ K ∧ uO m med k = uO m med K) (fun v=>v.toNat) _ ?_ FU _ ⟨K,rfl,Nat.le_refl _,rfl⟩ (jm (by omega))
  rintro v ⟨k,rfl,h1,h2⟩
  unfold BH KR
  simp only [Mo.den,aC,aF,aS,aG,aK]
  by_cases hc:m.au < (k:Int)
  · obtain ⟨j, rfl⟩ : ∃ j, k = j + 1 := ⟨k - 1, by omega⟩
    have e:IntKind.wrap .i64 (((j + 1:Nat) : Int) - 1) = (j:Int) := by rw [w64 (by omega) (by omega)]; omega
    have hx := List.getElem?_eq_getElem (l := m.aP) (i := j) (by omega)
    have ht:trm m j = (m.aP[j]'(by omega)).bf := by unfold trm; rw [hx]
    rw [decide_eq_true hc,decide_eq_true (show (0:Int) < ((j + 1:Nat) : Int) by omega),e,gid hx]
    simp only [cond_true,Option.bind_some]
    rw [uD] at h2
    rw [if_pos hc] at h2
    by_cases he:(m.aP[j]'(by omega)).bf = m.bf
    · rw [if_pos ⟨by omega, ht.trans he⟩] at h2
      have hne:((m.aP[j]'(by omega)).bf != m.bf) = false := by simp [he]
      rw [hne]
      exact .inr ⟨_,rfl,by rw [if_neg (by omega)]; exact h2⟩
    · rw [if_neg (fun x=>he (ht.symm.trans x.2))] at h2
      have hne:((m.aP[j]'(by omega)).bf != m.bf) = true := by simp [he]
      rw [hne]
      exact .inl ⟨_,rfl,⟨j,rfl,by omega,h2⟩,by omega⟩
  · rw [decide_eq_false hc]
    refine .inr ⟨(k:Int),rfl,?_⟩
    rw [← h2,He m med k (by omega)]
    split <;> omega
/-- what the reference comes to -/
def ajL (m:aj) (med:Int) : Prop := ∀ v:Int,v ≤ med ↔ maj m.bW ≤ (cnt m.bg v:Int)
theorem ags (m:aj) (med:Int) (hm:ajL m med) (hl:m.bg.length ≤ 1000) (hb:m.aP.length ≤ 100000) (h0 : 0 ≤ m.au) : Tot (Dw m (m.aP.length:Int)) (fun r=>(match r with | .inl o=>o | .inr _=>m.au) = uO m med m.aP.length) := by
  unfold Dw
  refine jV (fun v=>∃ k:Nat,v = (k:Int) ∧ k ≤ m.aP.length ∧ uO m med k = uO m med m.aP.length) (fun v=>v.toNat) _ ?_ FU _ ⟨_,rfl,Nat.le_refl _,rfl⟩ (jm (by omega))
  rintro v ⟨k,rfl,h1,h2⟩
  unfold BN Lj
  simp only [Mo.den,aC,aF,aS,aG,aK]
  rw [abK m (k:Int) hl,lM]
  simp only [Option.bind_some]
  by_cases hc:m.au < (k:Int)
  · obtain ⟨j, rfl⟩ : ∃ j, k = j + 1 := ⟨k - 1, by omega⟩
    have e:IntKind.wrap .i64 (((j + 1:Nat) : Int) - 1) = (j:Int) := by rw [w64 (by omega) (by omega)]; omega
    have hx := List.getElem?_eq_getElem (l := m.aP) (i := j) (by omega)
    have ht:trm m j = (m.aP[j]'(by omega)).bf := by unfold trm; rw [hx]
    have hmv := hm ((j + 1:Nat) : Int)
    rw [decide_eq_true hc,e,gid hx]
    rw [uD] at h2
    rw [if_pos hc] at h2
    simp only [cond_true,Option.bind_some]
    by_cases hq:maj m.bW ≤ (cnt m.bg ((j + 1:Nat) : Int) : Int)
    · rw [decide_eq_true hq]
      by_cases he:(m.aP[j]'(by omega)).bf = m.bf
      · rw [if_pos ⟨hmv.2 hq,ht.trans he⟩] at h2
        have hne:((m.aP[j]'(by omega)).bf == m.bf) = true := by simp [he]
        rw [hne]
        exact .inr ⟨_,rfl,h2⟩
      · rw [if_neg (fun x=>he (ht.symm.trans x.2))] at h2
        have hne:((m.aP[j]'(by omega)).bf == m.bf) = false := by simp [he]
        rw [hne]
        exact .inl ⟨_,rfl,⟨j,rfl,by omega,h2⟩,by omega⟩
    · rw [if_neg (fun x=>hq (hmv.1 x.1))] at h2
      rw [decide_eq_false hq]
      exact .inl ⟨_,rfl,⟨j,rfl,by omega,h2⟩,by omega⟩
  · rw [decide_eq_false hc]
    refine .inr ⟨.inr (),rfl,?_⟩
    rw [← h2,He m med k (by omega)]
theorem qw (n:Int) : alv n = some (maj n) := lM n
theorem vU (m:aj) : aj.jR m m.au = m := by cases m; rfl
theorem Ad (m:aj) (g:Good m) (hb:aY m.lf1 ≤ 10000000) : ∃ t,Q38 m = some (aj.jR m t) ∧ Q16 m = some (aj.jR m t) := by
  have s1 := g.s1
  have s7 := g.s7
  have c0 := g.c0
  have lg := g.lg
  have hM:maj m.bW = m.bW / 2 + 1 := by unfold maj; rw [if_neg (by omega)]
  unfold Q38 afx FQ FT Q16 afS
  simp only [Mo.den,aC,aF,aS,aG,aK,Option.bind_some,qw]
  by_cases hr:m.dh = 2
  · obtain ⟨_,hlen,_,hrange⟩ := g.pr hr
    obtain ⟨s,k1,k2,k3⟩ := agq m.bg (by omega)
    have k4 := k2.length_eq
    obtain ⟨i,hi⟩ : ∃ i:Nat,(m.bg.length:Int) - maj m.bW = (i:Int) ∧ i < m.bg.length := ⟨((m.bg.length:Int) - maj m.bW).toNat,by omega,by omega⟩
    have hmem:ia s i ∈ m.bg := k2.mem_iff.1 (by rw [← OH (by omega)]; exact List.getElem_mem _)
    obtain ⟨r0,r1⟩ := hrange _ hmem
    have hmed:ajL m (ia s i) := by
      intro v
      rw [Yl s i v (by omega) (by rw [k4]; exact k3)]
      have:cnt s v = cnt m.bg v := k2.countP_eq _
      rw [this]; omega
    obtain ⟨b,hbm⟩ : ∃ b:Nat,ia s i = (b:Int) := ⟨(ia s i).toNat,by omega⟩
    obtain ⟨t,d1,d2⟩ := agr m (ia s i) b (by omega) (by omega) (by omega) c0
    obtain ⟨u,e1,e2⟩ := ags m (ia s i) hmed (by omega) (by omega) c0
    have hadv:uO m (ia s i) m.aP.length = uO m (ia s i) b := by
      have := VG m b (m.aP.length - b)
      rw [show b + (m.aP.length - b) = m.aP.length by omega] at this
      rw [hbm]; exact this
    have hne:(m.dh != 2) = false := by simp [hr]
    have h0:(maj m.bW == 0) = false := by simp; omega
    have hlt:decide ((m.bg.length:Int) < maj m.bW) = false := decide_eq_false (by omega)
    have hcl:akj m.bg = some m.bg := by unfold akj; rw [if_pos (by omega)]
    rw [hne,h0]
    simp only [cond_false,Option.bind_some,hlt,hcl,k1,e1]
    rw [k4,hi.1,w64 (by omega) (by omega),kQ (by omega)]
    simp only [Option.bind_some]
    rw [if_neg (by omega),hbm,d1]
    refine ⟨uO m (ia s i) b,by simp only [Option.bind_some]; rw [d2],?_⟩
    rcases u with o | o
    · have e2:o = _ := e2
      rw [← hadv,← e2]
    · have e2:m.au = _ := e2
      rw [← hadv,← e2,vU]
  · have hne : (m.dh != 2) = true := by simp [hr]
    rw [hne]
    exact ⟨m.au,by rw [vU]; rfl,by rw [vU]; rfl⟩
end Go.Proofs.YtdnafbfmaphhhaaGreatDoor
set_option linter.unusedSimpArgs false
set_option linter.unusedVariables false
namespace Go.Proofs.YtdnafbfmaphhhaaGreatDoor
open Go.RowKit
theorem orb (r c:Bool) : (bif r then some true else some c) = some (r || c) := by cases r <;> rfl
theorem orm (r:Bool) (m:Option Bool) (c:Bool) (h:m = some c) : (bif r then some true else m) = some (r || c) := by cases r <;> simp [h]
/-- the votes: counted in two ways -/
noncomputable def ajM (s v f:Nat) : Bool :=
  let w := bJ .or .i64 (v:Int) (nD .i64 1 (f:Int))
  match Q94 w (s:Int),ahM (IntKind.wrap .u64 w) with
  | some a,some b=>a == b
  | _,_=>false
theorem abL:((List.range 8).all fun s=>(List.range (2 ^ s)).all fun v=>(List.range s).all fun f=>ajM s v f) = true := by kernel_rfl
theorem Ym (s v f:Nat) (hs:s < 8) (hv:v < 2 ^ s) (hf:f < s) : ∃ a,Q94 (bJ .or .i64 (v:Int) (nD .i64 1 (f:Int))) (s:Int) = some a ∧ ahM (IntKind.wrap .u64 (bJ .or .i64 (v:Int) (nD .i64 1 (f:Int)))) = some a := by
  have h := abL
  rw [List.all_eq_true] at h
  have h := h s (List.mem_range.2 hs)
  rw [List.all_eq_true] at h
  have h := h v (List.mem_range.2 hv)
  rw [List.all_eq_true] at h
  have h := h f (List.mem_range.2 hf)
  unfold ajM at h
  simp only at h
  split at h
  · rename_i a b h1 h2
    have h:a = b := by simpa using h
    subst h
    exact ⟨a,h1,h2⟩
  · cases h
theorem aiH (s:Nat) (hs:s < 8) : nD .i64 1 (s:Int) = ((2 ^ s:Nat) : Int) := by
  have:s = 0 ∨ s = 1 ∨ s = 2 ∨ s = 3 ∨ s = 4 ∨ s = 5 ∨ s = 6 ∨ s = 7 := by omega
  rcases this with rfl | rfl | rfl | rfl | rfl | rfl | rfl | rfl <;> decide
/-- a new primary -/
def anp (m:aj) : aj := aj.pV (aj.qx (aj.kU (aj.pR (aj.Py m 2) m.fID) 1) (List.replicate m.bW.toNat (m.aP.length:Int))) ((List.replicate m.bW.toNat 0).set m.fID.toNat (m.aP.length:Int))
theorem pairs {s i:Int} (h1 : 1 ≤ s) (h2:s ≤ 7) (h3 : 0 ≤ i) (h4:i < s) : ∃ a b:Nat,s = a ∧ i = b ∧ a < 8 ∧ b < a := ⟨s.toNat,i.toNat,by omega,by omega,by omega,by omega⟩
theorem win_val' (m:aj) (s1 : 1 ≤ m.bW) (s7:m.bW ≤ 7) (i0 : 0 ≤ m.fID) (i1:m.fID < m.bW) : Q98 m = some (anp m) ∧ Q67 m = some (anp m) := by
  obtain ⟨a,b,c,d,e,f,g,h,l,k,n,o⟩ := m
  have s1 : 1 ≤ b := s1
  have s7:b ≤ 7 := s7
  have i0 : 0 ≤ a := i0
  have i1:a < b := i1
  have hb:b = 1 ∨ b = 2 ∨ b = 3 ∨ b = 4 ∨ b = 5 ∨ b = 6 ∨ b = 7 := by omega
  have ha:a = 0 ∨ a = 1 ∨ a = 2 ∨ a = 3 ∨ a = 4 ∨ a = 5 ∨ a = 6 := by omega
  rcases hb with rfl | rfl | rfl | rfl | rfl | rfl | rfl <;> rcases ha with rfl | rfl | rfl | rfl | rfl | rfl | rfl <;> first | (exfalso; omega) | exact ⟨by kernel_rfl,by kernel_rfl⟩
theorem Hf (m:aj) (t:Int) : Q65 m t = some (stepS m t) := by
  simp only [Q65,Zx,Fz,qZ,Mo.den,aC,aF,aS,aG,aK,ahG,NQ,Mo.den,aC,aF,aS,aG,aK,stepS]
  by_cases h:t ≤ m.bf
  · rw [decide_eq_true h,if_pos h]; rfl
  · rw [decide_eq_false h,if_neg h]
    by_cases hr:m.dh = 2
    · rw [show (m.dh == 2) = true by simp [hr],if_pos hr]; rfl
    · rw [show (m.dh == 2) = false by simp [hr],if_neg hr]; rfl
/-- a member of the same log and no longer lists -/
structure Hg (m n:aj) : Prop where
  lg:n.aP = m.aP
  nx:n.fNext.length ≤ m.fNext.length + 7
  mt:n.bg.length ≤ m.bg.length + 7
theorem Hg.refl (m:aj) : Hg m m := ⟨rfl,by omega,by omega⟩
theorem pz (m:aj) (t:Int) : Hg m (stepS m t) := by
  unfold stepS
  split
  · exact .refl m
  · exact ⟨rfl,by show 0 ≤ _; omega,by show 0 ≤ _; omega⟩
theorem uF {m n:aj} (h:Hg m n) (hb:aY m.lf1 ≤ 10000000) : Q15 n n = some true := by
  refine jo n ?_
  have h1 := h.nx
  have h2 := h.mt
  rw [fV] at hb ⊢
  rw [h.lg]
  simp only [vT] at hb ⊢
  omega
def uY (l:List ay) : Int := if l.length = 0 then 0 else (match l[l.length - 1]? with | some e=>e.bf | none=>0)
theorem OI (l:List ay) (hl:l.length ≤ 1000000) : aln l = some (uY l) := by
  simp only [aln,aeO,Mo.den,aC,aF,aS,aG,aK,uY]
  by_cases h:l.length = 0
  · rw [show ((l.length:Int) == 0) = true from beq_iff_eq.2 (by omega),if_pos h]; rfl
  · have hx := List.getElem?_eq_getElem (l := l) (i := l.length - 1) (by omega)
    rw [show ((l.length:Int) == 0) = false from beq_eq_false_iff_ne.2 (by omega),if_neg h,w64 (by omega) (by omega),show (l.length:Int) - 1 = ((l.length - 1:Nat) : Int) by omega,gid hx,hx]; rfl
theorem agt (m:aj) (hl:m.aP.length ≤ 1000000) : afG m = some (uY m.aP) := by
  simp only [afG,afF,Mo.den,aC,aF,aS,aG,aK,uY]
  by_cases h:m.aP.length = 0
  · rw [show ((m.aP.length:Int) == 0) = true from beq_iff_eq.2 (by omega),if_pos h]; rfl
  · have hx := List.getElem?_eq_getElem (l := m.aP) (i := m.aP.length - 1) (by omega)
    rw [show ((m.aP.length:Int) == 0) = false from beq_eq_false_iff_ne.2 (by omega),if_neg h,w64 (by omega) (by omega),show (m.aP.length:Int) - 1 = ((m.aP.length - 1:Nat) : Int) by omega,gid hx,hx]; rfl
def Yn (m:aj) (x:ah) : Bool := (x.bf == m.bf && (m.iy == -1 || m.iy == x.bK)) && (decide (uY m.aP < x.jd) || x.jd == uY m.aP && decide ((m.aP.length:Int) ≤ x.aW))
def rO (m:aj) (x:ah) : aj × List ah :=
  let n := stepS m x.bf
  let g := Yn n x
  (if g then aj.kU (aj.IK n x.bK) (tim n.fID) else n,[ah.sOK (ah.iV (ah.iR (ah.sTo (ah.jl ah.z n.fID) x.bK) 2) n.bf) g])
theorem ami (m:aj) : aj.kU (aj.IK m m.iy) m.gu = m := by cases m; rfl
theorem agu (m:aj) (x:ah) (hk:x.aU = 1) (hl:m.aP.length ≤ 1000000) (hb:aY m.lf1 ≤ 100000000) : Q60 m x = some (rO m x) := by
  have e1:(x.aU != 1) = false := by simp [hk]
  have hl2:(stepS m x.bf).aP.length ≤ 1000000 := by rw [(pz m x.bf).lg]; exact hl
  simp only [Q60,ajs,NS,Bz,Kw,Kv,Ku,UE,UD,Mo.den,aC,aF,aS,aG,aK,iH m hb,Option.bind_some,e1,cond_false,Hf,OI _ hl2,ahG,NQ,Mo.den,aC,aF,aS,aG,aK,rO]
  generalize stepS m x.bf = n
  unfold Yn
  cases decide (uY n.aP < x.jd) <;> cases x.jd == uY n.aP <;> cases x.bf == n.bf <;> cases n.iy == -1 <;> cases n.iy == x.bK <;> cases decide ((n.aP.length:Int) ≤ x.aW) <;> first | rfl | (simp only [cond_true,cond_false,Option.bind_some,ami]; rfl)
theorem abM (m:aj) (x:ah) (hk:x.aU = 1) (hl:m.aP.length ≤ 1000000) : Q50 m x = some (rO m x) := by
  have e1:(x.aU != 1) = false := by simp [hk]
  have hl2:(stepS m x.bf).aP.length ≤ 1000000 := by rw [(pz m x.bf).lg]; exact hl
  simp only [Q50,ajC,N9,BI,KX,KW,U4,U3,Mo.den,aC,aF,aS,aG,aK,Option.bind_some,e1,cond_false,uy,agt _ hl2,ak9,Xd,Mo.den,aC,aF,aS,aG,aK,rO]
  generalize stepS m x.bf = n
  unfold Yn
  cases decide (uY n.aP < x.jd) <;> cases x.jd == uY n.aP <;> cases x.bf == n.bf <;> cases n.iy == -1 <;> cases n.iy == x.bK <;> cases decide ((n.aP.length:Int) ≤ x.aW) <;> rfl
theorem abN (m:aj) (x:ah) : Hg m (rO m x).1 := by
  have h := pz m x.bf
  unfold rO
  simp only
  split
  · exact ⟨h.lg,h.nx,h.mt⟩
  · exact h
theorem abO (m:aj) (x:ah) : Q1 (rO m x).2 (rO m x).2 = some true := by
  refine jy _ (by show 1 ≤ _; omega) fun y hy=>?_
  unfold rO at hy
  simp only [List.mem_singleton] at hy
  subst hy
  exact Nat.zero_le _
theorem abP (m:aj) (g:Good m) : Q95 m = some true := by
  have s1 := g.s1
  have s7 := g.s7
  have i0 := g.i0
  have i1 := g.i1
  simp only [Q95,ajt,Kz,Ky,UG,UF,Mo.den,aC,aF,aS,aG,aK,decide_eq_true s1,decide_eq_true s7,decide_eq_true i0,decide_eq_true i1,cond_true,Option.bind_some]
theorem Yo (m:aj) (x:ah) (g:Good m) (hk:x.aU = 2) (f0 : 0 ≤ x.bK) (f1:x.bK < m.bW) (hb:aY m.lf1 ≤ 10000000) : ∃ n,Q85 m x = some n ∧ alY m x = some n ∧ Hg m n := by
  have s1 := g.s1
  have s7 := g.s7
  have e1:(x.aU != 2) = false := by simp [hk]
  simp only [Q85,aju,KD,KC,KA,UL,UK,Mo.den,aC,aF,aS,aG,aK,alY,afK,KZ,KY,Mo.den,aC,aF,aS,aG,aK,iH m (by omega),Option.bind_some,e1,cond_false,Hf,uy,abP m g,Bool.not_true,decide_eq_false (show ¬ x.bK < 0 by omega),decide_eq_false (show ¬ m.bW ≤ x.bK by omega),orb,Bool.or_false]
  by_cases ht:m.bf < x.bf
  · rw [decide_eq_true ht]
    exact ⟨_,rfl,rfl,pz m x.bf⟩
  · rw [decide_eq_false ht]
    simp only [cond_false]
    cases ((m.dh != 1 || x.bf != m.bf) || !x.fOK) with
    | true=>exact ⟨m,rfl,rfl,.refl m⟩
    | false =>
      obtain ⟨s,f,hs,hf,h1,h2⟩ := pairs s1 s7 f0 f1
      have v0 := g.v0
      have v1 := g.v1
      rw [hs,aiH s h1] at v1
      obtain ⟨v,hv⟩ := Int.eq_ofNat_of_zero_le v0
      obtain ⟨a,k1,k2⟩ := Ym s v f h1 (by omega) h2
      rw [← hs,← hf,← hv] at k1
      rw [← hf,← hv] at k2
      rw [if_pos f0,if_pos f0]
      simp only [cond_false,k1,k2,Option.bind_some,qw,lM]
      generalize bJ .or .i64 m.dY (nD .i64 1 x.bK) = w
      have gw := win_val' (aj.pU m w) g.s1 g.s7 g.i0 g.i1
      rw [gw.1,gw.2]
      cases decide (maj m.bW ≤ a) with
      | true=>exact ⟨_,rfl,rfl,rfl,by show (List.replicate m.bW.toNat _).length ≤ m.fNext.length + 7; rw [List.length_replicate]; omega,by show ((List.replicate m.bW.toNat _).set _ _).length ≤ m.bg.length + 7; rw [List.length_set,List.length_replicate]; omega⟩
      | false=>exact ⟨_,rfl,rfl,rfl,by show m.fNext.length ≤ _; omega,by show m.bg.length ≤ _; omega⟩
/-- answers -/
theorem Ae (l:List Int) (k:Nat) (n:Int) (hk:k < l.length) (hl:l.length ≤ 1000) : Q58 l (k:Int) n = some (l.set k n) := by
  simp only [Q58,ajE,XU,FZ,Vb,Mo.den,aC,aF,aS,aG,aK,decide_eq_true (show (0:Int) ≤ (k:Int) by omega),decide_eq_true (show (k:Int) < (l.length:Int) by omega),cond_true,Option.bind_some,kQ hk,Int.toNat_natCast]
  rw [if_pos (by simp; omega)]
theorem Yp (l:List Int) (k:Nat) (hk:k < l.length) : aiu l (k:Int) = some (ia l k) := by
  simp only [aiu,afQ,Lh,Mo.den,aC,aF,aS,aG,aK,decide_eq_false (show ¬ (k:Int) < 0 by omega),decide_eq_false (show ¬ (l.length:Int) ≤ (k:Int) by omega),cond_false,Option.bind_some,kQ hk]
/-- a member after an answer -/
def Ho (m:aj) (x:ah) (k:Nat) : aj :=
  if x.fOK then
    let a := if x.aW > ia m.bg k then x.aW else ia m.bg k
    aj.pV (aj.qx m (m.fNext.set k (if a > ia m.fNext k then a else ia m.fNext k))) (m.bg.set k a)
  else
    let a := if x.aW < ia m.fNext k then x.aW else ia m.fNext k
    aj.qx m (m.fNext.set k (if ia m.bg k > a then ia m.bg k else a))
theorem ZU {l:List Int} {k:Nat} (v:Int) (h:k < l.length) : ia (l.set k v) k = v := by rw [G9 l k v k h,if_pos rfl]
theorem amj (m:aj) (l:List Int) : aj.pV (aj.qx m l) m.bg = aj.qx m l := by cases m; rfl
theorem at_set (l:List Int) (k:Nat) (v:Int) (hk:k < l.length) : aiu (l.set k v) (k:Int) = some v := by
  rw [Yp _ k (by rw [List.length_set]; exact hk),ZU v hk]
theorem max_comm (a b:Int) : (if a > b then a else b) = (if b > a then b else a) := by split <;> split <;> omega
theorem OJ (m:aj) (x:ah) (k:Nat) (hr:m.dh = 2) (ht:¬ m.bf < x.bf) (ht2:¬ x.bf < m.bf) (hf:x.bK = (k:Int)) (h1:k < m.fNext.length) (h2:k < m.bg.length) (ho:x.fOK = true → x.aW ≤ (m.aP.length:Int)) : Q46 m x = some (Ho m x k) := by
  have e1:(m.dh != 2) = false := by simp [hr]
  simp only [Q46,ZJ,tY,tX,tV,zB,zA,Mo.den,aC,aF,aS,aG,aK,e1,hf,decide_eq_false ht,decide_eq_false ht2,cond_false,Option.bind_some,orb,decide_eq_false (show ¬ (k:Int) < 0 by omega),decide_eq_false (show ¬ (m.fNext.length:Int) ≤ (k:Int) by omega),decide_eq_false (show ¬ (m.bg.length:Int) ≤ (k:Int) by omega),Bool.or_false,kQ h1,kQ h2,Int.toNat_natCast,Ho]
  cases hx:x.fOK with
  | true =>
    rw [decide_eq_false (show ¬ (m.aP.length:Int) < x.aW by have := ho hx; omega)]
    simp only [cond_true,cond_false,Option.bind_some,if_true]
    rw [kQ (by rw [List.length_set]; exact h2),ZU _ h2]
    rfl
  | false =>
    simp only [cond_true,cond_false,Option.bind_some,amj]
    rfl
theorem Yq (m:aj) (x:ah) (k:Nat) (hr:m.dh = 2) (ht:¬ m.bf < x.bf) (ht2:¬ x.bf < m.bf) (hf:x.bK = (k:Int)) (h1:k < m.fNext.length) (h2:k < m.bg.length) (hl1:m.fNext.length ≤ 1000) (hl2:m.bg.length ≤ 1000) (ho:x.fOK = true → x.aW ≤ (m.aP.length:Int)) : Q68 m x = some (Ho m x k) := by
  have e1:(m.dh != 2) = false := by simp [hr]
  simp only [Q68,ZO,zL,zK,Mo.den,aC,aF,aS,aG,aK,e1,hf,decide_eq_false ht,decide_eq_false ht2,cond_false,Option.bind_some,orb,Yp _ k h1,Yp _ k h2,Ae _ k _ h1 hl1,Ae _ k _ h2 hl2,Ho]
  cases hx:x.fOK with
  | true =>
    rw [decide_eq_false (show ¬ (m.aP.length:Int) < x.aW by have := ho hx; omega)]
    simp only [cond_true,cond_false,Option.bind_some,if_true,at_set _ k _ h2]
  | false =>
    simp only [cond_true,cond_false,Option.bind_some]
    rw [max_comm]
    rfl
theorem Yr (m:aj) (x:ah) (k:Nat) (g:Good m) (i0 : 0 ≤ x.aW) (ho:x.fOK = true → x.aW ≤ (m.aP.length:Int)) (hr:m.dh = 2) (h1:k < m.fNext.length) (h2:k < m.bg.length) : Good (Ho m x k) ∧ Hg m (Ho m x k) := by
  obtain ⟨n1,n2,n3,n4⟩ := g.pr hr
  have hmem:∀ {l:List Int} {k:Nat},k < l.length → ia l k ∈ l := fun h=>by rw [← OH h]; exact List.getElem_mem _
  have b1 := n3 _ (hmem h1)
  have b2 := n4 _ (hmem h2)
  have hset:∀ (l:List Int) (v:Int),(∀ y ∈ l,0 ≤ y ∧ y ≤ (m.aP.length:Int)) → 0 ≤ v ∧ v ≤ (m.aP.length:Int) → ∀ y ∈ l.set k v,0 ≤ y ∧ y ≤ (m.aP.length:Int) := fun l v h hv y hy=>by
    rcases List.mem_or_eq_of_mem_set hy with h3 | rfl
    · exact h y h3
    · exact hv
  unfold Ho
  split
  · rename_i hx
    have ho := ho hx
    refine ⟨⟨g.s1,g.s7,g.i0,g.i1,g.t0,g.tm,g.lg,g.c0,g.c1,g.v0,g.v1,fun _=>⟨?_,?_,?_,?_⟩⟩,rfl,?_,?_⟩
    · show ((m.fNext.set k _).length:Int) = m.bW
      rw [List.length_set]; exact n1
    · show ((m.bg.set k _).length:Int) = m.bW
      rw [List.length_set]; exact n2
    · exact hset m.fNext _ n3 (by split <;> split <;> omega)
    · exact hset m.bg _ n4 (by split <;> omega)
    · show (m.fNext.set k _).length ≤ _
      rw [List.length_set]; omega
    · show (m.bg.set k _).length ≤ _
      rw [List.length_set]; omega
  · refine ⟨⟨g.s1,g.s7,g.i0,g.i1,g.t0,g.tm,g.lg,g.c0,g.c1,g.v0,g.v1,fun _=>⟨?_,n2,?_,n4⟩⟩,rfl,?_,?_⟩
    · show ((m.fNext.set k _).length:Int) = m.bW
      rw [List.length_set]; exact n1
    · exact hset m.fNext _ n3 (by split <;> split <;> omega)
    · show (m.fNext.set k _).length ≤ _
      rw [List.length_set]; omega
    · show m.bg.length ≤ _
      omega
theorem abQ {m n:aj} (h:Hg m n) (hb:aY m.lf1 ≤ 9000000) : aY n.lf1 ≤ 10000000 := by
  have h1 := h.nx
  have h2 := h.mt
  rw [fV] at hb ⊢
  rw [h.lg]
  simp only [vT] at hb ⊢
  omega
theorem Af {m n:aj} (t:Int) (h:Hg m n) : Hg m (aj.jR n t) := ⟨h.lg,h.nx,h.mt⟩
/-- what is passed on to nobody but the role -/
theorem anP (m:aj) (h:m.dh ≠ 2) : Q38 m = some m ∧ Q16 m = some m := by
  have hne:(m.dh != 2) = true := by simp [h]
  unfold Q38 afx FQ FT Q16 afS
  simp only [Mo.den,aC,aF,aS,aG,aK,Option.bind_some,qw,hne]
  exact ⟨rfl,rfl⟩
theorem VH (m:aj) (x:ah) (g:Good m) (i0 : 0 ≤ x.aW) (f0 : 0 ≤ x.bK) (f1:x.bK < m.bW) (hb:aY m.lf1 ≤ 9000000) : ∃ n,((Q46 m x).bind Q38) = some n ∧ ((Q68 m x).bind Q16) = some n ∧ Hg m n := by
  have s7 := g.s7
  by_cases ht:m.bf < x.bf
  · have e1 : Q46 m x = some (stepS m x.bf) := by simp only [Q46, ZJ, tY, tX, tV, zB, zA, Mo.den, aC, aF, aS, aG, aK, decide_eq_true ht, cond_true, Vy m x.bf (by omega), Option.bind_some]
    have e2:Q68 m x = some (stepS m x.bf) := by simp only [Q68,ZO,zL,zK,Mo.den,aC,aF,aS,aG,aK,decide_eq_true ht,cond_true,uy,Option.bind_some]
    have hr:(stepS m x.bf).dh ≠ 2 := by
      unfold stepS; rw [if_neg (by omega)]
      show (0:Int) ≠ 2; omega
    have h := anP _ hr
    rw [e1,e2]
    exact ⟨_,h.1,h.2,pz m x.bf⟩
  · by_cases hq:((m.dh != 2 || decide (x.bf < m.bf)) || (bif x.fOK then decide ((m.aP.length:Int) < x.aW) else false)) = true
    · have e1:Q46 m x = some m := by
        simp only [Q46,ZJ,tY,tX,tV,zB,zA,Mo.den,aC,aF,aS,aG,aK,decide_eq_false ht,cond_false,Option.bind_some,orb]
        rw [orm _ _ _ (show (bif x.fOK then some (decide ((m.aP.length:Int) < x.aW)) else some false) = some (bif x.fOK then decide ((m.aP.length:Int) < x.aW) else false) by cases x.fOK <;> rfl)]
        simp only [Option.bind_some,hq,cond_true]
      have e2:Q68 m x = some m := by
        simp only [Q68,ZO,zL,zK,Mo.den,aC,aF,aS,aG,aK,decide_eq_false ht,cond_false,Option.bind_some,orb]
        rw [orm _ _ _ (show (bif x.fOK then some (decide ((m.aP.length:Int) < x.aW)) else some false) = some (bif x.fOK then decide ((m.aP.length:Int) < x.aW) else false) by cases x.fOK <;> rfl)]
        simp only [Option.bind_some,hq,cond_true]
      rw [e1,e2]
      obtain ⟨t,h1,h2⟩ := Ad m g (by omega)
      exact ⟨_,h1,h2,Af t (.refl m)⟩
    · have hq : ((m.dh != 2 || decide (x.bf < m.bf)) || (bif x.fOK then decide ((m.aP.length : Int) < x.aW) else false)) = false := by simpa using hq
      rw [Bool.or_eq_false_iff,Bool.or_eq_false_iff] at hq
      have hr:m.dh = 2 := by simpa using hq.1.1
      have ht2 := of_decide_eq_false hq.1.2
      have ho:x.fOK = true → x.aW ≤ (m.aP.length:Int) := fun hx=>by
        have h := hq.2
        rw [hx] at h
        have := of_decide_eq_false h
        omega
      obtain ⟨k,hf⟩ := Int.eq_ofNat_of_zero_le f0
      obtain ⟨n1,n2,_,_⟩ := g.pr hr
      rw [OJ m x k hr ht ht2 hf (by omega) (by omega) ho,Yq m x k hr ht ht2 hf (by omega) (by omega) (by omega) (by omega) ho]
      obtain ⟨g2,hn⟩ := Yr m x k g i0 ho hr (by omega) (by omega)
      obtain ⟨t,h1,h2⟩ := Ad _ g2 (abQ hn hb)
      exact ⟨_,h1,h2,Af t hn⟩
/-- what a member receives, in both ways -/
structure Both (m:aj) (x:ah) (r:aj × List ah × bF) : Prop where
  a:Q45 m x = some r
  b:Q26 m x = some r
  s1:Q15 r.1 r.1 = some true
  s2:Q1 r.2.1 r.2.1 = some true
  s3:Q64 r.2.2 r.2.2 = some true
theorem rP:Q64 noR noR = some true := mM _ (Nat.zero_le _)
theorem Ag:Q1 [] [] = some true := jy [] (by simp) (by simp)
def CB (m:aj) (x:ah) : Bool := ((x.fTo != m.fID || x.bK == m.fID) || decide (x.bK < 0)) || decide (m.bW ≤ x.bK)
theorem VI (m:aj) (x:ah) (g:Good m) (px:CB m x = false → Oz m x) (hb:aY m.lf1 ≤ 9000000) (hx:bG (x.aN.map ay.lf) ≤ 10000000) : ∃ r,Both m x r := by
  have lg := g.lg
  have hm := uF (.refl m) (by omega)
  have ec := GZ m (by omega)
  cases ha:CB m x with
  | true =>
    refine ⟨(m,[],noR),?_,?_,hm,Ag,rP⟩
    · unfold CB at ha
      simp only [Q45,FW,kX,nP,nO,Mo.den,aC,aF,aS,aG,aK,orb,ha,cond_true,Option.bind_some,ec,jO]
    · unfold CB at ha
      simp only [Q26,F7,kY,nS,nR,Mo.den,aC,aF,aS,aG,aK,orb,ha,cond_true,Option.bind_some,og]
  | false =>
    have px := px ha
    have ha' := ha
    unfold CB at ha'
    rw [Bool.or_eq_false_iff,Bool.or_eq_false_iff] at ha'
    have f0 := of_decide_eq_false ha'.1.2
    have f1 := of_decide_eq_false ha'.2
    unfold CB at ha
    have i0 := px.i0
    by_cases k1:x.aU = 1
    · have e : (x.aU == 1) = true := by simp [k1]
      refine ⟨((rO m x).1,(rO m x).2,noR),?_,?_,uF (abN m x) (by omega),abO m x,rP⟩
      · simp only [Q45,FW,kX,nP,nO,Mo.den,aC,aF,aS,aG,aK,alp,aeP,Mo.den,aC,aF,aS,aG,aK,orb,ha,e,cond_true,cond_false,Option.bind_some,ec,jO,agu m x k1 (by omega) (by omega)]
      · simp only [Q26,F7,kY,nS,nR,Mo.den,aC,aF,aS,aG,aK,orb,ha,e,cond_true,cond_false,Option.bind_some,og,abM m x k1 (by omega)]
    have e1:(x.aU == 1) = false := by simp [k1]
    by_cases k2:x.aU = 2
    · have e : (x.aU == 2) = true := by simp [k2]
      obtain ⟨n,h1,h2,h3⟩ := Yo m x g k2 (by omega) (by omega) (by omega)
      refine ⟨(n,[],noR),?_,?_,uF h3 (by omega),Ag,rP⟩
      · simp only [Q45,FW,kX,nP,nO,Mo.den,aC,aF,aS,aG,aK,alz,aeS,Mo.den,aC,aF,aS,aG,aK,orb,ha,e1,e,cond_true,cond_false,Option.bind_some,ec,jO,h1]
      · simp only [Q26,F7,kY,nS,nR,Mo.den,aC,aF,aS,aG,aK,orb,ha,e1,e,cond_true,cond_false,Option.bind_some,og,h2]
    have e2:(x.aU == 2) = false := by simp [k2]
    by_cases k3:x.aU = 3
    · have e : (x.aU == 3) = true := by simp [k3]
      have hi:x.aW = ((x.aW.toNat:Nat) : Int) := by omega
      have h := agl m x x.aW.toNat (by omega) hx
      refine ⟨((uN m x x.aW.toNat).1,(uN m x x.aW.toNat).2.1,(uN m x x.aW.toNat).2.2),?_,?_,h.1,h.2.1,h.2.2⟩
      · simp only [Q45,FW,kX,nP,nO,Mo.den,aC,aF,aS,aG,aK,orb,ha,e1,e2,e,cond_true,cond_false,Option.bind_some,ec,jO,VF m x x.aW.toNat g px hi (by omega) hx]
      · simp only [Q26,F7,kY,nS,nR,Mo.den,aC,aF,aS,aG,aK,orb,ha,e1,e2,e,cond_true,cond_false,Option.bind_some,og,OE m x x.aW.toNat g px hi (by omega) hx]
    have e3:(x.aU == 3) = false := by simp [k3]
    by_cases k4:x.aU = 4
    · have e : (x.aU == 4) = true := by simp [k4]
      obtain ⟨n,h1,h2,h3⟩ := VH m x g i0 (by omega) (by omega) hb
      obtain ⟨p1,q1,q2⟩ := Option.bind_eq_some_iff.1 h1
      obtain ⟨p2,q3,q4⟩ := Option.bind_eq_some_iff.1 h2
      refine ⟨(n,[],noR),?_,?_,uF h3 (by omega),Ag,rP⟩
      · simp only [Q45,FW,kX,nP,nO,Mo.den,aC,aF,aS,aG,aK,alR,afy,Mo.den,aC,aF,aS,aG,aK,orb,ha,e1,e2,e3,e,cond_true,cond_false,Option.bind_some,ec,jO,q1,q2]
      · simp only [Q26,F7,kY,nS,nR,Mo.den,aC,aF,aS,aG,aK,orb,ha,e1,e2,e3,e,cond_true,cond_false,Option.bind_some,og,q3,q4]
    have e4:(x.aU == 4) = false := by simp [k4]
    refine ⟨(m,[],noR),?_,?_,hm,Ag,rP⟩
    · simp only [Q45,FW,kX,nP,nO,Mo.den,aC,aF,aS,aG,aK,orb,ha,e1,e2,e3,e4,cond_false,Option.bind_some,ec,jO]
    · simp only [Q26,F7,kY,nS,nR,Mo.den,aC,aF,aS,aG,aK,orb,ha,e1,e2,e3,e4,cond_false,Option.bind_some,og]
theorem OL (m:aj) (x:ah) (hb:aY m.lf1 ≤ 9000000) (hx:bG (x.aN.map ay.lf) ≤ 10000000) : Q12 m x = some true := by
  obtain ⟨b,hg,hG⟩ := af8 m (by omega)
  obtain ⟨c,hp,hP⟩ := Yf m x (by omega)
  have ea:(((x.fTo != m.fID || x.bK == m.fID) || decide (x.bK < 0)) || decide (m.bW ≤ x.bK)) = CB m x := rfl
  simp only [Q12,ajJ,LZ,LY,LX,Oi,BO,LW,LV,LU,Vs,Vr,Mo.den,aC,aF,aS,aG,aK,hg,hp,Option.bind_some,abA,orb,ea]
  cases b with
  | false=>rfl
  | true =>
    cases ha:CB m x with
    | true =>
      obtain ⟨r,h⟩ := VI m x (hG rfl) (fun h=>by rw [ha] at h; cases h) hb hx
      simp only [Bool.not_true,cond_false,cond_true,Option.bind_some,h.a,h.b,h.s1,h.s2,h.s3]
      rfl
    | false =>
      cases c with
      | false=>rfl
      | true =>
        obtain ⟨r,h⟩ := VI m x (hG rfl) (fun _=>hP rfl) hb hx
        simp only [Bool.not_true,Bool.not_false,cond_false,cond_true,Option.bind_some,h.a,h.b,h.s1,h.s2,h.s3]
        rfl
end Go.Proofs.YtdnafbfmaphhhaaGreatDoor
