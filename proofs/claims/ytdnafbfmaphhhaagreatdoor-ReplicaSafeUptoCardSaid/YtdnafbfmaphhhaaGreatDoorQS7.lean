/- Entries that are taken, commit points, messages of any kind. -/
import Derived.Test.YtdnafbfmaphhhaaGreatDoorQS6
set_option linter.unusedSimpArgs false
set_option linter.unusedVariables false
namespace Go.Proofs.YtdnafbfmaphhhaaGreatDoor
open Go.RowKit
theorem RY (m:aj) : aj.jY m (m.aB.take m.aB.length) = m := by rw [List.take_length]; cases m; rfl
theorem AY (m:aj) (med:Int) : ∀ k:Nat,k ≤ m.aB.length → vK m med k = m.au ∨ (m.au < vK m med k ∧ vK m med k ≤ med ∧ ∃ j:Nat,vK m med k = ((j + 1:Nat) : Int) ∧ j < m.aB.length ∧ trm m j = m.aJ)
  | 0,_=>.inl rfl
  | k + 1,h=>by
    rw [uJ]
    by_cases h1:m.au < ((k + 1:Nat) : Int)
    · rw [if_pos h1]
      by_cases h2:((k + 1:Nat) : Int) ≤ med ∧ trm m k = m.aJ
      · rw [if_pos h2]
        exact .inr ⟨h1,h2.1,k,rfl,by omega,h2.2⟩
      · rw [if_neg h2]
        exact AY m med k (by omega)
    · rw [if_neg h1]; exact .inl rfl
theorem U3 (m:aj) (g:Good m) : ∃ t,Q10 m = some (aj.lZ m t) ∧ (t = m.au ∨ m.bQ = 2 ∧ m.au < t ∧ maj m.bI ≤ (cnt m.aS t:Int) ∧ ∃ j:Nat,t = ((j + 1:Nat) : Int) ∧ j < m.aB.length ∧ trm m j = m.aJ) := by
  have s1 := g.s1
  have s7 := g.s7
  have c0 := g.c0
  have lg := g.lg
  have hM:maj m.bI = m.bI / 2 + 1 := by unfold maj; rw [if_neg (by omega)]
  unfold Q10 VX EH EI
  simp only [Mo.den,aP,aI,bg,aN,aO,Option.bind_some,sG]
  by_cases hr:m.bQ = 2
  · obtain ⟨_,hlen,_,hrange⟩ := g.pr hr
    obtain ⟨s,k1,k2,k3⟩ := Ry m.aS (by omega)
    have k4 := k2.length_eq
    obtain ⟨i,hi⟩ : ∃ i:Nat,(m.aS.length:Int) - maj m.bI = (i:Int) ∧ i < m.aS.length := ⟨((m.aS.length:Int) - maj m.bI).toNat,by omega,by omega⟩
    have hmem:ia s i ∈ m.aS := k2.mem_iff.1 (by rw [← yX (by omega)]; exact List.getElem_mem _)
    obtain ⟨r0,r1⟩ := hrange _ hmem
    have hmed:Zc m (ia s i) := by
      intro v
      rw [Ii s i v (by omega) (by rw [k4]; exact k3)]
      have:cnt s v = cnt m.aS v := k2.countP_eq _
      rw [this]; omega
    obtain ⟨b,hbm⟩ : ∃ b:Nat,ia s i = (b:Int) := ⟨(ia s i).toNat,by omega⟩
    obtain ⟨t,d1,d2⟩ := RD m (ia s i) b (by omega) (by omega) (by omega) c0
    have hne:(m.bQ != 2) = false := by simp [hr]
    have h0:(maj m.bI == 0) = false := by simp; omega
    have hlt:decide ((m.aS.length:Int) < maj m.bI) = false := decide_eq_false (by omega)
    have hcl:Xf m.aS = some m.aS := by unfold Xf; rw [if_pos (by omega)]
    rw [hne,h0]
    simp only [cond_false,Option.bind_some,hlt,hcl,k1]
    rw [k4,hi.1,w64 (by omega) (by omega),jJ (by omega)]
    simp only [Option.bind_some]
    rw [if_neg (by omega),hbm,d1]
    refine ⟨vK m (ia s i) b,by simp only [Option.bind_some]; rw [d2],?_⟩
    rcases AY m (ia s i) b (by omega) with q | ⟨q1,q2,q3⟩
    · exact .inl q
    · exact .inr ⟨hr,q1,(hmed _).1 q2,q3⟩
  · have hne : (m.bQ != 2) = true := by simp [hr]
    rw [hne]
    exact ⟨m.au,by cases m; rfl,.inl rfl⟩
theorem RZ (l:List Int) : (List.range l.length).map (ia l) = l := by
  apply List.ext_getElem?
  intro j
  rw [List.getElem?_map]
  by_cases h:j < l.length
  · rw [List.getElem?_range h,Option.map_some,List.getElem?_eq_getElem h,yX h]
  · rw [List.getElem?_eq_none (by rw [List.length_range]; omega),List.getElem?_eq_none (by omega)]; rfl
section
variable {N K i:Nat} {A:Nat → Raft.AM} {g0:Raft.Gh} {s:List ah} {m:aj} {x:ah}
theorem Si (hi:i < N) (hN:N ≤ 5) (h:Mok N K i m) (p:Raft.Pr N A i g0 (Snt s) (ab m)) : ∃ n,Q10 m = some n ∧ Mok N K i n ∧ Raft.Pr N A i g0 (Snt s) (ab n) := by
  obtain ⟨t,e,ht⟩ := U3 m h.g
  refine ⟨_,e,?_⟩
  have g := h.g
  have h2 := h.sz
  rcases ht with rfl | ⟨hr,h1,hq,j,rfl,hj,htr⟩
  · rw [show aj.lZ m m.au = m by cases m; rfl]; exact ⟨h,p⟩
  · have c0 := g.c0
    refine ⟨⟨⟨g.s1,g.s7,g.i0,g.i1,g.t0,g.tm,g.lg,by show (0:Int) ≤ ((j + 1:Nat) : Int); omega,by show ((j + 1:Nat) : Int) ≤ (m.aB.length:Int); omega,g.v0,g.v1,g.pr⟩,h.id,h.sz,h.tk,h.lk,h.tm,h.nx,h.mt,h.en⟩,?_⟩
    refine p.adv hi rfl rfl hr hr rfl rfl (.inr ⟨by show 0 < ((j + 1:Nat) : Int).toNat; omega,?_,?_⟩)
    · have hx := List.getElem?_eq_getElem hj
      refine ⟨ent m.aB[j],?_,?_⟩
      · show (m.aB.map ent)[((j + 1:Nat) : Int).toNat - 1]? = _
        rw [show ((j + 1:Nat) : Int).toNat - 1 = j by omega,List.getElem?_map,hx]; rfl
      · show m.aB[j].aJ = m.aJ
        rw [← htr]; unfold trm; rw [hx]
    · have hl := (g.pr hr).2.1
      rw [h2] at hq
      refine JJ (by omega) hN (Int.le_trans hq ?_)
      show (cnt m.aS ((j + 1:Nat) : Int) : Int) ≤ _
      have:cnt m.aS ((j + 1:Nat) : Int) = (List.range N).countP fun k=>decide (((j + 1:Nat) : Int).toNat ≤ (ia m.aS k).toNat) := by
        unfold cnt
        conv=>lhs; rw [← RZ m.aS]
        rw [List.countP_map,show m.aS.length = N by omega]
        refine List.countP_congr fun k _=>?_
        simp only [Function.comp,decide_eq_true_eq]
        omega
      rw [this]
      exact Int.le_refl _
theorem MK (hi:i < N) (hN:N ≤ 5) (hK:K ≤ 1000) (h:Mok N K i m) (p:Raft.Pr N A i g0 (Snt s) (ab m)) (hx:x ∈ s) (xo:Xok N K x) (hk:x.bT = 4) (hto:x.fTo = i) : ∃ n,((Q9 m x).bind Q10) = some n ∧ Mok N K i n ∧ Raft.Pr N A i g0 (Snt s) (ab n) := by
  have f0 := xo.f0
  have f1 := xo.f1
  have h2 := h.sz
  have g := h.g
  have hb := h.bulk hK
  suffices hn:∃ n,Q9 m x = some n ∧ Mok N K i n ∧ Raft.Pr N A i g0 (Snt s) (ab n) by
    obtain ⟨n,e,k1,k2⟩ := hn
    rw [e]
    exact Si hi hN k1 k2
  by_cases ht:m.aJ < x.aJ
  · have e1 : Q9 m x = some (stepS m x.aJ) := by simp only [Q9, Ux, qX, qW, qV, wH, wF, Mo.den, aP, aI, bg, aN, aO, decide_eq_true ht, cond_true, FP m x.aJ (by omega), Option.bind_some]
    exact ⟨_,e1,step_ok hi hN h p x.aJ xo.T1⟩
  · by_cases hq:((m.bQ != 2 || decide (x.aJ < m.aJ)) || (bif x.fOK then decide ((m.aB.length:Int) < x.aY) else false)) = true
    · have e1:Q9 m x = some m := by
        simp only [Q9,Ux,qX,qW,qV,wH,wF,Mo.den,aP,aI,bg,aN,aO,decide_eq_false ht,cond_false,Option.bind_some,orb]
        rw [orm _ _ _ (show (bif x.fOK then some (decide ((m.aB.length:Int) < x.aY)) else some false) = some (bif x.fOK then decide ((m.aB.length:Int) < x.aY) else false) by cases x.fOK <;> rfl)]
        simp only [Option.bind_some,hq,cond_true]
      exact ⟨_,e1,h,p⟩
    · have hq : ((m.bQ != 2 || decide (x.aJ < m.aJ)) || (bif x.fOK then decide ((m.aB.length : Int) < x.aY) else false)) = false := by simpa using hq
      rw [Bool.or_eq_false_iff,Bool.or_eq_false_iff] at hq
      have hr:m.bQ = 2 := by simpa using hq.1.1
      have ht2 := of_decide_eq_false hq.1.2
      have ho:x.fOK = true → x.aY ≤ (m.aB.length:Int) := fun hx=>by
        have h := hq.2
        rw [hx] at h
        have := of_decide_eq_false h
        omega
      obtain ⟨k,hf⟩ := Int.eq_ofNat_of_zero_le f0
      obtain ⟨n1,n2,_,_⟩ := g.pr hr
      refine ⟨_,CJ m x k hr ht ht2 hf (by omega) (by omega) ho,?_⟩
      obtain ⟨g2,hn⟩ := Ij m x k g xo.i0 ho hr (by omega) (by omega)
      have hnl := hn.lg
      have same:(jr m x k).fID = m.fID ∧ (jr m x k).bI = m.bI ∧ (jr m x k).aJ = m.aJ ∧ (jr m x k).dU = m.dU ∧ (jr m x k).au = m.au ∧ (jr m x k).bQ = m.bQ ∧ (jr m x k).fZ = m.fZ := by
        unfold jr
        split <;> exact ⟨rfl,rfl,rfl,rfl,rfl,rfl,rfl⟩
      obtain ⟨a1,a2,a3,a4,a5,a6,a7⟩ := same
      have gp := g2.pr (by rw [a6]; exact hr)
      refine ⟨⟨g2,by rw [a1]; exact h.id,by rw [a2]; exact h.sz,by rw [a3]; exact h.tk,by rw [hnl]; exact h.lk,by rw [a4]; exact h.tm,by omega,by omega,by rw [hnl]; exact h.en⟩,?_⟩
      refine p.ack hi (by show (jr m x k).aJ = m.aJ; exact a3) (by show (jr m x k).aB.map ent = m.aB.map ent; rw [hnl]) (by show (jr m x k).au.toNat = m.au.toNat; rw [a5]) (by show (jr m x k).bQ = 2; rw [a6]; exact hr) hr (by show oJ (jr m x k).fZ = oJ m.fZ; rw [a7]) fun j hj=>?_
      show (ia (jr m x k).aS j).toNat ≤ (ia m.aS j).toNat ∨ _
      unfold jr
      split
      · rename_i hok
        show (ia (m.aS.set k (if x.aY > ia m.aS k then x.aY else ia m.aS k)) j).toNat ≤ (ia m.aS j).toNat ∨ ∃ t n,Snt s (.vN j t m.aJ n) ∧ (ia (m.aS.set k (if x.aY > ia m.aS k then x.aY else ia m.aS k)) j).toNat ≤ n
        rw [oH _ _ _ _ (by omega)]
        by_cases e:j = k
        · subst e
          rw [if_pos rfl]
          split
          · right
            exact ⟨i,x.aY.toNat,⟨x,hx,hk,hok,hf,hto,by omega,by have := xo.i0; omega⟩,Nat.le_refl _⟩
          · left; exact Nat.le_refl _
        · rw [if_neg e]; left; exact Nat.le_refl _
      · left; exact Nat.le_refl _
theorem U4 (hi:i < N) (h:Mok N K i m) (hK:K ≤ 1000) (p:Raft.Pr N A i g0 (Snt s) (ab m)) (hx:x ∈ s) (xo:Xok N K x) (hk:x.bT = 3) (hto:x.fTo = i) (ht:m.aJ = x.aJ) (hr:m.bQ ≠ 1 ∧ m.bQ ≠ 2) (i0:Nat) (hi0:x.aY = i0) (hb:FT m x i0 = false) : Mok N K i (mZ m x i0).1 ∧ (∀ z ∈ (mZ m x i0).2.1,Xok N K z) ∧ Raft.Pr N A i g0 (Snt (s ++ (mZ m x i0).2.1)) (ab (mZ m x i0).1) := by
  obtain ⟨b1,b2,_⟩ := yV hb
  have b3:vJ m.aB x.aY = x.iF := by
    unfold FT at hb
    simp only [Bool.or_eq_false_iff,bne_eq_false_iff_eq] at hb
    exact hb.1.1.2
  rw [hi0,Iu] at b3
  have g := h.g
  have c0 := g.c0
  have c1 := g.c1
  have xi := xo.i1
  have xc := xo.c0
  have lk := h.lk
  have hend:yU x = ((i0 + x.aQ.length:Nat) : Int) := by unfold yU; rw [w64 (by omega) (by omega)]; omega
  -- where the log is cut
  obtain ⟨q,q1,q2,q3,q4,q5⟩ : ∃ q:Nat,(ctS m (dif m.aB x.aQ i0)).1 = aj.jY m (m.aB.take q) ∧ i0 ≤ q ∧ q ≤ m.aB.length ∧ (∀ k,i0 ≤ k → k < q → k < i0 + (x.aQ.map ent).length → (m.aB.map ent)[k]? = (x.aQ.map ent)[k - i0]?) ∧ (q < (m.aB.map ent).length → q < i0 + (x.aQ.map ent).length ∧ (m.aB.map ent)[q]? ≠ (x.aQ.map ent)[q - i0]? ∧ m.au.toNat ≤ q) := by
    cases hd:dif m.aB x.aQ i0 with
    | none =>
      refine ⟨m.aB.length,(RY m).symm,by omega,Nat.le_refl _,fun k k1 k2 k3=>?_,fun k=>by rw [List.length_map] at k; omega⟩
      have := RQ hd (k - i0) (by rw [List.length_map] at k3; omega) (by omega)
      rwa [show i0 + (k - i0) = k by omega] at this
    | some q =>
      obtain ⟨d1,d2⟩ := uH hd
      obtain ⟨d3,d4,d5⟩ := RS hd
      have := b2 q hd
      refine ⟨q,rfl,d1,by omega,fun k k1 k2 _=>d4 k k1 k2,fun _=>⟨by rw [List.length_map]; exact d3,d5,by omega⟩⟩
  have hcm:(m.au.toNat:Nat) ≤ q := by
    rcases Nat.lt_or_ge q (m.aB.map ent).length with e | e
    · exact (q5 e).2.2
    · rw [List.length_map] at e; omega
  obtain ⟨n,hn⟩ : ∃ n,n = (mZ m x i0).1 := ⟨_,rfl⟩
  have hms:(mZ m x i0).2.1 = [Ig (mZ m x i0).1 x true (yU x)] := rfl
  have hn2:n = aj.lZ (aj.jY m (m.aB.take q ++ x.aQ.drop (q - i0))) (Ih m x) := by
    rw [hn]
    show UO (ctS m (dif m.aB x.aQ i0)).1 x i0 = _
    rw [q1]
    unfold UO
    have:(aj.jY m (m.aB.take q)).aB.length = q := by show (m.aB.take q).length = q; rw [List.length_take]; omega
    rw [this]; rfl
  rw [hms,← hn]
  have hll:n.aB.length = q + (x.aQ.length - (q - i0)) := by
    rw [hn2]
    show (m.aB.take q ++ x.aQ.drop (q - i0)).length = _
    rw [List.length_append,List.length_take,List.length_drop,Nat.min_eq_left q3]
  have hcc:Ih m x = ((max m.au.toNat (min x.au.toNat (i0 + x.aQ.length)) : Nat) : Int) := by
    unfold Ih
    rw [hend]
    split <;> split <;> omega
  have hok:Mok N K i n := by
    rw [hn2] at hll ⊢
    have hll:(m.aB.take q ++ x.aQ.drop (q - i0)).length = q + (x.aQ.length - (q - i0)) := hll
    refine ⟨⟨g.s1,g.s7,g.i0,g.i1,g.t0,g.tm,?_,?_,?_,g.v0,g.v1,fun z=>?_⟩,h.id,h.sz,h.tk,?_,h.tm,h.nx,h.mt,fun e he=>?_⟩
    · show (m.aB.take q ++ x.aQ.drop (q - i0)).length ≤ 1000
      omega
    · show 0 ≤ Ih m x
      omega
    · show Ih m x ≤ ((m.aB.take q ++ x.aQ.drop (q - i0)).length:Int)
      omega
    · exact absurd z hr.2
    · show (m.aB.take q ++ x.aQ.drop (q - i0)).length ≤ K
      omega
    · have he:e ∈ m.aB.take q ++ x.aQ.drop (q - i0) := he
      rcases List.mem_append.1 he with he | he
      · exact h.en e (List.mem_of_mem_take he)
      · exact xo.en e (List.mem_of_mem_drop he)
  refine ⟨hok,fun z hz=>?_,?_⟩
  · obtain rfl := List.mem_singleton.1 hz
    exact Iw hok xo hto hi (by omega) (by omega)
  · obtain ⟨f,hf⟩ := Int.eq_ofNat_of_zero_le xo.f0
    refine p.take hi (f := f) (t := i) (n := i0) (p := q) (last := x.iF) (com := x.au.toNat) (es := x.aQ.map ent) ?_ ?_ ?_ ?_ ⟨x,hx,hk,hf,hto,ht.symm,hi0,rfl,by omega,rfl⟩ ?_ b3 q2 ?_ q4 q5 ?_ ?_ fun y hy=>?_
    · rw [hn2]; rfl
    · exact hr.2
    · rw [hn2]; exact hr
    · rw [hn2]; rfl
    · show i0 ≤ (m.aB.map ent).length; rw [List.length_map]; omega
    · show q ≤ (m.aB.map ent).length; rw [List.length_map]; exact q3
    · show n.aB.map ent = (m.aB.map ent).take q ++ (x.aQ.map ent).drop (q - i0)
      rw [hn2]
      show (m.aB.take q ++ x.aQ.drop (q - i0)).map ent = _
      rw [List.map_append,List.map_take,List.map_drop]
    · show n.au.toNat = max m.au.toNat (min x.au.toNat (i0 + (x.aQ.map ent).length))
      rw [List.length_map,hn2]
      show (Ih m x).toNat = _
      rw [hcc]; omega
    · rcases Snt.app hy with r | ⟨z,hz,r⟩
      · exact .inl r
      · obtain rfl := List.mem_singleton.1 hz
        right
        cases y with
        | fG=>have r:(4:Int) = 1 ∧ _ := r; omega
        | lH=>have r:(4:Int) = 2 ∧ _ := r; omega
        | app=>have r:(4:Int) = 3 ∧ _ := r; omega
        | vN f' t' T' n' =>
          obtain ⟨_,_,e1,e2,e3,e4⟩ := r
          have e1:n.fID = (f':Int) := e1
          have e3:n.aJ = T' := e3
          have e4:yU x = (n':Int) := e4
          have h1 := hok.id
          obtain rfl:f' = i := by omega
          have e5:n.aJ = m.aJ := by rw [hn2]; rfl
          obtain rfl:n' = i0 + (x.aQ.map ent).length := by rw [List.length_map]; omega
          exact ⟨t',by rw [← e3,e5]; rfl⟩
theorem Yk (hi:i < N) (hN:N ≤ 5) (hK:K ≤ 1000) (h:Mok N K i m) (p:Raft.Pr N A i g0 (Snt s) (ab m)) (hx:x ∈ s) (xo:Xok N K x) (hk:x.bT = 3) (hto:x.fTo = i) : Mok N K i (sJ m x x.aY.toNat).1 ∧ (∀ z ∈ (sJ m x x.aY.toNat).2.1,Xok N K z) ∧ Raft.Pr N A i g0 (Snt (s ++ (sJ m x x.aY.toNat).2.1)) (ab (sJ m x x.aY.toNat).1) := by
  unfold sJ
  split
  · refine ⟨h,fun z hz=>?_,RX p⟩
    obtain rfl := List.mem_singleton.1 hz
    exact Iw h xo hto hi (Int.le_refl _) (by omega)
  rename_i h1
  split
  · exact ⟨h,(fun z hz=>by cases hz),uM p⟩
  rename_i h2
  obtain ⟨k1,k2,k3,k4,k5⟩ := Yj hi hN h p xo h1 h2
  split
  · refine ⟨k1,fun z hz=>?_,RX k2⟩
    obtain rfl := List.mem_singleton.1 hz
    have := k1.lk
    have := xo.i0
    have := xo.i1
    refine Iw k1 xo hto hi ?_ ?_
    · unfold Rq; simp only; rw [w64 (by omega) (by omega)]; split <;> omega
    · unfold Rq; simp only; rw [w64 (by omega) (by omega)]; split <;> (try split at *) <;> omega
  · rename_i h3
    exact U4 hi k1 hK k2 hx xo hk hto k3 ⟨k5,k4⟩ _ (by have := xo.i0; omega) (by simpa using h3)
end
end Go.Proofs.YtdnafbfmaphhhaaGreatDoor
set_option linter.unusedSimpArgs false
set_option linter.unusedVariables false
namespace Go.Proofs.YtdnafbfmaphhhaaGreatDoor
open Go.RowKit
theorem Sj (T t:Int) (h0 : 0 ≤ T) (h1 : 1 ≤ t) (h2:t ≤ 1000) : Q80 (ak.mk T t ⟨#[]⟩ 0 (ay.dX ay.z 1)) = some 0 := by
  have e1:Q3 (ay.dX ay.z 1) 1 12 = some 0 := by kernel_rfl
  simp only [Q80,VZ,ER,EP,Mo.den,aP,aI,bg,aN,aO,decide_eq_false (show ¬ T < 0 by omega),decide_eq_false (show ¬ t < 1 by omega),decide_eq_false (show ¬ (1099511627776:Int) < t by omega),cond_false,Option.bind_some,Int.lt_irrefl,decide_false,e1,decide_true,Bool.not_true]
theorem AZ (l:List ak) (n:Nat) (hn:n ≤ l.length) : (iJ l (n:Int)).length ≤ 16 ∧ n + (iJ l (n:Int)).length ≤ l.length ∧ (∀ e ∈ iJ l (n:Int),e ∈ l) ∧ ∀ k,k < (iJ l (n:Int)).length → (iJ l (n:Int))[k]? = l[n + k]? := by
  unfold iJ
  obtain ⟨c,hc,hc1,hc2⟩ : ∃ c:Nat,(if (l.length:Int) < (n:Int) + 16 then (l.length:Int) else (n:Int) + 16).toNat = c ∧ c ≤ l.length ∧ c ≤ n + 16 := ⟨_,rfl,by split <;> omega,by split <;> omega⟩
  rw [hc,Int.toNat_natCast]
  refine ⟨by rw [List.length_drop,List.length_take]; omega,by rw [List.length_drop,List.length_take]; omega,fun e he=>List.mem_of_mem_take (List.mem_of_mem_drop he),fun k hk=>?_⟩
  rw [List.length_drop,List.length_take] at hk
  rw [List.getElem?_drop,List.getElem?_take,if_pos (by omega)]
theorem uN (m:aj) : ∀ (k:Nat) (y:ah),y ∈ kL m k → ∃ j:Nat,j < k ∧ (j:Int) ≠ m.fID ∧ y = Yf m j
  | 0,y,h=>by simp [kL] at h
  | k + 1,y,h=>by
    simp only [kL,List.mem_append] at h
    rcases h with h | h
    · obtain ⟨j,h1,h2⟩ := uN m k y h
      exact ⟨j,by omega,h2⟩
    · split at h
      · simp at h
      · rename_i hk
        exact ⟨k,by omega,hk,by simpa using h⟩
theorem F7 (m:aj) : ∀ (k:Nat) (y:ah),y ∈ asks m k → ∃ j:Nat,j < k ∧ (j:Int) ≠ m.fID ∧ y = Yg m j
  | 0,y,h=>by simp [asks] at h
  | k + 1,y,h=>by
    simp only [asks,List.mem_append] at h
    rcases h with h | h
    · obtain ⟨j,h1,h2⟩ := F7 m k y h
      exact ⟨j,by omega,h2⟩
    · split at h
      · simp at h
      · rename_i hk
        exact ⟨k,by omega,hk,by simpa using h⟩
section
variable {N K i:Nat} {A:Nat → Raft.AM} {g0:Raft.Gh} {s:List ah} {m:aj} {x:ah}
theorem U5 (m:aj) (x:ah) (i:Nat) : (sJ m x i).2.1.length ≤ 1 := by
  unfold sJ
  split
  · exact Nat.le_refl _
  · split
    · exact Nat.zero_le _
    · split <;> exact Nat.le_refl _
theorem Yl (hi:i < N) (hN:N ≤ 5) (hK:K ≤ 1000) (h:Mok N K i m) (p:Raft.Pr N A i g0 (Snt s) (ab m)) (hx:x ∈ s) (xo:Xok N K x) (hto:x.fTo = i) : ∃ r,Q11 m x = some r ∧ r.2.1.length ≤ 1 ∧ Mok N K i r.1 ∧ (∀ z ∈ r.2.1,Xok N K z) ∧ Raft.Pr N A i g0 (Snt (s ++ r.2.1)) (ab r.1) := by
  have hb := h.bulk hK
  have hxb := xo.bulk
  have g := h.g
  have lg := g.lg
  have ec := kF m (by omega)
  have h1 := h.id
  have h2 := h.sz
  have f0 := xo.f0
  have f1 := xo.f1
  have ne := xo.ne
  have ha:(((x.fTo != m.fID || x.bP == m.fID) || decide (x.bP < 0)) || decide (m.bI ≤ x.bP)) = false := by
    rw [show (x.fTo != m.fID) = false by simp; omega,show (x.bP == m.fID) = false by simp; omega,decide_eq_false (by omega),decide_eq_false (by omega)]; rfl
  by_cases k1:x.bT = 1
  · have e : (x.bT == 1) = true := by simp [k1]
    have := U1 hi hN h p hx xo k1 hto
    refine ⟨((sQ m x).1,(sQ m x).2,noR),?_,Nat.le_refl _,this⟩
    simp only [Q11,Aj,jZ,lu,lq,Mo.den,aP,aI,bg,aN,aO,Q98,Vx,Mo.den,aP,aI,bg,aN,aO,orb,ha,e,cond_true,cond_false,Option.bind_some,ec,jE,RF m x k1 (by omega) (by omega)]
  have e1:(x.bT == 1) = false := by simp [k1]
  by_cases k2:x.bT = 2
  · have e : (x.bT == 2) = true := by simp [k2]
    obtain ⟨n,q1,q2,q3⟩ := RV hi hN hK h p hx xo k2 hto
    refine ⟨(n,[],noR),?_,Nat.zero_le _,q2,(fun z hz=>by cases hz),uM q3⟩
    simp only [Q11,Aj,jZ,lu,lq,Mo.den,aP,aI,bg,aN,aO,Q95,VA,Mo.den,aP,aI,bg,aN,aO,orb,ha,e1,e,cond_true,cond_false,Option.bind_some,ec,jE,q1]
  have e2:(x.bT == 2) = false := by simp [k2]
  by_cases k3:x.bT = 3
  · have e : (x.bT == 3) = true := by simp [k3]
    have i0 := xo.i0
    have hi':x.aY = ((x.aY.toNat:Nat) : Int) := by omega
    have := Yk hi hN hK h p hx xo k3 hto
    refine ⟨((sJ m x x.aY.toNat).1,(sJ m x x.aY.toNat).2.1,(sJ m x x.aY.toNat).2.2),?_,U5 m x _,this⟩
    simp only [Q11,Aj,jZ,lu,lq,Mo.den,aP,aI,bg,aN,aO,orb,ha,e1,e2,e,cond_true,cond_false,Option.bind_some,ec,jE,FX m x x.aY.toNat g (xo.prop hK m) hi' (by omega) (by omega)]
  have e3:(x.bT == 3) = false := by simp [k3]
  by_cases k4:x.bT = 4
  · have e : (x.bT == 4) = true := by simp [k4]
    obtain ⟨n,q1,q2,q3⟩ := MK hi hN hK h p hx xo k4 hto
    obtain ⟨p1,q4,q5⟩ := Option.bind_eq_some_iff.1 q1
    refine ⟨(n,[],noR),?_,Nat.zero_le _,q2,(fun z hz=>by cases hz),uM q3⟩
    simp only [Q11,Aj,jZ,lu,lq,Mo.den,aP,aI,bg,aN,aO,Q92,VY,Mo.den,aP,aI,bg,aN,aO,orb,ha,e1,e2,e3,e,cond_true,cond_false,Option.bind_some,ec,jE,q4,q5]
  have e4:(x.bT == 4) = false := by simp [k4]
  refine ⟨(m,[],noR),?_,Nat.zero_le _,h,(fun z hz=>by cases hz),uM p⟩
  simp only [Q11,Aj,jZ,lu,lq,Mo.den,aP,aI,bg,aN,aO,orb,ha,e1,e2,e3,e4,cond_false,Option.bind_some,ec,jE]
theorem F8 (h:Mok N K i m) (t:Int) (h0 : 0 ≤ t) (h1:t ≤ 1000) : Mok N K i (aj.fH m t) := ⟨h.g.timer t h0,h.id,h.sz,h.tk,h.lk,h1,h.nx,h.mt,h.en⟩
theorem U6 (hi:i < N) (h:Mok N K i m) (p:Raft.Pr N A i g0 (Snt s) (ab m)) (hr:m.bQ = 2) : (∀ z ∈ yZ m,Xok N K z) ∧ Raft.Pr N A i g0 (Snt (s ++ yZ m)) (ab m) := by
  have g := h.g
  have h1 := h.id
  have h2 := h.sz
  have lk := h.lk
  have c0 := g.c0
  have c1 := g.c1
  obtain ⟨n1,_,n3,_⟩ := g.pr hr
  have hn:∀ j:Nat,j < N → ∃ n:Nat,nxt m j = (n:Int) ∧ n ≤ m.aB.length := fun j hj=>by
    have hx := List.getElem?_eq_getElem (l := m.fNext) (i := j) (by omega)
    have := n3 _ (CB hx)
    refine ⟨(nxt m j).toNat,?_,?_⟩
    all_goals unfold nxt; rw [hx]; simp only [Option.getD_some]; omega
  unfold yZ
  rw [if_pos hr]
  refine ⟨fun z hz=>?_,p.send hi hr fun y hy=>?_⟩
  · obtain ⟨j,k1,k2,rfl⟩ := uN m _ z hz
    obtain ⟨n,e,hnl⟩ := hn j (by omega)
    obtain ⟨p1,p2,p3,_⟩ := AZ m.aB n hnl
    refine ⟨by show 0 ≤ m.fID; omega,by show m.fID < N; omega,by show (0:Int) ≤ (j:Int); omega,by show (j:Int) < N; omega,by show m.fID ≠ (j:Int); omega,g.t0,h.tk,by show 0 ≤ nxt m j; omega,?_,c0,by show m.au ≤ K; omega,?_,?_⟩
    · show nxt m j + ((iJ m.aB (nxt m j)).length:Int) ≤ K
      rw [e]; omega
    · show (iJ m.aB (nxt m j)).length ≤ 16
      rw [e]; exact p1
    · show ∀ e ∈ iJ m.aB (nxt m j),Wn e
      rw [e]; exact fun e he=>h.en e (p3 e he)
  · rcases Snt.app hy with r | ⟨z,hz,r⟩
    · exact .inl r
    · right
      obtain ⟨j,k1,k2,rfl⟩ := uN m _ z hz
      obtain ⟨n,e,hnl⟩ := hn j (by omega)
      obtain ⟨p1,p2,p3,p4⟩ := AZ m.aB n hnl
      cases y with
      | fG=>have r:(3:Int) = 1 ∧ _ := r; omega
      | lH=>have r:(3:Int) = 2 ∧ _ := r; omega
      | app f t T n' last com es =>
        obtain ⟨_,r1,r2,r3,r4,r5,r6,r7⟩ := r
        have r1:m.fID = (f:Int) := r1
        have r3:m.aJ = T := r3
        have r4:nxt m j = (n':Int) := r4
        have r5:vJ m.aB (nxt m j) = last := r5
        have r6:m.au = (com:Int) := r6
        have r7:(iJ m.aB (nxt m j)).map ent = es := r7
        obtain rfl:f = i := by omega
        obtain rfl:n' = n := by omega
        rw [e] at r5 r7
        rw [Iu] at r5
        subst r3 r5 r7
        refine ⟨t,n',_,(iJ m.aB (n':Int)).map ent,?_,?_,rfl,fun k hk=>?_⟩
        · show Raft.Msg.app f t m.aJ n' _ com _ = Raft.Msg.app f t m.aJ n' _ m.au.toNat _
          rw [show com = m.au.toNat by omega]; rfl
        · show n' + ((iJ m.aB (n':Int)).map ent).length ≤ (m.aB.map ent).length
          rw [List.length_map,List.length_map]; exact p2
        · show ((iJ m.aB (n':Int)).map ent)[k]? = (m.aB.map ent)[n' + k]?
          rw [List.length_map] at hk
          rw [List.getElem?_map,List.getElem?_map,p4 k hk]
      | vN=>have r:(3:Int) = 4 ∧ _ := r; omega
theorem Sm (hi:i < N) (hN:N ≤ 5) (hK:K ≤ 900) (h:Mok N K i m) (p:Raft.Pr N A i g0 (Snt s) (ab m)) {s':List ah} (hs:s' = [] ∨ s' = asks m m.bI.toNat) : Mok N (K + 1) i (CO m) ∧ (∀ z ∈ s',Xok N (K + 1) z) ∧ Raft.Pr N A i g0 (Snt (s ++ s')) (ab (CO m)) := by
  have g := h.g
  have h1 := h.id
  have h2 := h.sz
  have lk := h.lk
  have tk := h.tk
  have t0 := g.t0
  have hsh:jf .i64 1 m.fID = ((2 ^ i:Nat) : Int) := by rw [h1,sK i (by omega)]
  have hw:IntKind.wrap .i64 (m.aJ + 1) = m.aJ + 1 := w64 (by omega) (by omega)
  have ht2 := pq (n := m.fID) (N := (N:Int)) (by omega) (by omega) (by omega)
  unfold tim at ht2
  have hss:∀ z ∈ s',∃ j:Nat,j < N ∧ (j:Int) ≠ m.fID ∧ z = Yg m j := fun z hz=>by
    rcases hs with rfl | rfl
    · cases hz
    · obtain ⟨j,k1,k2⟩ := F7 m _ z hz
      exact ⟨j,by omega,k2⟩
  refine ⟨⟨⟨g.s1,g.s7,g.i0,g.i1,?_,?_,g.lg,g.c0,g.c1,?_,?_,fun q=>?_⟩,h.id,h.sz,?_,by show m.aB.length ≤ K + 1; omega,?_,Nat.zero_le _,Nat.zero_le _,h.en⟩,fun z hz=>?_,?_⟩
  · show 0 ≤ IntKind.wrap .i64 (m.aJ + 1); omega
  · show 0 ≤ IntKind.wrap .i64 (10 + IntKind.wrap .i64 (3 * m.fID)); omega
  · show 0 ≤ jf .i64 1 m.fID
    rw [hsh]; exact Int.natCast_nonneg _
  · show jf .i64 1 m.fID < jf .i64 1 m.bI
    rw [hsh,h2,sK N (by omega)]
    have := Nat.pow_lt_pow_right (a := 2) (by omega) hi
    omega
  · have q:(1:Int) = 2 := q
    omega
  · show IntKind.wrap .i64 (m.aJ + 1) ≤ ((K + 1:Nat) : Int); omega
  · show IntKind.wrap .i64 (10 + IntKind.wrap .i64 (3 * m.fID)) ≤ 1000; omega
  · obtain ⟨j,k1,k2,rfl⟩ := hss z hz
    exact ⟨by show 0 ≤ m.fID; omega,by show m.fID < N; omega,by show (0:Int) ≤ (j:Int); omega,by show (j:Int) < N; omega,by show m.fID ≠ (j:Int); omega,by show 0 ≤ IntKind.wrap .i64 (m.aJ + 1); omega,by show IntKind.wrap .i64 (m.aJ + 1) ≤ ((K + 1:Nat) : Int); omega,by show (0:Int) ≤ (m.aB.length:Int); omega,by show (m.aB.length:Int) + ((0:Nat) : Int) ≤ ((K + 1:Nat) : Int); omega,Int.le_refl 0,by show (0:Int) ≤ ((K + 1:Nat) : Int); omega,Nat.zero_le _,fun e he=>by cases he⟩
  · refine p.Yh hi hw rfl rfl ?_ rfl (fun j hj=>?_) fun y hy=>?_
    · show oJ m.fID = some i
      unfold oJ; rw [if_neg (by omega),h1]; rfl
    · have hj:Nat.testBit (jf .i64 1 m.fID).toNat j = true := hj
      rw [hsh,Int.toNat_natCast,Nat.testBit_two_pow,decide_eq_true_eq] at hj
      exact hj.symm
    · rcases Snt.app hy with r | ⟨z,hz,r⟩
      · exact .inl r
      · right
        obtain ⟨j,k1,k2,rfl⟩ := hss z hz
        cases y with
        | fG f t T n last =>
          obtain ⟨_,r1,r2,r3,r4,r5⟩ := r
          have r1:m.fID = (f:Int) := r1
          have r3:IntKind.wrap .i64 (m.aJ + 1) = T := r3
          have r4:(m.aB.length:Int) = (n:Int) := r4
          have r5:oI m.aB = last := r5
          obtain rfl:f = i := by omega
          obtain rfl:n = m.aB.length := by omega
          subst r3 r5
          refine ⟨t,?_⟩
          show Raft.Msg.fG f t (IntKind.wrap .i64 (m.aJ + 1)) m.aB.length (oI m.aB) = Raft.Msg.fG f t (IntKind.wrap .i64 (m.aJ + 1)) (m.aB.map ent).length (Raft.bef (m.aB.map ent) (m.aB.map ent).length)
          rw [JI,List.length_map]
        | lH=>have r:(1:Int) = 2 ∧ _ := r; omega
        | app=>have r:(1:Int) = 3 ∧ _ := r; omega
        | vN=>have r:(1:Int) = 4 ∧ _ := r; omega
theorem U7 (hi:i < N) (hN:N ≤ 5) (hK:K ≤ 900) (h:Mok N K i m) (p:Raft.Pr N A i g0 (Snt s) (ab m)) : ∃ r,Q99 m = some r ∧ Mok N (K + 1) i r.1 ∧ (∀ z ∈ r.2,Xok N (K + 1) z) ∧ Raft.Pr N A i g0 (Snt (s ++ r.2)) (ab r.1) := by
  have hb := h.bulk (by omega)
  have g := h.g
  have tm := h.tm
  have gt := g.tm
  have h1 := h.id
  have h2 := h.sz
  refine ⟨_,FZ m g (by omega) (by omega),?_⟩
  unfold FY
  by_cases c1 : 1 < m.dU
  · rw [if_pos c1]
    exact ⟨(F8 h _ (by omega) (by omega)).up (by omega),(fun z hz=>by cases hz),uM p⟩
  rw [if_neg c1]
  by_cases c2:m.bQ = 2
  · rw [if_pos c2]
    have ht := F8 h 2 (by omega) (by omega)
    have := U6 hi ht (show Raft.Pr N A i g0 (Snt s) (ab (aj.fH m 2)) from p) c2
    exact ⟨ht.up (by omega),fun z hz=>(this.1 z hz).up (by omega),this.2⟩
  rw [if_neg c2]
  unfold RH
  by_cases c3:m.bI = 1
  · rw [if_pos c3]
    obtain ⟨k1,_,k3⟩ := Sm hi hN hK h p (s' := []) (.inl rfl)
    rw [List.append_nil] at k3
    have hid:m.fID = 0 := by omega
    have hq:maj (CO m).bI ≤ (((List.range (CO m).bI.toNat).countP fun j=>Nat.testBit (CO m).eF.toNat j:Nat) : Int) := by
      show maj m.bI ≤ (((List.range m.bI.toNat).countP fun j=>Nat.testBit (jf .i64 1 m.fID).toNat j:Nat) : Int)
      rw [c3,hid]; decide
    have := RU hi hN k1 k3 rfl hq
    exact ⟨this.1,(fun z hz=>by cases hz),uM this.2⟩
  · rw [if_neg c3]
    exact Sm hi hN hK h p (.inr rfl)
theorem Ym (hi:i < N) (hN:N ≤ 5) (hK:K ≤ 900) (h:Mok N K i m) (p:Raft.Pr N A i g0 (Snt s) (ab m)) (t:Int) (t1 : 1 ≤ t) (t2:t ≤ 1000) : ∃ r,Q16 m (ak.mk m.aJ t ⟨#[]⟩ 0 (ay.dX ay.z 1)) = some r ∧ (r.2 = 0 → Mok N (K + 1) i r.1 ∧ Raft.Pr N A i g0 (Snt s) (ab r.1)) := by
  have hb := h.bulk (by omega)
  have g := h.g
  have h1 := h.id
  have h2 := h.sz
  have lk := h.lk
  have t0 := g.t0
  have c1 := g.c1
  have ec := kF m (by omega)
  have hwn:Wn (ak.mk m.aJ t ⟨#[]⟩ 0 (ay.dX ay.z 1)) := rfl
  have ee := jV [ak.mk m.aJ t ⟨#[]⟩ 0 (ay.dX ay.z 1)] (by
    have := JH hwn
    rw [List.map_cons,List.map_nil,bH,bH]; omega)
  simp only [Q16,V3,Am,HY,yx,ES,Mo.den,aP,aI,bg,aN,aO,Sj m.aJ t t0 t1 t2,Option.bind_some,ec,ee]
  by_cases hr:m.bQ = 2
  · rw [show (m.bQ != 2) = false by simp [hr]]
    simp only [cond_false,show ((0:Int) != 0) = false by rfl,bne_self_eq_false]
    have hJ:∃ b,(bif decide ((0:Int) < (m.aB.length:Int)) then (cO m.aB (IntKind.wrap .i64 ((m.aB.length:Int) - 1))).bind fun x=>some (decide (t ≤ x.dS)) else some false) = some b := by
      by_cases hl : 0 < m.aB.length
      · rw [decide_eq_true (by omega), w64 (by omega) (by omega), show (m.aB.length : Int) - 1 = ((m.aB.length - 1 : Nat) : Int) by omega, gid (List.getElem?_eq_getElem (by omega))]
        exact ⟨_,rfl⟩
      · rw [decide_eq_false (by omega)]; exact ⟨_,rfl⟩
    obtain ⟨b,hb2⟩ := hJ
    rw [hb2]
    simp only [Option.bind_some]
    cases b with
    | true=>exact ⟨_,rfl,fun q=>by cases q⟩
    | false =>
      obtain ⟨n1,n2,n3,n4⟩ := g.pr hr
      rw [decide_eq_false (show ¬ (16384:Int) ≤ (m.aB.length:Int) by omega),if_pos (by simp only [List.length_cons,List.length_nil]; omega),decide_eq_true (show (0:Int) ≤ m.fID by omega),decide_eq_true (show m.fID < (m.aS.length:Int) by omega)]
      simp only [cond_false,cond_true,Option.bind_some]
      have hid:m.fID = ((i:Nat) : Int) := h1
      rw [hid,jJ (by omega),Int.toNat_natCast]
      simp only [Option.bind_some]
      obtain ⟨n,hn⟩ : ∃ n,n = aj.l7 (aj.jY m (m.aB ++ [ak.mk m.aJ t ⟨#[]⟩ 0 (ay.dX ay.z 1)])) (m.aS.set i ((m.aB ++ [ak.mk m.aJ t ⟨#[]⟩ 0 (ay.dX ay.z 1)]).length:Int)) := ⟨_,rfl⟩
      rw [← hn]
      have hlen:(m.aB ++ [ak.mk m.aJ t ⟨#[]⟩ 0 (ay.dX ay.z 1)]).length = m.aB.length + 1 := by rw [List.length_append]; rfl
      have hok:Mok N (K + 1) i n := by
        rw [hn,hlen]
        refine ⟨⟨g.s1,g.s7,g.i0,g.i1,g.t0,g.tm,?_,g.c0,?_,g.v0,g.v1,fun _=>⟨n1,?_,fun y hy=>?_,fun y hy=>?_⟩⟩,h.id,h.sz,?_,?_,h.tm,h.nx,?_,fun e he=>?_⟩
        · show (m.aB ++ _).length ≤ 1000
          rw [hlen]; omega
        · show m.au ≤ ((m.aB ++ _).length:Int)
          rw [hlen]; omega
        · show ((m.aS.set i _).length:Int) = m.bI
          rw [List.length_set]; exact n2
        · have := n3 y hy
          show 0 ≤ y ∧ y ≤ ((m.aB ++ _).length:Int)
          rw [hlen]; omega
        · show 0 ≤ y ∧ y ≤ ((m.aB ++ _).length:Int)
          rw [hlen]
          rcases List.mem_or_eq_of_mem_set hy with q | rfl
          · have := n4 y q; omega
          · omega
        · show m.aJ ≤ ((K + 1:Nat) : Int)
          have := h.tk; omega
        · show (m.aB ++ _).length ≤ K + 1
          rw [hlen]; omega
        · show (m.aS.set i _).length ≤ 7
          rw [List.length_set]; exact h.mt
        · have he:e ∈ m.aB ++ [ak.mk m.aJ t ⟨#[]⟩ 0 (ay.dX ay.z 1)] := he
          rcases List.mem_append.1 he with q | q
          · exact h.en e q
          · rw [List.mem_singleton.1 q]; exact hwn
      have hp:Raft.Pr N A i g0 (Snt s) (ab n) := by
        rw [hn,hlen]
        refine p.push hi rfl (st := t) ?_ rfl hr hr rfl fun j hj=>?_
        · show (m.aB ++ [ak.mk m.aJ t ⟨#[]⟩ 0 (ay.dX ay.z 1)]).map ent = m.aB.map ent ++ [(m.aJ,t)]
          rw [List.map_append]; rfl
        · show (ia (m.aS.set i _) j).toNat ≤ if j = i then (m.aB.map ent).length + 1 else (ia m.aS j).toNat
          rw [oH _ _ _ _ (by omega),List.length_map]
          split
          · omega
          · exact Nat.le_refl _
      obtain ⟨q,q1,q2,q3⟩ := Si hi hN hok hp
      rw [q1]
      exact ⟨_,rfl,fun _=>⟨q2,q3⟩⟩
  · rw [show (m.bQ != 2) = true by simp [hr]]
    exact ⟨_,rfl,fun q=>by cases q⟩
end
end Go.Proofs.YtdnafbfmaphhhaaGreatDoor
set_option linter.unusedSimpArgs false
set_option linter.unusedVariables false
namespace Go.Proofs.YtdnafbfmaphhhaaGreatDoor
open Go.RowKit
/-- the members as the protocol's proof sees them -/
def abs (l:List aj) : Nat → Raft.AM := fun i=>ab (l.getD i aj.z)
structure Wok (N K:Nat) (w:aK) : Prop where
  len:w.fm.length = N
  mem:∀ i m,w.fm[i]? = some m → Mok N K i m
  msg:∀ y ∈ w.bD,Xok N K y
  cnt:w.bD.length ≤ 2000
  t0 : 0 ≤ w.dh
  t1:w.dh ≤ K
  ll:w.dw.length ≤ 1001
  inv:∃ g,Raft.Inv N (abs w.fm) (Snt w.bD) g ∧ ∀ (T:Nat) c,w.dw[T]? = some c → c = -1 ∨ ∃ n:Nat,c = n ∧ g.ld T = some n
theorem uO {l:List aj} {i:Nat} {m:aj} (h:l[i]? = some m) : abs l i = ab m := by
  unfold abs; rw [List.getD_eq_getElem?_getD,h]; rfl
theorem U8 (l:List aj) (i:Nat) (m:aj) (hi:i < l.length) : abs (l.set i m) = Raft.upd (abs l) i (ab m) := by
  funext j
  unfold Raft.upd
  by_cases e:j = i
  · subst e
    rw [if_pos rfl]
    exact uO (List.getElem?_set_self hi)
  · rw [if_neg e]
    unfold abs
    rw [List.getD_eq_getElem?_getD,List.getD_eq_getElem?_getD,List.getElem?_set_ne (fun q=>e q.symm)]
theorem ML (w:aK) (i:Int) (l:List ah) (m:aj) (hl:l.length ≤ 100000) (hs:w.bD.length ≤ 2000) : Tot (Ar w i l m 0 w.bD) (fun r=>∃ k,r = w.bD ++ l.take k ∧ r.length ≤ 2000) := by
  unfold Ar
  refine eX (fun v=>∃ k:Nat,v = ((k:Int),w.bD ++ l.take k) ∧ k ≤ l.length ∧ (w.bD ++ l.take k).length ≤ 2000) (fun v=>l.length - v.1.toNat) _ ?_ FU _ ⟨0,by simp,Nat.zero_le _,by simpa using hs⟩ (iq (by show l.length - _ ≤ _; omega))
  rintro v ⟨k,rfl,h1,h2⟩
  simp only [Q1,UJ,yB,oq,uz,rG,rF,rE,Ar,wM,BX,Mo.den,aP,aI,bg,aN,aO]
  by_cases hk:k < l.length
  · have hx := List.getElem?_eq_getElem hk
    rw [ltt hx]
    simp only [cond_true,Option.bind_some]
    by_cases hc:((w.bD ++ l.take k).length:Int) < 2000
    · rw [decide_eq_true hc, gid hx, inc k (by omega)]
      simp only [cond_true,Option.bind_some]
      rw [if_pos (by simp only [List.length_cons,List.length_nil]; omega)]
      have e:w.bD ++ l.take k ++ [l[k]] = w.bD ++ l.take (k + 1) := by rw [List.append_assoc,List.take_add_one,hx]; rfl
      refine .inl ⟨_,rfl,⟨k + 1,by rw [e],by omega,?_⟩,by show l.length - ((k + 1:Nat) : Int).toNat < l.length - (k:Int).toNat; omega⟩
      rw [← e,List.length_append]
      simp only [List.length_cons,List.length_nil]; omega
    · rw [decide_eq_false hc]
      exact .inr ⟨_,rfl,k,rfl,h2⟩
  · obtain rfl : k = l.length := by omega
    rw [ltn]
    exact .inr ⟨_,rfl,_,rfl,h2⟩
theorem A8 (w:aK) (i:Int) (m:aj) (r:List ah) (T:Nat) (hT:m.aJ = T) (h1:T ≤ 1000) (hl:w.dw.length ≤ 1001) : Tot (uz w i m r w.dw) (fun r=>∃ k,r = w.dw ++ List.replicate k (-1) ∧ T < r.length ∧ r.length ≤ 1001) := by
  unfold uz
  refine eX (fun v=>∃ k:Nat,v = w.dw ++ List.replicate k (-1) ∧ v.length ≤ 1001) (fun v=>2000 - v.length) _ ?_ FU _ ⟨0,by simp,hl⟩ (iq (by omega))
  rintro v ⟨k,e,h2⟩
  simp only [Q1,UJ,yB,oq,uz,rG,rF,rE,Ar,wM,BX,Mo.den,aP,aI,bg,aN,aO]
  by_cases hc:(v.length:Int) ≤ m.aJ
  · rw [decide_eq_true hc]
    simp only [cond_true]
    rw [if_pos (by simp only [List.length_cons,List.length_nil]; omega)]
    refine .inl ⟨_,rfl,⟨k + 1,?_,?_⟩,?_⟩
    · rw [e,List.append_assoc]
      congr 1
      exact List.replicate_succ'.symm
    · rw [List.length_append]; simp only [List.length_cons,List.length_nil]; omega
    · rw [List.length_append]; simp only [List.length_cons,List.length_nil]; omega
  · rw [decide_eq_false hc]
    exact .inr ⟨_,rfl,k,e,by omega,h2⟩
/-- what is noted of the primaries -/
theorem JK {N:Nat} {A:Nat → Raft.AM} {snt:Raft.Msg → Prop} {g:Raft.Gh} {i T k:Nat} {lead r:List Int} (hi:i < N) (h:Raft.Inv N A snt g) (hr:(A i).role = 2) (hT:(A i).term = (T:Int)) (hl:∀ (T:Nat) c,lead[T]? = some c → c = -1 ∨ ∃ n:Nat,c = n ∧ g.ld T = some n) (e:r = lead ++ List.replicate k (-1)) (hlt:T < r.length) :
    ∃ c,cO r (T:Int) = some c ∧ ∃ r',(bif c == (-1) then (cO r (T:Int)).bind fun _=>some (r.set T (i:Int)) else some r) = some r' ∧ r'.length = r.length ∧ cO r' (T:Int) = some (i:Int) ∧ ∀ (T:Nat) c,r'[T]? = some c → c = -1 ∨ ∃ n:Nat,c = n ∧ g.ld T = some n := by
  have hx := List.getElem?_eq_getElem hlt
  have hr2:∀ (T:Nat) c,r[T]? = some c → c = -1 ∨ ∃ n:Nat,c = n ∧ g.ld T = some n := fun T c hc=>by
    rw [e,List.getElem?_append] at hc
    split at hc
    · exact hl T c hc
    · rw [List.getElem?_replicate] at hc
      split at hc
      · injection hc with hc; exact .inl hc.symm
      · cases hc
  have hld := (h.pr i hi hr).1
  rw [hT] at hld
  refine ⟨_,gid hx,?_⟩
  rcases hr2 T _ hx with q | ⟨n,q1,q2⟩
  · rw [show (r[T] == (-1 : Int)) = true by simp [q], gid hx]
    refine ⟨_,rfl,List.length_set,?_,fun T' c hc=>?_⟩
    · exact gid (List.getElem?_set_self hlt)
    · by_cases e2:T = T'
      · subst e2
        rw [List.getElem?_set_self hlt] at hc
        injection hc with hc
        exact .inr ⟨i,hc.symm,hld⟩
      · rw [List.getElem?_set_ne e2] at hc; exact hr2 T' c hc
  · rw [hld] at q2
    injection q2 with q2
    subst q2
    rw [show (r[T] == (-1:Int)) = false by simp [q1]]
    exact ⟨_,rfl,rfl,by rw [gid hx,q1],hr2⟩
theorem wS {N K:Nat} {w:aK} (h:Wok N K w) {i:Nat} (hi:i < N) {m:aj} {s':List ah} {lead':List Int} {t:Int} (hm:Mok N (K + 1) i m) (hs:∀ y ∈ s',Xok N (K + 1) y) (hc:s'.length ≤ 2000) (ht0 : 0 ≤ t) (ht:t ≤ (K + 1:Nat)) (hl:lead'.length ≤ 1001)
    (hp:∃ g,Raft.Inv N (Raft.upd (abs w.fm) i (ab m)) (Snt s') g ∧ ∀ (T:Nat) c,lead'[T]? = some c → c = -1 ∨ ∃ n:Nat,c = n ∧ g.ld T = some n) : Wok N (K + 1) (aK.mk (w.fm.set i m) s' lead' t) := by
  have hlen := h.len
  refine ⟨by show (w.fm.set i m).length = N; rw [List.length_set]; exact hlen,fun j n hj=>?_,hs,hc,ht0,ht,hl,?_⟩
  · have hj:(w.fm.set i m)[j]? = some n := hj
    by_cases e:i = j
    · subst e
      rw [List.getElem?_set_self (by omega)] at hj
      injection hj with hj; subst hj; exact hm
    · rw [List.getElem?_set_ne e] at hj; exact (h.mem j n hj).up (by omega)
  · show ∃ g,Raft.Inv N (abs (w.fm.set i m)) (Snt s') g ∧ _
    rw [U8 _ _ _ (by omega)]
    exact hp
theorem JL {N K:Nat} {w:aK} {g0:Raft.Gh} (h:Wok N K w) (hK:K ≤ 900) {i:Nat} (hi:i < N) {m:aj} {l:List ah} (hll:l.length ≤ 100000) (hm:Mok N (K + 1) i m) (hs:∀ y ∈ l,Xok N (K + 1) y)
    (hl:∀ (T:Nat) c,w.dw[T]? = some c → c = -1 ∨ ∃ n:Nat,c = n ∧ g0.ld T = some n) (hp:Raft.Pr N (abs w.fm) i g0 (Snt (w.bD ++ l)) (ab m)) : ∃ w',Q1 (i:Int) m l w = some (true,w') ∧ Wok N (K + 1) w' := by
  have hlen := h.len
  have hx := List.getElem?_eq_getElem (l := w.fm) (i := i) (by omega)
  obtain ⟨s',es,k,rfl,hc⟩ := ML w i l m hll h.cnt
  have t0 := hm.g.t0
  have tk := hm.tk
  have ht0 := h.t0
  have ht1 := h.t1
  obtain ⟨T,hT⟩ := Int.eq_ofNat_of_zero_le t0
  obtain ⟨g,hI,hg⟩ := hp.less (sent' := Snt (w.bD ++ l.take k)) fun x ⟨y,hy,hxy⟩=>⟨y,by
    rcases List.mem_append.1 hy with q | q
    · exact List.mem_append.2 (.inl q)
    · exact List.mem_append.2 (.inr (List.mem_of_mem_take q)),hxy⟩
  have hs':∀ y ∈ w.bD ++ l.take k,Xok N (K + 1) y := fun y hy=>by
    rcases List.mem_append.1 hy with q | q
    · exact (h.msg y q).up (by omega)
    · exact hs y (List.mem_of_mem_take q)
  have hl2:∀ (T:Nat) c,w.dw[T]? = some c → c = -1 ∨ ∃ n:Nat,c = n ∧ g.ld T = some n := fun T c hc=>(hl T c hc).imp id fun ⟨n,q1,q2⟩=>⟨n,q1,hg _ _ q2⟩
  unfold Q1 UJ rE rF yB oq
  simp only [Mo.den,aP,aI,bg,aN,aO,gid hx,es,Option.bind_some,decide_eq_false (show ¬ m.aJ < 0 by omega),decide_eq_false (show ¬ (1000:Int) < m.aJ by omega)]
  by_cases hr:m.bQ = 2
  · rw [show (m.bQ != 2) = false by simp [hr]]
    simp only [cond_false,Option.bind_some]
    obtain ⟨r,e1,k2,rfl,k3,k4⟩ := A8 w i m (w.bD ++ l.take k) T hT (by omega) h.ll
    obtain ⟨c,c1,r',c2,c3,c4,c5⟩ := JK (i := i) (T := T) hi hI (by rw [Raft.upd_same]; exact hr) (by rw [Raft.upd_same]; exact hT) hl2 rfl k3
    simp only [e1,Option.bind_some,hT,c1,Int.toNat_natCast]
    simp only [c1,Option.bind_some] at c2
    rw [c2]
    simp only [Option.bind_some,c4,beq_self_eq_true]
    exact ⟨_,rfl,wS h hi hm hs' hc ht0 (by omega) (by omega) ⟨g,hI,c5⟩⟩
  · rw [show (m.bQ != 2) = true by simp [hr]]
    simp only [cond_true,Option.bind_some,decide_eq_true t0,Int.toNat_natCast]
    exact ⟨_,rfl,wS h hi hm hs' hc ht0 (by omega) h.ll ⟨g,hI,hl2⟩⟩
end Go.Proofs.YtdnafbfmaphhhaaGreatDoor
set_option linter.unusedSimpArgs false
set_option linter.unusedVariables false
namespace Go.Proofs.YtdnafbfmaphhhaaGreatDoor
open Go.RowKit
theorem Sr {N K:Nat} {w:aK} {g0:Raft.Gh} (h:Wok N K w) (hK:K ≤ 900) {i:Nat} (hi:i < N) {m:aj} {t:Int} (ht0 : 0 ≤ t) (ht:t ≤ (K + 1:Nat)) (hm:Mok N (K + 1) i m)
    (hl:∀ (T:Nat) c,w.dw[T]? = some c → c = -1 ∨ ∃ n:Nat,c = n ∧ g0.ld T = some n) (hp:Raft.Pr N (abs w.fm) i g0 (Snt w.bD) (ab m)) : ∃ w',Q2 (i:Int) m (aK.mk w.fm w.bD w.dw t) = some (true,w') ∧ Wok N (K + 1) w' := by
  have hlen := h.len
  have hx := List.getElem?_eq_getElem (l := w.fm) (i := i) (by omega)
  have t0 := hm.g.t0
  have tk := hm.tk
  obtain ⟨T,hT⟩ := Int.eq_ofNat_of_zero_le t0
  obtain ⟨g,hI,hg⟩ := hp
  have hs':∀ y ∈ w.bD,Xok N (K + 1) y := fun y hy=>(h.msg y hy).up (by omega)
  have hl2:∀ (T:Nat) c,w.dw[T]? = some c → c = -1 ∨ ∃ n:Nat,c = n ∧ g.ld T = some n := fun T c hc=>(hl T c hc).imp id fun ⟨n,q1,q2⟩=>⟨n,q1,hg _ _ q2⟩
  have e5:Jw (aK.mk w.fm w.bD w.dw t) (i:Int) m = some () := by
    have:Tot (Jw (aK.mk w.fm w.bD w.dw t) (i:Int) m) (fun _=>True) := by
      unfold Jw
      refine eX (fun _=>True) (fun _=>0) _ ?_ FU _ trivial (iq (by omega))
      intro v _
      exact .inr ⟨(),rfl,trivial⟩
    obtain ⟨_,e,_⟩ := this; exact e
  unfold Q2 Y5 E8 Fa H9 yD
  simp only [Mo.den,aP,aI,bg,aN,aO,gid hx,e5,Option.bind_some,decide_eq_false (show ¬ m.aJ < 0 by omega),decide_eq_false (show ¬ (1000:Int) < m.aJ by omega)]
  by_cases hr:m.bQ = 2
  · rw [show (m.bQ != 2) = false by simp [hr]]
    simp only [cond_false,Option.bind_some]
    have hL:Tot (H8 (aK.mk w.fm w.bD w.dw t) (i:Int) m w.dw) (fun r=>∃ k,r = w.dw ++ List.replicate k (-1) ∧ T < r.length ∧ r.length ≤ 1001) := A8 (aK.mk w.fm w.bD w.dw t) (i:Int) m [] T hT (by omega) h.ll
    obtain ⟨r,e1,k2,rfl,k3,k4⟩ := hL
    obtain ⟨c,c1,r',c2,c3,c4,c5⟩ := JK (i := i) (T := T) hi hI (by rw [Raft.upd_same]; exact hr) (by rw [Raft.upd_same]; exact hT) hl2 rfl k3
    simp only [e1,Option.bind_some,hT,c1,Int.toNat_natCast]
    simp only [c1,Option.bind_some] at c2
    rw [c2]
    simp only [Option.bind_some,c4,beq_self_eq_true]
    exact ⟨_,rfl,wS h hi hm hs' h.cnt ht0 ht (by omega) ⟨g,hI,c5⟩⟩
  · rw [show (m.bQ != 2) = true by simp [hr]]
    simp only [cond_true,Option.bind_some,decide_eq_true t0,Int.toNat_natCast]
    exact ⟨_,rfl,wS h hi hm hs' h.cnt ht0 ht h.ll ⟨g,hI,hl2⟩⟩
theorem MN (a b:List ak) (ha:a.length ≤ 1000) (hb:b.length ≤ 1000) : ∃ n:Nat,Q29 a b = some (n:Int) ∧ Raft.Agr n (a.map ent) (b.map ent) ∧ n ≤ a.length ∧ n ≤ b.length ∧ (n < a.length → n < b.length → (a.map ent)[n]? ≠ (b.map ent)[n]?) := by
  have:Tot (Ib a b 0) (fun r=>∃ n:Nat,r = (n:Int) ∧ Raft.Agr n (a.map ent) (b.map ent) ∧ n ≤ a.length ∧ n ≤ b.length ∧ (n < a.length → n < b.length → (a.map ent)[n]? ≠ (b.map ent)[n]?)) := by
    unfold Ib
    refine eX (fun v=>∃ n:Nat,v = (n:Int) ∧ Raft.Agr n (a.map ent) (b.map ent) ∧ n ≤ a.length ∧ n ≤ b.length) (fun v=>a.length - v.toNat) _ ?_ FU _ ⟨0,rfl,Raft.Agr.zero _ _,Nat.zero_le _,Nat.zero_le _⟩ (iq (by omega))
    rintro v ⟨n,rfl,h1,h2,h3⟩
    unfold Fh Fg
    simp only [Mo.den,aP,aI,bg,aN,aO]
    by_cases k1:n < a.length
    · have x1 := List.getElem?_eq_getElem k1
      rw [iLt k1]
      simp only [cond_true]
      by_cases k2:n < b.length
      · have x2 := List.getElem?_eq_getElem k2
        rw [iLt k2,gid x1,gid x2]
        simp only [cond_true,Option.bind_some,AQ]
        have y1:(a.map ent)[n]? = some (ent a[n]) := by rw [List.getElem?_map,x1]; rfl
        have y2:(b.map ent)[n]? = some (ent b[n]) := by rw [List.getElem?_map,x2]; rfl
        cases hs:ji a[n] b[n] with
        | true =>
          simp only [cond_true]
          refine .inl ⟨_,rfl,⟨n + 1,inc n (by omega),fun k hk=>?_,by omega,by omega⟩,by rw [inc n (by omega)]; omega⟩
          by_cases e:k = n
          · subst e; rw [y1,y2,(lI _ _).1 hs]
          · exact h1 k (by omega)
        | false =>
          refine .inr ⟨_,rfl,n,rfl,h1,h2,h3,fun _ _ q=>?_⟩
          rw [y1,y2] at q
          injection q with q
          rw [(lI _ _).2 q] at hs; cases hs
      · rw [zG k2]
        exact .inr ⟨_,rfl,n,rfl,h1,h2,h3,fun _ q=>absurd q k2⟩
    · rw [zG k1]
      exact .inr ⟨_,rfl,n,rfl,h1,h2,h3,fun q=>absurd q k1⟩
  obtain ⟨_,e,n,rfl,hn⟩ := this
  refine ⟨n,?_,hn⟩
  unfold Q29 Ws
  simp only [Mo.den,aP,aI,bg,aN,aO,e,Option.bind_some]
theorem Sv {N K:Nat} {A:Nat → Raft.AM} {snt:Raft.Msg → Prop} {g:Raft.Gh} (h:Raft.Inv N A snt g) (hK:K ≤ 1000) {i j:Nat} (hi:i < N) (hj:j < N) {a b:aj} (ea:A i = ab a) (eb:A j = ab b) (ma:Mok N K i a) (mb:Mok N K j b) : Q5 a b = some true := by
  have la := ma.lk
  have lb := mb.lk
  have a0 := ma.g.c0
  have a1 := ma.g.c1
  have b0 := mb.g.c0
  have b1 := mb.g.c1
  obtain ⟨n,e,h1,h2,h3,h4⟩ := MN a.aB b.aB (by omega) (by omega)
  have wa:Raft.WF g (a.aB.map ent) := by have := h.wl i hi; rw [ea] at this; exact this
  have wb:Raft.WF g (b.aB.map ent) := by have := h.wl j hj; rw [eb] at this; exact this
  have ca:Raft.Cm N g (a.aB.map ent) a.au.toNat := by have := (h.cm i hi).2; rw [ea] at this; exact this
  have cb:Raft.Cm N g (b.aB.map ent) b.au.toNat := by have := (h.cm j hj).2; rw [eb] at this; exact this
  have hmin:¬ (n:Int) < (if b.au < a.au then b.au else a.au) := fun q=>by
    have q2:n < min a.au.toNat b.au.toNat := by split at q <;> omega
    exact h4 (by omega) (by omega) (h.safe ca cb n q2)
  have hdif:∀ k,n ≤ k → k < a.aB.length → k < b.aB.length → (a.aB.map ent)[k]? ≠ (b.aB.map ent)[k]? := fun k k1 k2 k3 q=>by
    have x1 := List.getElem?_eq_getElem (l := a.aB.map ent) (i := k) (by rw [List.length_map]; exact k2)
    have := wa.match_ wb x1 (q ▸ x1) rfl
    exact h4 (by omega) (by omega) (this n (by omega))
  unfold Q5 Y7 Jy
  simp only [Mo.den,aP,aI,bg,aN,aO,e,Option.bind_some,decide_eq_false hmin,decide_eq_false (show ¬ (a.aB.length:Int) < a.au by omega),cond_false]
  have:Tot (Cb a b (n:Int)) (fun r=>r = .inr ()) := by
    unfold Cb
    refine eX (fun v=>∃ k:Nat,v = (k:Int) ∧ n ≤ k ∧ k ≤ 1000) (fun v=>2000 - v.toNat) _ ?_ FU _ ⟨n,rfl,Nat.le_refl _,by omega⟩ (iq (by omega))
    rintro v ⟨k,rfl,k1,k2⟩
    unfold yG Jz
    simp only [Mo.den,aP,aI,bg,aN,aO]
    by_cases c1:k < a.aB.length
    · have x1 := List.getElem?_eq_getElem c1
      rw [iLt c1]
      simp only [cond_true,Option.bind_some]
      by_cases c2:k < b.aB.length
      · have x2 := List.getElem?_eq_getElem c2
        rw [iLt c2,gid x1,gid x2]
        simp only [cond_true,Option.bind_some,AQ]
        have hs:ji a.aB[k] b.aB[k] = false := by
          cases hs:ji a.aB[k] b.aB[k] with
          | false=>rfl
          | true =>
            refine absurd ?_ (hdif k k1 c1 c2)
            rw [List.getElem?_map,List.getElem?_map,x1,x2,Option.map_some,Option.map_some,(lI _ _).1 hs]
        rw [hs]
        exact .inl ⟨_,rfl,⟨k + 1,inc k (by omega),by omega,by omega⟩,by rw [inc k (by omega)]; omega⟩
      · rw [zG c2]
        exact .inr ⟨_,rfl,rfl⟩
    · rw [zG c1]
      exact .inr ⟨_,rfl,rfl⟩
  obtain ⟨_,e2,rfl⟩ := this
  simp only [e2]; rfl
theorem MO {N K i:Nat} {m:aj} (h:Mok N K i m) (hN:N ≤ 5) : (FY m).2.length ≤ 100 := by
  have h2 := h.sz
  unfold FY
  split
  · exact Nat.zero_le _
  · split
    · unfold yZ
      split
      · have := uK (aj.fH m 2) (aj.fH m 2).bI.toNat
        have e:(aj.fH m 2).bI = m.bI := rfl
        show (kL (aj.fH m 2) (aj.fH m 2).bI.toNat).length ≤ 100
        omega
      · exact Nat.zero_le _
    · unfold RH
      split
      · exact Nat.zero_le _
      · have := zf m m.bI.toNat
        show (asks m m.bI.toNat).length ≤ 100
        omega
theorem JM (a:Int) (n:Nat) (h0 : 0 ≤ a) (hn : 0 < n) : ∃ k:Nat,Int.tmod a (n:Int) = (k:Int) ∧ k < n := by
  have h1 := Int.tmod_nonneg (n:Int) h0
  have h2 := Int.tmod_lt_of_pos a (show (0:Int) < (n:Int) by omega)
  exact ⟨(Int.tmod a (n:Int)).toNat,by omega,by omega⟩
theorem Yn {N K:Nat} {w:aK} (h:Wok N K w) (h1 : 1 ≤ N) (hN:N ≤ 5) (hK:K ≤ 900) (s:aZ) (hA : 0 ≤ s.fA) : ∃ w',Q17 s w = some (true,w') ∧ Wok N (K + 1) w' := by
  have hlen := h.len
  obtain ⟨g0,hI,hl⟩ := h.inv
  have t0 := h.t0
  have t1 := h.t1
  have up:Wok N (K + 1) w := ⟨h.len,fun i m hm=>(h.mem i m hm).up (by omega),fun y hy=>(h.msg y hy).up (by omega),h.cnt,h.t0,by omega,h.ll,h.inv⟩
  unfold Q17 Wp Ia yF
  simp only [Mo.den,aP,aI,bg,aN,aO]
  by_cases k1:s.bT = 1
  · rw [show (s.bT == 1) = true by simp [k1]]
    simp only [cond_true]
    by_cases hs:w.bD.length = 0
    · rw [show ((w.bD.length : Int) == 0) = true by simp; exact List.length_eq_zero_iff.1 hs]
      exact ⟨w,rfl,up⟩
    · rw [show ((w.bD.length : Int) == 0) = false by simp; intro q; exact hs (by rw [q]; rfl)]
      obtain ⟨k,e,hk⟩ := JM s.fA w.bD.length hA (by omega)
      have hx := List.getElem?_eq_getElem hk
      have hy := CB hx
      have xo := h.msg _ hy
      generalize w.bD[k] = y at *
      have y0 := xo.t0
      have y1 := xo.t1
      obtain ⟨i,hi⟩ := Int.eq_ofNat_of_zero_le y0
      have hm := List.getElem?_eq_getElem (l := w.fm) (i := i) (by omega)
      rw [if_pos (show (w.bD.length:Int) ≠ 0 by omega),e,gid hx]
      simp only [cond_false,Option.bind_some,decide_eq_false (show ¬ y.fTo < 0 by omega),decide_eq_false (show ¬ (w.fm.length:Int) ≤ y.fTo by omega)]
      rw [hi,gid hm]
      have mo := h.mem i _ hm
      have hp := Raft.Pr.start (i := i) hI
      rw [uO hm] at hp
      obtain ⟨r,r1,hrl,r2,r3,r4⟩ := Yl (by omega) hN (by omega) mo hp hy xo hi
      simp only [Option.bind_some,r1]
      obtain ⟨w',e1,e2⟩ := JL (i := i) h hK (by omega) (by omega) (r2.up (by omega)) (fun z hz=>(r3 z hz).up (by omega)) hl r4
      rw [e1]
      exact ⟨w',rfl,e2⟩
  rw [show (s.bT == 1) = false by simp [k1]]
  simp only [cond_false]
  obtain ⟨i,e,hi⟩ := JM s.fA w.fm.length hA (by omega)
  have hm := List.getElem?_eq_getElem hi
  have mo := h.mem i _ hm
  have hp := Raft.Pr.start (i := i) hI
  rw [uO hm] at hp
  generalize w.fm[i] = m at *
  by_cases k2:s.bT = 2
  · rw [show (s.bT == 2) = true by simp [k2]]
    simp only [cond_true]
    rw [if_pos (show (w.fm.length:Int) ≠ 0 by omega),e,gid hm]
    obtain ⟨r,r1,r2,r3,r4⟩ := U7 (by omega) hN hK mo hp
    have hrl:r.2.length ≤ 100 := by
      have hb := mo.bulk (by omega)
      have tm := mo.tm
      have := FZ m mo.g (by omega) (by omega)
      rw [r1] at this
      injection this with this
      rw [this]; exact MO mo hN
    simp only [Option.bind_some,r1]
    obtain ⟨w',e1,e2⟩ := JL (i := i) h hK (by omega) (by omega) r2 r3 hl r4
    rw [e1]
    exact ⟨w',rfl,e2⟩
  rw [show (s.bT == 2) = false by simp [k2]]
  simp only [cond_false]
  by_cases k3:s.bT = 3
  · rw [show (s.bT == 3) = true by simp [k3]]
    simp only [cond_true]
    rw [if_pos (show (w.fm.length:Int) ≠ 0 by omega),e,gid hm]
    have hw:IntKind.wrap .i64 (w.dh + 1) = w.dh + 1 := w64 (by omega) (by omega)
    have ee:Q59 m.aJ (w.dh + 1) = some (ak.mk m.aJ (w.dh + 1) ⟨#[]⟩ 0 (ay.dX ay.z 1)) := rfl
    obtain ⟨r,r1,r2⟩ := Ym (i := i) (by omega) hN hK mo hp (w.dh + 1) (by omega) (by omega)
    simp only [Option.bind_some,hw,ee,r1]
    by_cases h0:r.2 = 0
    · rw [show (r.2 != 0) = false by simp [h0]]
      simp only [cond_false]
      obtain ⟨r3,r4⟩ := r2 h0
      obtain ⟨w',e1,e2⟩ := Sr (i := i) h hK (by omega) (t := w.dh + 1) (by omega) (by omega) r3 hl r4
      rw [e1]
      exact ⟨w',rfl,e2⟩
    · rw [show (r.2 != 0) = true by simp [h0]]
      exact ⟨_,rfl,up.len,up.mem,up.msg,up.cnt,by show 0 ≤ w.dh + 1; omega,by show w.dh + 1 ≤ ((K + 1:Nat) : Int); omega,up.ll,up.inv⟩
  · rw [show (s.bT == 3) = false by simp [k3]]
    exact ⟨w,rfl,up⟩
end Go.Proofs.YtdnafbfmaphhhaaGreatDoor
set_option linter.unusedSimpArgs false
set_option linter.unusedVariables false
namespace Go.Proofs.YtdnafbfmaphhhaaGreatDoor
open Go.RowKit
theorem MP:Q7 = some true := by kernel_rfl
/-- a new member -/
def F9 (i n:Int) : aj := aj.fH (aj.lY (aj.zV (aj.NQ (aj.sID aj.z i) n) (-1)) (-1)) (10 + 3 * i)
theorem U9 {i n:Nat} (hn:n ≤ 5) (hi:i < n) : Q61 (i:Int) (n:Int) = some (F9 i n,0) := by
  simp only [Q61,Wh,Aq,EZ,EY,Mo.den,aP,aI,bg,aN,aO,Q57,zY,Mo.den,aP,aI,bg,aN,aO,decide_eq_false (show ¬ (n:Int) < 1 by omega),decide_eq_false (show ¬ (7:Int) < n by omega),decide_eq_false (show ¬ (i:Int) < 0 by omega),decide_eq_false (show ¬ (n:Int) ≤ i by omega),cond_false,Option.bind_some,w64 (x := 3 * (i:Int)) (by omega) (by omega),w64 (x := 10 + 3 * (i:Int)) (by omega) (by omega)]
  rfl
theorem Va {i n:Nat} (hn:n ≤ 5) (hi:i < n) : Mok n 0 i (F9 i n) := by
  refine ⟨⟨?_,?_,?_,?_,Int.le_refl _,?_,Nat.zero_le _,Int.le_refl _,Int.le_refl _,Int.le_refl _,?_,fun h=>by cases h⟩,rfl,rfl,Int.le_refl _,Nat.le_refl _,?_,Nat.zero_le _,Nat.zero_le _,fun e h=>by cases h⟩
  · show (1:Int) ≤ n; omega
  · show (n:Int) ≤ 7; omega
  · show (0:Int) ≤ i; omega
  · show (i:Int) < n; omega
  · show (0:Int) ≤ 10 + 3 * i; omega
  · show (0:Int) < jf .i64 1 (n:Int)
    have:n = 1 ∨ n = 2 ∨ n = 3 ∨ n = 4 ∨ n = 5 := by omega
    rcases this with rfl | rfl | rfl | rfl | rfl <;> decide
  · show (10:Int) + 3 * i ≤ 1000; omega
theorem Vb {n:Nat} (hn:n ≤ 5) {l:List aj} (hl:l.length = n) (h:∀ k,k < n → l[k]? = some (F9 k n)) : Wok n 0 (aK.mk l [] [] 0) := by
  refine ⟨hl,fun i m hm=>?_,fun y hy=>(by cases hy),Nat.zero_le _,Int.le_refl _,Int.le_refl _,Nat.zero_le _,Raft.gh0,?_,fun T c hc=>(by cases hc)⟩
  · have hi : i < n := by rw [← hl]; exact (List.getElem?_eq_some_iff.1 hm).1
    have e := h i hi
    have hm:l[i]? = some m := hm
    rw [hm] at e; injection e with e
    rw [e]; exact Va hn hi
  · refine (Raft.Inv.init n (abs l) fun i hi=>?_).less fun x hx=>?_
    · rw [uO (h i hi)]; exact ⟨rfl,rfl,rfl,rfl,rfl⟩
    · obtain ⟨y,hy,_⟩ := hx; cases hy
theorem MQ {n:Nat} (hn:n ≤ 5) (s:List aZ) : Tot (JB (n:Int) s 0 []) (fun r=>∃ l:List aj,r = .inr l ∧ l.length = n ∧ ∀ k,k < n → l[k]? = some (F9 k n)) := by
  unfold JB
  refine eX (fun v=>∃ k:Nat,v.1 = (k:Int) ∧ k ≤ n ∧ v.2.length = k ∧ ∀ j,j < k → v.2[j]? = some (F9 j n)) (fun v=>n - v.1.toNat) _ ?_ FU _ ⟨0,rfl,Nat.zero_le _,rfl,fun j hj=>absurd hj (Nat.not_lt_zero _)⟩ (iq (by show n - _ ≤ _; omega))
  rintro ⟨v,l⟩ ⟨k,hv,h1,h2,h3⟩
  have hv:v = (k:Int) := hv
  have h2:l.length = k := h2
  have h3:∀ j,j < k → l[j]? = some (F9 j n) := h3
  subst hv
  unfold Cc
  simp only [Mo.den,aP,aI,bg,aN,aO]
  by_cases hk:k < n
  · rw [iLt hk,U9 hn hk]
    simp only [cond_true,Option.bind_some,bne_self_eq_false,cond_false]
    rw [if_pos (by simp only [List.length_cons,List.length_nil]; omega),inc k (by omega)]
    refine .inl ⟨_,rfl,⟨k + 1,rfl,by omega,?_,fun j hj=>?_⟩,by show n - ((k + 1:Nat) : Int).toNat < n - (k:Int).toNat; omega⟩
    · show (l ++ [F9 k n]).length = k + 1
      rw [List.length_append,h2]; rfl
    · show (l ++ [F9 k n])[j]? = _
      rw [List.getElem?_append]
      split
      · exact h3 j (by omega)
      · obtain rfl : j = k := by omega
        rw [h2,Nat.sub_self]; rfl
  · obtain rfl : k = n := by omega
    rw [ltn]
    exact .inr ⟨_,rfl,l,rfl,h2,h3⟩
theorem Iy {N K:Nat} {w:aK} (h:Wok N K w) (hN:N ≤ 5) (hK:K ≤ 1000) (s:List aZ) (v:Int) {i:Nat} (hi:i < N) : Tot (Ce s (true,w) v (i:Int) 0) (fun r=>r = .inr ()) := by
  have hlen := h.len
  obtain ⟨g,hI,_⟩ := h.inv
  unfold Ce
  refine eX (fun v=>∃ k:Nat,v = (k:Int) ∧ k ≤ N) (fun v=>N - v.toNat) _ ?_ FU _ ⟨0,rfl,Nat.zero_le _⟩ (iq (by omega))
  rintro v ⟨k,rfl,h1⟩
  unfold yH
  simp only [Mo.den,aP,aI,bg,aN,aO]
  by_cases hk:k < w.fm.length
  · have hx := List.getElem?_eq_getElem hk
    have hy := List.getElem?_eq_getElem (l := w.fm) (i := i) (by omega)
    rw [iLt hk,gid hx,gid hy]
    simp only [cond_true,Option.bind_some]
    rw [Sv hI hK hi (show k < N by omega) (uO hy) (uO hx) (h.mem i _ hy) (h.mem k _ hx)]
    simp only [Option.bind_some,Bool.not_true,cond_false]
    exact .inl ⟨_,rfl,⟨k + 1,inc k (by omega),by omega⟩,by rw [inc k (by omega)]; omega⟩
  · rw [zG hk]
    exact .inr ⟨_,rfl,rfl⟩
theorem MR {N K:Nat} {w:aK} (h:Wok N K w) (hN:N ≤ 5) (hK:K ≤ 1000) (s:List aZ) (v:Int) : Tot (Ci s (true,w) v 0) (fun r=>r = .inr ()) := by
  have hlen := h.len
  unfold Ci
  refine eX (fun v=>∃ k:Nat,v = (k:Int) ∧ k ≤ N) (fun v=>N - v.toNat) _ ?_ FU _ ⟨0,rfl,Nat.zero_le _⟩ (iq (by omega))
  rintro v2 ⟨k,rfl,h1⟩
  unfold yI
  simp only [Mo.den,aP,aI,bg,aN,aO]
  by_cases hk:k < w.fm.length
  · rw [iLt hk]
    simp only [cond_true,Option.bind_some]
    obtain ⟨_,e,rfl⟩ := Iy h hN hK s v (i := k) (by omega)
    simp only [e]
    exact .inl ⟨_,rfl,⟨k + 1,inc k (by omega),by omega⟩,by rw [inc k (by omega)]; omega⟩
  · rw [zG hk]
    exact .inr ⟨_,rfl,rfl⟩
theorem Wok.up {N K L:Nat} {w:aK} (h:Wok N K w) (hk:K ≤ L) : Wok N L w := ⟨h.len,fun i m hm=>(h.mem i m hm).up hk,fun y hy=>(h.msg y hy).up hk,h.cnt,h.t0,by have := h.t1; omega,h.ll,h.inv⟩
theorem Sz {N K:Nat} {w:aK} (h:Wok N K w) (h1 : 1 ≤ N) (hN:N ≤ 5) (hK:K ≤ 900) (s:List aZ) {k:Nat} (hk:k < s.length) : ∃ o:Int × (List aj) × (List ah) × (List Int),yK w.fm w.bD w.dw s (k:Int) w.dh = some (.inl o) ∧ Wok N (K + 1) (aK.mk o.2.1 o.2.2.1 o.2.2.2 o.1) := by
  have hx := List.getElem?_eq_getElem hk
  unfold yK yJ
  simp only [Mo.den,aP,aI,bg,aN,aO,gid hx,Option.bind_some]
  by_cases ha:s[k].fA < 0
  · rw [decide_eq_true ha]
    exact ⟨_,rfl,h.up (Nat.le_succ _)⟩
  · rw [decide_eq_false ha]
    simp only [cond_false]
    obtain ⟨w',e,h2⟩ := Yn h h1 hN hK s[k] (by omega)
    have e:Q17 s[k] (aK.mk w.fm w.bD w.dw w.dh) = some (true,w') := e
    simp only [e,Option.bind_some,Bool.not_true,cond_false]
    obtain ⟨_,e2,rfl⟩ := MR h2 hN (by omega) s (k:Int)
    simp only [e2]
    exact ⟨_,rfl,h2⟩
theorem Iz {N:Nat} {l:List aj} (h:Wok N 0 (aK.mk l [] [] 0)) (h1 : 1 ≤ N) (hN:N ≤ 5) (s:List aZ) (hs:s.length ≤ 400) : Tot (Cj s 0 0 l [] []) (fun r=>r = .inr ()) := by
  unfold Cj
  refine eX (fun v=>∃ k:Nat,v.1 = (k:Int) ∧ k ≤ s.length ∧ Wok N k (aK.mk v.2.2.1 v.2.2.2.1 v.2.2.2.2 v.2.1)) (fun v=>s.length - v.1.toNat) _ ?_ FU _ ⟨0,rfl,Nat.zero_le _,h⟩ (iq (by show s.length - _ ≤ _; omega))
  rintro ⟨v,t,a,b,c⟩ ⟨k,hv,h2,h3⟩
  have hv:v = (k:Int) := hv
  have h3:Wok N k (aK.mk a b c t) := h3
  subst hv
  unfold yL
  simp only [Mo.den,aP,aI,bg,aN,aO]
  by_cases hk:k < s.length
  · rw [iLt hk]
    simp only [cond_true]
    obtain ⟨o,e,h4⟩ := Sz h3 h1 hN (by omega) s hk
    have e:yK a b c s (k:Int) t = some (.inl o) := e
    simp only [e]
    exact .inl ⟨_,rfl,⟨k + 1,inc k (by omega),by omega,h4⟩,by show s.length - (IntKind.wrap .i64 ((k:Int) + 1)).toNat < s.length - (k:Int).toNat; rw [inc k (by omega)]; omega⟩
  · rw [zG hk]
    exact .inr ⟨_,rfl,rfl⟩
theorem vO (n:Int) (s:List aZ) : Q0 n s = some true := by
  unfold Q0 Y9 JA
  simp only [Mo.den,aP,aI,bg,aN,aO,MP]
  by_cases h1:n < 1
  · rw [decide_eq_true h1]; rfl
  by_cases h5 : 5 < n
  · rw [decide_eq_false h1,decide_eq_true h5]; rfl
  by_cases hs:(400:Int) < (s.length:Int)
  · rw [decide_eq_false h1,decide_eq_false h5,decide_eq_true hs]; rfl
  rw [decide_eq_false h1,decide_eq_false h5,decide_eq_false hs]
  simp only [cond_false,Option.bind_some]
  obtain ⟨k,rfl⟩ := Int.eq_ofNat_of_zero_le (show 0 ≤ n by omega)
  obtain ⟨_,e,l,rfl,hl,hm⟩ := MQ (n := k) (by omega) s
  obtain ⟨_,e2,rfl⟩ := Iz (Vb (by omega) hl hm) (by omega) (by omega) s (by omega)
  simp only [e,e2,Option.bind_some]
end Go.Proofs.YtdnafbfmaphhhaaGreatDoor
