/- The copy functions give back what they are handed (printed by idgen.py). -/
import Derived.Test.YtdnafbfmaphhhaaGreatDoorQV7
set_option linter.unusedSimpArgs false
set_option linter.unusedVariables false
namespace Go.Proofs.YtdnafbfmaphhhaaGreatDoor
open Go.RowKit
theorem kM (n_:Nat) : (∀ p_v:ak,4 * aY p_v.lf1 + 0 < n_ → aY p_v.lf1 ≤ 100000000 → (iE n_).m1 p_v = some p_v) ∧ (∀ p_l:List ak,4 * bG (p_l.map ak.lf) + 1 < n_ → bG (p_l.map ak.lf) ≤ 100000000 → (iE n_).m2 p_l = some p_l) ∧ (∀ p_l:List aT,4 * bG (p_l.map aT.lf) + 2 < n_ → bG (p_l.map aT.lf) ≤ 100000000 → (iE n_).m3 p_l = some p_l) ∧ (∀ p_f:aT,4 * aY p_f.lf1 + 1 < n_ → aY p_f.lf1 ≤ 100000000 → (iE n_).m4 p_f = some p_f) := by
  induction n_ with
  | zero=>exact ⟨fun _ h=>by omega,fun _ h=>by omega,fun _ h=>by omega,fun _ h=>by omega⟩
  | succ n_ ih =>
    refine ⟨?_,?_,?_,?_⟩
    · intro p_v h_ h2_
      have hbv := bU p_v
      have := ig p_v.bV
      have := gq p_v.bY
      have e0 := (ih.2.1 p_v.bY (by omega) (by omega))
      have e1 := (ih.2.2.1 p_v.bV (by omega) (by omega))
      simp only [iE,aej,Mo.den,aC,aF,aG,aK,e0,e1,Option.bind_some,List.length_nil]
      all_goals (cases p_v; rfl)
    · intro p_l h_ h2_
      have hl := gq p_l
      have h1:aek (iE n_) p_l 0 (List.replicate (p_l.length:Int).toNat (ak.mk 0 0 ⟨#[]⟩ [] [])) = some p_l := fF p_l (fun x=>(iE n_).m1 x) _ _ (by simp) (by omega) (fun x hx=>ih.1 x (by have := jw hx; omega) (by have := jw hx; omega)) (fun k s=>by simp only [Uw,Mo.den,aC,aF,aG,aK])
      simp only [iE,ael,Mo.den,aC,aF,aG,aK,h1]
      exact dR p_l _ ⟨by omega,by omega,by unfold maxLen; omega⟩
    · intro p_l h_ h2_
      have hl := ig p_l
      have h1:Zp (iE n_) p_l 0 (List.replicate (p_l.length:Int).toNat (aT.mk ⟨#[]⟩ (ak.mk 0 0 ⟨#[]⟩ [] []))) = some p_l := fF p_l (fun x=>(iE n_).m4 x) _ _ (by simp) (by omega) (fun x hx=>ih.2.2.2 x (by have := iq hx; omega) (by have := iq hx; omega)) (fun k s=>by simp only [J9,Mo.den,aC,aF,aG,aK])
      simp only [iE,Xf,Mo.den,aC,aF,aG,aK,h1]
      exact dR p_l _ ⟨by omega,by omega,by unfold maxLen; omega⟩
    · intro p_f h_ h2_
      have hbv := gZ p_f
      have := bU p_f.fValue
      have e0 := (ih.1 p_f.fValue (by omega) (by omega))
      simp only [iE,Xg,Mo.den,aC,aF,aG,aK,e0,Option.bind_some,List.length_nil]
      all_goals (cases p_f; rfl)
theorem eX (p_v:ak) (h_:aY p_v.lf1 ≤ 100000000) : Q99 p_v = some p_v := (kM FU).1 p_v (jm (by omega)) h_
theorem jf (p_l:List ak) (h_:bG (p_l.map ak.lf) ≤ 100000000) : Q72 p_l = some p_l := (kM FU).2.1 p_l (jm (by omega)) h_
theorem gI (p_l:List ByteArray) (h_:bG (p_l.map lfS) ≤ 100000000) : ald p_l = some p_l := by
  have hl := dG p_l
  simp only [ald,aep,Mo.den,aC,aF,aG,aK,Option.bind_some,List.length_nil]
  rw [if_pos (by omega)]
  try rfl
theorem qB (p_o:bn) (h_:aY p_o.lf1 ≤ 100000000) : ahu p_o = some p_o := by
  have hbv := jD p_o
  have := dG p_o.dA
  have e0 := (gI p_o.dA (by omega))
  simp only [ahu,aer,Mo.den,aC,aF,aG,aK,e0,Option.bind_some,List.length_nil]
  all_goals (cases p_o; rfl)
theorem lT (p_l:List bn) (h_:bG (p_l.map bn.lf) ≤ 100000000) : Q88 p_l = some p_l := by
  have hl := jX p_l
  have h1:aes p_l 0 (List.replicate (p_l.length:Int).toNat (bn.mk [] false)) = some p_l := fF p_l (fun x=>ahu x) _ _ (by simp) (by omega) (fun x hx=>qB x (by have := kZ hx; omega)) (fun k s=>by simp only [Ux,Mo.den,aC,aF,aG,aK])
  simp only [Q88,ajp,Mo.den,aC,aF,aG,aK,h1]
  exact dR p_l _ ⟨by omega,by omega,by unfold maxLen; omega⟩
theorem qC (n_:Nat) : (∀ p_e:aH,4 * aY p_e.lf1 + 0 < n_ → aY p_e.lf1 ≤ 100000000 → (l7 n_).m1 p_e = some p_e) ∧ (∀ p_l:List aH,4 * bG (p_l.map aH.lf) + 1 < n_ → bG (p_l.map aH.lf) ≤ 100000000 → (l7 n_).m2 p_l = some p_l) := by
  induction n_ with
  | zero=>exact ⟨fun _ h=>by omega,fun _ h=>by omega⟩
  | succ n_ ih =>
    refine ⟨?_,?_⟩
    · intro p_e h_ h2_
      have hbv := fZ p_e
      have := bU p_e.fArg
      have := jq p_e.bC
      have := dG p_e.bT
      have := dG p_e.dA
      have e0 := (gI p_e.dA (by omega))
      have e1 := (gI p_e.bT (by omega))
      have e2 := (eX p_e.fArg (by omega))
      have e3 := (ih.2 p_e.bC (by omega) (by omega))
      simp only [l7,Xi,Mo.den,aC,aF,aG,aK,e0,e1,e2,e3,Option.bind_some,List.length_nil]
      all_goals (cases p_e; rfl)
    · intro p_l h_ h2_
      have hl := jq p_l
      have h1:Zq (l7 n_) p_l 0 (List.replicate (p_l.length:Int).toNat aH.z) = some p_l := fF p_l (fun x=>(l7 n_).m1 x) _ _ (by simp) (by omega) (fun x hx=>ih.1 x (by have := lS hx; omega) (by have := lS hx; omega)) (fun k s=>by simp only [Ko,Mo.den,aC,aF,aG,aK])
      simp only [l7,Xj,Mo.den,aC,aF,aG,aK,h1]
      exact dR p_l _ ⟨by omega,by omega,by unfold maxLen; omega⟩
theorem rC (p_e:aH) (h_:aY p_e.lf1 ≤ 100000000) : am7 p_e = some p_e := (qC FU).1 p_e (jm (by omega)) h_
theorem qE (n_:Nat) : (∀ p_p:aO,4 * aY p_p.lf1 + 0 < n_ → aY p_p.lf1 ≤ 100000000 → (l9 n_).m1 p_p = some p_p) ∧ (∀ p_l:List aO,4 * bG (p_l.map aO.lf) + 1 < n_ → bG (p_l.map aO.lf) ≤ 100000000 → (l9 n_).m2 p_l = some p_l) := by
  induction n_ with
  | zero=>exact ⟨fun _ h=>by omega,fun _ h=>by omega⟩
  | succ n_ ih =>
    refine ⟨?_,?_⟩
    · intro p_p h_ h2_
      have hbv := gW p_p
      have := bU p_p.fArg
      have := gq p_p.fArgs
      have := fZ p_p.fExpr
      have := jM p_p.bC
      have := dG p_p.dA
      have := jE p_p.eG
      have := jG p_p.eG.cu
      have := jG p_p.eG.cu
      have e0 := (gI p_p.dA (by omega))
      have e1 := (eX p_p.fArg (by omega))
      have e2 := (jf p_p.fArgs (by omega))
      have e3 := (rC p_p.fExpr (by omega))
      have e4 := (ih.2 p_p.bC (by omega) (by omega))
      simp only [l9,Xl,Mo.den,aC,aF,aG,aK,e0,e1,e2,e3,e4,Option.bind_some,List.length_nil]
      rw [if_pos (by omega)]
      all_goals (cases p_p; rfl)
    · intro p_l h_ h2_
      have hl := jM p_l
      have h1:Zr (l9 n_) p_l 0 (List.replicate (p_l.length:Int).toNat aO.z) = some p_l := fF p_l (fun x=>(l9 n_).m1 x) _ _ (by simp) (by omega) (fun x hx=>ih.1 x (by have := nU hx; omega) (by have := nU hx; omega)) (fun k s=>by simp only [Kq,Mo.den,aC,aF,aG,aK])
      simp only [l9,Xm,Mo.den,aC,aF,aG,aK,h1]
      exact dR p_l _ ⟨by omega,by omega,by unfold maxLen; omega⟩
theorem rD (p_p:aO) (h_:aY p_p.lf1 ≤ 100000000) : alf p_p = some p_p := (qE FU).1 p_p (jm (by omega)) h_
theorem kR (p_x:aV) (h_:aY p_x.lf1 ≤ 100000000) : ahy p_x = some p_x := by
  have hbv := gU p_x
  have := jX p_x.gB
  have := gW p_x.jc
  have e0 := (lT p_x.gB (by omega))
  have e1 := (rD p_x.jc (by omega))
  simp only [ahy,aey,Mo.den,aC,aF,aG,aK,e0,e1,Option.bind_some,List.length_nil]
  all_goals (cases p_x; rfl)
theorem lU (p_l:List aV) (h_:bG (p_l.map aV.lf) ≤ 100000000) : Q89 p_l = some p_l := by
  have hl := jH p_l
  have h1:aez p_l 0 (List.replicate (p_l.length:Int).toNat aV.z) = some p_l := fF p_l (fun x=>ahy x) _ _ (by simp) (by omega) (fun x hx=>kR x (by have := ny hx; omega)) (fun k s=>by simp only [Uy,Mo.den,aC,aF,aG,aK])
  simp only [Q89,ajq,Mo.den,aC,aF,aG,aK,h1]
  exact dR p_l _ ⟨by omega,by omega,by unfold maxLen; omega⟩
theorem o7 (n_:Nat) : (∀ p_s:aB,4 * aY p_s.lf1 + 0 < n_ → aY p_s.lf1 ≤ 100000000 → (iM n_).m1 p_s = some p_s) ∧ (∀ p_l:List bH,4 * bG (p_l.map bH.lf) + 2 < n_ → bG (p_l.map bH.lf) ≤ 100000000 → (iM n_).m2 p_l = some p_l) ∧ (∀ p_l:List aB,4 * bG (p_l.map aB.lf) + 1 < n_ → bG (p_l.map aB.lf) ≤ 100000000 → (iM n_).m3 p_l = some p_l) ∧ (∀ p_p:bH,4 * aY p_p.lf1 + 1 < n_ → aY p_p.lf1 ≤ 100000000 → (iM n_).m4 p_p = some p_p) := by
  induction n_ with
  | zero=>exact ⟨fun _ h=>by omega,fun _ h=>by omega,fun _ h=>by omega,fun _ h=>by omega⟩
  | succ n_ ih =>
    refine ⟨?_,?_,?_,?_⟩
    · intro p_s h_ h2_
      have hbv := fO p_s
      have := gq p_s.kH
      have := jI p_s.fH
      have := bU p_s.uI
      have := bU p_s.uH
      have := jZ p_s.dP
      have := dG p_s.gG
      have e0 := (eX p_s.uH (by omega))
      have e1 := (eX p_s.uI (by omega))
      have e2 := (jf p_s.kH (by omega))
      have e3 := (gI p_s.gG (by omega))
      have e4 := (ih.2.1 p_s.dP (by omega) (by omega))
      have e5 := (ih.2.2.1 p_s.fH (by omega) (by omega))
      simp only [iM,Xn,Mo.den,aC,aF,aG,aK,e0,e1,e2,e3,e4,e5,Option.bind_some,List.length_nil]
      all_goals (cases p_s; rfl)
    · intro p_l h_ h2_
      have hl := jZ p_l
      have h1:Zu (iM n_) p_l 0 (List.replicate (p_l.length:Int).toNat (bH.mk ⟨#[]⟩ aB.z)) = some p_l := fF p_l (fun x=>(iM n_).m4 x) _ _ (by simp) (by omega) (fun x hx=>ih.2.2.2 x (by have := oZ hx; omega) (by have := oZ hx; omega)) (fun k s=>by simp only [Kr,Mo.den,aC,aF,aG,aK])
      simp only [iM,Xo,Mo.den,aC,aF,aG,aK,h1]
      exact dR p_l _ ⟨by omega,by omega,by unfold maxLen; omega⟩
    · intro p_l h_ h2_
      have hl := jI p_l
      have h1:aeC (iM n_) p_l 0 (List.replicate (p_l.length:Int).toNat aB.z) = some p_l := fF p_l (fun x=>(iM n_).m1 x) _ _ (by simp) (by omega) (fun x hx=>ih.1 x (by have := lq hx; omega) (by have := lq hx; omega)) (fun k s=>by simp only [Uz,Mo.den,aC,aF,aG,aK])
      simp only [iM,aeD,Mo.den,aC,aF,aG,aK,h1]
      exact dR p_l _ ⟨by omega,by omega,by unfold maxLen; omega⟩
    · intro p_p h_ h2_
      have hbv := ni p_p
      have := fO p_p.fG
      have e0 := (ih.1 p_p.fG (by omega) (by omega))
      simp only [iM,Xp,Mo.den,aC,aF,aG,aK,e0,Option.bind_some,List.length_nil]
      all_goals (cases p_p; rfl)
theorem ql (p_s:aB) (h_:aY p_s.lf1 ≤ 100000000) : alh p_s = some p_s := (o7 FU).1 p_s (jm (by omega)) h_
theorem qF (p_d:bQ) (h_:aY p_d.lf1 ≤ 100000000) : ali p_d = some p_d := by
  have hbv := jF p_d
  have := jH p_d.dJ
  have := fO p_d.fG
  have e0 := (lU p_d.dJ (by omega))
  have e1 := (ql p_d.fG (by omega))
  simp only [ali,aeF,Mo.den,aC,aF,aG,aK,e0,e1,Option.bind_some,List.length_nil]
  all_goals (cases p_d; rfl)
theorem jK (p_l:List Int) (h_:bG (p_l.map lfI) ≤ 100000000) : ahC p_l = some p_l := by
  have hl := iC p_l
  simp only [ahC,aeG,Mo.den,aC,aF,aG,aK,Option.bind_some,List.length_nil]
  rw [if_pos (by omega)]
  try rfl
theorem qm (n_:Nat) : (∀ p_w:aJ,4 * aY p_w.lf1 + 0 < n_ → aY p_w.lf1 ≤ 100000000 → (mg n_).m1 p_w = some p_w) ∧ (∀ p_l:List aJ,4 * bG (p_l.map aJ.lf) + 1 < n_ → bG (p_l.map aJ.lf) ≤ 100000000 → (mg n_).m2 p_l = some p_l) := by
  induction n_ with
  | zero=>exact ⟨fun _ h=>by omega,fun _ h=>by omega⟩
  | succ n_ ih =>
    refine ⟨?_,?_⟩
    · intro p_w h_ h2_
      have hbv := iU p_w
      have := bU p_w.gY
      have := jF p_w.oW
      have := bU p_w.bV
      have := gU p_w.aW
      have := bU p_w.mW
      have := iC p_w.eF
      have := jJ p_w.dN
      have e0 := (eX p_w.mW (by omega))
      have e1 := (eX p_w.bV (by omega))
      have e2 := (eX p_w.gY (by omega))
      have e3 := (qF p_w.oW (by omega))
      have e4 := (kR p_w.aW (by omega))
      have e5 := (ih.2 p_w.dN (by omega) (by omega))
      have e6 := (jK p_w.eF (by omega))
      simp only [mg,Xr,Mo.den,aC,aF,aG,aK,e0,e1,e2,e3,e4,e5,e6,Option.bind_some,List.length_nil]
      all_goals (cases p_w; rfl)
    · intro p_l h_ h2_
      have hl := jJ p_l
      have h1:Zv (mg n_) p_l 0 (List.replicate (p_l.length:Int).toNat aJ.z) = some p_l := fF p_l (fun x=>(mg n_).m1 x) _ _ (by simp) (by omega) (fun x hx=>ih.1 x (by have := nC hx; omega) (by have := nC hx; omega)) (fun k s=>by simp only [Kt,Mo.den,aC,aF,aG,aK])
      simp only [mg,Xt,Mo.den,aC,aF,aG,aK,h1]
      exact dR p_l _ ⟨by omega,by omega,by unfold maxLen; omega⟩
theorem qG (p_w:aJ) (h_:aY p_w.lf1 ≤ 100000000) : am8 p_w = some p_w := (qm FU).1 p_w (jm (by omega)) h_
theorem qH (p_e:ay) (h_:aY p_e.lf1 ≤ 100000000) : ahE p_e = some p_e := by
  have hbv := nT p_e
  have := iU p_e.iJ
  have e0 := (qG p_e.iJ (by omega))
  simp only [ahE,aeJ,Mo.den,aC,aF,aG,aK,e0,Option.bind_some,List.length_nil]
  all_goals (cases p_e; rfl)
theorem lV (p_l:List ay) (h_:bG (p_l.map ay.lf) ≤ 100000000) : Q90 p_l = some p_l := by
  have hl := ku p_l
  have h1:aeK p_l 0 (List.replicate (p_l.length:Int).toNat (ay.mk 0 0 ⟨#[]⟩ 0 aJ.z)) = some p_l := fF p_l (fun x=>ahE x) _ _ (by simp) (by omega) (fun x hx=>qH x (by have := um hx; omega)) (fun k s=>by simp only [UA,Mo.den,aC,aF,aG,aK])
  simp only [Q90,ajr,Mo.den,aC,aF,aG,aK,h1]
  exact dR p_l _ ⟨by omega,by omega,by unfold maxLen; omega⟩
theorem iH (p_m:aj) (h_:aY p_m.lf1 ≤ 100000000) : alk p_m = some p_m := by
  have hbv := fV p_m
  have := ku p_m.aP
  have := iC p_m.bg
  have := iC p_m.fNext
  have e0 := (lV p_m.aP (by omega))
  have e1 := (jK p_m.fNext (by omega))
  have e2 := (jK p_m.bg (by omega))
  simp only [alk,aeL,Mo.den,aC,aF,aG,aK,e0,e1,e2,Option.bind_some,List.length_nil]
  all_goals (cases p_m; rfl)
theorem kN (n_:Nat) : (∀ p_v:ak,4 * aY p_v.lf1 + 0 < n_ → aY p_v.lf1 ≤ 100000000 → (iF n_).m1 p_v = some p_v) ∧ (∀ p_l:List ak,4 * bG (p_l.map ak.lf) + 1 < n_ → bG (p_l.map ak.lf) ≤ 100000000 → (iF n_).m2 p_l = some p_l) ∧ (∀ p_l:List aT,4 * bG (p_l.map aT.lf) + 2 < n_ → bG (p_l.map aT.lf) ≤ 100000000 → (iF n_).m3 p_l = some p_l) ∧ (∀ p_f:aT,4 * aY p_f.lf1 + 1 < n_ → aY p_f.lf1 ≤ 100000000 → (iF n_).m4 p_f = some p_f) := by
  induction n_ with
  | zero=>exact ⟨fun _ h=>by omega,fun _ h=>by omega,fun _ h=>by omega,fun _ h=>by omega⟩
  | succ n_ ih =>
    refine ⟨?_,?_,?_,?_⟩
    · intro p_v h_ h2_
      have hbv := bU p_v
      have := ig p_v.bV
      have := gq p_v.bY
      have e0 := (ih.2.1 p_v.bY (by omega) (by omega))
      have e1 := (ih.2.2.1 p_v.bV (by omega) (by omega))
      simp only [iF,Xx,Mo.den,aC,aF,aG,aK,e0,e1,Option.bind_some,List.length_nil]
      all_goals (cases p_v; rfl)
    · intro p_l h_ h2_
      have hl := gq p_l
      have h1:aeY (iF n_) p_l 0 (List.replicate (p_l.length:Int).toNat (ak.mk 0 0 ⟨#[]⟩ [] [])) = some p_l := fF p_l (fun x=>(iF n_).m1 x) _ _ (by simp) (by omega) (fun x hx=>ih.1 x (by have := jw hx; omega) (by have := jw hx; omega)) (fun k s=>by simp only [UO,Mo.den,aC,aF,aG,aK])
      simp only [iF,aeZ,Mo.den,aC,aF,aG,aK,h1]
      exact dR p_l _ ⟨by omega,by omega,by unfold maxLen; omega⟩
    · intro p_l h_ h2_
      have hl := ig p_l
      have h1:Zz (iF n_) p_l 0 (List.replicate (p_l.length:Int).toNat (aT.mk ⟨#[]⟩ (ak.mk 0 0 ⟨#[]⟩ [] []))) = some p_l := fF p_l (fun x=>(iF n_).m4 x) _ _ (by simp) (by omega) (fun x hx=>ih.2.2.2 x (by have := iq hx; omega) (by have := iq hx; omega)) (fun k s=>by simp only [KG,Mo.den,aC,aF,aG,aK])
      simp only [iF,Xy,Mo.den,aC,aF,aG,aK,h1]
      exact dR p_l _ ⟨by omega,by omega,by unfold maxLen; omega⟩
    · intro p_f h_ h2_
      have hbv := gZ p_f
      have := bU p_f.fValue
      have e0 := (ih.1 p_f.fValue (by omega) (by omega))
      simp only [iF,Xz,Mo.den,aC,aF,aG,aK,e0,Option.bind_some,List.length_nil]
      all_goals (cases p_f; rfl)
theorem eY (p_v:ak) (h_:aY p_v.lf1 ≤ 100000000) : ana p_v = some p_v := (kN FU).1 p_v (jm (by omega)) h_
theorem jg (p_l:List ak) (h_:bG (p_l.map ak.lf) ≤ 100000000) : Q73 p_l = some p_l := (kN FU).2.1 p_l (jm (by omega)) h_
theorem gJ (p_l:List ByteArray) (h_:bG (p_l.map lfS) ≤ 100000000) : alD p_l = some p_l := by
  have hl := dG p_l
  simp only [alD,ae3,Mo.den,aC,aF,aG,aK,Option.bind_some,List.length_nil]
  rw [if_pos (by omega)]
  try rfl
theorem qI (p_o:bn) (h_:aY p_o.lf1 ≤ 100000000) : ahU p_o = some p_o := by
  have hbv := jD p_o
  have := dG p_o.dA
  have e0 := (gJ p_o.dA (by omega))
  simp only [ahU,ae4,Mo.den,aC,aF,aG,aK,e0,Option.bind_some,List.length_nil]
  all_goals (cases p_o; rfl)
theorem lX (p_l:List bn) (h_:bG (p_l.map bn.lf) ≤ 100000000) : Q91 p_l = some p_l := by
  have hl := jX p_l
  have h1:ae5 p_l 0 (List.replicate (p_l.length:Int).toNat (bn.mk [] false)) = some p_l := fF p_l (fun x=>ahU x) _ _ (by simp) (by omega) (fun x hx=>qI x (by have := kZ hx; omega)) (fun k s=>by simp only [UQ,Mo.den,aC,aF,aG,aK])
  simp only [Q91,ajw,Mo.den,aC,aF,aG,aK,h1]
  exact dR p_l _ ⟨by omega,by omega,by unfold maxLen; omega⟩
theorem qJ (n_:Nat) : (∀ p_e:aH,4 * aY p_e.lf1 + 0 < n_ → aY p_e.lf1 ≤ 100000000 → (mD n_).m1 p_e = some p_e) ∧ (∀ p_l:List aH,4 * bG (p_l.map aH.lf) + 1 < n_ → bG (p_l.map aH.lf) ≤ 100000000 → (mD n_).m2 p_l = some p_l) := by
  induction n_ with
  | zero=>exact ⟨fun _ h=>by omega,fun _ h=>by omega⟩
  | succ n_ ih =>
    refine ⟨?_,?_⟩
    · intro p_e h_ h2_
      have hbv := fZ p_e
      have := bU p_e.fArg
      have := jq p_e.bC
      have := dG p_e.bT
      have := dG p_e.dA
      have e0 := (gJ p_e.dA (by omega))
      have e1 := (gJ p_e.bT (by omega))
      have e2 := (eY p_e.fArg (by omega))
      have e3 := (ih.2 p_e.bC (by omega) (by omega))
      simp only [mD,XB,Mo.den,aC,aF,aG,aK,e0,e1,e2,e3,Option.bind_some,List.length_nil]
      all_goals (cases p_e; rfl)
    · intro p_l h_ h2_
      have hl := jq p_l
      have h1:ZA (mD n_) p_l 0 (List.replicate (p_l.length:Int).toNat aH.z) = some p_l := fF p_l (fun x=>(mD n_).m1 x) _ _ (by simp) (by omega) (fun x hx=>ih.1 x (by have := lS hx; omega) (by have := lS hx; omega)) (fun k s=>by simp only [KH,Mo.den,aC,aF,aG,aK])
      simp only [mD,XC,Mo.den,aC,aF,aG,aK,h1]
      exact dR p_l _ ⟨by omega,by omega,by unfold maxLen; omega⟩
theorem rE (p_e:aH) (h_:aY p_e.lf1 ≤ 100000000) : anb p_e = some p_e := (qJ FU).1 p_e (jm (by omega)) h_
theorem qK (n_:Nat) : (∀ p_p:aO,4 * aY p_p.lf1 + 0 < n_ → aY p_p.lf1 ≤ 100000000 → (mF n_).m1 p_p = some p_p) ∧ (∀ p_l:List aO,4 * bG (p_l.map aO.lf) + 1 < n_ → bG (p_l.map aO.lf) ≤ 100000000 → (mF n_).m2 p_l = some p_l) := by
  induction n_ with
  | zero=>exact ⟨fun _ h=>by omega,fun _ h=>by omega⟩
  | succ n_ ih =>
    refine ⟨?_,?_⟩
    · intro p_p h_ h2_
      have hbv := gW p_p
      have := bU p_p.fArg
      have := gq p_p.fArgs
      have := fZ p_p.fExpr
      have := jM p_p.bC
      have := dG p_p.dA
      have := jE p_p.eG
      have := jG p_p.eG.cu
      have := jG p_p.eG.cu
      have e0 := (gJ p_p.dA (by omega))
      have e1 := (eY p_p.fArg (by omega))
      have e2 := (jg p_p.fArgs (by omega))
      have e3 := (rE p_p.fExpr (by omega))
      have e4 := (ih.2 p_p.bC (by omega) (by omega))
      simp only [mF,XE,Mo.den,aC,aF,aG,aK,e0,e1,e2,e3,e4,Option.bind_some,List.length_nil]
      rw [if_pos (by omega)]
      all_goals (cases p_p; rfl)
    · intro p_l h_ h2_
      have hl := jM p_l
      have h1:ZB (mF n_) p_l 0 (List.replicate (p_l.length:Int).toNat aO.z) = some p_l := fF p_l (fun x=>(mF n_).m1 x) _ _ (by simp) (by omega) (fun x hx=>ih.1 x (by have := nU hx; omega) (by have := nU hx; omega)) (fun k s=>by simp only [KI,Mo.den,aC,aF,aG,aK])
      simp only [mF,XF,Mo.den,aC,aF,aG,aK,h1]
      exact dR p_l _ ⟨by omega,by omega,by unfold maxLen; omega⟩
theorem rF (p_p:aO) (h_:aY p_p.lf1 ≤ 100000000) : alF p_p = some p_p := (qK FU).1 p_p (jm (by omega)) h_
theorem kS (p_x:aV) (h_:aY p_x.lf1 ≤ 100000000) : ahY p_x = some p_x := by
  have hbv := gU p_x
  have := jX p_x.gB
  have := gW p_x.jc
  have e0 := (lX p_x.gB (by omega))
  have e1 := (rF p_x.jc (by omega))
  simp only [ahY,afa,Mo.den,aC,aF,aG,aK,e0,e1,Option.bind_some,List.length_nil]
  all_goals (cases p_x; rfl)
theorem lY (p_l:List aV) (h_:bG (p_l.map aV.lf) ≤ 100000000) : Q92 p_l = some p_l := by
  have hl := jH p_l
  have h1:afb p_l 0 (List.replicate (p_l.length:Int).toNat aV.z) = some p_l := fF p_l (fun x=>ahY x) _ _ (by simp) (by omega) (fun x hx=>kS x (by have := ny hx; omega)) (fun k s=>by simp only [UR,Mo.den,aC,aF,aG,aK])
  simp only [Q92,ajx,Mo.den,aC,aF,aG,aK,h1]
  exact dR p_l _ ⟨by omega,by omega,by unfold maxLen; omega⟩
theorem o8 (n_:Nat) : (∀ p_s:aB,4 * aY p_s.lf1 + 0 < n_ → aY p_s.lf1 ≤ 100000000 → (iO n_).m1 p_s = some p_s) ∧ (∀ p_l:List bH,4 * bG (p_l.map bH.lf) + 2 < n_ → bG (p_l.map bH.lf) ≤ 100000000 → (iO n_).m2 p_l = some p_l) ∧ (∀ p_l:List aB,4 * bG (p_l.map aB.lf) + 1 < n_ → bG (p_l.map aB.lf) ≤ 100000000 → (iO n_).m3 p_l = some p_l) ∧ (∀ p_p:bH,4 * aY p_p.lf1 + 1 < n_ → aY p_p.lf1 ≤ 100000000 → (iO n_).m4 p_p = some p_p) := by
  induction n_ with
  | zero=>exact ⟨fun _ h=>by omega,fun _ h=>by omega,fun _ h=>by omega,fun _ h=>by omega⟩
  | succ n_ ih =>
    refine ⟨?_,?_,?_,?_⟩
    · intro p_s h_ h2_
      have hbv := fO p_s
      have := gq p_s.kH
      have := jI p_s.fH
      have := bU p_s.uI
      have := bU p_s.uH
      have := jZ p_s.dP
      have := dG p_s.gG
      have e0 := (eY p_s.uH (by omega))
      have e1 := (eY p_s.uI (by omega))
      have e2 := (jg p_s.kH (by omega))
      have e3 := (gJ p_s.gG (by omega))
      have e4 := (ih.2.1 p_s.dP (by omega) (by omega))
      have e5 := (ih.2.2.1 p_s.fH (by omega) (by omega))
      simp only [iO,XG,Mo.den,aC,aF,aG,aK,e0,e1,e2,e3,e4,e5,Option.bind_some,List.length_nil]
      all_goals (cases p_s; rfl)
    · intro p_l h_ h2_
      have hl := jZ p_l
      have h1:ZE (iO n_) p_l 0 (List.replicate (p_l.length:Int).toNat (bH.mk ⟨#[]⟩ aB.z)) = some p_l := fF p_l (fun x=>(iO n_).m4 x) _ _ (by simp) (by omega) (fun x hx=>ih.2.2.2 x (by have := oZ hx; omega) (by have := oZ hx; omega)) (fun k s=>by simp only [KJ,Mo.den,aC,aF,aG,aK])
      simp only [iO,XH,Mo.den,aC,aF,aG,aK,h1]
      exact dR p_l _ ⟨by omega,by omega,by unfold maxLen; omega⟩
    · intro p_l h_ h2_
      have hl := jI p_l
      have h1:afe (iO n_) p_l 0 (List.replicate (p_l.length:Int).toNat aB.z) = some p_l := fF p_l (fun x=>(iO n_).m1 x) _ _ (by simp) (by omega) (fun x hx=>ih.1 x (by have := lq hx; omega) (by have := lq hx; omega)) (fun k s=>by simp only [UU,Mo.den,aC,aF,aG,aK])
      simp only [iO,aff,Mo.den,aC,aF,aG,aK,h1]
      exact dR p_l _ ⟨by omega,by omega,by unfold maxLen; omega⟩
    · intro p_p h_ h2_
      have hbv := ni p_p
      have := fO p_p.fG
      have e0 := (ih.1 p_p.fG (by omega) (by omega))
      simp only [iO,XI,Mo.den,aC,aF,aG,aK,e0,Option.bind_some,List.length_nil]
      all_goals (cases p_p; rfl)
theorem qo (p_s:aB) (h_:aY p_s.lf1 ≤ 100000000) : alH p_s = some p_s := (o8 FU).1 p_s (jm (by omega)) h_
theorem qL (p_d:bQ) (h_:aY p_d.lf1 ≤ 100000000) : alI p_d = some p_d := by
  have hbv := jF p_d
  have := jH p_d.dJ
  have := fO p_d.fG
  have e0 := (lY p_d.dJ (by omega))
  have e1 := (qo p_d.fG (by omega))
  simp only [alI,afh,Mo.den,aC,aF,aG,aK,e0,e1,Option.bind_some,List.length_nil]
  all_goals (cases p_d; rfl)
theorem jL (p_l:List Int) (h_:bG (p_l.map lfI) ≤ 100000000) : ah2 p_l = some p_l := by
  have hl := iC p_l
  simp only [ah2,afi,Mo.den,aC,aF,aG,aK,Option.bind_some,List.length_nil]
  rw [if_pos (by omega)]
  try rfl
theorem qp (n_:Nat) : (∀ p_w:aJ,4 * aY p_w.lf1 + 0 < n_ → aY p_w.lf1 ≤ 100000000 → (mG n_).m1 p_w = some p_w) ∧ (∀ p_l:List aJ,4 * bG (p_l.map aJ.lf) + 1 < n_ → bG (p_l.map aJ.lf) ≤ 100000000 → (mG n_).m2 p_l = some p_l) := by
  induction n_ with
  | zero=>exact ⟨fun _ h=>by omega,fun _ h=>by omega⟩
  | succ n_ ih =>
    refine ⟨?_,?_⟩
    · intro p_w h_ h2_
      have hbv := iU p_w
      have := bU p_w.gY
      have := jF p_w.oW
      have := bU p_w.bV
      have := gU p_w.aW
      have := bU p_w.mW
      have := iC p_w.eF
      have := jJ p_w.dN
      have e0 := (eY p_w.mW (by omega))
      have e1 := (eY p_w.bV (by omega))
      have e2 := (eY p_w.gY (by omega))
      have e3 := (qL p_w.oW (by omega))
      have e4 := (kS p_w.aW (by omega))
      have e5 := (ih.2 p_w.dN (by omega) (by omega))
      have e6 := (jL p_w.eF (by omega))
      simp only [mG,XK,Mo.den,aC,aF,aG,aK,e0,e1,e2,e3,e4,e5,e6,Option.bind_some,List.length_nil]
      all_goals (cases p_w; rfl)
    · intro p_l h_ h2_
      have hl := jJ p_l
      have h1:ZF (mG n_) p_l 0 (List.replicate (p_l.length:Int).toNat aJ.z) = some p_l := fF p_l (fun x=>(mG n_).m1 x) _ _ (by simp) (by omega) (fun x hx=>ih.1 x (by have := nC hx; omega) (by have := nC hx; omega)) (fun k s=>by simp only [KL,Mo.den,aC,aF,aG,aK])
      simp only [mG,XL,Mo.den,aC,aF,aG,aK,h1]
      exact dR p_l _ ⟨by omega,by omega,by unfold maxLen; omega⟩
theorem qM (p_w:aJ) (h_:aY p_w.lf1 ≤ 100000000) : anc p_w = some p_w := (qp FU).1 p_w (jm (by omega)) h_
theorem qN (p_e:ay) (h_:aY p_e.lf1 ≤ 100000000) : ah4 p_e = some p_e := by
  have hbv := nT p_e
  have := iU p_e.iJ
  have e0 := (qM p_e.iJ (by omega))
  simp only [ah4,afl,Mo.den,aC,aF,aG,aK,e0,Option.bind_some,List.length_nil]
  all_goals (cases p_e; rfl)
theorem iw (p_l:List ay) (h_:bG (p_l.map ay.lf) ≤ 100000000) : Q77 p_l = some p_l := by
  have hl := ku p_l
  have h1:afm p_l 0 (List.replicate (p_l.length:Int).toNat (ay.mk 0 0 ⟨#[]⟩ 0 aJ.z)) = some p_l := fF p_l (fun x=>ah4 x) _ _ (by simp) (by omega) (fun x hx=>qN x (by have := um hx; omega)) (fun k s=>by simp only [UW,Mo.den,aC,aF,aG,aK])
  simp only [Q77,ajy,Mo.den,aC,aF,aG,aK,h1]
  exact dR p_l _ ⟨by omega,by omega,by unfold maxLen; omega⟩
theorem kP (p_m:aj) (h_:aY p_m.lf1 ≤ 100000000) : ah6 p_m = some p_m := by
  have hbv := fV p_m
  have := ku p_m.aP
  have := iC p_m.bg
  have := iC p_m.fNext
  have e0 := (iw p_m.aP (by omega))
  have e1 := (jL p_m.fNext (by omega))
  have e2 := (jL p_m.bg (by omega))
  simp only [ah6,afn,Mo.den,aC,aF,aG,aK,e0,e1,e2,Option.bind_some,List.length_nil]
  all_goals (cases p_m; rfl)
end Go.Proofs.YtdnafbfmaphhhaaGreatDoor
set_option linter.unusedSimpArgs false
set_option linter.unusedVariables false
namespace Go.Proofs.YtdnafbfmaphhhaaGreatDoor
open Go.RowKit
mutual
noncomputable def wrF:Lf → ByteArray
  | .int _ n=>Gp n
  | .str s=>Gp (s.size:Int) ++ s
  | .bool b=>if b then ⟨#[1]⟩ else ⟨#[0]⟩
  | .rows _ l=>Gp (l.length:Int) ++ wrQ l
noncomputable def wrQ:List (List Lf) → ByteArray
  | []=>ByteArray.empty
  | r :: q=>wrL r ++ wrQ q
noncomputable def wrL:List Lf → ByteArray
  | []=>ByteArray.empty
  | x :: r=>wrF x ++ wrL r
end
theorem mY (r s:List Lf) : wrL (r ++ s) = wrL r ++ wrL s := by
  induction r with
  | nil=>simp [wrL]
  | cons x r ih=>simp only [List.cons_append,wrL,ih,ByteArray.append_assoc]
theorem ZR (b:UInt8) : (⟨#[b]⟩ : ByteArray).size = 1 := rfl
mutual
theorem amd:∀ x:Lf,(wrF x).size ≤ 12 * x.bulk
  | .int _ n=>by have := uo n; simp only [wrF,Lf.bulk]; omega
  | .str s=>by have := uo (s.size:Int); simp only [wrF,Lf.bulk,ByteArray.size_append]; omega
  | .bool b=>by cases b <;> simp [wrF,Lf.bulk,ZR]
  | .rows _ l=>by have := uo (l.length:Int); have := afZ l; simp only [wrF,Lf.bulk,ByteArray.size_append]; omega
theorem afZ:∀ l:List (List Lf),(wrQ l).size ≤ 12 * bG l
  | []=>by simp [wrQ,bG]
  | r :: q=>by have := vP r; have := afZ q; simp only [wrQ,bG,ByteArray.size_append]; omega
theorem vP:∀ l:List Lf,(wrL l).size ≤ 12 * aY l
  | []=>by simp [wrL,aY]
  | x :: r=>by have := amd x; have := vP r; simp only [wrL,aY,ByteArray.size_append]; omega
end
/-- m appends s -/
def Ap (m:aA → Option aA) (s:ByteArray) : Prop := ∀ b,b.qA = true → b.fS.size + s.size ≤ 4611686018427387904 → m b = some ⟨b.fS ++ s,b.CQ,b.qA⟩
theorem Ap.bind {m k:aA → Option aA} {s t:ByteArray} (h:Ap m s) (h2:Ap k t) : Ap (fun b=>(m b).bind k) (s ++ t) := by
  intro b hb hs
  rw [ByteArray.size_append] at hs
  show (m b).bind k = _
  rw [h b hb (by omega),Option.bind_some]
  refine (h2 ⟨b.fS ++ s,b.CQ,b.qA⟩ hb (by simp only [ByteArray.size_append]; omega)).trans ?_
  simp only [ByteArray.append_assoc]
theorem Ap.to {m:aA → Option aA} {s t:ByteArray} (h:Ap m s) (e:s = t) : Ap m t := e ▸ h
theorem Ap.nil:Ap some ByteArray.empty := fun b _ _=>by rw [ByteArray.append_empty]
theorem Ap.of {m k:aA → Option aA} {s:ByteArray} (h:Ap k s) (e:∀ b,b.qA = true → m b = k b) : Ap m s := fun b hb hs=>by rw [e b hb]; exact h b hb hs
theorem Ap.loop {α:Type} (f : α → List Lf) (l:List α) (g : α → aA → Option aA) (T:Int × aA → Option ((Int × aA) ⊕ aA)) (hl:l.length ≤ 1000000000)
    (hg:∀ x ∈ l,Ap (g x) (wrL (f x)))
    (hT:∀ (k:Nat) s,(∀ x,l[k]? = some x → T ((k:Int),s) = (g x s).bind fun r=>some (.inl (IntKind.wrap .i64 ((k:Int) + 1),r))) ∧ (l[k]? = none → T ((k:Int),s) = some (.inr s))) :
    Ap (fun b=>bM T FU (0,b)) (wrQ (l.map f)) := by
  intro b hb hs
  have key:∀ (m:List α) (k:Nat) (b:aA) (n:Nat),l.drop k = m → m.length < n → b.qA = true → b.fS.size + (wrQ (m.map f)).size ≤ 4611686018427387904 →
      bM T n ((k:Int),b) = some ⟨b.fS ++ wrQ (m.map f),b.CQ,b.qA⟩ := by
    intro m
    induction m with
    | nil =>
      intro k b n hd hn hb hs
      obtain ⟨n,rfl⟩ : ∃ j,n = j + 1 := ⟨n - 1,by simp at hn; omega⟩
      have h1:l[k]? = none := by
        have := congrArg List.length hd
        simp only [List.length_drop,List.length_nil] at this
        rw [List.getElem?_eq_none]; omega
      unfold bM
      rw [(hT k b).2 h1]
      simp only [List.map_nil,wrQ,ByteArray.append_empty,Option.bind_some]
    | cons x m ih =>
      intro k b n hd hn hb hs
      obtain ⟨n,rfl⟩ : ∃ j,n = j + 1 := ⟨n - 1,by simp at hn; omega⟩
      have h1:l[k]? = some x := by rw [← List.head?_drop,hd]; rfl
      have h2:l.drop (k + 1) = m := by rw [← List.tail_drop,hd]; rfl
      have hk:k < l.length := (List.getElem?_eq_some_iff.1 h1).1
      simp only [List.map_cons,wrQ,ByteArray.size_append] at hs
      unfold bM
      rw [(hT k b).1 x h1,hg x (List.mem_of_getElem? h1) b hb (by omega)]
      simp only [Option.bind_some]
      rw [inc k (by omega)]
      refine (ih (k + 1) ⟨b.fS ++ wrL (f x),b.CQ,b.qA⟩ n h2 (by simp at hn; omega) hb (by simp only [ByteArray.size_append]; omega)).trans ?_
      simp only [List.map_cons,wrQ,ByteArray.append_assoc]
  exact key l 0 b FU rfl (jm (by omega)) hb hs
theorem fE (n:Int) : Ap (Q20 n) (Gp n) := by
  intro b _ hs
  unfold Q20 aiU
  simp only [Mo.den,aC,aK,Oj,Option.bind_some]
  rw [if_pos (by omega)]
theorem oQ (s:ByteArray) : Ap (Q78 s) (Gp (s.size:Int) ++ s) := by
  intro b hb hs
  rw [ByteArray.size_append] at hs
  unfold Q78 aiV
  simp only [Mo.den,aC,aK]
  rw [fE _ b hb (by omega)]
  simp only [Option.bind_some,ByteArray.size_append]
  rw [if_pos (by omega)]
  simp only [ByteArray.append_assoc]
theorem mZ (c:Bool) : Ap (Q83 c) (wrF (.bool c)) := by
  intro b hb hs
  unfold Q83 aiX
  simp only [Mo.den,aC,aG,aK,ZR]
  cases c
  · simp only [wrF,cond_false,Bool.false_eq_true,if_false,ZR] at hs ⊢; rw [if_pos (by omega)]
  · simp only [wrF,cond_true,if_true,ZR] at hs ⊢; rw [if_pos (by omega)]
theorem dU {α:Type} (l:List α) (k:Nat) : (∀ x,l[k]? = some x → decide ((k:Int) < (l.length:Int)) = true ∧ bP l (k:Int) = some x) ∧ (l[k]? = none → decide ((k:Int) < (l.length:Int)) = false) := by
  refine ⟨fun x h=>?_,fun h=>?_⟩
  · have := (List.getElem?_eq_some_iff.1 h).1
    exact ⟨iLt this,by rw [wG,h]⟩
  · rw [List.getElem?_eq_none_iff] at h
    exact PI (by omega)
theorem Ap.of' {m k:aA → Option aA} {s t:ByteArray} (e:∀ b,b.qA = true → m b = k b) (h:Ap k s) (hs:s = t) : Ap m t := hs ▸ Ap.of h e
theorem zY (l:List ByteArray) (hl:l.length ≤ 1000000000) : Ap (Q70 l) (wrF (.rows 1 (l.map lfS))) := by
  have hL:Ap (WH l 0) (wrQ (l.map lfS)) := by
    refine Ap.of' (fun b hb=>by unfold WH; rfl) (Ap.loop lfS l Q78 _ hl (fun x _=>(oQ x).to (by simp only [lfS,wrL,wrF,ByteArray.append_empty])) fun k s=>⟨fun x h=>?_,fun h=>?_⟩) rfl
    · obtain ⟨h1,h2⟩ := (dU l k).1 x h
      simp only [Eh,Mo.den,aC,aG,h1,h2,cond_true,Option.bind_some]
    · simp only [Eh,Mo.den,aC,aG,(dU l k).2 h,cond_false]
  refine Ap.of' (fun b hb=>?_) (Ap.bind (fE (l.length:Int)) (Ap.bind hL Ap.nil)) ?_
  · simp only [Q70,aiW,Mo.den,aC]
  · simp only [wrF,List.length_map,ByteArray.append_empty]
end Go.Proofs.YtdnafbfmaphhhaaGreatDoor
set_option linter.unusedSimpArgs false
set_option linter.unusedVariables false
namespace Go.Proofs.YtdnafbfmaphhhaaGreatDoor
open Go.RowKit
theorem af0 (x:cZ) (hb:aY x.lf1 ≤ 100000000) : Ap (Q87 x) (wrL x.lf1) := by
  have hl := jG x.cu
  rw [jE] at hb
  have hL:Ap (WQ x 0) (wrQ (x.cu.map dH.lf)) := by
    refine Ap.of' (fun b hb=>by unfold WQ; rfl) (Ap.loop dH.lf x.cu (fun p b=>(Q20 p.fX b).bind fun r=>Q20 p.fY r) _ (by omega) (fun x hx=>(Ap.bind (fE _) (fE _)).to (by simp only [dH.lf,dH.lf1,wrL,wrF,ByteArray.append_empty])) fun k s=>⟨fun y h=>?_,fun h=>?_⟩) rfl
    · obtain ⟨h1,h2⟩ := (dU x.cu k).1 y h
      simp only [ED,Mo.den,aC,aG,h1,h2,cond_true,Option.bind_some,Option.bind_assoc]
    · simp only [ED,Mo.den,aC,aG,(dU x.cu k).2 h,cond_false]
  refine Ap.of' (fun b hb=>?_) (Ap.bind (fE (x.aU)) (Ap.bind (fE ((x.cu.length:Int))) (Ap.bind hL (Ap.bind (fE (x.fR)) Ap.nil)))) ?_
  · simp only [Q87,ai0,Mo.den,aC,aG]
  · simp only [cZ.lf1,wrL,wrF,List.length_map,ByteArray.append_empty,ByteArray.append_assoc]
theorem Ol:∀ n,(∀ v:ak,2 * aY v.lf1 < n → aY v.lf1 ≤ 100000000 → Ap ((mO n).m1 v) (wrL v.lf1)) ∧ ∀ l:List ak,2 * bG (l.map ak.lf) + 1 < n → bG (l.map ak.lf) ≤ 100000000 → Ap ((mO n).m2 l) (wrF (.rows 5 (l.map ak.lf)))
  | 0=>⟨fun v h=>by omega,fun l h=>by omega⟩
  | n + 1=>by
    have ih := Ol n
    refine ⟨fun x h hb=>?_,fun l h hb=>?_⟩
    · have hl := ig x.bV
      rw [bU] at h hb
      have hL:Ap (WM (mO n) x 0) (wrQ (x.bV.map aT.lf)) := by
        refine Ap.of' (fun b hb=>by unfold WM; rfl) (Ap.loop aT.lf x.bV (fun p b=>(Q78 p.fName b).bind fun r=>(mO n).m1 p.fValue r) _ (by omega) (fun x hx=>by have h1 := iq hx; rw [gZ] at h1; exact (Ap.bind (oQ _) (ih.1 _ (by omega) (by omega))).to (by rw [aT.aZ]; simp only [aT.lf1,mY,wrL,wrF,ByteArray.append_empty])) fun k s=>⟨fun y h=>?_,fun h=>?_⟩) rfl
        · obtain ⟨h1,h2⟩ := (dU x.bV k).1 y h
          simp only [Ez,Mo.den,aC,aG,h1,h2,cond_true,Option.bind_some,Option.bind_assoc]
        · simp only [Ez,Mo.den,aC,aG,(dU x.bV k).2 h,cond_false]
      refine Ap.of' (fun b hr=>?_) (Ap.bind (fE (x.aU)) (Ap.bind (fE (x.jU)) (Ap.bind (oQ (x.fText)) (Ap.bind (ih.2 x.bY (by omega) (by omega)) (Ap.bind (fE ((x.bV.length:Int))) (Ap.bind hL Ap.nil)))))) ?_
      · simp only [mO,ac7,Mo.den,aC,aG,hr,cond_true]
      · simp only [ak.lf1,wrL,wrF,List.length_map,ByteArray.append_empty,ByteArray.append_assoc]
    · have hl := gq l
      have hL:Ap (WO (mO n) l 0) (wrQ (l.map ak.lf)) := by
        refine Ap.of' (fun b hb=>by unfold WO; rfl) (Ap.loop ak.lf l (fun p b=>(mO n).m1 p b) _ (by omega) (fun x hx=>by have h1 := jw hx; exact (ih.1 _ (by omega) (by omega)).to (by rw [ak.aZ])) fun k s=>⟨fun y h=>?_,fun h=>?_⟩) rfl
        · obtain ⟨h1,h2⟩ := (dU l k).1 y h
          simp only [EC,Mo.den,aC,aG,h1,h2,cond_true,Option.bind_some,Option.bind_assoc]
        · simp only [EC,Mo.den,aC,aG,(dU l k).2 h,cond_false]
      refine Ap.of' (fun b hr=>?_) (Ap.bind (fE ((l.length:Int))) (Ap.bind hL Ap.nil)) ?_
      · simp only [mO,ac8,Mo.den,aC,aG]
      · simp only [wrF,List.length_map,ByteArray.append_empty]
theorem nV (v:ak) (hb:aY v.lf1 ≤ 100000000) : Ap (Q31 v) (wrL v.lf1) := (Ol FU).1 v (jm (by omega)) hb
theorem L6 (l:List ak) (hb:bG (l.map ak.lf) ≤ 100000000) : Ap (Q74 l) (wrF (.rows 5 (l.map ak.lf))) := (Ol FU).2 l (jm (by omega)) hb
theorem af2 (n:Nat) : ∀ x:aH,aY x.lf1 < n → aY x.lf1 ≤ 100000000 → Ap ((Ce n).m1 x) (wrL x.lf1) := by
  induction n with
  | zero=>intro x h _; omega
  | succ n ih =>
    intro x h hb
    have hl := jq x.bC
    have hl1 := dG x.dA
    have hl2 := dG x.bT
    rw [fZ] at h hb
    have hL:Ap (WR (Ce n) x 0) (wrQ (x.bC.map aH.lf)) := by
      refine Ap.of' (fun b hb=>by unfold WR; rfl) (Ap.loop aH.lf x.bC (fun p b=>(Ce n).m1 p b) _ (by omega) (fun x hx=>by have h1 := lS hx; exact (ih _ (by omega) (by omega)).to (by rw [aH.aZ])) fun k s=>⟨fun y h=>?_,fun h=>?_⟩) rfl
      · obtain ⟨h1,h2⟩ := (dU x.bC k).1 y h
        simp only [EF,Mo.den,aC,aG,h1,h2,cond_true,Option.bind_some,Option.bind_assoc]
      · simp only [EF,Mo.den,aC,aG,(dU x.bC k).2 h,cond_false]
    refine Ap.of' (fun b hr=>?_) (Ap.bind (fE (x.fOp)) (Ap.bind (zY (x.dA) (by omega)) (Ap.bind (oQ (x.fName)) (Ap.bind (zY (x.bT) (by omega)) (Ap.bind (nV (x.fArg) (by omega)) (Ap.bind (fE (x.fN)) (Ap.bind (fE ((x.bC.length:Int))) (Ap.bind hL Ap.nil)))))))) ?_
    · simp only [Ce,ada,Mo.den,aC,aG]
    · simp only [aH.lf1,mY,wrL,wrF,List.length_map,ByteArray.append_empty,ByteArray.append_assoc]
theorem aiA (v:aH) (hb:aY v.lf1 ≤ 100000000) : Ap (Q80 v) (wrL v.lf1) := af2 FU v (jm (by omega)) hb
theorem af4 (n:Nat) : ∀ x:aO,aY x.lf1 < n → aY x.lf1 ≤ 100000000 → Ap ((Ci n).m1 x) (wrL x.lf1) := by
  induction n with
  | zero=>intro x h _; omega
  | succ n ih =>
    intro x h hb
    have hl := jM x.bC
    have hl1 := dG x.dA
    rw [gW] at h hb
    have hL:Ap (WS (Ci n) x 0) (wrQ (x.bC.map aO.lf)) := by
      refine Ap.of' (fun b hb=>by unfold WS; rfl) (Ap.loop aO.lf x.bC (fun p b=>(Ci n).m1 p b) _ (by omega) (fun x hx=>by have h1 := nU hx; exact (ih _ (by omega) (by omega)).to (by rw [aO.aZ])) fun k s=>⟨fun y h=>?_,fun h=>?_⟩) rfl
      · obtain ⟨h1,h2⟩ := (dU x.bC k).1 y h
        simp only [EG,Mo.den,aC,aG,h1,h2,cond_true,Option.bind_some,Option.bind_assoc]
      · simp only [EG,Mo.den,aC,aG,(dU x.bC k).2 h,cond_false]
    refine Ap.of' (fun b hr=>?_) (Ap.bind (fE (x.fOp)) (Ap.bind (zY (x.dA) (by omega)) (Ap.bind (nV (x.fArg) (by omega)) (Ap.bind (L6 (x.fArgs) (by omega)) (Ap.bind (fE (x.fN)) (Ap.bind (fE (x.fM)) (Ap.bind (af0 (x.eG) (by omega)) (Ap.bind (aiA (x.fExpr) (by omega)) (Ap.bind (fE ((x.bC.length:Int))) (Ap.bind hL Ap.nil)))))))))) ?_
    · simp only [Ci,adb,Mo.den,aC,aG]
    · simp only [aO.lf1,mY,wrL,wrF,List.length_map,ByteArray.append_empty,ByteArray.append_assoc]
theorem aiB (v:aO) (hb:aY v.lf1 ≤ 100000000) : Ap (Q82 v) (wrL v.lf1) := af4 FU v (jm (by omega)) hb
theorem zZ (x:aV) (hb:aY x.lf1 ≤ 100000000) : Ap (Q71 x) (wrL x.lf1) := by
  have hl := jX x.gB
  rw [gU] at hb
  have hL:Ap (WT x 0) (wrQ (x.gB.map bn.lf)) := by
    refine Ap.of' (fun b hb=>by unfold WT; rfl) (Ap.loop bn.lf x.gB (fun p b=>(Q70 p.dA b).bind fun r=>Q83 p.IJ r) _ (by omega) (fun x hx=>by have h1 := kZ hx; rw [jD] at h1; have h2 := dG x.dA; exact (Ap.bind (zY _ (by omega)) (mZ _)).to (by simp only [bn.lf,bn.lf1,wrL,ByteArray.append_empty])) fun k s=>⟨fun y h=>?_,fun h=>?_⟩) rfl
    · obtain ⟨h1,h2⟩ := (dU x.gB k).1 y h
      simp only [EH,Mo.den,aC,aG,h1,h2,cond_true,Option.bind_some,Option.bind_assoc]
    · simp only [EH,Mo.den,aC,aG,(dU x.gB k).2 h,cond_false]
  refine Ap.of' (fun b hb=>?_) (Ap.bind (oQ (x.fName)) (Ap.bind (fE (x.aU)) (Ap.bind (fE ((x.gB.length:Int))) (Ap.bind hL (Ap.bind (mZ (x.iW)) (Ap.bind (mZ (x.oz)) (Ap.bind (mZ (x.kF)) (Ap.bind (aiB (x.jc) (by omega)) Ap.nil)))))))) ?_
  · simp only [Q71,ai1,Mo.den,aC,aG]
  · simp only [aV.lf1,mY,wrL,wrF,List.length_map,ByteArray.append_empty,ByteArray.append_assoc]
theorem X5 (n:Nat) : ∀ x:aB,aY x.lf1 < n → aY x.lf1 ≤ 100000000 → Ap ((uU n).m1 x) (wrL x.lf1) := by
  induction n with
  | zero=>intro x h _; omega
  | succ n ih =>
    intro x h hb
    have hl := jZ x.dP
    have hl1 := jI x.fH
    have hl2 := dG x.gG
    rw [fO] at h hb
    have hL:Ap (WU (uU n) x 0) (wrQ (x.dP.map bH.lf)) := by
      refine Ap.of' (fun b hb=>by unfold WU; rfl) (Ap.loop bH.lf x.dP (fun p b=>(Q78 p.fName b).bind fun r=>(uU n).m1 p.fG r) _ (by omega) (fun x hx=>by have h1 := oZ hx; rw [ni] at h1; exact (Ap.bind (oQ _) (ih _ (by omega) (by omega))).to (by rw [bH.aZ]; simp only [bH.lf1,mY,wrL,wrF,ByteArray.append_empty])) fun k s=>⟨fun y h=>?_,fun h=>?_⟩) rfl
      · obtain ⟨h1,h2⟩ := (dU x.dP k).1 y h
        simp only [EI,Mo.den,aC,aG,h1,h2,cond_true,Option.bind_some,Option.bind_assoc]
      · simp only [EI,Mo.den,aC,aG,(dU x.dP k).2 h,cond_false]
    have hL2:Ap (WV (uU n) x 0) (wrQ (x.fH.map aB.lf)) := by
      refine Ap.of' (fun b hb=>by unfold WV; rfl) (Ap.loop aB.lf x.fH (fun p b=>(uU n).m1 p b) _ (by omega) (fun x hx=>by have h1 := lq hx; exact (ih _ (by omega) (by omega)).to (by rw [aB.aZ])) fun k s=>⟨fun y h=>?_,fun h=>?_⟩) rfl
      · obtain ⟨h1,h2⟩ := (dU x.fH k).1 y h
        simp only [EJ,Mo.den,aC,aG,h1,h2,cond_true,Option.bind_some,Option.bind_assoc]
      · simp only [EJ,Mo.den,aC,aG,(dU x.fH k).2 h,cond_false]
    refine Ap.of' (fun b hr=>?_) (Ap.bind (fE (x.kG)) (Ap.bind (mZ (x.lD)) (Ap.bind (nV (x.uH) (by omega)) (Ap.bind (mZ (x.lF)) (Ap.bind (nV (x.uI) (by omega)) (Ap.bind (L6 (x.kH) (by omega)) (Ap.bind (fE (x.lG)) (Ap.bind (fE (x.lH)) (Ap.bind (zY (x.gG) (by omega)) (Ap.bind (fE ((x.dP.length:Int))) (Ap.bind hL (Ap.bind (mZ (x.oC)) (Ap.bind (fE ((x.fH.length:Int))) (Ap.bind hL2 (Ap.bind (mZ (x.iW)) Ap.nil))))))))))))))) ?_
    · simp only [uU,ade,Mo.den,aC,aG]
    · simp only [aB.lf1,mY,wrL,wrF,List.length_map,ByteArray.append_empty,ByteArray.append_assoc]
theorem aby (v:aB) (hb:aY v.lf1 ≤ 100000000) : Ap (Q59 v) (wrL v.lf1) := X5 FU v (jm (by omega)) hb
theorem Gs (x:bQ) (hb:aY x.lf1 ≤ 100000000) : Ap (Q76 x) (wrL x.lf1) := by
  have hl := jH x.dJ
  rw [jF] at hb
  have hL:Ap (WW x 0) (wrQ (x.dJ.map aV.lf)) := by
    refine Ap.of' (fun b hb=>by unfold WW; rfl) (Ap.loop aV.lf x.dJ (fun p b=>Q71 p b) _ (by omega) (fun x hx=>by have h1 := ny hx; exact zZ _ (by omega)) fun k s=>⟨fun y h=>?_,fun h=>?_⟩) rfl
    · obtain ⟨h1,h2⟩ := (dU x.dJ k).1 y h
      simp only [EK,Mo.den,aC,aG,h1,h2,cond_true,Option.bind_some,Option.bind_assoc]
    · simp only [EK,Mo.den,aC,aG,(dU x.dJ k).2 h,cond_false]
  refine Ap.of' (fun b hb=>?_) (Ap.bind (oQ (x.fName)) (Ap.bind (fE ((x.dJ.length:Int))) (Ap.bind hL (Ap.bind (aby (x.fG) (by omega)) (Ap.bind (fE (x.pK)) (Ap.bind (fE (x.mV)) Ap.nil)))))) ?_
  · simp only [Q76,ai2,Mo.den,aC,aG]
  · simp only [bQ.lf1,mY,wrL,wrF,List.length_map,ByteArray.append_empty,ByteArray.append_assoc]
end Go.Proofs.YtdnafbfmaphhhaaGreatDoor
set_option linter.unusedSimpArgs false
set_option linter.unusedVariables false
namespace Go.Proofs.YtdnafbfmaphhhaaGreatDoor
open Go.RowKit
theorem abz (n:Nat) : ∀ x:aJ,aY x.lf1 < n → aY x.lf1 ≤ 100000000 → Ap ((qh n).m1 x) (wrL x.lf1) := by
  induction n with
  | zero=>intro x h _; omega
  | succ n ih =>
    intro x h hb
    have hl := jJ x.dN
    have hl1 := iC x.eF
    rw [iU] at h hb
    have hL:Ap (Oe (qh n) x 0) (wrQ (x.dN.map aJ.lf)) := by
      refine Ap.of' (fun b hb=>by unfold Oe; rfl) (Ap.loop aJ.lf x.dN (fun p b=>(qh n).m1 p b) _ (by omega) (fun x hx=>by have h1 := nC hx; exact (ih _ (by omega) (by omega)).to (by rw [aJ.aZ])) fun k s=>⟨fun y h=>?_,fun h=>?_⟩) rfl
      · obtain ⟨h1,h2⟩ := (dU x.dN k).1 y h
        simp only [zQ,Mo.den,aC,aG,h1,h2,cond_true,Option.bind_some,Option.bind_assoc]
      · simp only [zQ,Mo.den,aC,aG,(dU x.dN k).2 h,cond_false]
    have hL2:Ap (XY (qh n) x 0) (wrQ (x.eF.map lfI)) := by
      refine Ap.of' (fun b hb=>by unfold XY; rfl) (Ap.loop lfI x.eF (fun p b=>Q20 p b) _ (by omega) (fun x hx=>(fE x).to (by simp only [lfI,wrL,wrF,ByteArray.append_empty])) fun k s=>⟨fun y h=>?_,fun h=>?_⟩) rfl
      · obtain ⟨h1,h2⟩ := (dU x.eF k).1 y h
        simp only [F9,Mo.den,aC,aG,h1,h2,cond_true,Option.bind_some,Option.bind_assoc]
      · simp only [F9,Mo.den,aC,aG,(dU x.eF k).2 h,cond_false]
    refine Ap.of' (fun b hr=>?_) (Ap.bind (fE (x.aU)) (Ap.bind (oQ (x.kT)) (Ap.bind (nV (x.mW) (by omega)) (Ap.bind (nV (x.bV) (by omega)) (Ap.bind (nV (x.gY) (by omega)) (Ap.bind (Gs (x.oW) (by omega)) (Ap.bind (zZ (x.aW) (by omega)) (Ap.bind (oQ (x.Az)) (Ap.bind (fE (x.fC)) (Ap.bind (fE ((x.dN.length:Int))) (Ap.bind hL (Ap.bind (fE ((x.eF.length:Int))) (Ap.bind hL2 (Ap.bind (mZ (x.lI)) Ap.nil)))))))))))))) ?_
    · simp only [qh,afV,Mo.den,aC,aG]
    · simp only [aJ.lf1,mY,wrL,wrF,List.length_map,ByteArray.append_empty,ByteArray.append_assoc]
theorem af5 (v:aJ) (hb:aY v.lf1 ≤ 100000000) : Ap (Q30 v) (wrL v.lf1) := abz FU v (jm (by omega)) hb
theorem af6 (x:ay) (hb:aY x.lf1 ≤ 100000000) : Ap (al7 x) (wrL x.lf1) := by
  rw [nT] at hb
  refine Ap.of' (fun b hb=>?_) (Ap.bind (fE (x.bf)) (Ap.bind (fE (x.fC)) (Ap.bind (oQ (x.kJ)) (Ap.bind (fE (x.pO)) (Ap.bind (af5 (x.iJ) (by omega)) Ap.nil))))) ?_
  · simp only [al7,afW,Mo.den,aC,aG]
  · simp only [ay.lf1,mY,wrL,wrF,ByteArray.append_empty,ByteArray.append_assoc]
theorem af7 (x:ay) (hb:aY x.lf1 ≤ 100000000) : afY x = some (wrL x.lf1) := by
  have h1 := vP x.lf1
  have h2 := af6 x hb ⟨⟨#[]⟩,false,true⟩ rfl (by show 0 + _ ≤ _; omega)
  simp only [afY,afX,Mo.den,aC,aF,aS,aG,aK,h2,Option.bind_some]
  exact congrArg some ByteArray.empty_append
end Go.Proofs.YtdnafbfmaphhhaaGreatDoor
set_option linter.unusedSimpArgs false
set_option linter.unusedVariables false
namespace Go.Proofs.YtdnafbfmaphhhaaGreatDoor
open Go.RowKit
theorem abA:Q40 = some true := by kernel_rfl
namespace T
theorem ame {p q:Prop} [Decidable p] [Decidable q] : Tot (bif decide p then some true else some (decide q)) (fun b=>b = false → ¬ p ∧ ¬ q) :=
  ite (fun h=>ret (by simp)) (fun h=>ret fun h2=>⟨of_decide_eq_false h,of_decide_eq_false h2⟩)
theorem orc {r:Bool} {p A:Prop} [Decidable p] (hr:r = false → A) : Tot (bif r then some true else some (decide p)) (fun b=>b = false → A ∧ ¬ p) :=
  ite (fun h=>ret (by simp)) (fun h=>ret fun h2=>⟨hr h,of_decide_eq_false h2⟩)
theorem anl {r:Bool} {x:Bool} {A:Prop} (hr:r = true → A) : Tot (bif r then some x else some false) (fun b=>b = true → A ∧ x = true) :=
  ite (fun h=>ret fun h2=>⟨hr h,h2⟩) (fun h=>ret (by simp))
theorem anm {r:Bool} {m:Option Bool} {A:Prop} {Q:Prop} (hr:r = true → A) (hm:Tot m (fun b=>b = true → Q)) : Tot (bif r then m.bind fun a=>some a else some false) (fun b=>b = true → A ∧ Q) :=
  ite (fun h=>bind hm fun a ha=>ret fun h2=>⟨hr h,ha h2⟩) (fun h=>ret (by simp))
end T
theorem Gt (l:List Int) (most:Int) (hl:l.length ≤ 100000000) : Tot (Q37 l most) (fun b=>b = true → ∀ x ∈ l,0 ≤ x ∧ x ≤ most) := by
  have h1:Tot (WC l most 0) (LP (fun _=>True) (fun _=>∀ x ∈ l,0 ≤ x ∧ x ≤ most)) := by
    refine T.uM l.length (by omega) (fun k s=>s = (k:Int) ∧ ∀ x ∈ l.take k,0 ≤ x ∧ x ≤ most) _ ⟨rfl,by simp⟩ ?_ ?_
    · rintro k s hk ⟨rfl,hs⟩
      have hx := List.getElem?_eq_getElem hk
      simp only [wO,PX,Mo.den,aC,aF,aS,aG,aK,ltt hx,gid hx,cond_true,Option.bind_some]
      refine T.bind T.ame fun b hb=>T.ite (fun _=>T.ret trivial) fun h=>T.ret ⟨inc k (by omega),fun x hx2=>?_⟩
      have hb := hb h
      rw [List.take_succ_eq_append_getElem hk] at hx2
      rcases List.mem_append.1 hx2 with h2 | h2
      · exact hs x h2
      · obtain rfl : x = l[k] := by simpa using h2
        omega
    · rintro s ⟨rfl,hs⟩
      simp only [wO,Mo.den,aC,aF,aS,aG,aK,ltn,cond_false]
      rw [List.take_length] at hs
      exact T.ret hs
  unfold Q37 aiP
  simp only [Mo.den,aC,aF,aS,aG,aK]
  refine T.bind h1 ?_
  rintro (r | r) hr
  · exact T.ret (by simp)
  · exact T.ret fun _=>hr
theorem X6 (m:aj) : Tot (Q9 m) (fun b=>b = true → m.aP.length ≤ 16384 ∧ 0 ≤ m.au ∧ m.au ≤ m.aP.length) := by
  unfold Q9 acG
  simp only [Mo.den,aC,aF,aS,aG,aK]
  refine T.ite (fun _=>T.ret (by simp)) fun h0=>?_
  have h0 := of_decide_eq_false h0
  refine T.bind (R := Any) ?_ ?_
  · refine T.uM m.aP.length (by omega) (fun k s => s.2.2 = (k : Int)) _ rfl ?_ ?_
    · rintro k ⟨a,b,i⟩ hk rfl
      have hx := List.getElem?_eq_getElem hk
      simp only [Q9,acG,wM,wL,Ec,qW,wI,Dk,Dj,Mo.den,aC,aF,aS,aG,aK,ltt hx,gid hx,cond_true,Option.bind_some]
      refine T.bind (R := Any) (T.wk T.ame) fun r _=>T.bind (R := Any) (T.wk (T.orc (A := True) fun _=>trivial)) fun r _=>T.bind (R := Any) (T.wk (T.orc (A := True) fun _=>trivial)) fun r _=>T.ite (fun _=>T.ret trivial) fun _=>T.ret ?_
      exact inc k (by omega)
    · rintro ⟨a,b,i⟩ rfl
      simp only [Q9,acG,wM,wL,Ec,qW,wI,Dk,Dj,Mo.den,aC,aF,aS,aG,aK,ltn,cond_false]
      exact T.ret trivial
  · rintro (r | r) _
    · exact T.ret (by simp)
    · simp only [Q9,acG,wM,wL,Ec,qW,wI,Dk,Dj,Mo.den,aC,aF,aS,aG,aK,Option.bind_some]
      refine T.bind (T.ite (fun h=>T.ret (Q := fun b=>b = true → 0 ≤ m.au ∧ m.au ≤ m.aP.length) fun h2=>⟨of_decide_eq_true h,of_decide_eq_true h2⟩) (fun h=>T.ret (by simp))) fun b hb=>T.ret fun h=>⟨by omega,hb h⟩
theorem abB (s n:Int) (hn:n ≤ 1000) : Tot (Q94 s n) Any := by
  unfold Q94 aiN
  simp only [Mo.den,aC,aF,aS,aG,aK]
  refine T.bind (R := Any) (T.aiz _ fun a k hk=>?_) fun r _=>T.any
  simp only [PV,Mo.den,aC,aF,aS,aG,aK]
  refine T.ite (fun h=>T.grd (by omega) (T.ret ⟨rfl,?_⟩)) fun _=>T.ret trivial
  have := of_decide_eq_true h; omega
def maj (n:Int) : Int := if n < 1 ∨ 7 < n then 0 else n / 2 + 1
theorem lM (n:Int) : Q93 n = some (maj n) := by
  simp only [Q93,aiO,PW,Mo.den,aC,aF,aS,aG,aK,maj]
  by_cases h1:n < 1
  · rw [decide_eq_true h1,if_pos (.inl h1)]; rfl
  rw [decide_eq_false h1]
  by_cases h2 : 7 < n
  · rw [decide_eq_true h2,if_pos (.inr h2)]; rfl
  rw [decide_eq_false h2,if_neg (by omega)]
  simp only [cond_false,Option.bind_some]
  obtain ⟨k,rfl⟩ := Int.eq_ofNat_of_zero_le (show 0 ≤ n by omega)
  rw [show Int.tdiv (k:Int) 2 = (k:Int) / 2 from Int.tdiv_eq_ediv_of_nonneg (by omega),w64 (x := (k:Int) / 2) (by omega) (by omega),w64 (by omega) (by omega)]
/-- what is known of a member that is examined -/
structure Good (m:aj) : Prop where
  s1 : 1 ≤ m.bW
  s7:m.bW ≤ 7
  i0 : 0 ≤ m.fID
  i1:m.fID < m.bW
  t0 : 0 ≤ m.bf
  tm : 0 ≤ m.gu
  lg:m.aP.length ≤ 200
  c0 : 0 ≤ m.au
  c1:m.au ≤ m.aP.length
  v0 : 0 ≤ m.dY
  v1:m.dY < nD .i64 1 m.bW
  pr:m.dh = 2 → (m.fNext.length:Int) = m.bW ∧ (m.bg.length:Int) = m.bW ∧ (∀ x ∈ m.fNext,0 ≤ x ∧ x ≤ m.aP.length) ∧ ∀ x ∈ m.bg,0 ≤ x ∧ x ≤ m.aP.length
theorem af8 (m:aj) (hb:aY m.lf1 ≤ 100000000) : Tot (akl m) (fun b=>b = true → Good m) := by
  rw [fV] at hb
  have hl1 := iC m.fNext
  have hl2 := iC m.bg
  simp only [akl,acJ,Mo.den,aC,aF,aS,aG,aK]
  refine T.ite (fun h200=>?_) fun _=>T.ret (by simp)
  have h200 := of_decide_eq_true h200
  refine T.bind (R := fun b=>b = true → Good m) ?_ fun b hb=>T.ret hb
  simp only [Q6,amE,WE,Ed,Qk,Qj,Qi,Qh,Qg,Qe,Qd,Qc,Qb,Qa,P9,P8,P7,P6,P5,YS,YR,Mo.den,aC,aF,aS,aG,aK,lM,Option.bind_some]
  refine T.bind T.ame fun r h=>T.bind (T.orc h) fun r h=>T.bind (T.orc h) fun r h=>T.bind (T.orc h) fun r h=>T.bind (T.orc h) fun r h=>T.bind (T.orc h) fun r h=>T.bind (T.orc h) fun r h=>T.bind (T.orc h) fun r h=>T.ite (fun _=>T.ret (by simp)) fun hr=>?_
  have h := h hr
  refine T.bind (R := fun b=>b = false → 0 ≤ m.gu ∧ 0 ≤ m.dY ∧ m.dY < nD .i64 1 m.bW ∧ m.aP.length ≤ 16384 ∧ 0 ≤ m.au ∧ m.au ≤ m.aP.length) ?_ fun r2 h2=>T.ite (fun _=>T.ret (by simp)) fun hr2=>?_
  · refine T.ite (fun _ => T.ret (by simp)) fun _ => T.ite (fun _ => T.ret (by simp)) fun _ => T.ite (fun _ => T.ret (by simp)) fun ht => T.ite (fun _ => T.ret (by simp)) fun hv => T.grd (by omega) (T.ite (fun _ => T.ret (by simp)) fun hw => ?_)
    have ht := of_decide_eq_false ht
    have hv := of_decide_eq_false hv
    have hw := of_decide_eq_false hw
    exact T.bind (X6 m) fun b hb=>T.ret fun h=>⟨by omega,by omega,by omega,hb (by simpa using h)⟩
  have h2 := h2 hr2
  refine T.bind (R := Any) (T.ite (fun _=>T.ite (fun _=>T.any) fun _=>T.ite (fun _=>T.any) fun _=>T.grd (by omega) T.any) fun _=>T.any) fun _ _=>T.ite (fun _=>T.ret (by simp)) fun _=>?_
  refine T.bind (abB _ _ (by omega)) fun v _=>?_
  have G:(m.dh = 2 → (m.fNext.length:Int) = m.bW ∧ (m.bg.length:Int) = m.bW ∧ (∀ x ∈ m.fNext,0 ≤ x ∧ x ≤ m.aP.length) ∧ ∀ x ∈ m.bg,0 ≤ x ∧ x ≤ m.aP.length) → Good m := fun hp=>⟨by omega,by omega,by omega,by omega,by omega,by omega,by omega,by omega,by omega,by omega,by omega,hp⟩
  refine T.bind (R := LP (fun b=>b = true → Good m) (fun _=>¬ m.dh = 2)) ?_ ?_
  · refine T.ite (fun h1 => ?_) fun _ => T.ite (fun h3 => ?_) fun h3 => T.ret (by show ¬ m.dh = 2; simpa using h3)
    · have h1 : m.dh = 1 := by simpa using h1
      refine T.bind (R := Any) (T.ite (fun _=>T.any) fun _=>T.any) fun _ _=>T.ite (fun _=>T.ret (by show false = true → _; simp)) fun _=>T.ret (by show ¬ m.dh = 2; omega)
    · refine T.bind (R := Any) (T.ite (fun _ => T.any) fun _ => T.any) fun r0 _ => T.bind (T.anl (A := True) fun _ => trivial) fun r1 k1 => T.bind (T.anl k1) fun r2 k2 => T.bind (T.anm k2 (Gt _ _ (by omega))) fun r3 k3 => T.bind (T.anm k3 (Gt _ _ (by omega))) fun r4 k4 => T.ret fun h5 => G fun _ => ?_
      have k := k4 h5
      exact ⟨by simpa using k.1.1.1.2,by simpa using k.1.1.2,k.1.2,k.2⟩
  · rintro (b | u) hb2
    · exact T.ret hb2
    · exact T.ite (fun _=>T.ret fun _=>G fun h=>absurd h hb2) fun _=>T.ret (by simp)
theorem lC (l:List ay) (hb:bG (l.map ay.lf) ≤ 100000000) : Q27 l l = some true := by
  have hl := ku l
  have e1:Tot (XZ l l 0) (fun r=>r = .inr ()) := by
    refine T.abx l (by omega) _ (fun k x hx=>?_) ?_
    · have hm := um (jY hx)
      simp only [zS,Mo.den,aC,aF,aS,aG,aK,ltt hx,gid hx,cond_true,Option.bind_some,af7 x (by omega),decide_true,Bool.not_true,cond_false]; exact T.ret rfl
    · simp only [zS,Mo.den,aC,aF,aS,aG,aK,ltn,cond_false]; exact T.ret rfl
  obtain ⟨_,e1,rfl⟩ := e1
  simp only [Q27,ajG,Mo.den,aC,aF,aS,aG,aK,bne_self_eq_false,cond_false,e1,Option.bind_some]
theorem o9 (l:List Int) (hl:l.length ≤ 100000000) : Q32 l l = some true := by
  have e1:Tot (XW l l 0) (fun r=>r = .inr ()) := by
    refine T.abx l (by omega) _ (fun k x hx=>?_) ?_
    · simp only [zM,Mo.den,aC,aF,aS,aG,aK,ltt hx,gid hx,cond_true,Option.bind_some,bne_self_eq_false,cond_false]; exact T.ret rfl
    · simp only [zM,Mo.den,aC,aF,aS,aG,aK,ltn,cond_false]; exact T.ret rfl
  obtain ⟨_,e1,rfl⟩ := e1
  simp only [Q32,ajF,Mo.den,aC,aF,aS,aG,aK,bne_self_eq_false,cond_false,e1,Option.bind_some]
theorem jo (m:aj) (hb:aY m.lf1 ≤ 100000000) : Q15 m m = some true := by
  rw [fV] at hb
  have hl1 := iC m.fNext
  have hl2 := iC m.bg
  unfold Q15 ajH LK LJ LH LG LD LC Lu Ls Lr Lp Vl Vk
  simp only [Mo.den,aC,aF,aS,aG,aK,BEq.rfl,cond_true,Option.bind_some,o9 _ (show m.fNext.length ≤ 100000000 by omega),o9 _ (show m.bg.length ≤ 100000000 by omega),lC _ (show bG (m.aP.map ay.lf) ≤ 100000000 by omega)]
theorem jy (l:List ah) (hl:l.length ≤ 100000000) (hb:∀ x ∈ l,bG (x.aN.map ay.lf) ≤ 100000000) : Q1 l l = some true := by
  have e1:Tot (Gn l l 0) (fun r=>r = .inr ()) := by
    refine T.abx l (by omega) _ (fun k x hx=>?_) ?_
    · simp only [Q1,aix,Gn,zV,Gm,Gl,Gj,Gi,Gg,Gf,Oh,Og,Mo.den,aC,aF,aS,aG,aK,ltt hx,gid hx,cond_true,Option.bind_some,bne_self_eq_false,cond_false,BEq.rfl,Bool.not_true,lC _ (hb x (jY hx))]; exact T.ret rfl
    · simp only [Q1,aix,Gn,zV,Gm,Gl,Gj,Gi,Gg,Gf,Oh,Og,Mo.den,aC,aF,aS,aG,aK,ltn,cond_false]; exact T.ret rfl
  obtain ⟨_,e1,rfl⟩ := e1
  simp only [Q1,aix,Mo.den,aC,aF,aS,aG,aK,bne_self_eq_false,cond_false,e1,Option.bind_some]
end Go.Proofs.YtdnafbfmaphhhaaGreatDoor
set_option linter.unusedSimpArgs false
set_option linter.unusedVariables false
namespace Go.Proofs.YtdnafbfmaphhhaaGreatDoor
open Go.RowKit
/-- names -/
theorem nX (s:ByteArray) : Q22 s = some (nameB s) := by
  unfold Q22 aiQ Nb AB IW IV Qn Qm
  simp only [Mo.den,aC,aF,aS,aG,aK]
  by_cases h0:s.size < 1
  · rw [decide_eq_true (show (s.size:Int) < 1 by omega),aai s (by omega)]; rfl
  rw [decide_eq_false (show ¬ (s.size:Int) < 1 by omega)]; simp only [cond_false,Option.bind_some]
  by_cases h1 : 32 < s.size
  · rw [decide_eq_true (show (32:Int) < (s.size:Int) by omega),aah s h1]; rfl
  rw [decide_eq_false (show ¬ (32:Int) < (s.size:Int) by omega)]; simp only [cond_false]
  have hz:lZ s 0 = some s[0] := qj s 0 (by omega)
  rw [hz,Wv s (by omega) (by omega)]
  simp only [Option.bind_some]
  have e36:((s[0].toNat:Int) == 36) = (s[0].toNat == 36) := by rw [Bool.eq_iff_iff]; simp; omega
  rw [e36]
  cases hq:s[0].toNat == 36 with
  | true=>rfl
  | false =>
    simp only [cond_false,Bool.not_false,Bool.true_and]
    refine PG s.size (by omega) (fun n k=>k = n ∧ ∀ i (hi:i < s.size),i < n → IQ s[i].toNat = true) (fun r=>match r with | .inl _=>s.data.toList.all (fun c=>IQ c.toNat) = false | .inr _=>s.data.toList.all (fun c=>IQ c.toNat) = true) ⟨rfl,by omega⟩ ?_ ?_ ?_
    · rintro n k hn ⟨rfl,hv⟩
      simp only [iLt hn,cond_true,qj s n hn,Option.bind_some]
      have hc:IQ s[n].toNat = (decide (33 ≤ s[n].toNat) && decide (s[n].toNat ≤ 126) && !(s[n].toNat == 46)) := rfl
      have e46:((s[n].toNat:Int) == 46) = (s[n].toNat == 46) := by rw [Bool.eq_iff_iff]; simp; omega
      by_cases a1:s[n].toNat < 33
      · rw [decide_eq_true (show (s[n].toNat : Int) < 33 by omega)]; right
        exact ⟨_,rfl,Wx s _ n hn (by rw [hc,decide_eq_false (show ¬ 33 ≤ s[n].toNat by omega)]; rfl)⟩
      rw [decide_eq_false (show ¬ (s[n].toNat:Int) < 33 by omega)]; simp only [cond_false]
      by_cases a2 : 126 < s[n].toNat
      · rw [decide_eq_true (show (126 : Int) < (s[n].toNat : Int) by omega)]; right
        exact ⟨_,rfl,Wx s _ n hn (by rw [hc,decide_eq_false (show ¬ s[n].toNat ≤ 126 by omega),Bool.and_false]; rfl)⟩
      rw [decide_eq_false (show ¬ (126:Int) < (s[n].toNat:Int) by omega),e46]; simp only [cond_false,Option.bind_some]
      cases a3:s[n].toNat == 46 with
      | true=>right; exact ⟨_,rfl,Wx s _ n hn (by rw [hc,a3,Bool.not_true,Bool.and_false])⟩
      | false =>
        left
        refine ⟨_,rfl,inc n (by omega),fun i hi hl=>?_⟩
        rcases Nat.lt_succ_iff_lt_or_eq.1 hl with h3 | rfl
        · exact hv i hi h3
        · rw [hc,a3,decide_eq_true (show 33 ≤ s[i].toNat by omega),decide_eq_true (show s[i].toNat ≤ 126 by omega)]; rfl
    · rintro k ⟨rfl,hv⟩
      exact ⟨.inr (),by simp only [PI (Nat.lt_irrefl _),cond_false],agS s _ fun i hi=>hv i hi hi⟩
    · rintro (u | u) h2
      · exact congrArg some h2.symm
      · exact congrArg some h2.symm
/-- a path -/
def af9 (p:List ByteArray) : Bool := decide (1 ≤ p.length) && decide (p.length ≤ 16) && p.all nameB
theorem aga {α:Type} (f : α → Bool) {l:List α} {k:Nat} {x : α} (h:l[k]? = some x) : (l.take (k + 1)).all f = ((l.take k).all f && f x) := by
  have hk := X4 h
  have:l[k] = x := by rw [List.getElem?_eq_getElem hk] at h; injection h
  rw [List.take_succ_eq_append_getElem hk,List.all_append,this]; simp
theorem amf {α:Type} (f : α → Bool) {l:List α} {k:Nat} {x : α} (h:l[k]? = some x) (hf:f x = false) : l.all f = false := by
  rw [List.all_eq_false]; exact ⟨x,jY h,by simp [hf]⟩
theorem Aa (p:List ByteArray) : Q36 p = some (af9 p) := by
  unfold Q36 aiR WG Ee Qo
  simp only [Mo.den,aC,aF,aS,aG,aK,af9]
  by_cases h0:p.length < 1
  · rw [decide_eq_true (show (p.length:Int) < 1 by omega),decide_eq_false (show ¬ 1 ≤ p.length by omega)]; rfl
  rw [decide_eq_false (show ¬ (p.length:Int) < 1 by omega),decide_eq_true (show 1 ≤ p.length by omega)]; simp only [cond_false,Option.bind_some,Bool.true_and]
  by_cases h1 : 16 < p.length
  · rw [decide_eq_true (show (16:Int) < (p.length:Int) by omega),decide_eq_false (show ¬ p.length ≤ 16 by omega)]; rfl
  rw [decide_eq_false (show ¬ (16:Int) < (p.length:Int) by omega),decide_eq_true (show p.length ≤ 16 by omega)]; simp only [cond_false,Bool.true_and]
  refine PG p.length (by omega) (fun n k=>k = n ∧ (p.take n).all nameB = true) (fun r=>match r with | .inl _=>p.all nameB = false | .inr _=>p.all nameB = true) ⟨rfl,by simp⟩ ?_ ?_ ?_
  · rintro n k hn ⟨rfl,hv⟩
    have hx := List.getElem?_eq_getElem hn
    simp only [iLt hn,cond_true,gid hx,Option.bind_some,nX]
    cases hb:nameB p[n] with
    | false=>right; exact ⟨_,rfl,amf _ hx hb⟩
    | true=>left; exact ⟨_,rfl,inc n (by omega),by rw [aga _ hx,hv,hb]; rfl⟩
  · rintro k ⟨rfl,hv⟩
    exact ⟨.inr (),by simp only [PI (Nat.lt_irrefl _),cond_false],by rw [List.take_length] at hv; exact hv⟩
  · rintro (u | u) h2
    · exact congrArg some h2.symm
    · exact congrArg some h2.symm
theorem uw (s:ByteArray) : akm s = some (nameB s) := by
  simp only [akm,acK,Mo.den,aC,aF,aS,aG,aK,Aa,Option.bind_some,af9,List.length_cons,List.length_nil,List.all_cons,List.all_nil,Bool.and_true]; rfl
/-- the missing value -/
def ajK (v:ak) : Bool := v.aU == 0 && v.jU == 0 && decide (v.fText = ⟨#[]⟩) && (v.bY.length:Int) == 0 && (v.bV.length:Int) == 0
theorem kC (v:ak) : Q54 v = some (ajK v) := by
  simp only [Q54,aiS,I5,I4,IZ,Qs,Qr,Mo.den,aC,aF,aS,aG,aK,ajK]
  cases v.aU == 0 <;> cases v.jU == 0 <;> cases decide (v.fText = ⟨#[]⟩) <;> cases (v.bY.length:Int) == 0 <;> rfl
/-- parts -/
def parts (v:ak) : List ak := (if v.aU = 6 then v.bY else []) ++ (if v.aU = 5 then v.bV.map aT.fValue else [])
theorem L8 (v:ak) (hb:aY v.lf1 ≤ 100000000) : Q13 v = some (parts v) := by
  have hl := gq v.bY
  have hd := ig v.bV
  rw [bU] at hb
  have h0:Nj v 0 [] = some v.bY := by
    have:Tot (Nj v 0 []) (fun r=>r = v.bY) := by
      refine T.uM v.bY.length (by omega) (fun k s=>s = ((k:Int),v.bY.take k)) _ rfl ?_ ?_
      · rintro k s hk rfl
        have hx := List.getElem?_eq_getElem hk
        simp only [wW,Mo.den,aC,aF,aS,aG,aK,ltt hx,gid hx,cond_true,Option.bind_some]
        refine T.grd (by simp only [List.length_take,List.length_cons,List.length_nil]; omega) (T.ret ?_)
        show _ = _
        rw [inc k (by omega),List.take_succ_eq_append_getElem hk]
      · rintro s rfl
        simp only [wW,Mo.den,aC,aF,aS,aG,aK,ltn,cond_false]
        exact T.ret (show _ = _ by rw [List.take_length])
    obtain ⟨r,h,rfl⟩ := this; exact h
  have h1:∀ l0:List ak,l0.length ≤ 100000000 → Nk v 0 l0 = some (l0 ++ v.bV.map aT.fValue) := by
    intro l0 hl0
    have:Tot (Nk v 0 l0) (fun r=>r = l0 ++ v.bV.map aT.fValue) := by
      refine T.uM v.bV.length (by omega) (fun k s=>s = ((k:Int),l0 ++ (v.bV.take k).map aT.fValue)) _ (by simp) ?_ ?_
      · rintro k s hk rfl
        have hx := List.getElem?_eq_getElem hk
        simp only [AU,Mo.den,aC,aF,aS,aG,aK,ltt hx,gid hx,cond_true,Option.bind_some]
        refine T.grd (by simp only [List.length_append,List.length_map,List.length_take,List.length_cons,List.length_nil]; omega) (T.ret ?_)
        show _ = _
        rw [inc k (by omega),List.take_succ_eq_append_getElem hk,List.map_append,List.append_assoc]; rfl
      · rintro s rfl
        simp only [AU,Mo.den,aC,aF,aS,aG,aK,ltn,cond_false]
        exact T.ret (show _ = _ by rw [List.take_length])
    obtain ⟨r,h,rfl⟩ := this; exact h
  unfold Q13 aiY WI Ej Nl AX parts
  simp only [Mo.den,aC,aF,aS,aG,aK,h0]
  by_cases a:v.aU = 6
  · have b : v.aU ≠ 5 := by omega
    rw [show (v.aU == 6) = true by simpa using a,show (v.aU == 5) = false by simpa using b]
    simp [a]
  · rw [show (v.aU == 6) = false by simpa using a]
    by_cases b:v.aU = 5
    · rw [show (v.aU == 5) = true by simpa using b]; simp [a,b,h1]
    · rw [show (v.aU == 5) = false by simpa using b]; simp [a,b]
theorem Gu {v x:ak} (h:x ∈ parts v) : aY x.lf1 < aY v.lf1 := by
  rw [bU v]
  unfold parts at h
  rcases List.mem_append.1 h with h | h
  · split at h
    · have := jw h; omega
    · simp at h
  · split at h
    · obtain ⟨f,hf,rfl⟩ := List.mem_map.1 h
      have := iq hf; rw [gZ] at this; omega
    · simp at h
theorem L9 (v:ak) : (parts v).length ≤ aY v.lf1 := by
  have hl := gq v.bY
  have hd := ig v.bV
  rw [bU v]
  unfold parts
  rw [List.length_append]
  split <;> split <;> simp <;> omega
theorem X7 (n:Nat) : ∀ (F:Nat) (v:ak) (m:Int),m ≤ n → n < F → aY v.lf1 ≤ 100000000 → n ≤ 100 → Tot ((I8 F).m1 v m) Any := by
  induction n using Nat.strongRecOn with
  | _ n ih =>
    intro F v m hm hF hb hn
    obtain ⟨F,rfl⟩ : ∃ G,F = G + 1 := ⟨F - 1,by omega⟩
    have hpl := L9 v
    simp only [I8,acS,WJ,Em,Mo.den,aC,aF,aS,aG,aK,L8 v hb,Option.bind_some]
    by_cases h2:m < 2
    · rw [decide_eq_true h2]; exact T.any
    · rw [decide_eq_false h2]
      simp only [cond_false,Option.bind_some]
      refine T.ite (fun _=>T.any) (fun _=>T.bind (R := Any) ?_ (fun r _=>T.any))
      refine T.uM (parts v).length (by omega) (fun k s=>s.2 = (k:Int)) _ rfl ?_ ?_
      · rintro k ⟨a,i⟩ hk rfl
        have hx := List.getElem?_eq_getElem hk
        have hxb := Gu (jY hx)
        simp only [En,Mo.den,aC,aF,aS,aG,aK,ltt hx,gid hx,cond_true,Option.bind_some]
        refine T.bind (ih (n - 1) (by omega) F _ _ (by rw [w64 (by omega) (by omega)]; omega) (by omega) (by omega) (by omega)) fun r _=>T.ret ?_
        exact inc k (by omega)
      · rintro ⟨a,i⟩ rfl
        simp only [En,Mo.den,aC,aF,aS,aG,aK,ltn,cond_false]
        exact T.ret trivial
theorem abC (n:Nat) : ∀ (F:Nat) (v:ak) (m:Int),m ≤ n → n < F → aY v.lf1 ≤ 100000000 → n ≤ 2000 → Tot ((I9 F).m1 v m) (fun r=>1 ≤ r ∧ (r ≤ m ∨ r = 1)) := by
  induction n using Nat.strongRecOn with
  | _ n ih =>
    intro F v m hm hF hb hn
    obtain ⟨F,rfl⟩ : ∃ G,F = G + 1 := ⟨F - 1,by omega⟩
    have hpl := L9 v
    simp only [I9,acW,Mo.den,aC,aF,aS,aG,aK,L8 v hb,Option.bind_some]
    refine T.bind (R := fun r=>1 ≤ r ∧ (r ≤ m ∨ r = 1)) ?_ (fun r h=>T.ret h)
    refine T.uM (parts v).length (by omega) (fun k s=>s.2 = (k:Int) ∧ 1 ≤ s.1 ∧ (s.1 ≤ m ∨ s.1 = 1)) _ ⟨rfl,by show (1:Int) ≤ 1; omega,.inr rfl⟩ ?_ ?_
    · rintro k ⟨a,i⟩ hk ⟨h1,h2,h3⟩
      obtain rfl:i = (k:Int) := h1
      have h2 : 1 ≤ a := h2
      have h3:a ≤ m ∨ a = 1 := h3
      have hx := List.getElem?_eq_getElem hk
      have hxb := Gu (jY hx)
      simp only [xg,Eo,Mo.den,aC,aF,aS,aG,aK,ltt hx,gid hx,cond_true,Option.bind_some]
      refine T.ite (fun h=>?_) (fun h=>T.ret ⟨h2,h3⟩)
      have h := of_decide_eq_true h
      refine T.bind (ih (n - 1) (by omega) F _ _ (by rw [w64 (by omega) (by omega)]; omega) (by omega) (by omega) (by omega)) fun r hr=>T.ret ?_
      rw [w64 (by omega) (by omega)] at hr
      exact ⟨inc k (by omega),by rw [w64 (by omega) (by omega)]; omega,by rw [w64 (by omega) (by omega)]; omega⟩
    · rintro ⟨a,i⟩ ⟨h1,h2,h3⟩
      obtain rfl:i = ((parts v).length:Int) := h1
      simp only [xg,Eo,Mo.den,aC,aF,aS,aG,aK,ltn,cond_false,Option.bind_some]
      exact T.ret ⟨h2,h3⟩
theorem abD (v:ak) (hb:aY v.lf1 ≤ 100000000) : Tot (akp v) Any := by
  simp only [akp,acT,Mo.den,aC,aF,aS,aG,aK,Q52]
  exact T.bind (X7 17 FU v 17 (by omega) (by have := lu; omega) hb (by omega)) fun r _=>T.any
theorem abE (v:ak) (hb:aY v.lf1 ≤ 100000000) : Tot (akr v) Any := by
  simp only [akr,acX,Mo.den,aC,aF,aS,aG,aK,Q53]
  exact T.bind (abC 1025 FU v 1025 (by omega) (by have := lu; omega) hb (by omega)) fun r _=>T.any
/-- text -/
theorem agb (s:ByteArray) (i:Nat) (n:Int) (hs:s.size ≤ 100000000) (hi:i ≤ 100000000) (h0 : 0 ≤ n) (h1:n ≤ 10) : Tot (Q51 s (i:Int) n) (fun b=>b = true → (i:Int) + n ≤ s.size) := by
  unfold Q51 aiZ
  simp only [Mo.den,aC,aF,aS,aG,aK]
  rw [w64 (by omega) (by omega)]
  refine T.ite (fun _=>T.ret (by simp)) (fun h=>?_)
  have h := of_decide_eq_false h
  obtain ⟨n,rfl⟩ := Int.eq_ofNat_of_zero_le h0
  refine T.bind (R := Any) ?_ ?_
  · refine T.abw n (by omega) _ (fun k hk => ?_) ?_
    · have e:lZ s (IntKind.wrap .i64 ((i:Int) + (k:Int))) = some s[i + k] := by
        rw [w64 (by omega) (by omega),show (i:Int) + (k:Int) = ((i + k:Nat) : Int) by omega]; exact qj s _ (by omega)
      simp only [xq,Qy,Mo.den,aC,aF,aS,aG,aK,iLt hk,cond_true,e,Option.bind_some]
      refine T.bind (R := Any) (T.ite (fun _=>T.any) (fun _=>T.any)) fun b _=>T.ite (fun _=>T.ret trivial) (fun _=>T.ret rfl)
    · simp only [xq,Mo.den,aC,aF,aS,aG,aK,ltn,cond_false]
      exact T.ret trivial
  · rintro (r | r) _
    · exact T.ret (by simp)
    · exact T.ret fun _=>by omega
theorem agc (s:ByteArray) (hs:s.size ≤ 100000000) : Tot (Q2 s) Any := by
  unfold Q2 ag2
  simp only [Mo.den,aC,aF,aS,aG,aK]
  refine T.bind (R := Any) ?_ (by rintro (r | r) _ <;> exact T.any)
  refine jV (fun v:Int=>0 ≤ v ∧ v ≤ s.size) (fun v:Int=>s.size - v.toNat) Any ?_ FU 0 ⟨by omega,by omega⟩ (by have := lu; omega)
  rintro v ⟨h0,h1⟩
  obtain ⟨k,rfl⟩ := Int.eq_ofNat_of_zero_le h0
  have key:Tot (nM s (k:Int)).den (LP (fun v'=>(k:Int) < v' ∧ v' ≤ s.size) Any) := by
    by_cases hk:k < s.size
    · simp only [nM,Mo.den,aC,aF,aS,aG,aK,iLt hk,cond_true,qj s k hk,Option.bind_some]
      refine T.bind (R := LP (fun n:Int=>(n = 0 ∧ s[k].toNat < 128) ∨ (1 ≤ n ∧ n ≤ 3)) Any) ?_ ?_
      · simp only [Q2,ag2,Ns,nM,Ew,Eu,Et,Es,Nr,xA,Ep,Nq,Np,Mo.den,aC,aF,aS,aG,aK]
        refine T.ite (fun h => T.ret (.inl ⟨rfl, by have := of_decide_eq_true h; omega⟩)) fun _ => T.bind (R := Any) (T.ite (fun _ => T.any) fun _ => T.any) fun b _ => T.ite (fun _ => T.ret (.inr (by omega))) fun _ =>
          T.bind (R := Any) (T.ite (fun _=>T.any) fun _=>T.any) fun b _=>T.ite (fun _=>T.ret (.inr (by omega))) fun _=>T.bind (R := Any) (T.ite (fun _=>T.any) fun _=>T.any) fun b _=>T.ite (fun _=>T.ret (.inr (by omega))) fun _=>T.ret trivial
      · rintro (n | u) hn
        · have hn:(n = 0 ∧ s[k].toNat < 128) ∨ (1 ≤ n ∧ n ≤ 3) := hn
          simp only
          rw [inc k (by omega)]
          refine T.bind (agb s (k + 1) n hs (by omega) (by omega) (by omega)) fun b hb=>T.ite (fun _=>T.ret trivial) fun h=>?_
          have hb := hb (by simpa using h)
          have e:∀ c:Nat,128 ≤ c → ((s[k].toNat:Int) == (c:Int)) = true → ∃ x,lZ s ((k + 1:Nat) : Int) = some x := by
            intro c hc h
            have h:(s[k].toNat:Int) = c := by simpa using h
            exact ⟨_,qj s (k + 1) (by omega)⟩
          simp only [Q2,ag2,Ns,nM,Ew,Eu,Et,Es,Nr,xA,Ep,Nq,Np,Mo.den,aC,aF,aS,aG,aK]
          rw [inc k (by omega)]
          refine T.bind (R := Any) (T.ite (fun h=>by obtain ⟨x,hx⟩ := e 224 (by omega) h; rw [hx]; exact T.any) fun _=>T.any) fun b1 _=>?_
          refine T.bind (R := Any) (T.ite (fun h=>T.any) fun _=>T.ite (fun h=>by obtain ⟨x,hx⟩ := e 237 (by omega) h; rw [hx]; exact T.any) fun _=>T.any) fun b2 _=>?_
          refine T.bind (R := Any) (T.ite (fun h=>T.any) fun _=>T.ite (fun h=>by obtain ⟨x,hx⟩ := e 240 (by omega) h; rw [hx]; exact T.any) fun _=>T.any) fun b3 _=>?_
          refine T.bind (R := Any) (T.ite (fun h=>T.any) fun _=>T.ite (fun h=>by obtain ⟨x,hx⟩ := e 244 (by omega) h; rw [hx]; exact T.any) fun _=>T.any) fun b4 _=>?_
          refine T.ite (fun _=>T.ret trivial) fun _=>T.ret ?_
          show (k:Int) < IntKind.wrap .i64 (IntKind.wrap .i64 ((k:Int) + n) + 1) ∧ IntKind.wrap .i64 (IntKind.wrap .i64 ((k:Int) + n) + 1) ≤ s.size
          rw [w64 (x := (k:Int) + n) (by omega) (by omega),w64 (by omega) (by omega)]; omega
        · exact T.ret trivial
    · simp only [nM,Mo.den,aC,aF,aS,aG,aK,PI hk,cond_false]
      exact T.ret trivial
  obtain ⟨r,h2,h3⟩ := key
  rcases r with v' | r
  · have h3:(k:Int) < v' ∧ v' ≤ s.size := h3
    exact .inl ⟨v',h2,⟨by omega,h3.2⟩,by omega⟩
  · exact .inr ⟨r,h2,trivial⟩
theorem X8 (f:Nat) : (∀ v:ak,2 * aY v.lf1 + 1 < f → aY v.lf1 ≤ 100000000 → Tot ((qX f).m1 v true) Any) ∧ ∀ v:ak,2 * aY v.lf1 < f → aY v.lf1 ≤ 100000000 → Tot ((qX f).m2 v true) Any := by
  induction f with
  | zero=>exact ⟨fun v h=>by omega,fun v h=>by omega⟩
  | succ f ih =>
    refine ⟨fun v h hb=>?_,fun v h hb=>?_⟩
    · have hm2 := ih.2 v (by omega) hb
      have hl := gq v.bY
      have hbv := bU v
      simp only [qX,Q5,aku,WL,Ey,QS,QO,QN,QM,QL,QK,QJ,QI,QH,QG,QF,QE,YW,YV,Mo.den,aC,aF,aS,aG,aK,Option.bind_some]
      refine T.bind (R := Any) (T.ite (fun _=>T.any) fun _=>T.any) fun _ _=>?_
      refine T.bind (R := Any) (T.ite (fun _=>T.any) fun _=>T.ite (fun _=>T.any) fun _=>T.any) fun _ _=>T.ite (fun _=>T.any) fun _=>?_
      refine T.bind (R := Any) (T.ite (fun _=>T.any) fun _=>T.any) fun _ _=>?_
      refine T.bind (R := Any) (T.ite (fun _=>T.any) fun _=>T.any) fun _ _=>?_
      refine T.bind (R := Any) (T.ite (fun _=>T.any) fun _=>T.any) fun _ _=>?_
      refine T.bind (R := Any) (T.ite (fun _=>T.any) fun _=>T.any) fun _ _=>?_
      refine T.bind (R := Any) (T.ite (fun _=>T.any) fun _=>T.any) fun _ _=>?_
      refine T.bind (R := Any) (T.ite (fun _=>T.any) fun _=>T.ite (fun _=>T.any) fun _=>T.any) fun _ _=>?_
      refine T.bind (R := Any) (T.ite (fun _=>T.any) fun _=>T.any) fun _ _=>?_
      refine T.bind (R := Any) (T.ite (fun _=>T.any) fun _=>T.any) fun _ _=>T.ite (fun _=>T.any) fun _=>?_
      refine T.ite (fun _=>T.bind (R := Any) (T.ite (fun _=>T.any) fun _=>T.any) fun _ _=>T.any) fun _=>T.ite (fun _=>T.any) fun _=>?_
      refine T.ite (fun _=>T.bind (R := Any) (T.ite (fun _=>T.bind (agc _ (by omega)) fun _ _=>T.any) fun _=>T.any) fun _ _=>T.any) fun _=>T.ite (fun _=>T.any) fun _=>T.ite (fun _=>T.any) fun _=>?_
      refine T.bind (R := Any) ?_ (by rintro (r | r) _; exact T.any; exact T.bind hm2 fun _ _=>T.any)
      refine T.abx v.bY (by omega) _ (fun k x hx=>?_) ?_
      · have hxb := jw (jY hx)
        simp only [ltt hx,gid hx,cond_true,Option.bind_some]
        exact T.bind (ih.1 x (by omega) (by omega)) fun b _=>T.ite (fun _=>T.ret trivial) fun _=>T.ret rfl
      · simp only [ltn,cond_false]; exact T.ret trivial
    · have hl := ig v.bV
      have hbv := bU v
      simp only [qX,Q11,ac1,Nv,A8,Nu,AZ,Jd,QW,QV,Mo.den,aC,aF,aS,aG,aK,nX,cond_true,Option.bind_some,Bool.not_true,cond_false]
      refine T.bind (R := Any) ?_ (by rintro (r | r) _ <;> exact T.any)
      refine T.abx v.bV (by omega) _ (fun k x hx=>?_) ?_
      · have hxb := iq (jY hx)
        have hk := X4 hx
        rw [gZ] at hxb
        simp only [ltt hx,gid hx,cond_true,Option.bind_some]
        refine T.bind (R := Any) (T.ite (fun _=>T.any) fun _=>T.any) fun _ _=>?_
        refine T.bind (R := Any) (T.ite (fun _=>T.any) fun _=>T.bind (ih.1 x.fValue (by omega) (by omega)) fun _ _=>T.any) fun _ _=>T.ite (fun _=>T.ret trivial) fun _=>?_
        refine T.bind (R := Any) ?_ (by rintro (r | r) _; exact T.ret trivial; exact T.ret rfl)
        refine T.abw k (by omega) _ (fun j hj=>?_) ?_
        · have hy := List.getElem?_eq_getElem (show j < v.bV.length by omega)
          simp only [iLt hj,gid hy,cond_true,Option.bind_some]
          exact T.ite (fun _=>T.ret trivial) fun _=>T.ret rfl
        · simp only [ltn,cond_false]; exact T.ret trivial
      · simp only [ltn,cond_false]; exact T.ret trivial
theorem kD (v:ak) (hb:aY v.lf1 ≤ 100000000) : Tot (akw v) Any := by
  simp only [akw,ac2,Mo.den,aC,aF,aS,aG,aK,Q5]
  refine T.bind (abD v hb) fun _ _=>T.ite (fun _=>T.bind (abE v hb) fun _ _=>T.ite (fun _=>T.bind ((X8 FU).1 v (by have := lu; omega) hb) fun _ _=>T.any) fun _=>T.any) fun _=>T.any
end Go.Proofs.YtdnafbfmaphhhaaGreatDoor
set_option linter.unusedSimpArgs false
set_option linter.unusedVariables false
namespace Go.Proofs.YtdnafbfmaphhhaaGreatDoor
open Go.RowKit
theorem abG (f:Nat) : ∀ v:ak,aY v.lf1 < f → aY v.lf1 ≤ 100000000 → Tot ((Cc f).m1 v) (fun r=>r.size ≤ 12 * aY v.lf1) := by
  induction f with
  | zero=>intro v h; omega
  | succ f ih =>
    intro v h hb
    have hl := gq v.bY
    have hd := ig v.bV
    have hbv := bU v
    have e1:∀ n,(Gp n).size ≤ 11 := uo
    have hL:∀ s0:ByteArray,s0.size ≤ 100 → Tot (YX (Cc f) v s0 0) (fun r=>r.size ≤ s0.size + 12 * bG (v.bY.map ak.lf)) := by
      intro s0 hs0
      refine T.uM v.bY.length (by omega) (fun k s=>s.2 = (k:Int) ∧ s.1.size ≤ s0.size + 12 * bG ((v.bY.take k).map ak.lf)) _ ⟨rfl,by simp⟩ ?_ ?_
      · rintro k ⟨s,i⟩ hk ⟨h1,h2⟩
        obtain rfl:i = (k:Int) := h1
        have h2:s.size ≤ s0.size + 12 * bG ((v.bY.take k).map ak.lf) := h2
        have hx := List.getElem?_eq_getElem hk
        have hxb := jw (jY hx)
        have ht := Gq ak.lf hx
        have ht2 := lK ak.lf v.bY k
        rw [ak.aZ] at ht
        simp only [Ba,Mo.den,aC,aF,aS,aG,aK,ltt hx,gid hx,cond_true,Option.bind_some]
        refine T.bind (ih _ (by omega) (by omega)) fun r hr=>T.grd (by omega) (T.ret ⟨inc k (by omega),?_⟩)
        show (s ++ r).size ≤ _
        rw [ByteArray.size_append]; omega
      · rintro ⟨s,i⟩ ⟨h1,h2⟩
        obtain rfl:i = (v.bY.length:Int) := h1
        simp only [Ba,Mo.den,aC,aF,aS,aG,aK,ltn,cond_false]
        rw [List.take_length] at h2
        exact T.ret h2
    have hF:∀ s0:ByteArray,s0.size ≤ 100 → Tot (YZ (Cc f) v s0 0) (fun r=>r.size ≤ s0.size + 12 * bG (v.bV.map aT.lf)) := by
      intro s0 hs0
      refine T.uM v.bV.length (by omega) (fun k s=>s.2 = (k:Int) ∧ s.1.size ≤ s0.size + 12 * bG ((v.bV.take k).map aT.lf)) _ ⟨rfl,by simp⟩ ?_ ?_
      · rintro k ⟨s,i⟩ hk ⟨h1,h2⟩
        obtain rfl:i = (k:Int) := h1
        have h2:s.size ≤ s0.size + 12 * bG ((v.bV.take k).map aT.lf) := h2
        have hx := List.getElem?_eq_getElem hk
        have hxb := iq (jY hx)
        have ht := Gq aT.lf hx
        have ht2 := lK aT.lf v.bV k
        rw [aT.aZ] at ht
        have hf := gZ v.bV[k]
        have hn := e1 (v.bV[k].fName.size:Int)
        simp only [Bc,Mo.den,aC,aF,aS,aG,aK,ltt hx,gid hx,cond_true,Option.bind_some,Oj,ByteArray.size_append]
        refine T.grd (by omega) (T.grd (by omega) (T.bind (ih _ (by omega) (by omega)) fun r hr=>T.grd (by omega) (T.ret ⟨inc k (by omega),?_⟩)))
        show (s ++ Gp _ ++ v.bV[k].fName ++ r).size ≤ _
        simp only [ByteArray.size_append]; omega
      · rintro ⟨s,i⟩ ⟨h1,h2⟩
        obtain rfl:i = (v.bV.length:Int) := h1
        simp only [Bc,Mo.den,aC,aF,aS,aG,aK,ltn,cond_false]
        rw [List.take_length] at h2
        exact T.ret h2
    simp only [Cc,ac3,Nw,Bd,QX,QY,Mo.den,aC,aF,aS,aG,aK,Oj,Option.bind_some,ByteArray.size_append,gV]
    refine T.bind (R := fun r=>r.size ≤ 12 * aY v.lf1) ?_ fun r hr=>T.ret hr
    have e2 := e1 v.jU
    have e3 := e1 (v.fText.size:Int)
    have e4 := e1 (v.bY.length:Int)
    have e5 := e1 (v.bV.length:Int)
    refine T.bind (R := Any) (T.ite (fun _=>T.any) fun _=>T.any) fun _ _=>?_
    refine T.ite (fun _=>T.grd (by omega) (T.ret (by simp only [ByteArray.size_append,gV]; omega))) fun _=>?_
    refine T.ite (fun _=>T.grd (by omega) (T.ret (by simp only [ByteArray.size_append,gV]; omega))) fun _=>?_
    refine T.bind (R := Any) (T.ite (fun _=>T.any) fun _=>T.any) fun _ _=>?_
    refine T.ite (fun _=>T.grd (by omega) (T.grd (by omega) (T.ret (by simp only [ByteArray.size_append,gV]; omega)))) fun _=>?_
    refine T.ite (fun _=>T.grd (by omega) (T.ret (by simp only [ByteArray.size_append,gV]; omega))) fun _=>?_
    refine T.ite (fun _=>T.grd (by omega) (T.bind (hL _ (by simp only [ByteArray.size_append,gV]; omega)) fun r hr=>T.ret (by simp only [ByteArray.size_append,gV] at hr; omega))) fun _=>?_
    refine T.ite (fun _=>T.grd (by omega) (T.bind (hF _ (by simp only [ByteArray.size_append,gV]; omega)) fun r hr=>T.ret (by simp only [ByteArray.size_append,gV] at hr; omega))) fun _=>?_
    exact T.ret (by simp only [gV]; omega)
theorem X9 (v:ak) (hb:aY v.lf1 ≤ 100000000) : Tot (aky v) (fun r=>r.1.size ≤ 12 * aY v.lf1 ∧ (r.2 = 0 ∨ r.2 = 8)) := by
  simp only [aky,ac4,Mo.den,aC,aF,aS,aG,aK,Q24]
  refine T.bind (kD v hb) fun b _=>T.ite (fun _=>T.ret ⟨Nat.zero_le _,.inr rfl⟩) fun _=>?_
  exact T.bind (abG FU v (by have := lu; omega) hb) fun r hr=>T.ret ⟨hr,.inl rfl⟩
theorem Ya (v:ak) (hb:aY v.lf1 ≤ 100000000) : Tot (akJ v) (fun r=>r.2 = 0 ∨ r.2 = 8) := by
  simp only [akJ,ado,Mo.den,aC,aF,aS,aG,aK]
  exact T.bind (X9 v hb) fun r hr=>T.ret hr.2
theorem amg {α:Type} {l:List α} (h : 0 < l.length) : bP l 0 = some l[0] := aiy l 0 h
theorem amh (v:ak) (hb:aY v.lf1 ≤ 100000000) : Tot (Q63 v) (fun r=>r.2 = true → 0 < v.bV.length) := by
  unfold Q63 ai6 Jt Nz Bf Rn Rl
  simp only [Mo.den,aC,aF,aS,aG,aK]
  refine T.bind (R := fun b=>b = false → 0 < v.bV.length) (T.bind (kD v hb) fun b _=>T.ite (fun _=>T.ret (by simp)) fun _=>T.ret fun h=>?_) fun b hb=>?_
  · have h : ¬ (v.bV.length : Int) = 0 := by simpa using h
    omega
  refine T.bind (R := fun b=>b = false → 0 < v.bV.length) (T.ite (fun _=>T.ret (by simp)) fun h=>?_) fun c hc=>T.ite (fun _=>T.ret (by simp)) fun h=>?_
  · rw [amg (hb h)]; exact T.ret fun _=>hb h
  · have h0 := hc h
    rw [amg h0]
    simp only [Option.bind_some]
    exact T.bind (R := Any) (T.ite (fun _=>T.any) fun _=>T.any) fun _ _=>T.bind (R := Any) (T.ite (fun _=>T.any) fun _=>T.any) fun _ _=>T.ite (fun _=>T.ret (by simp)) fun _=>T.ret fun _=>h0
theorem Storing_tot' (v:ak) (hb:aY v.lf1 ≤ 100000000) : Tot (ahd v) (fun e=>e = 0 ∨ e = 2 → 0 < v.bV.length) := by
  simp only [ahd,adp,Mo.den,aC,aF,aS,aG,aK]
  refine T.bind (amh v hb) fun r hr=>T.ite (fun _=>T.ret (by omega)) fun h=>?_
  have h0 := hr (by simpa using h)
  exact T.bind (Ya v hb) fun r hr=>T.ite (fun _=>T.ret fun _=>h0) fun _=>T.ite (fun _=>T.ret fun _=>h0) fun _=>T.ret fun _=>h0
theorem Vt (v:ak) (hb:aY v.lf1 ≤ 100000000) : Tot (ahd v) Any := T.wk (Storing_tot' v hb)
theorem pq (a b:Int) : Tot (ahe a b) Any := by
  simp only [ahe,adq,Mo.den,aC,aF,aS,aG,aK]
  exact T.ite (fun _=>T.any) fun _=>T.ite (fun _=>T.any) fun _=>T.any
theorem Mc (a b:ByteArray) (ha:a.size ≤ 100000000) (hb:b.size ≤ 100000000) : Tot (Q41 a b) Any := by
  unfold Q41 ai7 WY EM Ro
  simp only [Mo.den,aC,aF,aS,aG,aK]
  refine T.bind (R := Any) ?_ (by rintro (r | r) _; exact T.any; exact T.bind (pq _ _) fun _ _=>T.any)
  refine T.abw (min a.size b.size) (by omega) _ (fun k hk=>?_) ?_
  · simp only [iLt (show k < a.size by omega), iLt (show k < b.size by omega), cond_true, Option.bind_some, qj a k (by omega), qj b k (by omega)]
    exact T.ite (fun _=>T.bind (pq _ _) fun _ _=>T.ret trivial) fun _=>T.ret rfl
  · have:(bif decide (((min a.size b.size:Nat) : Int) < (a.size:Int)) then some (decide (((min a.size b.size:Nat) : Int) < (b.size:Int))) else some false) = some false := by
      by_cases h:a.size ≤ b.size
      · rw [Nat.min_eq_left h,ltn]; rfl
      · rw [Nat.min_eq_right (by omega),ltn]; cases decide ((b.size:Int) < (a.size:Int)) <;> rfl
    rw [this]; exact T.ret trivial
theorem Om (f:Nat) : ∀ a b:ak,aY a.lf1 < f → aY a.lf1 ≤ 100000000 → aY b.lf1 ≤ 100000000 → Tot ((Ju f).m1 a b) Any := by
  induction f with
  | zero=>intro a b h; omega
  | succ f ih =>
    intro a b h ha hb
    have hla := gq a.bY
    have hda := ig a.bV
    have hlb := gq b.bY
    have hdb := ig b.bV
    have hav := bU a
    have hbv := bU b
    simp only [Ju,Q4,akK,W9,EO,Rz,Ry,WZ,EN,Ru,Y5,Y4,Mo.den,aC,aF,aS,aG,aK]
    refine T.ite (fun _=>T.bind (pq _ _) fun _ _=>T.any) fun _=>?_
    refine T.bind (R := Any) (T.ite (fun _=>T.any) fun _=>T.ite (fun _=>T.any) fun _=>T.any) fun _ _=>T.ite (fun _=>T.bind (pq _ _) fun _ _=>T.any) fun _=>?_
    refine T.bind (R := Any) (T.ite (fun _=>T.any) fun _=>T.ite (fun _=>T.any) fun _=>T.any) fun _ _=>T.ite (fun _=>T.bind (Mc _ _ (by omega) (by omega)) fun _ _=>T.any) fun _=>?_
    refine T.ite (fun _=>?_) fun _=>T.ite (fun _=>?_) fun _=>T.any
    · refine T.bind (R := Any) ?_ (by rintro (r | r) _; exact T.any; exact T.bind (pq _ _) fun _ _ => T.any)
      refine T.abw (min a.bY.length b.bY.length) (by omega) _ (fun k hk=>?_) ?_
      · have hx := List.getElem?_eq_getElem (show k < a.bY.length by omega)
        have hy := List.getElem?_eq_getElem (show k < b.bY.length by omega)
        have hxb := jw (jY hx)
        have hyb := jw (jY hy)
        simp only [ltt hx,ltt hy,gid hx,gid hy,cond_true,Option.bind_some]
        exact T.bind (ih _ _ (by omega) (by omega) (by omega)) fun _ _=>T.ite (fun _=>T.ret trivial) fun _=>T.ret rfl
      · have:(bif decide (((min a.bY.length b.bY.length:Nat) : Int) < (a.bY.length:Int)) then some (decide (((min a.bY.length b.bY.length:Nat) : Int) < (b.bY.length:Int))) else some false) = some false := by
          by_cases h:a.bY.length ≤ b.bY.length
          · rw [Nat.min_eq_left h,ltn]; rfl
          · rw [Nat.min_eq_right (by omega),ltn]; cases decide ((b.bY.length:Int) < (a.bY.length:Int)) <;> rfl
        rw [this]; exact T.ret trivial
    · refine T.bind (R := Any) ?_ (by rintro (r | r) _; exact T.any; exact T.bind (pq _ _) fun _ _ => T.any)
      refine T.abw (min a.bV.length b.bV.length) (by omega) _ (fun k hk=>?_) ?_
      · have hx := List.getElem?_eq_getElem (show k < a.bV.length by omega)
        have hy := List.getElem?_eq_getElem (show k < b.bV.length by omega)
        have hxb := iq (jY hx)
        have hyb := iq (jY hy)
        rw [gZ] at hxb hyb
        simp only [ltt hx,ltt hy,gid hx,gid hy,cond_true,Option.bind_some]
        exact T.bind (Mc _ _ (by omega) (by omega)) fun _ _=>T.bind (R := Any) (T.ite (fun _=>T.bind (ih _ _ (by omega) (by omega) (by omega)) fun _ _=>T.any) fun _=>T.any) fun _ _=>T.ite (fun _=>T.ret trivial) fun _=>T.ret rfl
      · have:(bif decide (((min a.bV.length b.bV.length:Nat) : Int) < (a.bV.length:Int)) then some (decide (((min a.bV.length b.bV.length:Nat) : Int) < (b.bV.length:Int))) else some false) = some false := by
          by_cases h:a.bV.length ≤ b.bV.length
          · rw [Nat.min_eq_left h,ltn]; rfl
          · rw [Nat.min_eq_right (by omega),ltn]; cases decide ((b.bV.length:Int) < (a.bV.length:Int)) <;> rfl
        rw [this]; exact T.ret trivial
theorem Vu (a b:ak) (ha:aY a.lf1 ≤ 100000000) (hb:aY b.lf1 ≤ 100000000) : Tot (Q4 a b) Any := Om FU a b (by have := lu; omega) ha hb
theorem Gv (d k:ak) (hd:aY d.lf1 ≤ 100000000) (hk:aY k.lf1 ≤ 100000000) : Tot (akM d k) Any := by
  have hbv := bU d
  simp only [akM,ads,Jv,Mo.den,aC,aF,aS,aG,aK]
  refine T.bind (Storing_tot' d hd) fun e he=>T.bind (R := fun b=>b = false → 0 < d.bV.length) (T.ite (fun _=>T.ret fun h=>he (.inr (by simpa using h))) fun h=>T.ret fun _=>he (.inl (by simpa using h))) fun b hb=>T.ite (fun _=>T.any) fun h=>?_
  have h0 := hb h
  have hm := iq (List.getElem_mem h0)
  rw [gZ] at hm
  rw [amg h0]
  simp only [Option.bind_some]
  exact T.bind (Vu _ _ (by omega) hk) fun _ _=>T.ite (fun _=>T.any) fun _=>T.bind (Vt d hd) fun _ _=>T.any
theorem Vw (d:bQ) (hb:aY d.lf1 ≤ 100000000) : Tot (akD d) Any := by
  have h1 := vP d.lf1
  have h2 := Gs d hb ⟨⟨#[]⟩,false,true⟩ rfl (by show 0 + _ ≤ _; omega)
  have hz:aY (bQ.mk ⟨#[]⟩ [] aB.z 0 0).lf1 = 25 := by kernel_rfl
  have h3 := vP (bQ.mk ⟨#[]⟩ [] aB.z 0 0).lf1
  have h4 := Gs (bQ.mk ⟨#[]⟩ [] aB.z 0 0) (by omega) ⟨⟨#[]⟩,false,true⟩ rfl (by show 0 + _ ≤ _; omega)
  simp only [akD,adf,Ji,Mo.den,aC,aF,aS,aG,aK,h2,h4,Option.bind_some]
  exact T.bind (R := Any) (T.ite (fun _=>T.any) fun _=>T.any) fun _ _=>T.ite (fun _=>T.any) fun _=>T.any
theorem Vx (d:aV) (hb:aY d.lf1 ≤ 100000000) : Tot (akE d) Any := by
  have h1 := vP d.lf1
  have h2 := zZ d hb ⟨⟨#[]⟩,false,true⟩ rfl (by show 0 + _ ≤ _; omega)
  have hz:aY aV.z.lf1 = 31 := by kernel_rfl
  have h3 := vP aV.z.lf1
  have h4 := zZ aV.z (by omega) ⟨⟨#[]⟩,false,true⟩ rfl (by show 0 + _ ≤ _; omega)
  simp only [akE,adg,Mo.den,aC,aF,aS,aG,aK,h2,h4,Option.bind_some]
  exact T.any
theorem H8 (s:aB) (hb:aY s.lf1 ≤ 100000000) : Tot (Zi s 0 []) (fun r=>bG (r.map lfS) ≤ 100000000) := by
  have hl := jZ s.dP
  rw [fO] at hb
  have e:∀ l:List bH,bG ((l.map bH.fName).map lfS) ≤ bG (l.map bH.lf) := by
    intro l
    induction l with
    | nil=>simp
    | cons x l ih=>simp only [List.map_cons,bG,bH.aZ,ni,X3]; omega
  have:Tot (Zi s 0 []) (fun r=>r = s.dP.map bH.fName) := by
    refine T.uM s.dP.length (by omega) (fun k v=>v = ((k:Int),(s.dP.take k).map bH.fName)) _ rfl ?_ ?_
    · rintro k v hk rfl
      have hx := List.getElem?_eq_getElem hk
      simp only [Dn,Mo.den,aC,aF,aS,aG,aK,ltt hx,gid hx,cond_true,Option.bind_some]
      refine T.grd (by simp only [List.length_map,List.length_take,List.length_cons,List.length_nil]; omega) (T.ret ?_)
      show _ = _
      rw [inc k (by omega),List.take_succ_eq_append_getElem hk,List.map_append]; rfl
    · rintro v rfl
      simp only [Dn,Mo.den,aC,aF,aS,aG,aK,ltn,cond_false]
      exact T.ret (show _ = _ by rw [List.take_length])
  refine T.mono this ?_
  rintro r rfl
  have := e s.dP
  omega
theorem Gw (x:aV) : aY (aV.acr x ⟨#[]⟩).lf1 ≤ aY x.lf1 := by
  rw [gU,gU]
  show 6 + 0 + bG (x.gB.map bn.lf) + aY x.jc.lf1 ≤ _
  omega
end Go.Proofs.YtdnafbfmaphhhaaGreatDoor
set_option linter.unusedSimpArgs false
set_option linter.unusedVariables false
namespace Go.Proofs.YtdnafbfmaphhhaaGreatDoor
open Go.RowKit
theorem Oo (p_a:List ByteArray) (p_b:List ByteArray) (h_p_a:bG (p_a.map lfS) ≤ 100000000) (h_p_b:bG (p_b.map lfS) ≤ 100000000) : Tot (Q61 p_a p_b) Any := by
  have := dG p_a
  have := dG p_b
  show MT (ai8 p_a p_b) Any
  refine MT.say (MT.ite (fun c4533=>?_) (fun c4533=>?_))
  ·have c4533' : ¬ ((p_a.length : Int) = (p_b.length : Int)) := by simpa using c4533
   exact MT.say MT.any
  ·have c4533' : (p_a.length : Int) = (p_b.length : Int) := by simpa using c4533
   refine MT.say (MT.eU (R := Any) ?_ ?_ ?_)
   ·refine T.cnt (fun _=>True) ?_
    intro k1 hk1
    show MT (EP p_a p_b ((k1:Nat) : Int)) _
    refine MT.say (MT.ite (fun c4569=>?_) (fun c4569=>?_))
    ·have c4569' := of_decide_eq_true c4569
     refine MT.say (MT.ask (dI p_a ((k1:Nat) : Int) (by omega) (by omega)) (fun x4570 _ hx2=>?_))
     have := lJ hx2
     refine MT.say (MT.ask (dI p_b ((k1:Nat) : Int) (by omega) (by omega)) (fun x4572 _ hx3=>?_))
     have := lJ hx3
     refine MT.say (MT.ite (fun c4574=>?_) (fun c4574=>?_))
     ·exact MT.say (MT.ret trivial)
     ·exact MT.say (MT.ret ⟨rfl,by omega⟩)
    ·have c4569' := of_decide_eq_false c4569
     exact MT.say (MT.ret trivial)
   ·intro o4577 h4576 _
    exact MT.say MT.any
   ·intro o4578 h4576 _
    exact MT.say MT.any
theorem H9 (p_l:List bn) (h_p_l:bG (p_l.map bn.lf) ≤ 100000000) : Tot (Q17 p_l) Any := by
  have := jX p_l
  show MT (ai9 p_l) Any
  refine MT.say (MT.ite (fun c4513=>?_) (fun c4513=>?_))
  ·have c4513' := of_decide_eq_true c4513
   exact MT.say MT.any
  ·have c4513' := of_decide_eq_false c4513
   refine MT.say (MT.eU (R := Any) ?_ ?_ ?_)
   ·refine T.cnt (fun _=>True) ?_
    intro k4 hk4
    show MT (ES p_l ((k4:Nat) : Int)) _
    refine MT.say (MT.ite (fun c4717=>?_) (fun c4717=>?_))
    ·have c4717' := of_decide_eq_true c4717
     refine MT.say (MT.ask (dI p_l ((k4:Nat) : Int) (by omega) (by omega)) (fun x4718 _ hx5=>?_))
     have := kZ hx5
     have := jD x4718
     have := dG x4718.dA
     refine MT.say (MT.ask (R := Any) ?_ ?_)
     ·exact T.wk (T.val (Aa x4718.dA))
     ·intro r4720 h4721 _
      refine MT.say (MT.ite (fun c4722=>?_) (fun c4722=>?_))
      ·exact MT.say (MT.ret trivial)
      ·refine MT.say (MT.eU (R := Any) ?_ ?_ ?_)
       ·refine T.cnt (fun _=>True) ?_
        intro k6 hk6
        show MT (ER p_l ((k4:Nat) : Int) ((k6:Nat) : Int)) _
        refine MT.ite (fun c4732=>?_) (fun c4732=>?_)
        ·have c4732' := of_decide_eq_true c4732
         refine MT.say (MT.ask (dI p_l ((k4:Nat) : Int) (by omega) (by omega)) (fun x4733 _ hx7=>?_))
         have := kZ hx7
         have := jD x4733
         have := dG x4733.dA
         refine MT.say (MT.ask (dI p_l ((k6:Nat) : Int) (by omega) (by omega)) (fun x4735 _ hx8=>?_))
         have := kZ hx8
         have := jD x4735
         have := dG x4735.dA
         refine MT.say (MT.ask (R := Any) ?_ ?_)
         ·exact T.wk (Oo x4733.dA x4735.dA (by first | omega | (simp; done) | decide) (by first | omega | (simp; done) | decide))
         ·intro r4737 h4738 _
          refine MT.say (MT.ite (fun c4739=>?_) (fun c4739=>?_))
          ·exact MT.say (MT.ret trivial)
          ·exact MT.say (MT.ret ⟨rfl,by omega⟩)
        ·have c4732' := of_decide_eq_false c4732
         exact MT.say (MT.ret trivial)
       ·intro o4742 h4741 _
        exact MT.say (MT.ret trivial)
       ·intro o4743 h4741 _
        exact MT.say (MT.ret ⟨rfl,by omega⟩)
    ·have c4717' := of_decide_eq_false c4717
     exact MT.say (MT.ret trivial)
   ·intro o4747 h4746 _
    exact MT.say MT.any
   ·intro o4748 h4746 _
    exact MT.say MT.any
theorem Gx (n_:Nat) : ∀ (p_p:aO) (p_levels:Int) (p_left:Int),aY p_p.lf1 < n_ → aY p_p.lf1 ≤ 100000000 → Tot ((pX n_).m1 p_p p_levels p_left) Any := by
  induction n_ with
  | zero=>intro p_p p_levels p_left h; omega
  | succ n_ ih =>
    intro p_p p_levels p_left h_ h_p_p
    have := gW p_p
    have := jM p_p.bC
    show MT (adw (pX n_) p_p p_levels p_left) Any
    refine MT.ask (R := fun b_=>(b_ = true → True) ∧ (b_ = false → ¬ (p_levels = 0) ∧ ¬ ((p_left:Int) ≤ 0) ∧ True)) ?_ ?_
    ·show MT (RQ (pX n_) p_left p_levels p_p) _
     refine MT.ite (fun c4774=>?_) (fun c4774=>?_)
     ·have c4774' : p_levels = 0 := by simpa using c4774
      exact MT.say (MT.ret ⟨(fun _=>trivial),(fun h_=>by cases h_)⟩)
     ·have c4774' : ¬ (p_levels = 0) := by simpa using c4774
      exact MT.say (MT.ret ⟨(fun _=>trivial),(fun h_=>⟨(by first | assumption | omega),(of_decide_eq_false h_),trivial⟩)⟩)
    ·intro r4776 h4777 f_r4776
     refine MT.say (MT.ite (fun c4779=>?_) (fun c4779=>?_))
     ·exact MT.say MT.any
     ·have q9 := f_r4776.2 (c4779)
      refine MT.say (MT.ask (R := Any) ?_ ?_)
      ·refine T.aiz (fun _=>True) ?_
       intro v4823 k10 hk10
       show MT (Jw (pX n_) p_levels p_p (v4823,((k10:Nat) : Int))) _
       refine MT.ask (R := fun b_=>(b_ = true → (((k10:Nat) : Int) : Int) < (p_p.bC.length:Int) ∧ (0:Int) ≤ v4823 ∧ True) ∧ (b_ = false → True)) ?_ ?_
       ·show MT (RS (pX n_) p_levels p_p v4823 ((k10:Nat) : Int)) _
        refine MT.say (MT.ite (fun c4825=>?_) (fun c4825=>?_))
        ·have c4825' := of_decide_eq_true c4825
         exact MT.say (MT.ret ⟨(fun h_=>⟨(by first | assumption | omega),(of_decide_eq_true h_),trivial⟩),(fun _=>trivial)⟩)
        ·have c4825' := of_decide_eq_false c4825
         exact MT.say (MT.ret ⟨(fun h_=>by cases h_),(fun _=>trivial)⟩)
       ·intro r4827 h4828 f_r4827
        refine MT.say (MT.ite (fun c4829=>?_) (fun c4829=>?_))
        ·have q11 := f_r4827.1 (c4829)
         refine MT.say (MT.ask (dI p_p.bC ((k10:Nat) : Int) (by omega) (by omega)) (fun x4830 _ hx12=>?_))
         have := nU hx12
         have := gW x4830
         refine MT.say (MT.ask (R := Any) ?_ ?_)
         ·exact (ih x4830 (IntKind.wrap .i64 (p_levels - 1)) v4823 (by omega) (by first | omega | (simp; done) | decide))
         ·intro r4832 h4833 _
          exact MT.say (MT.ret ⟨rfl,by omega⟩)
        ·exact MT.say (MT.ret trivial)
      ·intro r4836 h4837 _
       exact MT.say MT.any
theorem Ia (p_p:aO) (p_levels:Int) (p_left:Int) (h_p_p:aY p_p.lf1 ≤ 100000000) : Tot (Q79 p_p p_levels p_left) Any := Gx FU p_p p_levels p_left (by have := lu; omega) h_p_p
theorem Oq (p_p:aO) (h_p_p:aY p_p.lf1 ≤ 100000000) : Tot (amP p_p) Any := by
  have := gW p_p
  have := jM p_p.bC
  show MT (adx p_p) Any
  repeat' (first | exact MT.any | refine MT.say ?_ | refine MT.ite (fun _=>?_) (fun _=>?_) | refine MT.ru ?_ (fun _ _=>?_) | refine ⟨(show MT _ Any from ?_)⟩)
theorem mJ (p_op:Int) : Tot (amQ p_op) Any := by
  show MT (ady p_op) Any
  repeat' (first | exact MT.any | refine MT.say ?_ | refine MT.ite (fun _=>?_) (fun _=>?_))
theorem CS (p_p:aO) (h_p_p:aY p_p.lf1 ≤ 100000000) : Tot (Q84 p_p) Any := by
  have := gW p_p
  show MT (aja p_p) Any
  repeat' (first | exact MT.any | refine MT.say ?_ | refine MT.ite (fun _=>?_) (fun _=>?_) | refine MT.ru ?_ (fun _ _=>?_) | refine ⟨(show MT _ Any from ?_)⟩)
theorem rG (p_op:Int) : Tot (amR p_op) Any := by
  show MT (adB p_op) Any
  repeat' (first | exact MT.any | refine MT.say ?_ | refine MT.ite (fun _=>?_) (fun _=>?_))
theorem qy (p_op:Int) : Tot (amS p_op) Any := by
  show MT (adC p_op) Any
  repeat' (first | exact MT.any | refine MT.say ?_ | refine MT.ite (fun _=>?_) (fun _=>?_))
theorem rH (p_op:Int) : Tot (amT p_op) Any := by
  show MT (adD p_op) Any
  repeat' (first | exact MT.any | refine MT.say ?_ | refine MT.ite (fun _=>?_) (fun _=>?_) | refine MT.ru ?_ (fun _ _=>?_) | exact ⟨T.wk (qy _)⟩)
theorem Gy (p_n:Int) : Tot (amU p_n) Any := by
  show MT (adE p_n) Any
  repeat' (first | exact MT.any | refine MT.say ?_ | refine MT.ite (fun _=>?_) (fun _=>?_))
theorem Yb (p_p:dH) (h_p_p:aY p_p.lf1 ≤ 100000000) : Tot (amV p_p) Any := by
  have := vO p_p
  show MT (adF p_p) Any
  repeat' (first | exact MT.any | refine MT.say ?_ | refine MT.ite (fun _=>?_) (fun _=>?_) | refine MT.ru ?_ (fun _ _=>?_) | exact ⟨T.wk (Gy _)⟩)
theorem Ib (p_s:cZ) (h_p_s:aY p_s.lf1 ≤ 100000000) : Tot (Q29 p_s) Any := by
  have := jE p_s
  have := jG p_s.cu
  show MT (ajb p_s) Any
  refine MT.say (MT.ite (fun c5170=>?_) (fun c5170=>?_))
  ·have c5170' := of_decide_eq_true c5170
   exact MT.say MT.any
  ·have c5170' := of_decide_eq_false c5170
   refine MT.say (MT.eU (R := Any) ?_ ?_ ?_)
   ·refine T.cnt (fun _=>True) ?_
    intro k13 hk13
    show MT (ET p_s ((k13:Nat) : Int)) _
    refine MT.ite (fun c5212=>?_) (fun c5212=>?_)
    ·have c5212' := of_decide_eq_true c5212
     refine MT.say (MT.ask (dI p_s.cu ((k13:Nat) : Int) (by omega) (by omega)) (fun x5213 _ hx14=>?_))
     have := vO x5213
     refine MT.say (MT.ask (R := Any) ?_ ?_)
     ·exact T.wk (Yb x5213 (by first | omega | (simp; done) | decide))
     ·intro r5215 h5216 _
      refine MT.say (MT.ite (fun c5217=>?_) (fun c5217=>?_))
      ·exact MT.say (MT.ret trivial)
      ·exact MT.say (MT.ret ⟨rfl,by omega⟩)
    ·have c5212' := of_decide_eq_false c5212
     exact MT.say (MT.ret trivial)
   ·intro o5220 h5219 _
    exact MT.say MT.any
   ·intro o5221 h5219 _
    refine MT.say (MT.ask (R := fun b_=>(b_ = true → p_s.aU = 1 ∧ (p_s.cu.length:Int) = 2 ∧ True) ∧ (b_ = false → True)) ?_ ?_)
    ·show MT (RX p_s) _
     refine MT.ite (fun c5248=>?_) (fun c5248=>?_)
     ·have c5248' : p_s.aU = 1 := by simpa using c5248
      exact MT.say (MT.ret ⟨(fun h_=>⟨(by first | assumption | omega),(by simpa using h_),trivial⟩),(fun _=>trivial)⟩)
     ·have c5248' : ¬ (p_s.aU = 1) := by simpa using c5248
      exact MT.say (MT.ret ⟨(fun h_=>by cases h_),(fun _=>trivial)⟩)
    ·intro r5250 h5251 f_r5250
     refine MT.say (MT.ask (R := fun b_=>(b_ = true → r5250 = true ∧ p_s.fR = 0 ∧ True) ∧ (b_ = false → True)) ?_ ?_)
     ·show MT (Jy p_s r5250) _
      refine MT.ite (fun c5252=>?_) (fun c5252=>?_)
      ·have q15 := f_r5250.1 (c5252)
       exact MT.say (MT.ret ⟨(fun h_=>⟨(by first | assumption | omega),(by simpa using h_),trivial⟩),(fun _=>trivial)⟩)
      ·exact MT.say (MT.ret ⟨(fun h_=>by cases h_),(fun _=>trivial)⟩)
     ·intro r5254 h5255 f_r5254
      refine MT.say (MT.ask (R := fun b_=>(b_ = true → True) ∧ (b_ = false → r5254 = false ∧ True)) ?_ ?_)
      ·show MT (Jz p_s r5254) _
       refine MT.ite (fun c5256=>?_) (fun c5256=>?_)
       ·have q16 := f_r5254.1 (c5256)
        have q17 := f_r5250.1 (q16.1)
        exact MT.say (MT.ret ⟨(fun _=>trivial),(fun h_=>by cases h_)⟩)
       ·refine MT.say (MT.ite (fun c5257=>?_) (fun c5257=>?_))
        ·have c5257' : p_s.aU = 2 := by simpa using c5257
         refine MT.say (MT.ite (fun c5258=>?_) (fun c5258=>?_))
         ·have c5258' : (p_s.cu.length : Int) = 1 := by simpa using c5258
          refine MT.say (MT.ask (R := Any) ?_ ?_)
          ·exact T.wk (Gy p_s.fR )
          ·intro r5259 h5260 _
           exact MT.say (MT.ret ⟨(fun _=>trivial),(fun h_=>⟨(by first | assumption | omega),trivial⟩)⟩)
         ·have c5258' : ¬ ((p_s.cu.length : Int) = 1) := by simpa using c5258
          exact MT.say (MT.ret ⟨(fun h_=>by cases h_),(fun h_=>⟨(by first | assumption | omega),trivial⟩)⟩)
        ·have c5257' : ¬ (p_s.aU = 2) := by simpa using c5257
         exact MT.say (MT.ret ⟨(fun h_=>by cases h_),(fun h_=>⟨(by first | assumption | omega),trivial⟩)⟩)
      ·intro r5262 h5263 f_r5262
       refine MT.say (MT.ask (R := fun b_=>(b_ = true → True) ∧ (b_ = false → r5262 = false ∧ True)) ?_ ?_)
       ·show MT (JA p_s r5262) _
        refine MT.ite (fun c5264=>?_) (fun c5264=>?_)
        ·exact MT.say (MT.ret ⟨(fun _=>trivial),(fun h_=>by cases h_)⟩)
        ·have q18 := f_r5262.2 (c5264)
         refine MT.say (MT.ite (fun c5265=>?_) (fun c5265=>?_))
         ·have c5265' : p_s.aU = 3 := by simpa using c5265
          refine MT.say (MT.ite (fun c5266=>?_) (fun c5266=>?_))
          ·have c5266' := of_decide_eq_true c5266
           exact MT.say (MT.ret ⟨(fun _=>trivial),(fun h_=>⟨(by first | assumption | omega),trivial⟩)⟩)
          ·have c5266' := of_decide_eq_false c5266
           exact MT.say (MT.ret ⟨(fun h_=>by cases h_),(fun h_=>⟨(by first | assumption | omega),trivial⟩)⟩)
         ·have c5265' : ¬ (p_s.aU = 3) := by simpa using c5265
          exact MT.say (MT.ret ⟨(fun h_=>by cases h_),(fun h_=>⟨(by first | assumption | omega),trivial⟩)⟩)
       ·intro r5272 h5273 f_r5272
        refine MT.say (MT.ite (fun c5275=>?_) (fun c5275=>?_))
        ·exact MT.say MT.any
        ·have q19 := f_r5272.2 (c5275)
         have q20 := f_r5262.2 (q19.1)
         exact MT.say MT.any
theorem CU (p_s:cZ) (h_p_s:aY p_s.lf1 ≤ 100000000) : Tot (amW p_s) Any := by
  have := jE p_s
  have := jG p_s.cu
  show MT (adH p_s) Any
  repeat' (first | exact MT.any | refine MT.say ?_ | refine MT.ite (fun _=>?_) (fun _=>?_) | refine MT.ru ?_ (fun _ _=>?_) | refine ⟨(show MT _ Any from ?_)⟩)
theorem Gz (p_e:aH) (h_p_e:aY p_e.lf1 ≤ 100000000) : Tot (Q75 p_e) Any := by
  have := fZ p_e
  have := dG p_e.dA
  have := dG p_e.bT
  have := bU p_e.fArg
  have := jq p_e.bC
  show MT (ajc p_e) Any
  repeat' (first | exact MT.any | refine MT.say ?_ | refine MT.ite (fun _=>?_) (fun _=>?_) | refine MT.ru ?_ (fun _ _=>?_) | exact ⟨T.wk (T.val (kC _))⟩ | refine ⟨(show MT _ Any from ?_)⟩)
theorem GH (p_p:aO) (h_p_p:aY p_p.lf1 ≤ 100000000) : Tot (Q56 p_p) Any := by
  have := gW p_p
  have := dG p_p.dA
  have := bU p_p.fArg
  have := gq p_p.fArgs
  have := jE p_p.eG
  have := fZ p_p.fExpr
  show MT (ajd p_p) Any
  repeat' (first | exact MT.any | refine MT.say ?_ | refine MT.ite (fun _=>?_) (fun _=>?_) | refine MT.ru ?_ (fun _ _=>?_) | exact ⟨T.wk (T.val (kC _))⟩ | exact ⟨T.wk (rG _)⟩ | exact ⟨T.wk (rH _)⟩ | exact ⟨T.wk (mJ _)⟩ | exact ⟨T.wk (Gz _ (by first | omega | decide))⟩ | exact ⟨T.wk (CU _ (by first | omega | decide))⟩ | refine ⟨(show MT _ Any from ?_)⟩)
theorem Ot (p_op:Int) : Tot (Q69 p_op) Any := by
  show MT (aje p_op) Any
  repeat' (first | exact MT.any | refine MT.say ?_ | refine MT.ite (fun _=>?_) (fun _=>?_) | refine MT.ru ?_ (fun _ _=>?_) | refine ⟨(show MT _ Any from ?_)⟩)
theorem Ic (p_l:List ByteArray) (h_p_l:bG (p_l.map lfS) ≤ 100000000) : Tot (Q18 p_l) Any := by
  have := dG p_l
  show MT (ajf p_l) Any
  refine MT.eU (R := Any) ?_ ?_ ?_
  ·refine T.cnt (fun _=>True) ?_
   intro k21 hk21
   show MT (EW p_l ((k21:Nat) : Int)) _
   refine MT.say (MT.ite (fun c5820=>?_) (fun c5820=>?_))
   ·have c5820' := of_decide_eq_true c5820
    refine MT.say (MT.ask (dI p_l ((k21:Nat) : Int) (by omega) (by omega)) (fun x5821 _ hx22=>?_))
    have := lJ hx22
    refine MT.say (MT.ask (R := Any) ?_ ?_)
    ·exact T.wk (T.val (nX x5821))
    ·intro r5823 h5824 _
     refine MT.say (MT.ite (fun c5825=>?_) (fun c5825=>?_))
     ·exact MT.say (MT.ret trivial)
     ·refine MT.say (MT.eU (R := Any) ?_ ?_ ?_)
      ·refine T.cnt (fun _=>True) ?_
       intro k23 hk23
       show MT (EU p_l ((k21:Nat) : Int) ((k23:Nat) : Int)) _
       refine MT.ite (fun c5833=>?_) (fun c5833=>?_)
       ·have c5833' := of_decide_eq_true c5833
        refine MT.say (MT.ask (dI p_l ((k23:Nat) : Int) (by omega) (by omega)) (fun x5834 _ hx24=>?_))
        have := lJ hx24
        refine MT.say (MT.ask (dI p_l ((k21:Nat) : Int) (by omega) (by omega)) (fun x5836 _ hx25=>?_))
        have := lJ hx25
        refine MT.say (MT.ite (fun c5838=>?_) (fun c5838=>?_))
        ·exact MT.say (MT.ret trivial)
        ·exact MT.say (MT.ret ⟨rfl,by omega⟩)
       ·have c5833' := of_decide_eq_false c5833
        exact MT.say (MT.ret trivial)
      ·intro o5841 h5840 _
       exact MT.say (MT.ret trivial)
      ·intro o5842 h5840 _
       exact MT.say (MT.ret ⟨rfl,by omega⟩)
   ·have c5820' := of_decide_eq_false c5820
    exact MT.say (MT.ret trivial)
  ·intro o5845 h5844 _
   exact MT.say MT.any
  ·intro o5846 h5844 _
   exact MT.say MT.any
theorem Ie (n_:Nat) : ∀ (p_a:ak) (p_b:ak),aY p_a.lf1 < n_ → aY p_a.lf1 ≤ 100000000 → aY p_b.lf1 ≤ 100000000 → Tot ((kV n_).m1 p_a p_b) Any := by
  induction n_ with
  | zero=>intro p_a p_b h; omega
  | succ n_ ih =>
    intro p_a p_b h_ h_p_a h_p_b
    have := bU p_a
    have := gq p_a.bY
    have := ig p_a.bV
    have := bU p_b
    have := gq p_b.bY
    have := ig p_b.bV
    show MT (akV (kV n_) p_a p_b) Any
    refine MT.ask (R := fun b_=>(b_ = true → True) ∧ (b_ = false → p_a.aU = p_b.aU ∧ p_a.jU = p_b.jU ∧ True)) ?_ ?_
    ·show MT (Y9 (kV n_) p_a p_b) _
     refine MT.ite (fun c5914=>?_) (fun c5914=>?_)
     ·have c5914' : ¬ (p_a.aU = p_b.aU) := by simpa using c5914
      exact MT.say (MT.ret ⟨(fun _=>trivial),(fun h_=>by cases h_)⟩)
     ·have c5914' : p_a.aU = p_b.aU := by simpa using c5914
      exact MT.say (MT.ret ⟨(fun _=>trivial),(fun h_=>⟨(by first | assumption | omega),(by simpa using h_),trivial⟩)⟩)
    ·intro r5916 h5917 f_r5916
     refine MT.say (MT.ask (R := fun b_=>(b_ = true → True) ∧ (b_ = false → r5916 = false ∧ True)) ?_ ?_)
     ·show MT (Za (kV n_) p_a p_b r5916) _
      refine MT.ite (fun c5918=>?_) (fun c5918=>?_)
      ·exact MT.say (MT.ret ⟨(fun _=>trivial),(fun h_=>by cases h_)⟩)
      ·have q26 := f_r5916.2 (c5918)
       exact MT.say (MT.ret ⟨(fun _=>trivial),(fun h_=>⟨(by first | assumption | omega),trivial⟩)⟩)
     ·intro r5920 h5921 f_r5920
      refine MT.say (MT.ask (R := fun b_=>(b_ = true → True) ∧ (b_ = false → r5920 = false ∧ (p_a.bY.length:Int) = (p_b.bY.length:Int) ∧ True)) ?_ ?_)
      ·show MT (Sm (kV n_) p_a p_b r5920) _
       refine MT.ite (fun c5922=>?_) (fun c5922=>?_)
       ·exact MT.say (MT.ret ⟨(fun _=>trivial),(fun h_=>by cases h_)⟩)
       ·have q27 := f_r5920.2 (c5922)
        have q28 := f_r5916.2 (q27.1)
        exact MT.say (MT.ret ⟨(fun _=>trivial),(fun h_=>⟨(by first | assumption | omega),(by simpa using h_),trivial⟩)⟩)
      ·intro r5924 h5925 f_r5924
       refine MT.say (MT.ask (R := fun b_=>(b_ = true → True) ∧ (b_ = false → r5924 = false ∧ (p_a.bV.length:Int) = (p_b.bV.length:Int) ∧ True)) ?_ ?_)
       ·show MT (Sr (kV n_) p_a p_b r5924) _
        refine MT.ite (fun c5926=>?_) (fun c5926=>?_)
        ·exact MT.say (MT.ret ⟨(fun _=>trivial),(fun h_=>by cases h_)⟩)
        ·have q29 := f_r5924.2 (c5926)
         have q30 := f_r5920.2 (q29.1)
         have q31 := f_r5916.2 (q30.1)
         exact MT.say (MT.ret ⟨(fun _=>trivial),(fun h_=>⟨(by first | assumption | omega),(by simpa using h_),trivial⟩)⟩)
       ·intro r5928 h5929 f_r5928
        refine MT.say (MT.ite (fun c5931=>?_) (fun c5931=>?_))
        ·exact MT.say MT.any
        ·have q32 := f_r5928.2 (c5931)
         have q33 := f_r5924.2 (q32.1)
         have q34 := f_r5920.2 (q33.1)
         have q35 := f_r5916.2 (q34.1)
         refine MT.say (MT.eU (R := Any) ?_ ?_ ?_)
         ·refine T.cnt (fun _=>True) ?_
          intro k36 hk36
          show MT (EX (kV n_) p_a p_b ((k36:Nat) : Int)) _
          refine MT.say (MT.ite (fun c5977=>?_) (fun c5977=>?_))
          ·have c5977' := of_decide_eq_true c5977
           refine MT.say (MT.ask (dI p_a.bY ((k36:Nat) : Int) (by omega) (by omega)) (fun x5978 _ hx37=>?_))
           have := jw hx37
           have := bU x5978
           refine MT.say (MT.ask (dI p_b.bY ((k36:Nat) : Int) (by omega) (by omega)) (fun x5980 _ hx38=>?_))
           have := jw hx38
           have := bU x5980
           refine MT.say (MT.ask (R := Any) ?_ ?_)
           ·exact (ih x5978 x5980 (by omega) (by first | omega | (simp; done) | decide) (by first | omega | (simp; done) | decide))
           ·intro r5982 h5983 _
            refine MT.say (MT.ite (fun c5984=>?_) (fun c5984=>?_))
            ·exact MT.say (MT.ret trivial)
            ·exact MT.say (MT.ret ⟨rfl,by omega⟩)
          ·have c5977' := of_decide_eq_false c5977
           exact MT.say (MT.ret trivial)
         ·intro o5987 h5986 _
          exact MT.say MT.any
         ·intro o5988 h5986 _
          refine MT.say (MT.eU (R := Any) ?_ ?_ ?_)
          ·refine T.cnt (fun _=>True) ?_
           intro k39 hk39
           show MT (EY (kV n_) p_a p_b ((k39:Nat) : Int)) _
           refine MT.say (MT.ite (fun c6071=>?_) (fun c6071=>?_))
           ·have c6071' := of_decide_eq_true c6071
            refine MT.say (MT.ask (R := Any) ?_ ?_)
            ·show MT (SA (kV n_) p_a p_b ((k39:Nat) : Int)) Any
             refine MT.ask (dI p_a.bV ((k39:Nat) : Int) (by omega) (by omega)) (fun x6072 _ hx40=>?_)
             have := iq hx40
             have := gZ x6072
             refine MT.say (MT.ask (dI p_b.bV ((k39:Nat) : Int) (by omega) (by omega)) (fun x6074 _ hx41=>?_))
             have := iq hx41
             have := gZ x6074
             refine MT.say (MT.ite (fun c6076=>?_) (fun c6076=>?_))
             ·exact MT.say MT.any
             ·refine MT.say (MT.ask (dI p_a.bV ((k39 : Nat) : Int) (by omega) (by omega)) (fun x6077 _ hx42 => ?_))
              have := iq hx42
              have := gZ x6077
              have := bU x6077.fValue
              refine MT.say (MT.ask (dI p_b.bV ((k39:Nat) : Int) (by omega) (by omega)) (fun x6079 _ hx43=>?_))
              have := iq hx43
              have := gZ x6079
              have := bU x6079.fValue
              refine MT.say (MT.ask (R := Any) ?_ ?_)
              ·exact (ih x6077.fValue x6079.fValue (by omega) (by first | omega | (simp; done) | decide) (by first | omega | (simp; done) | decide))
              ·intro r6081 h6082 _
               exact MT.say MT.any
            ·intro r6084 h6085 _
             refine MT.say (MT.ite (fun c6086=>?_) (fun c6086=>?_))
             ·exact MT.say (MT.ret trivial)
             ·exact MT.say (MT.ret ⟨rfl,by omega⟩)
           ·have c6071' := of_decide_eq_false c6071
            exact MT.say (MT.ret trivial)
          ·intro o6089 h6088 _
           exact MT.say MT.any
          ·intro o6090 h6088 _
           exact MT.say MT.any
theorem ng (p_a:ak) (p_b:ak) (h_p_a:aY p_a.lf1 ≤ 100000000) (h_p_b:aY p_b.lf1 ≤ 100000000) : Tot (Q8 p_a p_b) Any := Ie FU p_a p_b (by have := lu; omega) h_p_a h_p_b
theorem Ou (p_e:aH) (h_p_e:aY p_e.lf1 ≤ 100000000) : Tot (Q39 p_e) Any := by
  have := fZ p_e
  have := dG p_e.dA
  have := dG p_e.bT
  have := bU p_e.fArg
  have := jq p_e.bC
  show MT (ajg p_e) Any
  repeat' (first | exact MT.any | refine MT.say ?_ | refine MT.ite (fun _=>?_) (fun _=>?_) | refine MT.ru ?_ (fun _ _=>?_) | exact ⟨T.wk (T.val (nX _))⟩ | exact ⟨T.wk (ng _ _ (by first | omega | decide) (by first | omega | decide))⟩ | exact ⟨T.wk (kD _ (by first | omega | decide))⟩ | exact ⟨T.wk (T.val (Aa _))⟩ | exact ⟨T.wk (Ot _)⟩ | exact ⟨T.wk (Ic _ (by first | omega | decide))⟩ | refine ⟨(show MT _ Any from ?_)⟩)
theorem GK (n_:Nat) : ∀ (p_e:aH) (p_number:Int) (p_level:Int),aY p_e.lf1 < n_ → aY p_e.lf1 ≤ 100000000 → Tot ((qY n_).m1 p_e p_number p_level) Any := by
  induction n_ with
  | zero=>intro p_e p_number p_level h; omega
  | succ n_ ih =>
    intro p_e p_number p_level h_ h_p_e
    have := fZ p_e
    have := jq p_e.bC
    show MT (adV (qY n_) p_e p_number p_level) Any
    refine MT.ask (R := fun b_=>(b_ = true → True) ∧ (b_ = false → ¬ ((16:Int) < p_level) ∧ ¬ ((256:Int) < p_number) ∧ True)) ?_ ?_
    ·show MT (SG (qY n_) p_e p_level p_number) _
     refine MT.ite (fun c5449=>?_) (fun c5449=>?_)
     ·have c5449' := of_decide_eq_true c5449
      exact MT.say (MT.ret ⟨(fun _=>trivial),(fun h_=>by cases h_)⟩)
     ·have c5449' := of_decide_eq_false c5449
      exact MT.say (MT.ret ⟨(fun _=>trivial),(fun h_=>⟨(by first | assumption | omega),(of_decide_eq_false h_),trivial⟩)⟩)
    ·intro r5451 h5452 f_r5451
     refine MT.say (MT.ite (fun c5454=>?_) (fun c5454=>?_))
     ·exact MT.say MT.any
     ·have q44 := f_r5451.2 (c5454)
      refine MT.say (MT.ask (R := Any) ?_ ?_)
      ·exact T.wk (Ou p_e (by first | omega | (simp; done) | decide))
      ·intro r6137 h6138 _
       refine MT.say (MT.ite (fun c6140=>?_) (fun c6140=>?_))
       ·have c6140' : ¬ (r6137 = 0) := by simpa using c6140
        exact MT.say MT.any
       ·have c6140' : r6137 = 0 := by simpa using c6140
        refine MT.say (MT.eU (R := Any) ?_ ?_ ?_)
        ·refine T.aiz (fun _=>True) ?_
         intro v6182 k45 hk45
         show MT (EZ (qY n_) p_e p_level (v6182,((k45:Nat) : Int))) _
         refine MT.say (MT.ite (fun c6184=>?_) (fun c6184=>?_))
         ·have c6184' := of_decide_eq_true c6184
          refine MT.say (MT.ask (dI p_e.bC ((k45:Nat) : Int) (by omega) (by omega)) (fun x6185 _ hx46=>?_))
          have := lS hx46
          have := fZ x6185
          refine MT.say (MT.ask (R := Any) ?_ ?_)
          ·exact (ih x6185 (IntKind.wrap .i64 (v6182 + 1)) (IntKind.wrap .i64 (p_level + 1)) (by omega) (by first | omega | (simp; done) | decide))
          ·intro r6187 h6188 _
           refine MT.say (MT.ite (fun c6189=>?_) (fun c6189=>?_))
           ·have c6189' : ¬ (r6187.2 = 0) := by simpa using c6189
            exact MT.say (MT.ret trivial)
           ·have c6189' : r6187.2 = 0 := by simpa using c6189
            exact MT.say (MT.ret ⟨rfl,by omega⟩)
         ·have c6184' := of_decide_eq_false c6184
          exact MT.say (MT.ret trivial)
        ·intro o6198 h6197 _
         exact MT.say MT.any
        ·intro o6199 h6197 _
         exact MT.say MT.any
theorem Ig (p_e:aH) (p_number:Int) (p_level:Int) (h_p_e:aY p_e.lf1 ≤ 100000000) : Tot (Q43 p_e p_number p_level) Any := GK FU p_e p_number p_level (by have := lu; omega) h_p_e
theorem Ih (p_e:aH) (h_p_e:aY p_e.lf1 ≤ 100000000) : Tot (amX p_e) Any := by
  have := fZ p_e
  show MT (adW p_e) Any
  repeat' (first | exact MT.any | refine MT.say ?_ | refine MT.ite (fun _=>?_) (fun _=>?_) | refine MT.ru ?_ (fun _ _=>?_) | exact ⟨T.wk (Ig _ _ _ (by first | omega | decide))⟩)
theorem Ii (n_:Nat) : ∀ (p_p:aO) (p_elem:Bool),aY p_p.lf1 < n_ → aY p_p.lf1 ≤ 100000000 → Tot ((jr n_).m1 p_p p_elem) Any := by
  induction n_ with
  | zero=>intro p_p p_elem h; omega
  | succ n_ ih =>
    intro p_p p_elem h_ h_p_p
    have := gW p_p
    have := dG p_p.dA
    have := bU p_p.fArg
    have := gq p_p.fArgs
    have := jE p_p.eG
    have := fZ p_p.fExpr
    have := jM p_p.bC
    show MT (akZ (jr n_) p_p p_elem) Any
    refine MT.ask (R := fun b_=>(b_ = true → True) ∧ (b_ = false → ¬ ((p_p.fOp:Int) < 1) ∧ ¬ ((24:Int) < p_p.fOp) ∧ True)) ?_ ?_
    ·show MT (Zc (jr n_) p_elem p_p) _
     refine MT.ite (fun c5011=>?_) (fun c5011=>?_)
     ·have c5011' := of_decide_eq_true c5011
      exact MT.say (MT.ret ⟨(fun _=>trivial),(fun h_=>by cases h_)⟩)
     ·have c5011' := of_decide_eq_false c5011
      exact MT.say (MT.ret ⟨(fun _=>trivial),(fun h_=>⟨(by first | assumption | omega),(of_decide_eq_false h_),trivial⟩)⟩)
    ·intro r5013 h5014 f_r5013
     refine MT.say (MT.ask (R := fun b_=>(b_ = true → True) ∧ (b_ = false → r5013 = false ∧ True)) ?_ ?_)
     ·show MT (Zd (jr n_) p_elem p_p r5013) _
      refine MT.ite (fun c5015=>?_) (fun c5015=>?_)
      ·exact MT.say (MT.ret ⟨(fun _=>trivial),(fun h_=>by cases h_)⟩)
      ·have q47 := f_r5013.2 (c5015)
       refine MT.say (MT.ask (R := Any) ?_ ?_)
       ·exact T.wk (Oq p_p (by first | omega | (simp; done) | decide))
       ·intro r5016 h5017 _
        exact MT.say (MT.ret ⟨(fun _=>trivial),(fun h_=>⟨(by first | assumption | omega),trivial⟩)⟩)
     ·intro r5019 h5020 f_r5019
      refine MT.say (MT.ask (R := fun b_=>(b_ = true → True) ∧ (b_ = false → r5019 = false ∧ True)) ?_ ?_)
      ·show MT (SL (jr n_) p_elem p_p r5019) _
       refine MT.ite (fun c5021=>?_) (fun c5021=>?_)
       ·exact MT.say (MT.ret ⟨(fun _=>trivial),(fun h_=>by cases h_)⟩)
       ·have q48 := f_r5019.2 (c5021)
        have q49 := f_r5013.2 (q48.1)
        refine MT.say (MT.ask (R := Any) ?_ ?_)
        ·exact T.wk (mJ p_p.fOp )
        ·intro r5022 h5023 _
         refine MT.say (MT.ite (fun c5024=>?_) (fun c5024=>?_))
         ·exact MT.say (MT.ret ⟨(fun _=>trivial),(fun h_=>⟨(by first | assumption | omega),trivial⟩)⟩)
         ·exact MT.say (MT.ret ⟨(fun h_=>by cases h_),(fun h_=>⟨(by first | assumption | omega),trivial⟩)⟩)
      ·intro r5026 h5027 f_r5026
       refine MT.say (MT.ask (R := fun b_=>(b_ = true → True) ∧ (b_ = false → r5026 = false ∧ True)) ?_ ?_)
       ·show MT (SN (jr n_) p_elem p_p r5026) _
        refine MT.ite (fun c5028=>?_) (fun c5028=>?_)
        ·exact MT.say (MT.ret ⟨(fun _=>trivial),(fun h_=>by cases h_)⟩)
        ·have q50 := f_r5026.2 (c5028)
         have q51 := f_r5019.2 (q50.1)
         have q52 := f_r5013.2 (q51.1)
         refine MT.say (MT.ask (R := Any) ?_ ?_)
         ·exact T.wk (CS p_p (by first | omega | (simp; done) | decide))
         ·intro r5029 h5030 _
          exact MT.say (MT.ret ⟨(fun _=>trivial),(fun h_=>⟨(by first | assumption | omega),trivial⟩)⟩)
       ·intro r5032 h5033 f_r5032
        refine MT.say (MT.ite (fun c5035=>?_) (fun c5035=>?_))
        ·exact MT.say MT.any
        ·have q53 := f_r5032.2 (c5035)
         have q54 := f_r5026.2 (q53.1)
         have q55 := f_r5019.2 (q54.1)
         have q56 := f_r5013.2 (q55.1)
         refine MT.say (MT.ask (R := Any) ?_ ?_)
         ·show MT (SQ (jr n_) p_elem p_p) Any
          refine MT.ask (R := Any) ?_ ?_
          ·exact T.wk (rG p_p.fOp )
          ·intro r5050 h5051 _
           refine MT.say (MT.ite (fun c5052=>?_) (fun c5052=>?_))
           ·refine MT.say (MT.ask (R := Any) ?_ ?_)
            ·exact T.wk (T.val (Aa p_p.dA))
            ·intro r5053 h5054 _
             exact MT.say MT.any
           ·exact MT.say MT.any
         ·intro r5056 h5057 _
          refine MT.say (MT.ask (R := fun b_=>(b_ = true → r5056 = true ∧ True) ∧ (b_ = false → True)) ?_ ?_)
          ·show MT (SS (jr n_) p_elem p_p r5056) _
           refine MT.ite (fun c5058=>?_) (fun c5058=>?_)
           ·refine MT.say (MT.ite (fun c5059=>?_) (fun c5059=>?_))
            ·exact MT.say (MT.ret ⟨(fun h_=>⟨(by first | assumption | omega),trivial⟩),(fun _=>trivial)⟩)
            ·exact MT.say (MT.ret ⟨(fun h_=>⟨(by first | assumption | omega),trivial⟩),(fun h_=>by cases h_)⟩)
           ·exact MT.say (MT.ret ⟨(fun h_=>by cases h_),(fun _=>trivial)⟩)
          ·intro r5061 h5062 f_r5061
           refine MT.say (MT.ite (fun c5064=>?_) (fun c5064=>?_))
           ·have q57 := f_r5061.1 (c5064)
            exact MT.say MT.any
           ·refine MT.say (MT.ask (R := Any) ?_ ?_)
            ·show MT (SV (jr n_) p_elem p_p) Any
             refine MT.ask (R := Any) ?_ ?_
             ·exact T.wk (rH p_p.fOp )
             ·intro r5082 h5083 _
              refine MT.say (MT.ite (fun c5084=>?_) (fun c5084=>?_))
              ·refine MT.say (MT.ask (R := Any) ?_ ?_)
               ·exact T.wk (kD p_p.fArg (by first | omega | (simp; done) | decide))
               ·intro r5085 h5086 _
                refine MT.say (MT.ite (fun c5087=>?_) (fun c5087=>?_))
                ·exact MT.say MT.any
                ·refine MT.say (MT.ask (R := Any) ?_ ?_)
                 ·exact T.wk (qy p_p.fOp )
                 ·intro r5088 h5089 _
                  refine MT.say (MT.ite (fun c5090=>?_) (fun c5090=>?_))
                  ·exact MT.say MT.any
                  ·exact MT.say MT.any
              ·exact MT.say MT.any
            ·intro r5092 h5093 _
             refine MT.say (MT.ite (fun c5095=>?_) (fun c5095=>?_))
             ·exact MT.say MT.any
             ·refine MT.say (MT.eU (R := Any) ?_ ?_ ?_)
              ·refine T.cnt (fun _=>True) ?_
               intro k58 hk58
               show MT (E5 (jr n_) p_elem p_p ((k58:Nat) : Int)) _
               refine MT.ask (R := fun b_=>(b_ = true → (((k58:Nat) : Int) : Int) < (p_p.fArgs.length:Int) ∧ True) ∧ (b_ = false → True)) ?_ ?_
               ·show MT (SX (jr n_) p_elem p_p ((k58:Nat) : Int)) _
                refine MT.say (MT.ite (fun c5152=>?_) (fun c5152=>?_))
                ·have c5152' := of_decide_eq_true c5152
                 refine MT.say (MT.ask (R := Any) ?_ ?_)
                 ·exact T.wk (mJ p_p.fOp )
                 ·intro r5153 h5154 _
                  exact MT.say (MT.ret ⟨(fun h_=>⟨(by first | assumption | omega),trivial⟩),(fun _=>trivial)⟩)
                ·have c5152' := of_decide_eq_false c5152
                 exact MT.say (MT.ret ⟨(fun h_=>by cases h_),(fun _=>trivial)⟩)
               ·intro r5156 h5157 f_r5156
                refine MT.say (MT.ite (fun c5158=>?_) (fun c5158=>?_))
                ·have q59 := f_r5156.1 (c5158)
                 refine MT.say (MT.ask (dI p_p.fArgs ((k58:Nat) : Int) (by omega) (by omega)) (fun x5159 _ hx60=>?_))
                 have := jw hx60
                 have := bU x5159
                 refine MT.say (MT.ask (R := Any) ?_ ?_)
                 ·exact T.wk (kD x5159 (by first | omega | (simp; done) | decide))
                 ·intro r5161 h5162 _
                  refine MT.say (MT.ite (fun c5163=>?_) (fun c5163=>?_))
                  ·exact MT.say (MT.ret trivial)
                  ·exact MT.say (MT.ret ⟨rfl,by omega⟩)
                ·exact MT.say (MT.ret trivial)
              ·intro o5166 h5165 _
               exact MT.say MT.any
              ·intro o5167 h5165 _
               refine MT.say (MT.eU (R := Any) ?_ ?_ ?_)
               ·show MT (E8 (jr n_) p_elem p_p) Any
                refine MT.ite (fun c5281=>?_) (fun c5281=>?_)
                ·have c5281' : p_p.fOp = 18 := by simpa using c5281
                 refine MT.say (MT.ask (R := Any) ?_ ?_)
                 ·exact T.wk (Ib p_p.eG (by first | omega | (simp; done) | decide))
                 ·intro r5282 h5283 _
                  refine MT.say (MT.ite (fun c5284=>?_) (fun c5284=>?_))
                  ·have c5284' : ¬ (r5282 = 0) := by simpa using c5284
                   exact MT.say MT.any
                  ·have c5284' : r5282 = 0 := by simpa using c5284
                   exact MT.say MT.any
                ·have c5281' : ¬ (p_p.fOp = 18) := by simpa using c5281
                 exact MT.say MT.any
               ·intro o5289 h5288 _
                exact MT.say MT.any
               ·intro o5290 h5288 _
                refine MT.say (MT.ask (R := Any) ?_ ?_)
                ·exact T.wk (GH p_p (by first | omega | (simp; done) | decide))
                ·intro r5443 h5444 _
                 refine MT.say (MT.ite (fun c5446=>?_) (fun c5446=>?_))
                 ·exact MT.say MT.any
                 ·refine MT.say (MT.ite (fun c6206=>?_) (fun c6206=>?_))
                  ·have c6206' : p_p.fOp = 24 := by simpa using c6206
                   refine MT.say (MT.ask (R := Any) ?_ ?_)
                   ·exact T.wk (Ih p_p.fExpr (by first | omega | (simp; done) | decide))
                   ·intro r6209 h6210 _
                    exact MT.say MT.any
                  ·have c6206' : ¬ (p_p.fOp = 24) := by simpa using c6206
                   refine MT.say (MT.eU (R := Any) ?_ ?_ ?_)
                   ·refine T.cnt (fun _=>True) ?_
                    intro k61 hk61
                    show MT (Fa (jr n_) p_elem p_p ((k61:Nat) : Int)) _
                    refine MT.say (MT.ite (fun c6275=>?_) (fun c6275=>?_))
                    ·have c6275' := of_decide_eq_true c6275
                     refine MT.say (MT.ask (R := Any) ?_ ?_)
                     ·show MT (Td (jr n_) p_elem p_p ((k61:Nat) : Int)) Any
                      refine MT.ask (dI p_p.bC ((k61:Nat) : Int) (by omega) (by omega)) (fun x6276 _ hx62=>?_)
                      have := nU hx62
                      have := gW x6276
                      refine MT.say (MT.ite (fun c6278=>?_) (fun c6278=>?_))
                      ·refine MT.say (MT.ask (R := Any) ?_ ?_)
                       ·exact (ih x6276 true (by omega) (by first | omega | (simp; done) | decide))
                       ·intro r6279 h6280 _
                        exact MT.say MT.any
                      ·refine MT.say (MT.ask (R := Any) ?_ ?_)
                       ·exact (ih x6276 (p_p.fOp == 15) (by omega) (by first | omega | (simp; done) | decide))
                       ·intro r6281 h6282 _
                        exact MT.say MT.any
                     ·intro r6284 h6285 _
                      refine MT.say (MT.ite (fun c6286=>?_) (fun c6286=>?_))
                      ·have c6286' : ¬ (r6284 = 0) := by simpa using c6286
                       exact MT.say (MT.ret trivial)
                      ·have c6286' : r6284 = 0 := by simpa using c6286
                       exact MT.say (MT.ret ⟨rfl,by omega⟩)
                    ·have c6275' := of_decide_eq_false c6275
                     exact MT.say (MT.ret trivial)
                   ·intro o6291 h6290 _
                    exact MT.say MT.any
                   ·intro o6292 h6290 _
                    exact MT.say MT.any
theorem Ov (p_p:aO) (p_elem:Bool) (h_p_p:aY p_p.lf1 ≤ 100000000) : Tot (Q0 p_p p_elem) Any := Ii FU p_p p_elem (by have := lu; omega) h_p_p
theorem Ij (p_p:aO) (h_p_p:aY p_p.lf1 ≤ 100000000) : Tot (amZ p_p) Any := by
  have := gW p_p
  show MT (ad1 p_p) Any
  repeat' (first | exact MT.any | refine MT.say ?_ | refine MT.ite (fun _=>?_) (fun _=>?_) | refine MT.ru ?_ (fun _ _=>?_) | exact ⟨T.wk (Ia _ _ _ (by first | omega | decide))⟩ | exact ⟨T.wk (Ov _ _ (by first | omega | decide))⟩)
theorem GL (p_a:List ByteArray) (p_b:List ByteArray) (h_p_a:bG (p_a.map lfS) ≤ 100000000) (h_p_b:bG (p_b.map lfS) ≤ 100000000) : Tot (Q55 p_a p_b) Any := by
  have := dG p_a
  have := dG p_b
  show MT (ajh p_a p_b) Any
  refine MT.say (MT.ite (fun c6340=>?_) (fun c6340=>?_))
  ·have c6340' := of_decide_eq_true c6340
   exact MT.say MT.any
  ·have c6340' := of_decide_eq_false c6340
   refine MT.say (MT.eU (R := Any) ?_ ?_ ?_)
   ·refine T.cnt (fun _=>True) ?_
    intro k63 hk63
    show MT (Fb p_a p_b ((k63:Nat) : Int)) _
    refine MT.say (MT.ite (fun c6376=>?_) (fun c6376=>?_))
    ·have c6376' := of_decide_eq_true c6376
     refine MT.say (MT.ask (dI p_a ((k63:Nat) : Int) (by omega) (by omega)) (fun x6377 _ hx64=>?_))
     have := lJ hx64
     refine MT.say (MT.ask (dI p_b ((k63:Nat) : Int) (by omega) (by omega)) (fun x6379 _ hx65=>?_))
     have := lJ hx65
     refine MT.say (MT.ite (fun c6381=>?_) (fun c6381=>?_))
     ·exact MT.say (MT.ret trivial)
     ·exact MT.say (MT.ret ⟨rfl,by omega⟩)
    ·have c6376' := of_decide_eq_false c6376
     exact MT.say (MT.ret trivial)
   ·intro o6384 h6383 _
    exact MT.say MT.any
   ·intro o6385 h6383 _
    exact MT.say MT.any
theorem Ac (p_a:List ByteArray) (p_b:List ByteArray) (h_p_a:bG (p_a.map lfS) ≤ 100000000) (h_p_b:bG (p_b.map lfS) ≤ 100000000) : Tot (am0 p_a p_b) Any := by
  have := dG p_a
  have := dG p_b
  show MT (ad3 p_a p_b) Any
  repeat' (first | exact MT.any | refine MT.say ?_ | refine MT.ite (fun _=>?_) (fun _=>?_) | refine MT.ru ?_ (fun _ _=>?_) | exact ⟨T.wk (GL _ _ (by first | omega | decide) (by first | omega | decide))⟩)
theorem Ik (n_:Nat) : ∀ (p_a:aH) (p_b:aH),aY p_a.lf1 < n_ → aY p_a.lf1 ≤ 100000000 → aY p_b.lf1 ≤ 100000000 → Tot ((kW n_).m1 p_a p_b) Any := by
  induction n_ with
  | zero=>intro p_a p_b h; omega
  | succ n_ ih =>
    intro p_a p_b h_ h_p_a h_p_b
    have := fZ p_a
    have := dG p_a.dA
    have := dG p_a.bT
    have := bU p_a.fArg
    have := jq p_a.bC
    have := fZ p_b
    have := dG p_b.dA
    have := dG p_b.bT
    have := bU p_b.fArg
    have := jq p_b.bC
    show MT (ad4 (kW n_) p_a p_b) Any
    refine MT.ask (R := fun b_=>(b_ = true → True) ∧ (b_ = false → p_a.fOp = p_b.fOp ∧ True)) ?_ ?_
    ·show MT (Tq (kW n_) p_a p_b) _
     refine MT.ite (fun c6417=>?_) (fun c6417=>?_)
     ·have c6417' : ¬ (p_a.fOp = p_b.fOp) := by simpa using c6417
      exact MT.say (MT.ret ⟨(fun _=>trivial),(fun h_=>by cases h_)⟩)
     ·have c6417' : p_a.fOp = p_b.fOp := by simpa using c6417
      refine MT.say (MT.ask (R := Any) ?_ ?_)
      ·exact T.wk (Ac p_a.dA p_b.dA (by first | omega | (simp; done) | decide) (by first | omega | (simp; done) | decide))
      ·intro r6418 h6419 _
       exact MT.say (MT.ret ⟨(fun _=>trivial),(fun h_=>⟨(by first | assumption | omega),trivial⟩)⟩)
    ·intro r6421 h6422 f_r6421
     refine MT.say (MT.ask (R := fun b_=>(b_ = true → True) ∧ (b_ = false → r6421 = false ∧ True)) ?_ ?_)
     ·show MT (Tt (kW n_) p_a p_b r6421) _
      refine MT.ite (fun c6423=>?_) (fun c6423=>?_)
      ·exact MT.say (MT.ret ⟨(fun _=>trivial),(fun h_=>by cases h_)⟩)
      ·have q66 := f_r6421.2 (c6423)
       exact MT.say (MT.ret ⟨(fun _=>trivial),(fun h_=>⟨(by first | assumption | omega),trivial⟩)⟩)
     ·intro r6425 h6426 f_r6425
      refine MT.say (MT.ask (R := fun b_=>(b_ = true → True) ∧ (b_ = false → r6425 = false ∧ True)) ?_ ?_)
      ·show MT (JB (kW n_) p_a p_b r6425) _
       refine MT.ite (fun c6427=>?_) (fun c6427=>?_)
       ·exact MT.say (MT.ret ⟨(fun _=>trivial),(fun h_=>by cases h_)⟩)
       ·have q67 := f_r6425.2 (c6427)
        have q68 := f_r6421.2 (q67.1)
        refine MT.say (MT.ask (R := Any) ?_ ?_)
        ·exact T.wk (Ac p_a.bT p_b.bT (by first | omega | (simp; done) | decide) (by first | omega | (simp; done) | decide))
        ·intro r6428 h6429 _
         exact MT.say (MT.ret ⟨(fun _=>trivial),(fun h_=>⟨(by first | assumption | omega),trivial⟩)⟩)
      ·intro r6431 h6432 f_r6431
       refine MT.say (MT.ask (R := fun b_=>(b_ = true → True) ∧ (b_ = false → r6431 = false ∧ True)) ?_ ?_)
       ·show MT (JC (kW n_) p_a p_b r6431) _
        refine MT.ite (fun c6433=>?_) (fun c6433=>?_)
        ·exact MT.say (MT.ret ⟨(fun _=>trivial),(fun h_=>by cases h_)⟩)
        ·have q69 := f_r6431.2 (c6433)
         have q70 := f_r6425.2 (q69.1)
         have q71 := f_r6421.2 (q70.1)
         refine MT.say (MT.ask (R := Any) ?_ ?_)
         ·exact T.wk (ng p_a.fArg p_b.fArg (by first | omega | (simp; done) | decide) (by first | omega | (simp; done) | decide))
         ·intro r6434 h6435 _
          exact MT.say (MT.ret ⟨(fun _=>trivial),(fun h_=>⟨(by first | assumption | omega),trivial⟩)⟩)
       ·intro r6437 h6438 f_r6437
        refine MT.say (MT.ask (R := fun b_=>(b_ = true → True) ∧ (b_ = false → r6437 = false ∧ p_a.fN = p_b.fN ∧ True)) ?_ ?_)
        ·show MT (JD (kW n_) p_a p_b r6437) _
         refine MT.ite (fun c6439=>?_) (fun c6439=>?_)
         ·exact MT.say (MT.ret ⟨(fun _=>trivial),(fun h_=>by cases h_)⟩)
         ·have q72 := f_r6437.2 (c6439)
          have q73 := f_r6431.2 (q72.1)
          have q74 := f_r6425.2 (q73.1)
          have q75 := f_r6421.2 (q74.1)
          exact MT.say (MT.ret ⟨(fun _=>trivial),(fun h_=>⟨(by first | assumption | omega),(by simpa using h_),trivial⟩)⟩)
        ·intro r6441 h6442 f_r6441
         refine MT.say (MT.ask (R := fun b_=>(b_ = true → True) ∧ (b_ = false → r6441 = false ∧ (p_a.bC.length:Int) = (p_b.bC.length:Int) ∧ True)) ?_ ?_)
         ·show MT (JE (kW n_) p_a p_b r6441) _
          refine MT.ite (fun c6443=>?_) (fun c6443=>?_)
          ·exact MT.say (MT.ret ⟨(fun _=>trivial),(fun h_=>by cases h_)⟩)
          ·have q76 := f_r6441.2 (c6443)
           have q77 := f_r6437.2 (q76.1)
           have q78 := f_r6431.2 (q77.1)
           have q79 := f_r6425.2 (q78.1)
           have q80 := f_r6421.2 (q79.1)
           exact MT.say (MT.ret ⟨(fun _=>trivial),(fun h_=>⟨(by first | assumption | omega),(by simpa using h_),trivial⟩)⟩)
         ·intro r6445 h6446 f_r6445
          refine MT.say (MT.ite (fun c6448=>?_) (fun c6448=>?_))
          ·exact MT.say MT.any
          ·have q81 := f_r6445.2 (c6448)
           have q82 := f_r6441.2 (q81.1)
           have q83 := f_r6437.2 (q82.1)
           have q84 := f_r6431.2 (q83.1)
           have q85 := f_r6425.2 (q84.1)
           have q86 := f_r6421.2 (q85.1)
           refine MT.say (MT.eU (R := Any) ?_ ?_ ?_)
           ·refine T.cnt (fun _=>True) ?_
            intro k87 hk87
            show MT (Bh (kW n_) p_a p_b ((k87:Nat) : Int)) _
            refine MT.say (MT.ite (fun c6494=>?_) (fun c6494=>?_))
            ·have c6494' := of_decide_eq_true c6494
             refine MT.say (MT.ask (dI p_a.bC ((k87:Nat) : Int) (by omega) (by omega)) (fun x6495 _ hx88=>?_))
             have := lS hx88
             have := fZ x6495
             refine MT.say (MT.ask (dI p_b.bC ((k87:Nat) : Int) (by omega) (by omega)) (fun x6497 _ hx89=>?_))
             have := lS hx89
             have := fZ x6497
             refine MT.say (MT.ask (R := Any) ?_ ?_)
             ·exact (ih x6495 x6497 (by omega) (by first | omega | (simp; done) | decide) (by first | omega | (simp; done) | decide))
             ·intro r6499 h6500 _
              refine MT.say (MT.ite (fun c6501=>?_) (fun c6501=>?_))
              ·exact MT.say (MT.ret trivial)
              ·exact MT.say (MT.ret ⟨rfl,by omega⟩)
            ·have c6494' := of_decide_eq_false c6494
             exact MT.say (MT.ret trivial)
           ·intro o6504 h6503 _
            exact MT.say MT.any
           ·intro o6505 h6503 _
            exact MT.say MT.any
theorem Ox (p_a:aH) (p_b:aH) (h_p_a:aY p_a.lf1 ≤ 100000000) (h_p_b:aY p_b.lf1 ≤ 100000000) : Tot (Q19 p_a p_b) Any := Ik FU p_a p_b (by have := lu; omega) h_p_a h_p_b
theorem Oy (p_p:aO) (h_p_p:aY p_p.lf1 ≤ 100000000) : Tot (Q62 p_p) Any := by
  have := gW p_p
  have := dG p_p.dA
  have := bU p_p.fArg
  have := gq p_p.fArgs
  have := jE p_p.eG
  have := jG p_p.eG.cu
  have := fZ p_p.fExpr
  have := jM p_p.bC
  show MT (aji p_p) Any
  repeat' (first | exact MT.any | refine MT.say ?_ | refine MT.ite (fun _=>?_) (fun _=>?_) | refine MT.ru ?_ (fun _ _=>?_) | exact ⟨T.wk (ng _ _ (by first | omega | decide) (by first | omega | decide))⟩ | exact ⟨T.wk (Ox _ _ (by first | omega | decide) (by first | omega | decide))⟩ | refine ⟨(show MT _ Any from ?_)⟩)
theorem uV (p_x:aV) (h_p_x:aY p_x.lf1 ≤ 100000000) : Tot (am1 p_x) Any := by
  have := gU p_x
  have := jX p_x.gB
  have := gW p_x.jc
  show MT (ad7 p_x) Any
  refine MT.ask (R := Any) ?_ ?_
  ·exact T.wk (T.val (nX p_x.fName))
  ·intro r4501 h4502 _
   refine MT.say (MT.ite (fun c4504=>?_) (fun c4504=>?_))
   ·exact MT.say MT.any
   ·refine MT.say (MT.ask (R := fun b_=>(b_ = true → True) ∧ (b_ = false → ¬ ((p_x.aU:Int) < 1) ∧ ¬ ((3:Int) < p_x.aU) ∧ True)) ?_ ?_)
    ·show MT (JH p_x) _
     refine MT.ite (fun c4506=>?_) (fun c4506=>?_)
     ·have c4506' := of_decide_eq_true c4506
      exact MT.say (MT.ret ⟨(fun _=>trivial),(fun h_=>by cases h_)⟩)
     ·have c4506' := of_decide_eq_false c4506
      exact MT.say (MT.ret ⟨(fun _=>trivial),(fun h_=>⟨(by first | assumption | omega),(of_decide_eq_false h_),trivial⟩)⟩)
    ·intro r4508 h4509 f_r4508
     refine MT.say (MT.ite (fun c4511=>?_) (fun c4511=>?_))
     ·exact MT.say MT.any
     ·have q90 := f_r4508.2 (c4511)
      refine MT.say (MT.ask (R := Any) ?_ ?_)
      ·exact T.wk (H9 p_x.gB (by first | omega | (simp; done) | decide))
      ·intro r4751 h4752 _
       refine MT.say (MT.ite (fun c4754=>?_) (fun c4754=>?_))
       ·have c4754' : ¬ (r4751 = 0) := by simpa using c4754
        exact MT.say MT.any
       ·have c4754' : r4751 = 0 := by simpa using c4754
        refine MT.say (MT.ask (R := fun b_=>(b_ = true → True) ∧ (b_ = false → ¬ ((p_x.gB.length:Int) = 0) ∧ True)) ?_ ?_)
        ·show MT (JI p_x) _
         refine MT.say (MT.ite (fun c4761=>?_) (fun c4761=>?_))
         ·have c4761' : (p_x.gB.length : Int) = 0 := by simpa using c4761
          exact MT.say (MT.ret ⟨(fun _=>trivial),(fun h_=>by cases h_)⟩)
         ·have c4761' : ¬ ((p_x.gB.length : Int) = 0) := by simpa using c4761
          refine MT.say (MT.ite (fun c4762=>?_) (fun c4762=>?_))
          ·have c4762' : ¬ (p_x.aU = 1) := by simpa using c4762
           refine MT.say (MT.ite (fun c4763=>?_) (fun c4763=>?_))
           ·have c4763' := of_decide_eq_true c4763
            exact MT.say (MT.ret ⟨(fun _=>trivial),(fun h_=>by cases h_)⟩)
           ·have c4763' := of_decide_eq_false c4763
            refine MT.say (MT.ask (dI p_x.gB 0 (by omega) (by omega)) (fun x4764 _ hx91=>?_))
            have := kZ hx91
            have := jD x4764
            refine MT.say (MT.ite (fun c4766=>?_) (fun c4766=>?_))
            ·exact MT.say (MT.ret ⟨(fun _=>trivial),(fun h_=>by cases h_)⟩)
            ·exact MT.say (MT.ret ⟨(fun _=>trivial),(fun h_=>⟨(by first | assumption | omega),trivial⟩)⟩)
          ·have c4762' : p_x.aU = 1 := by simpa using c4762
           exact MT.say (MT.ret ⟨(fun h_=>by cases h_),(fun h_=>⟨(by first | assumption | omega),trivial⟩)⟩)
        ·intro r4768 h4769 f_r4768
         refine MT.say (MT.ite (fun c4771=>?_) (fun c4771=>?_))
         ·exact MT.say MT.any
         ·have q92 := f_r4768.2 (c4771)
          refine MT.say (MT.ite (fun c6297=>?_) (fun c6297=>?_))
          ·refine MT.say (MT.ask (R := Any) ?_ ?_)
           ·exact T.wk (Ij p_x.jc (by first | omega | (simp; done) | decide))
           ·intro r6300 h6301 _
            exact MT.say MT.any
          ·refine MT.say (MT.ask (R := Any) ?_ ?_)
           ·exact T.wk (Oy p_x.jc (by first | omega | (simp; done) | decide))
           ·intro r6521 h6522 _
            refine MT.say (MT.ite (fun c6524=>?_) (fun c6524=>?_))
            ·exact MT.say MT.any
            ·exact MT.say MT.any
theorem Yc (p_l:List aV) (p_name:ByteArray) (h_p_l:bG (p_l.map aV.lf) ≤ 100000000) (h_p_name:p_name.size ≤ 100000000) : Tot (Q66 p_l p_name) Any := by
  have := jH p_l
  show MT (ajj p_l p_name) Any
  refine MT.eU (R := Any) ?_ ?_ ?_
  ·refine T.cnt (fun _=>True) ?_
   intro k93 hk93
   show MT (Fe p_l p_name ((k93:Nat) : Int)) _
   refine MT.say (MT.ite (fun c6561=>?_) (fun c6561=>?_))
   ·have c6561' := of_decide_eq_true c6561
    refine MT.say (MT.ask (dI p_l ((k93:Nat) : Int) (by omega) (by omega)) (fun x6562 _ hx94=>?_))
    have := ny hx94
    have := gU x6562
    refine MT.say (MT.ite (fun c6564=>?_) (fun c6564=>?_))
    ·exact MT.say (MT.ret trivial)
    ·exact MT.say (MT.ret ⟨rfl,by omega⟩)
   ·have c6561' := of_decide_eq_false c6561
    exact MT.say (MT.ret trivial)
  ·intro o6568 h6567 _
   exact MT.say MT.any
  ·intro o6569 h6567 _
   exact MT.say MT.any
theorem oG (p_l:List ByteArray) (h_p_l:bG (p_l.map lfS) ≤ 100000000) : Tot (Q14 p_l) Any := by
  have := dG p_l
  show MT (ajk p_l) Any
  refine MT.eU (R := Any) ?_ ?_ ?_
  ·refine T.cnt (fun _=>True) ?_
   intro k95 hk95
   show MT (Fh p_l ((k95:Nat) : Int)) _
   refine MT.say (MT.ite (fun c6846=>?_) (fun c6846=>?_))
   ·have c6846' := of_decide_eq_true c6846
    refine MT.say (MT.ask (dI p_l ((k95:Nat) : Int) (by omega) (by omega)) (fun x6847 _ hx96=>?_))
    have := lJ hx96
    refine MT.say (MT.ask (R := Any) ?_ ?_)
    ·exact T.wk (T.val (nX x6847))
    ·intro r6849 h6850 _
     refine MT.say (MT.ite (fun c6851=>?_) (fun c6851=>?_))
     ·exact MT.say (MT.ret trivial)
     ·refine MT.say (MT.eU (R := Any) ?_ ?_ ?_)
      ·refine T.cnt (fun _=>True) ?_
       intro k97 hk97
       show MT (Fg p_l ((k95:Nat) : Int) ((k97:Nat) : Int)) _
       refine MT.ite (fun c6859=>?_) (fun c6859=>?_)
       ·have c6859' := of_decide_eq_true c6859
        refine MT.say (MT.ask (dI p_l ((k97:Nat) : Int) (by omega) (by omega)) (fun x6860 _ hx98=>?_))
        have := lJ hx98
        refine MT.say (MT.ask (dI p_l ((k95:Nat) : Int) (by omega) (by omega)) (fun x6862 _ hx99=>?_))
        have := lJ hx99
        refine MT.say (MT.ite (fun c6864=>?_) (fun c6864=>?_))
        ·exact MT.say (MT.ret trivial)
        ·exact MT.say (MT.ret ⟨rfl,by omega⟩)
       ·have c6859' := of_decide_eq_false c6859
        exact MT.say (MT.ret trivial)
      ·intro o6867 h6866 _
       exact MT.say (MT.ret trivial)
      ·intro o6868 h6866 _
       exact MT.say (MT.ret ⟨rfl,by omega⟩)
   ·have c6846' := of_decide_eq_false c6846
    exact MT.say (MT.ret trivial)
  ·intro o6871 h6870 _
   exact MT.say MT.any
  ·intro o6872 h6870 _
   exact MT.say MT.any
theorem rJ (p_has:Bool) (p_v:ak) (h_p_v:aY p_v.lf1 ≤ 100000000) : Tot (am2 p_has p_v) Any := by
  have := bU p_v
  show MT (aec p_has p_v) Any
  repeat' (first | exact MT.any | refine MT.say ?_ | refine MT.ite (fun _=>?_) (fun _=>?_) | refine MT.ru ?_ (fun _ _=>?_) | exact ⟨T.wk (ng _ _ (by first | omega | decide) (by first | omega | decide))⟩ | exact ⟨T.wk (kD _ (by first | omega | decide))⟩ | refine ⟨(show MT _ Any from ?_)⟩)
theorem GN (p_s:aB) (h_p_s:aY p_s.lf1 ≤ 100000000) : Tot (Q7 p_s) Any := by
  have := fO p_s
  have := bU p_s.uH
  have := bU p_s.uI
  have := gq p_s.kH
  have := dG p_s.gG
  have := jZ p_s.dP
  have := jI p_s.fH
  show MT (am3 p_s) Any
  refine MT.say (MT.ask (R := fun r_:List ByteArray=>bG (r_.map lfS) ≤ 100000000) (H8 p_s (by omega)) (fun r6713 _ r6713'=>?_))
  refine MT.say (MT.ask (R := Any) ?_ ?_)
  ·show MT (Zk p_s r6713) Any
   refine MT.ask (R := Any) ?_ ?_
   ·exact T.wk (oG p_s.gG (by first | omega | (simp; done) | decide))
   ·intro r6878 h6879 _
    refine MT.say (MT.ite (fun c6880=>?_) (fun c6880=>?_))
    ·exact MT.say MT.any
    ·refine MT.say (MT.ask (R := Any) ?_ ?_)
     ·exact T.wk (oG r6713 (by first | omega | (simp; done) | decide))
     ·intro r6881 h6882 _
      exact MT.say MT.any
  ·intro r6885 h6886 _
   refine MT.say (MT.ite (fun c6888=>?_) (fun c6888=>?_))
   ·exact MT.say MT.any
   ·refine MT.say (MT.ask (R := fun b_=>(b_ = true → True) ∧ (b_ = false → ¬ ((p_s.kG:Int) < 0) ∧ ¬ ((Int.tmod p_s.kG 2) = 1) ∧ True)) ?_ ?_)
    ·show MT (TJ p_s) _
     refine MT.ite (fun c6909=>?_) (fun c6909=>?_)
     ·have c6909' := of_decide_eq_true c6909
      exact MT.say (MT.ret ⟨(fun _=>trivial),(fun h_=>by cases h_)⟩)
     ·have c6909' := of_decide_eq_false c6909
      exact MT.say (MT.ret ⟨(fun _=>trivial),(fun h_=>⟨(by first | assumption | omega),(by simpa using h_),trivial⟩)⟩)
    ·intro r6911 h6912 f_r6911
     refine MT.say (MT.ask (R := fun b_=>(b_ = true → True) ∧ (b_ = false → r6911 = false ∧ ¬ ((4096:Int) ≤ p_s.kG) ∧ True)) ?_ ?_)
     ·show MT (TK p_s r6911) _
      refine MT.ite (fun c6913=>?_) (fun c6913=>?_)
      ·exact MT.say (MT.ret ⟨(fun _=>trivial),(fun h_=>by cases h_)⟩)
      ·have q100 := f_r6911.2 (c6913)
       exact MT.say (MT.ret ⟨(fun _=>trivial),(fun h_=>⟨(by first | assumption | omega),(of_decide_eq_false h_),trivial⟩)⟩)
     ·intro r6915 h6916 f_r6915
      refine MT.say (MT.ask (R := fun b_=>(b_ = true → True) ∧ (b_ = false → r6915 = false ∧ ¬ ((p_s.lG:Int) < 0) ∧ True)) ?_ ?_)
      ·show MT (TL p_s r6915) _
       refine MT.ite (fun c6917=>?_) (fun c6917=>?_)
       ·exact MT.say (MT.ret ⟨(fun _=>trivial),(fun h_=>by cases h_)⟩)
       ·have q101 := f_r6915.2 (c6917)
        have q102 := f_r6911.2 (q101.1)
        exact MT.say (MT.ret ⟨(fun _=>trivial),(fun h_=>⟨(by first | assumption | omega),(of_decide_eq_false h_),trivial⟩)⟩)
      ·intro r6919 h6920 f_r6919
       refine MT.say (MT.ask (R := fun b_=>(b_ = true → True) ∧ (b_ = false → r6919 = false ∧ ¬ ((p_s.lH:Int) < (-1)) ∧ True)) ?_ ?_)
       ·show MT (TM p_s r6919) _
        refine MT.ite (fun c6921=>?_) (fun c6921=>?_)
        ·exact MT.say (MT.ret ⟨(fun _=>trivial),(fun h_=>by cases h_)⟩)
        ·have q103 := f_r6919.2 (c6921)
         have q104 := f_r6915.2 (q103.1)
         have q105 := f_r6911.2 (q104.1)
         exact MT.say (MT.ret ⟨(fun _=>trivial),(fun h_=>⟨(by first | assumption | omega),(of_decide_eq_false h_),trivial⟩)⟩)
       ·intro r6923 h6924 f_r6923
        refine MT.say (MT.ask (R := fun b_=>(b_ = true → True) ∧ (b_ = false → r6923 = false ∧ ¬ ((1:Int) < (p_s.fH.length:Int)) ∧ True)) ?_ ?_)
        ·show MT (TN p_s r6923) _
         refine MT.ite (fun c6925=>?_) (fun c6925=>?_)
         ·exact MT.say (MT.ret ⟨(fun _=>trivial),(fun h_=>by cases h_)⟩)
         ·have q106 := f_r6923.2 (c6925)
          have q107 := f_r6919.2 (q106.1)
          have q108 := f_r6915.2 (q107.1)
          have q109 := f_r6911.2 (q108.1)
          exact MT.say (MT.ret ⟨(fun _=>trivial),(fun h_=>⟨(by first | assumption | omega),(of_decide_eq_false h_),trivial⟩)⟩)
        ·intro r6927 h6928 f_r6927
         refine MT.say (MT.ite (fun c6930=>?_) (fun c6930=>?_))
         ·exact MT.say MT.any
         ·have q110 := f_r6927.2 (c6930)
          have q111 := f_r6923.2 (q110.1)
          have q112 := f_r6919.2 (q111.1)
          have q113 := f_r6915.2 (q112.1)
          have q114 := f_r6911.2 (q113.1)
          refine MT.say (MT.ask (R := Any) ?_ ?_)
          ·show MT (TP p_s) Any
           refine MT.ask (R := Any) ?_ ?_
           ·exact T.wk (rJ p_s.lD p_s.uH (by first | omega | (simp; done) | decide))
           ·intro r6954 h6955 _
            refine MT.say (MT.ite (fun c6956=>?_) (fun c6956=>?_))
            ·exact MT.say MT.any
            ·refine MT.say (MT.ask (R := Any) ?_ ?_)
             ·exact T.wk (rJ p_s.lF p_s.uI (by first | omega | (simp; done) | decide))
             ·intro r6957 h6958 _
              exact MT.say MT.any
          ·intro r6960 h6961 _
           refine MT.say (MT.ite (fun c6963=>?_) (fun c6963=>?_))
           ·exact MT.say MT.any
           ·refine MT.say (MT.eU (R := Any) ?_ ?_ ?_)
            ·refine T.cnt (fun _=>True) ?_
             intro k115 hk115
             show MT (Fj p_s ((k115:Nat) : Int)) _
             refine MT.say (MT.ite (fun c6999=>?_) (fun c6999=>?_))
             ·have c6999' := of_decide_eq_true c6999
              refine MT.say (MT.ask (dI p_s.kH ((k115:Nat) : Int) (by omega) (by omega)) (fun x7000 _ hx116=>?_))
              have := jw hx116
              have := bU x7000
              refine MT.say (MT.ask (R := Any) ?_ ?_)
              ·exact T.wk (kD x7000 (by first | omega | (simp; done) | decide))
              ·intro r7002 h7003 _
               refine MT.say (MT.ite (fun c7004=>?_) (fun c7004=>?_))
               ·exact MT.say (MT.ret trivial)
               ·exact MT.say (MT.ret ⟨rfl,by omega⟩)
             ·have c6999' := of_decide_eq_false c6999
              exact MT.say (MT.ret trivial)
            ·intro o7007 h7006 _
             exact MT.say MT.any
            ·intro o7008 h7006 _
             exact MT.say MT.any
theorem GU (n_:Nat) : ∀ (p_s:aB) (p_number:Int) (p_level:Int),aY p_s.lf1 < n_ → aY p_s.lf1 ≤ 100000000 → Tot ((pY n_).m1 p_s p_number p_level) Any := by
  induction n_ with
  | zero=>intro p_s p_number p_level h; omega
  | succ n_ ih =>
    intro p_s p_number p_level h_ h_p_s
    have := fO p_s
    have := jZ p_s.dP
    have := jI p_s.fH
    show MT (aee (pY n_) p_s p_number p_level) Any
    refine MT.ask (R := fun b_=>(b_ = true → True) ∧ (b_ = false → ¬ ((16:Int) < p_level) ∧ ¬ ((64:Int) < p_number) ∧ True)) ?_ ?_
    ·show MT (TS (pY n_) p_level p_number p_s) _
     refine MT.ite (fun c6658=>?_) (fun c6658=>?_)
     ·have c6658' := of_decide_eq_true c6658
      exact MT.say (MT.ret ⟨(fun _=>trivial),(fun h_=>by cases h_)⟩)
     ·have c6658' := of_decide_eq_false c6658
      exact MT.say (MT.ret ⟨(fun _=>trivial),(fun h_=>⟨(by first | assumption | omega),(of_decide_eq_false h_),trivial⟩)⟩)
    ·intro r6660 h6661 f_r6660
     refine MT.say (MT.ite (fun c6663=>?_) (fun c6663=>?_))
     ·exact MT.say MT.any
     ·have q117 := f_r6660.2 (c6663)
      refine MT.say (MT.ask (R := Any) ?_ ?_)
      ·exact T.wk (GN p_s (by first | omega | (simp; done) | decide))
      ·intro r7011 h7012 _
       refine MT.say (MT.ite (fun c7014=>?_) (fun c7014=>?_))
       ·have c7014' : ¬ (r7011 = 0) := by simpa using c7014
        exact MT.say MT.any
       ·have c7014' : r7011 = 0 := by simpa using c7014
        refine MT.say (MT.eU (R := Any) ?_ ?_ ?_)
        ·refine T.aiz (fun _=>True) ?_
         intro v7083 k118 hk118
         show MT (Bj (pY n_) p_level p_s (v7083,((k118:Nat) : Int))) _
         refine MT.say (MT.ite (fun c7085=>?_) (fun c7085=>?_))
         ·have c7085' := of_decide_eq_true c7085
          rw [w64 (by omega) (by omega)] at c7085'
          refine MT.say (MT.ask (R := fun b_=>aY b_.lf1 < n_ ∧ aY b_.lf1 ≤ 100000000) ?_ (fun r7092 _ f_r7092=>?_))
          ·show MT (TU (pY n_) p_level p_s v7083 ((k118:Nat) : Int)) _
           refine MT.ite (fun c7086=>?_) (fun c7086=>?_)
           ·have c7086' := of_decide_eq_true c7086
            refine MT.say (MT.ask (dI p_s.dP ((k118:Nat) : Int) (by omega) (by omega)) (fun x7087 _ hx119=>?_))
            have := oZ hx119
            have := ni x7087
            have := fO x7087.fG
            exact MT.say (MT.ret ⟨by omega,by omega⟩)
           ·have c7086' := of_decide_eq_false c7086
            refine MT.say (MT.ask (dI p_s.fH (IntKind.wrap .i64 (((k118:Nat) : Int) - (p_s.dP.length:Int))) (by rw [w64 (by omega) (by omega)]; omega) (by rw [w64 (by omega) (by omega)]; omega)) (fun x7089 _ hx120=>?_))
            have := lq hx120
            have := fO x7089
            exact MT.say (MT.ret ⟨by omega,by omega⟩)
          ·have f_r7092' := f_r7092.1
           have f_r7092'' := f_r7092.2
           refine MT.say (MT.ask (R := Any) ?_ ?_)
           ·exact (ih r7092 (IntKind.wrap .i64 (v7083 + 1)) (IntKind.wrap .i64 (p_level + 1)) (by omega) (by first | omega | (simp; done) | decide))
           ·intro r7094 h7095 _
            refine MT.say (MT.ite (fun c7096=>?_) (fun c7096=>?_))
            ·have c7096' : ¬ (r7094.2 = 0) := by simpa using c7096
             exact MT.say (MT.ret trivial)
            ·have c7096' : r7094.2 = 0 := by simpa using c7096
             exact MT.say (MT.ret ⟨rfl,by omega⟩)
         ·have c7085' := of_decide_eq_false c7085
          rw [w64 (by omega) (by omega)] at c7085'
          exact MT.say (MT.ret trivial)
        ·intro o7105 h7104 _
         exact MT.say MT.any
        ·intro o7106 h7104 _
         exact MT.say MT.any
theorem Il (p_s:aB) (p_number:Int) (p_level:Int) (h_p_s:aY p_s.lf1 ≤ 100000000) : Tot (Q34 p_s p_number p_level) Any := GU FU p_s p_number p_level (by have := lu; omega) h_p_s
theorem Io (p_s:aB) (h_p_s:aY p_s.lf1 ≤ 100000000) : Tot (am5 p_s) Any := by
  have := fO p_s
  show MT (aef p_s) Any
  repeat' (first | exact MT.any | refine MT.say ?_ | refine MT.ite (fun _=>?_) (fun _=>?_) | refine MT.ru ?_ (fun _ _=>?_) | exact ⟨T.wk (Il _ _ _ (by first | omega | decide))⟩)
theorem Ip (p_d:bQ) (h_p_d:aY p_d.lf1 ≤ 100000000) : Tot (Q42 p_d) Any := by
  have := jF p_d
  have := jH p_d.dJ
  have := fO p_d.fG
  show MT (ajl p_d) Any
  refine MT.ask (R := Any) ?_ ?_
  ·exact T.wk (T.val (nX p_d.fName))
  ·intro r4489 h4490 _
   refine MT.say (MT.ite (fun c4492=>?_) (fun c4492=>?_))
   ·exact MT.say MT.any
   ·refine MT.say (MT.ite (fun c4494=>?_) (fun c4494=>?_))
    ·have c4494' := of_decide_eq_true c4494
     exact MT.say MT.any
    ·have c4494' := of_decide_eq_false c4494
     refine MT.say (MT.eU (R := Any) ?_ ?_ ?_)
     ·refine T.cnt (fun _=>True) ?_
      intro k121 hk121
      show MT (Fp p_d ((k121:Nat) : Int)) _
      refine MT.say (MT.ite (fun c6619=>?_) (fun c6619=>?_))
      ·have c6619' := of_decide_eq_true c6619
       refine MT.say (MT.ask (dI p_d.dJ ((k121:Nat) : Int) (by omega) (by omega)) (fun x6620 _ hx122=>?_))
       have := ny hx122
       have := gU x6620
       refine MT.say (MT.ask (R := Any) ?_ ?_)
       ·exact T.wk (uV x6620 (by first | omega | (simp; done) | decide))
       ·intro r6622 h6623 _
        refine MT.say (MT.ite (fun c6624=>?_) (fun c6624=>?_))
        ·have c6624' : ¬ (r6622 = 0) := by simpa using c6624
         exact MT.say (MT.ret trivial)
        ·have c6624' : r6622 = 0 := by simpa using c6624
         refine MT.say (MT.ask (dI p_d.dJ ((k121:Nat) : Int) (by omega) (by omega)) (fun x6625 _ hx123=>?_))
         have := ny hx123
         have := gU x6625
         refine MT.say (MT.ask (R := Any) ?_ ?_)
         ·exact T.wk (Yc p_d.dJ x6625.fName (by first | omega | (simp; done) | decide) (by first | omega | (simp; done) | decide))
         ·intro r6627 h6628 _
          refine MT.say (MT.ite (fun c6629=>?_) (fun c6629=>?_))
          ·have c6629' : ¬ (r6627 = ((k121 : Nat) : Int)) := by simpa using c6629
           exact MT.say (MT.ret trivial)
          ·have c6629' : r6627 = ((k121 : Nat) : Int) := by simpa using c6629
           exact MT.say (MT.ret ⟨rfl,by omega⟩)
      ·have c6619' := of_decide_eq_false c6619
       exact MT.say (MT.ret trivial)
     ·intro o6635 h6634 _
      exact MT.say MT.any
     ·intro o6636 h6634 _
      refine MT.say (MT.ask (R := fun b_=>(b_ = true → True) ∧ (b_ = false → ¬ ((p_d.pK:Int) < 0) ∧ ¬ ((2:Int) < p_d.pK) ∧ True)) ?_ ?_)
      ·show MT (TY p_d) _
       refine MT.ite (fun c6646=>?_) (fun c6646=>?_)
       ·have c6646' := of_decide_eq_true c6646
        exact MT.say (MT.ret ⟨(fun _=>trivial),(fun h_=>by cases h_)⟩)
       ·have c6646' := of_decide_eq_false c6646
        exact MT.say (MT.ret ⟨(fun _=>trivial),(fun h_=>⟨(by first | assumption | omega),(of_decide_eq_false h_),trivial⟩)⟩)
      ·intro r6648 h6649 f_r6648
       refine MT.say (MT.ask (R := fun b_=>(b_ = true → True) ∧ (b_ = false → r6648 = false ∧ True)) ?_ ?_)
       ·show MT (JL p_d r6648) _
        refine MT.ite (fun c6650=>?_) (fun c6650=>?_)
        ·exact MT.say (MT.ret ⟨(fun _=>trivial),(fun h_=>by cases h_)⟩)
        ·have q124 := f_r6648.2 (c6650)
         refine MT.say (MT.ite (fun c6651=>?_) (fun c6651=>?_))
         ·have c6651' : ¬ (p_d.mV = 0) := by simpa using c6651
          exact MT.say (MT.ret ⟨(fun _=>trivial),(fun h_=>⟨(by first | assumption | omega),trivial⟩)⟩)
         ·have c6651' : p_d.mV = 0 := by simpa using c6651
          exact MT.say (MT.ret ⟨(fun h_=>by cases h_),(fun h_=>⟨(by first | assumption | omega),trivial⟩)⟩)
       ·intro r6653 h6654 f_r6653
        refine MT.say (MT.ite (fun c6656=>?_) (fun c6656=>?_))
        ·exact MT.say MT.any
        ·have q125 := f_r6653.2 (c6656)
         have q126 := f_r6648.2 (q125.1)
         refine MT.say (MT.ask (R := Any) ?_ ?_)
         ·exact T.wk (Io p_d.fG (by first | omega | (simp; done) | decide))
         ·intro r7111 h7112 _
          exact MT.say MT.any
theorem GV (p_kind:Int) : Tot (amG p_kind) Any := by
  show MT (acL p_kind) Any
  repeat' (first | exact MT.any | refine MT.say ?_ | refine MT.ite (fun _=>?_) (fun _=>?_))
theorem rM (p_kind:Int) : Tot (amH p_kind) Any := by
  show MT (acM p_kind) Any
  repeat' (first | exact MT.any | refine MT.say ?_ | refine MT.ite (fun _=>?_) (fun _=>?_) | refine MT.ru ?_ (fun _ _=>?_) | exact ⟨T.wk (GV _)⟩)
theorem nY (p_kind:Int) : Tot (amI p_kind) Any := by
  show MT (acN p_kind) Any
  repeat' (first | exact MT.any | refine MT.say ?_ | refine MT.ite (fun _=>?_) (fun _=>?_))
theorem uX (p_kind:Int) : Tot (amN p_kind) Any := by
  show MT (adi p_kind) Any
  repeat' (first | exact MT.any | refine MT.say ?_ | refine MT.ite (fun _=>?_) (fun _=>?_))
theorem mP (p_kind:Int) : Tot (amM p_kind) Any := by
  show MT (adh p_kind) Any
  repeat' (first | exact MT.any | refine MT.say ?_ | refine MT.ite (fun _=>?_) (fun _=>?_))
theorem GX (p_w:aJ) (h_p_w:aY p_w.lf1 ≤ 100000000) : Tot (Q28 p_w) Any := by
  have := iU p_w
  have := bU p_w.mW
  have := bU p_w.bV
  have := bU p_w.gY
  have := jF p_w.oW
  have := gU p_w.aW
  have := jJ p_w.dN
  have := iC p_w.eF
  show MT (ai3 p_w) Any
  refine MT.ask (R := fun b_=>aY b_.lf1 ≤ 100000000) ?_ (fun r792 _ f_r792=>?_)
  ·show MT (Rf p_w) _
   refine MT.ite (fun c790=>?_) (fun c790=>?_)
   ·have c790' : p_w.aU = 7 := by simpa using c790
    exact MT.say (MT.ret (by first | omega | (refine Nat.le_trans (Gw _) ?_; omega)))
   ·have c790' : ¬ (p_w.aU = 7) := by simpa using c790
    exact MT.say (MT.ret (by first | omega | (refine Nat.le_trans (Gw _) ?_; omega)))
  ·have f_r792' := f_r792
   refine MT.say (MT.ask (R := Any) ?_ ?_)
   ·show MT (Rh p_w r792) Any
    refine MT.ask (R := Any) ?_ ?_
    ·exact T.wk (rM p_w.aU )
    ·intro r798 h799 _
     refine MT.say (MT.ite (fun c800=>?_) (fun c800=>?_))
     ·exact MT.say MT.any
     ·exact MT.say MT.any
   ·intro r802 h803 _
    refine MT.say (MT.ask (R := fun b_=>(b_ = true → r802 = true ∧ True) ∧ (b_ = false → True)) ?_ ?_)
    ·show MT (Jj p_w r792 r802) _
     refine MT.ite (fun c804=>?_) (fun c804=>?_)
     ·refine MT.say (MT.ask (R := Any) ?_ ?_)
      ·exact T.wk (nY p_w.aU )
      ·intro r806 h807 _
       refine MT.say (MT.ite (fun c808=>?_) (fun c808=>?_))
       ·exact MT.say (MT.ret ⟨(fun h_=>⟨(by first | assumption | omega),trivial⟩),(fun h_=>by cases h_)⟩)
       ·refine MT.say (MT.ask (R := Any) ?_ ?_)
        ·exact T.wk (T.val (kC p_w.mW))
        ·intro r829 h830 _
         refine MT.say (MT.ite (fun c831=>?_) (fun c831=>?_))
         ·refine MT.say (MT.ask (R := Any) ?_ ?_)
          ·exact T.wk (T.val (kC p_w.gY))
          ·intro r832 h833 _
           refine MT.say (MT.ite (fun c834=>?_) (fun c834=>?_))
           ·exact MT.say (MT.ret ⟨(fun h_=>⟨(by first | assumption | omega),trivial⟩),(fun _=>trivial)⟩)
           ·exact MT.say (MT.ret ⟨(fun h_=>by cases h_),(fun _=>trivial)⟩)
         ·exact MT.say (MT.ret ⟨(fun h_=>by cases h_),(fun _=>trivial)⟩)
     ·exact MT.say (MT.ret ⟨(fun h_=>by cases h_),(fun _=>trivial)⟩)
    ·intro r836 h837 f_r836
     refine MT.say (MT.ask (R := fun b_=>(b_ = true → r836 = true ∧ True) ∧ (b_ = false → True)) ?_ ?_)
     ·show MT (Jk p_w r792 r836) _
      refine MT.ite (fun c838=>?_) (fun c838=>?_)
      ·have q127 := f_r836.1 (c838)
       refine MT.say (MT.ite (fun c839=>?_) (fun c839=>?_))
       ·have c839' : p_w.aU = 2 := by simpa using c839
        exact MT.say (MT.ret ⟨(fun h_=>⟨(by first | assumption | omega),trivial⟩),(fun h_=>by cases h_)⟩)
       ·have c839' : ¬ (p_w.aU = 2) := by simpa using c839
        refine MT.say (MT.ask (R := Any) ?_ ?_)
        ·exact T.wk (T.val (kC p_w.bV))
        ·intro r840 h841 _
         exact MT.say (MT.ret ⟨(fun h_=>⟨(by first | assumption | omega),trivial⟩),(fun _=>trivial)⟩)
      ·exact MT.say (MT.ret ⟨(fun h_=>by cases h_),(fun _=>trivial)⟩)
     ·intro r843 h844 f_r843
      refine MT.say (MT.ask (R := fun b_=>(b_ = true → r843 = true ∧ True) ∧ (b_ = false → True)) ?_ ?_)
      ·show MT (Jl p_w r792 r843) _
       refine MT.ite (fun c845=>?_) (fun c845=>?_)
       ·have q128 := f_r843.1 (c845)
        have q129 := f_r836.1 (q128.1)
        refine MT.say (MT.ite (fun c846=>?_) (fun c846=>?_))
        ·have c846' : p_w.aU = 4 := by simpa using c846
         exact MT.say (MT.ret ⟨(fun h_=>⟨(by first | assumption | omega),trivial⟩),(fun h_=>by cases h_)⟩)
        ·have c846' : ¬ (p_w.aU = 4) := by simpa using c846
         refine MT.say (MT.ask (R := Any) ?_ ?_)
         ·exact T.wk (Vw p_w.oW (by first | omega | (simp; done) | decide))
         ·intro r2975 h2976 _
          exact MT.say (MT.ret ⟨(fun h_=>⟨(by first | assumption | omega),trivial⟩),(fun _=>trivial)⟩)
       ·exact MT.say (MT.ret ⟨(fun h_=>by cases h_),(fun _=>trivial)⟩)
      ·intro r2978 h2979 f_r2978
       refine MT.say (MT.ask (R := fun b_=>(b_ = true → r2978 = true ∧ True) ∧ (b_ = false → True)) ?_ ?_)
       ·show MT (Jm p_w r2978 r792) _
        refine MT.ite (fun c2980=>?_) (fun c2980=>?_)
        ·have q130 := f_r2978.1 (c2980)
         have q131 := f_r843.1 (q130.1)
         have q132 := f_r836.1 (q131.1)
         refine MT.say (MT.ite (fun c2981=>?_) (fun c2981=>?_))
         ·have c2981' : p_w.aU = 6 := by simpa using c2981
          exact MT.say (MT.ret ⟨(fun h_=>⟨(by first | assumption | omega),trivial⟩),(fun h_=>by cases h_)⟩)
         ·have c2981' : ¬ (p_w.aU = 6) := by simpa using c2981
          refine MT.say (MT.ask (R := Any) ?_ ?_)
          ·exact T.wk (Vx r792 (by first | omega | (simp; done) | decide))
          ·intro r2990 h2991 _
           exact MT.say (MT.ret ⟨(fun h_=>⟨(by first | assumption | omega),trivial⟩),(fun _=>trivial)⟩)
        ·exact MT.say (MT.ret ⟨(fun h_=>by cases h_),(fun _=>trivial)⟩)
       ·intro r2996 h2997 f_r2996
        refine MT.say (MT.ask (R := fun b_=>(b_ = true → r2996 = true ∧ True) ∧ (b_ = false → True)) ?_ ?_)
        ·show MT (Jo p_w r2996) _
         refine MT.ite (fun c2998=>?_) (fun c2998=>?_)
         ·have q133 := f_r2996.1 (c2998)
          have q134 := f_r2978.1 (q133.1)
          have q135 := f_r843.1 (q134.1)
          have q136 := f_r836.1 (q135.1)
          refine MT.say (MT.ask (R := Any) ?_ ?_)
          ·exact T.wk (mP p_w.aU )
          ·intro r3000 h3001 _
           refine MT.say (MT.ite (fun c3002=>?_) (fun c3002=>?_))
           ·exact MT.say (MT.ret ⟨(fun h_=>⟨(by first | assumption | omega),trivial⟩),(fun h_=>by cases h_)⟩)
           ·exact MT.say (MT.ret ⟨(fun h_=>⟨(by first | assumption | omega),trivial⟩),(fun _=>trivial)⟩)
         ·exact MT.say (MT.ret ⟨(fun h_=>by cases h_),(fun _=>trivial)⟩)
        ·intro r3004 h3005 f_r3004
         refine MT.say (MT.ask (R := fun b_=>(b_ = true → r3004 = true ∧ True) ∧ (b_ = false → True)) ?_ ?_)
         ·show MT (Jp p_w r3004) _
          refine MT.ite (fun c3006=>?_) (fun c3006=>?_)
          ·have q137 := f_r3004.1 (c3006)
           have q138 := f_r2996.1 (q137.1)
           have q139 := f_r2978.1 (q138.1)
           have q140 := f_r843.1 (q139.1)
           have q141 := f_r836.1 (q140.1)
           refine MT.say (MT.ite (fun c3007=>?_) (fun c3007=>?_))
           ·have c3007' : p_w.aU = 10 := by simpa using c3007
            exact MT.say (MT.ret ⟨(fun h_=>⟨(by first | assumption | omega),trivial⟩),(fun h_=>by cases h_)⟩)
           ·have c3007' : ¬ (p_w.aU = 10) := by simpa using c3007
            refine MT.say (MT.ite (fun c3008=>?_) (fun c3008=>?_))
            ·have c3008' : p_w.aU = 12 := by simpa using c3008
             exact MT.say (MT.ret ⟨(fun h_=>⟨(by first | assumption | omega),trivial⟩),(fun h_=>by cases h_)⟩)
            ·have c3008' : ¬ (p_w.aU = 12) := by simpa using c3008
             exact MT.say (MT.ret ⟨(fun h_=>⟨(by first | assumption | omega),trivial⟩),(fun _=>trivial)⟩)
          ·exact MT.say (MT.ret ⟨(fun h_=>by cases h_),(fun _=>trivial)⟩)
         ·intro r3010 h3011 f_r3010
          refine MT.say (MT.ask (R := fun b_=>(b_ = true → r3010 = true ∧ True) ∧ (b_ = false → True)) ?_ ?_)
          ·show MT (Jq p_w r3010) _
           refine MT.ite (fun c3012=>?_) (fun c3012=>?_)
           ·have q142 := f_r3010.1 (c3012)
            have q143 := f_r3004.1 (q142.1)
            have q144 := f_r2996.1 (q143.1)
            have q145 := f_r2978.1 (q144.1)
            have q146 := f_r843.1 (q145.1)
            have q147 := f_r836.1 (q146.1)
            refine MT.say (MT.ask (R := Any) ?_ ?_)
            ·exact T.wk (uX p_w.aU )
            ·intro r3014 h3015 _
             refine MT.say (MT.ite (fun c3016=>?_) (fun c3016=>?_))
             ·exact MT.say (MT.ret ⟨(fun h_=>⟨(by first | assumption | omega),trivial⟩),(fun h_=>by cases h_)⟩)
             ·exact MT.say (MT.ret ⟨(fun h_=>⟨(by first | assumption | omega),trivial⟩),(fun _=>trivial)⟩)
           ·exact MT.say (MT.ret ⟨(fun h_=>by cases h_),(fun _=>trivial)⟩)
          ·intro r3018 h3019 f_r3018
           refine MT.say (MT.ask (R := fun b_=>(b_ = true → r3018 = true ∧ True) ∧ (b_ = false → True)) ?_ ?_)
           ·show MT (Jr p_w r3018) _
            refine MT.ite (fun c3020=>?_) (fun c3020=>?_)
            ·have q148 := f_r3018.1 (c3020)
             have q149 := f_r3010.1 (q148.1)
             have q150 := f_r3004.1 (q149.1)
             have q151 := f_r2996.1 (q150.1)
             have q152 := f_r2978.1 (q151.1)
             have q153 := f_r843.1 (q152.1)
             have q154 := f_r836.1 (q153.1)
             refine MT.say (MT.ite (fun c3021=>?_) (fun c3021=>?_))
             ·have c3021' : p_w.aU = 12 := by simpa using c3021
              exact MT.say (MT.ret ⟨(fun h_=>⟨(by first | assumption | omega),trivial⟩),(fun h_=>by cases h_)⟩)
             ·have c3021' : ¬ (p_w.aU = 12) := by simpa using c3021
              exact MT.say (MT.ret ⟨(fun h_=>⟨(by first | assumption | omega),trivial⟩),(fun _=>trivial)⟩)
            ·exact MT.say (MT.ret ⟨(fun h_=>by cases h_),(fun _=>trivial)⟩)
           ·intro r3026 h3027 f_r3026
            refine MT.say (MT.ask (R := Any) ?_ ?_)
            ·show MT (Js r3026) Any
             exact MT.any
            ·intro r3028 h3029 _
             exact MT.say MT.any
theorem GY (p_l:List Int) (h_p_l:bG (p_l.map lfI) ≤ 100000000) : Tot (Q48 p_l) Any := by
  have := iC p_l
  show MT (ai4 p_l) Any
  refine MT.eU (R := Any) ?_ ?_ ?_
  ·refine T.cnt (fun _=>True) ?_
   intro k155 hk155
   show MT (EL p_l ((k155:Nat) : Int)) _
   refine MT.say (MT.ite (fun c3214=>?_) (fun c3214=>?_))
   ·have c3214' := of_decide_eq_true c3214
    refine MT.say (MT.ask (R := Any) ?_ ?_)
    ·show MT (Ri p_l ((k155:Nat) : Int)) Any
     refine MT.say (MT.ask (dI p_l ((k155:Nat) : Int) (by omega) (by omega)) (fun x3215 _ hx156=>?_))
     refine MT.say (MT.ite (fun c3217=>?_) (fun c3217=>?_))
     ·have c3217' := of_decide_eq_true c3217
      exact MT.say MT.any
     ·have c3217' := of_decide_eq_false c3217
      refine MT.say (MT.ask (dI p_l ((k155:Nat) : Int) (by omega) (by omega)) (fun x3218 _ hx157=>?_))
      refine MT.say (MT.ite (fun c3220=>?_) (fun c3220=>?_))
      ·have c3220' := of_decide_eq_true c3220
       exact MT.say MT.any
      ·have c3220' := of_decide_eq_false c3220
       refine MT.say (MT.ite (fun c3221=>?_) (fun c3221=>?_))
       ·have c3221' := of_decide_eq_true c3221
        refine MT.say (MT.ask (dI p_l (IntKind.wrap .i64 (((k155:Nat) : Int) - 1)) (by rw [w64 (by omega) (by omega)]; omega) (by rw [w64 (by omega) (by omega)]; omega)) (fun x3222 _ hx158=>?_))
        refine MT.say (MT.ask (dI p_l ((k155:Nat) : Int) (by omega) (by omega)) (fun x3224 _ hx159=>?_))
        exact MT.say MT.any
       ·have c3221' := of_decide_eq_false c3221
        exact MT.say MT.any
    ·intro r3227 h3228 _
     refine MT.say (MT.ite (fun c3229=>?_) (fun c3229=>?_))
     ·exact MT.say (MT.ret trivial)
     ·exact MT.say (MT.ret ⟨rfl,by omega⟩)
   ·have c3214' := of_decide_eq_false c3214
    exact MT.say (MT.ret trivial)
  ·intro o3232 h3231 _
   exact MT.say MT.any
  ·intro o3233 h3231 _
   exact MT.say MT.any
theorem vS (p_v:ak) (h_p_v:aY p_v.lf1 ≤ 100000000) : Tot (Q86 p_v) Any := by
  have := bU p_v
  show MT (ai5 p_v) Any
  repeat' (first | exact MT.any | refine MT.say ?_ | refine MT.ite (fun _=>?_) (fun _=>?_) | refine MT.ru ?_ (fun _ _=>?_) | exact ⟨T.wk (kD _ (by first | omega | decide))⟩ | refine ⟨(show MT _ Any from ?_)⟩)
theorem Cj (p_w:aJ) (p_lo:Int) (p_hi:Int) (h_p_w:aY p_w.lf1 ≤ 100000000) : Tot (Q3 p_w p_lo p_hi) Any := by
  have := iU p_w
  have := bU p_w.mW
  have := bU p_w.bV
  have := bU p_w.gY
  have := jF p_w.oW
  have := gU p_w.aW
  have := jJ p_w.dN
  have := iC p_w.eF
  show MT (am6 p_w p_lo p_hi) Any
  refine MT.ask (R := fun b_=>(b_ = true → True) ∧ (b_ = false → ¬ ((p_w.aU:Int) < p_lo) ∧ ¬ ((p_hi:Int) < p_w.aU) ∧ True)) ?_ ?_
  ·show MT (Zm p_hi p_lo p_w) _
   refine MT.ite (fun c3295=>?_) (fun c3295=>?_)
   ·have c3295' := of_decide_eq_true c3295
    exact MT.say (MT.ret ⟨(fun _=>trivial),(fun h_=>by cases h_)⟩)
   ·have c3295' := of_decide_eq_false c3295
    exact MT.say (MT.ret ⟨(fun _=>trivial),(fun h_=>⟨(by first | assumption | omega),(of_decide_eq_false h_),trivial⟩)⟩)
  ·intro r3297 h3298 f_r3297
   refine MT.say (MT.ask (R := fun b_=>(b_ = true → True) ∧ (b_ = false → r3297 = false ∧ True)) ?_ ?_)
   ·show MT (Zn p_w r3297) _
    refine MT.ite (fun c3299=>?_) (fun c3299=>?_)
    ·exact MT.say (MT.ret ⟨(fun _=>trivial),(fun h_=>by cases h_)⟩)
    ·have q160 := f_r3297.2 (c3299)
     refine MT.say (MT.ask (R := Any) ?_ ?_)
     ·exact T.wk (GX p_w (by first | omega | (simp; done) | decide))
     ·intro r3300 h3301 _
      exact MT.say (MT.ret ⟨(fun _=>trivial),(fun h_=>⟨(by first | assumption | omega),trivial⟩)⟩)
   ·intro r3303 h3304 f_r3303
    refine MT.say (MT.ask (R := fun b_=>(b_ = true → True) ∧ (b_ = false → r3303 = false ∧ True)) ?_ ?_)
    ·show MT (Ua p_w r3303) _
     refine MT.ite (fun c3305=>?_) (fun c3305=>?_)
     ·exact MT.say (MT.ret ⟨(fun _=>trivial),(fun h_=>by cases h_)⟩)
     ·have q161 := f_r3303.2 (c3305)
      have q162 := f_r3297.2 (q161.1)
      refine MT.say (MT.ask (R := Any) ?_ ?_)
      ·exact T.wk (uX p_w.aU )
      ·intro r3306 h3307 _
       refine MT.say (MT.ite (fun c3308=>?_) (fun c3308=>?_))
       ·exact MT.say (MT.ret ⟨(fun _=>trivial),(fun h_=>⟨(by first | assumption | omega),trivial⟩)⟩)
       ·exact MT.say (MT.ret ⟨(fun h_=>by cases h_),(fun h_=>⟨(by first | assumption | omega),trivial⟩)⟩)
    ·intro r3310 h3311 f_r3310
     refine MT.say (MT.ask (R := Any) ?_ ?_)
     ·show MT (Ub p_w r3310) Any
      exact MT.any
     ·intro r3312 h3313 _
      refine MT.say (MT.ite (fun c3374=>?_) (fun c3374=>?_))
      ·exact MT.say MT.any
      ·have q163 := f_r3310.2 (c3374)
       have q164 := f_r3303.2 (q163.1)
       have q165 := f_r3297.2 (q164.1)
       refine MT.say (MT.ite (fun c3434=>?_) (fun c3434=>?_))
       ·have c3434' := of_decide_eq_true c3434
        exact MT.say MT.any
       ·have c3434' := of_decide_eq_false c3434
        refine MT.say (MT.ask (R := Any) ?_ ?_)
        ·show MT (Uc p_w) Any
         refine MT.ask (R := Any) ?_ ?_
         ·exact T.wk (rM p_w.aU )
         ·intro r3435 h3436 _
          refine MT.say (MT.ite (fun c3437=>?_) (fun c3437=>?_))
          ·refine MT.say (MT.ask (R := Any) ?_ ?_)
           ·exact T.wk (T.val (uw p_w.kT))
           ·intro r3438 h3439 _
            exact MT.say MT.any
          ·exact MT.say MT.any
        ·intro r3441 h3442 _
         refine MT.say (MT.ask (R := fun b_=>(b_ = true → True) ∧ (b_ = false → r3441 = false ∧ True)) ?_ ?_)
         ·show MT (Ud p_w r3441) _
          refine MT.ite (fun c3443=>?_) (fun c3443=>?_)
          ·exact MT.say (MT.ret ⟨(fun _=>trivial),(fun h_=>by cases h_)⟩)
          ·refine MT.say (MT.ask (R := Any) ?_ ?_)
           ·exact T.wk (mP p_w.aU )
           ·intro r3444 h3445 _
            refine MT.say (MT.ite (fun c3446=>?_) (fun c3446=>?_))
            ·refine MT.say (MT.ask (R := Any) ?_ ?_)
             ·exact T.wk (T.val (uw p_w.Az))
             ·intro r3447 h3448 _
              exact MT.say (MT.ret ⟨(fun _=>trivial),(fun h_=>⟨(by first | assumption | omega),trivial⟩)⟩)
            ·exact MT.say (MT.ret ⟨(fun h_=>by cases h_),(fun h_=>⟨(by first | assumption | omega),trivial⟩)⟩)
         ·intro r3450 h3451 f_r3450
          refine MT.say (MT.ask (R := fun b_=>(b_ = true → True) ∧ (b_ = false → r3450 = false ∧ True)) ?_ ?_)
          ·show MT (Ue p_w r3450) _
           refine MT.ite (fun c3452=>?_) (fun c3452=>?_)
           ·exact MT.say (MT.ret ⟨(fun _=>trivial),(fun h_=>by cases h_)⟩)
           ·have q166 := f_r3450.2 (c3452)
            refine MT.say (MT.ite (fun c3453=>?_) (fun c3453=>?_))
            ·have c3453' : p_w.aU = 7 := by simpa using c3453
             refine MT.say (MT.ask (R := Any) ?_ ?_)
             ·exact T.wk (T.val (uw p_w.aW.fName))
             ·intro r3454 h3455 _
              exact MT.say (MT.ret ⟨(fun _=>trivial),(fun h_=>⟨(by first | assumption | omega),trivial⟩)⟩)
            ·have c3453' : ¬ (p_w.aU = 7) := by simpa using c3453
             exact MT.say (MT.ret ⟨(fun h_=>by cases h_),(fun h_=>⟨(by first | assumption | omega),trivial⟩)⟩)
          ·intro r3457 h3458 f_r3457
           refine MT.say (MT.ask (R := Any) ?_ ?_)
           ·show MT (Uf p_w r3457) Any
            exact MT.any
           ·intro r3459 h3460 _
            refine MT.say (MT.ite (fun c3493=>?_) (fun c3493=>?_))
            ·exact MT.say MT.any
            ·have q167 := f_r3457.2 (c3493)
             have q168 := f_r3450.2 (q167.1)
             refine MT.say (MT.ask (R := fun b_=>(b_ = true → p_w.aU = 10 ∧ (p_w.fC:Int) < 1 ∧ True) ∧ (b_ = false → True)) ?_ ?_)
             ·show MT (Ug p_w) _
              refine MT.ite (fun c3494=>?_) (fun c3494=>?_)
              ·have c3494' : p_w.aU = 10 := by simpa using c3494
               exact MT.say (MT.ret ⟨(fun h_=>⟨(by first | assumption | omega),(of_decide_eq_true h_),trivial⟩),(fun _=>trivial)⟩)
              ·have c3494' : ¬ (p_w.aU = 10) := by simpa using c3494
               exact MT.say (MT.ret ⟨(fun h_=>by cases h_),(fun _=>trivial)⟩)
             ·intro r3496 h3497 f_r3496
              refine MT.say (MT.ask (R := fun b_=>(b_ = true → True) ∧ (b_ = false → r3496 = false ∧ ¬ ((p_w.fC:Int) < 0) ∧ True)) ?_ ?_)
              ·show MT (Uh p_w r3496) _
               refine MT.ite (fun c3498=>?_) (fun c3498=>?_)
               ·have q169 := f_r3496.1 (c3498)
                exact MT.say (MT.ret ⟨(fun _=>trivial),(fun h_=>by cases h_)⟩)
               ·exact MT.say (MT.ret ⟨(fun _=>trivial),(fun h_=>⟨(by first | assumption | omega),(of_decide_eq_false h_),trivial⟩)⟩)
              ·intro r3500 h3501 f_r3500
               refine MT.say (MT.ask (R := fun b_=>(b_ = true → True) ∧ (b_ = false → r3500 = false ∧ ¬ ((1099511627776:Int) < p_w.fC) ∧ True)) ?_ ?_)
               ·show MT (Ui p_w r3500) _
                refine MT.ite (fun c3502=>?_) (fun c3502=>?_)
                ·exact MT.say (MT.ret ⟨(fun _=>trivial),(fun h_=>by cases h_)⟩)
                ·have q170 := f_r3500.2 (c3502)
                 exact MT.say (MT.ret ⟨(fun _=>trivial),(fun h_=>⟨(by first | assumption | omega),(of_decide_eq_false h_),trivial⟩)⟩)
               ·intro r3504 h3505 f_r3504
                refine MT.say (MT.ask (R := fun b_=>(b_ = true → True) ∧ (b_ = false → r3504 = false ∧ True)) ?_ ?_)
                ·show MT (Uj p_w r3504) _
                 refine MT.ite (fun c3506=>?_) (fun c3506=>?_)
                 ·exact MT.say (MT.ret ⟨(fun _=>trivial),(fun h_=>by cases h_)⟩)
                 ·have q171 := f_r3504.2 (c3506)
                  have q172 := f_r3500.2 (q171.1)
                  refine MT.say (MT.ite (fun c3507=>?_) (fun c3507=>?_))
                  ·have c3507' : p_w.aU = 12 := by simpa using c3507
                   refine MT.say (MT.ask (R := Any) ?_ ?_)
                   ·exact T.wk (GY p_w.eF (by first | omega | (simp; done) | decide))
                   ·intro r3508 h3509 _
                    exact MT.say (MT.ret ⟨(fun _=>trivial),(fun h_=>⟨(by first | assumption | omega),trivial⟩)⟩)
                  ·have c3507' : ¬ (p_w.aU = 12) := by simpa using c3507
                   exact MT.say (MT.ret ⟨(fun h_=>by cases h_),(fun h_=>⟨(by first | assumption | omega),trivial⟩)⟩)
                ·intro r3511 h3512 f_r3511
                 refine MT.say (MT.ask (R := Any) ?_ ?_)
                 ·show MT (Uk p_w r3511) Any
                  exact MT.any
                 ·intro r3513 h3514 _
                  refine MT.say (MT.ite (fun c3525=>?_) (fun c3525=>?_))
                  ·exact MT.say MT.any
                  ·have q173 := f_r3511.2 (c3525)
                   have q174 := f_r3504.2 (q173.1)
                   have q175 := f_r3500.2 (q174.1)
                   refine MT.say (MT.ask (R := Any) ?_ ?_)
                   ·show MT (Ul p_w) Any
                    refine MT.ask (R := Any) ?_ ?_
                    ·exact T.wk (nY p_w.aU )
                    ·intro r3526 h3527 _
                     refine MT.say (MT.ite (fun c3528=>?_) (fun c3528=>?_))
                     ·refine MT.say (MT.ask (R := Any) ?_ ?_)
                      ·exact T.wk (vS p_w.mW (by first | omega | (simp; done) | decide))
                      ·intro r3529 h3530 _
                       exact MT.say MT.any
                     ·exact MT.say MT.any
                   ·intro r3532 h3533 _
                    refine MT.say (MT.ite (fun c3535=>?_) (fun c3535=>?_))
                    ·exact MT.say MT.any
                    ·refine MT.say (MT.eU (R := Any) ?_ ?_ ?_)
                     ·show MT (Fq p_w) Any
                      refine MT.ite (fun c4447=>?_) (fun c4447=>?_)
                      ·have c4447' : p_w.aU = 2 := by simpa using c4447
                       refine MT.say (MT.ask (R := Any) ?_ ?_)
                       ·exact T.wk (Gv p_w.bV p_w.mW (by first | omega | (simp; done) | decide) (by first | omega | (simp; done) | decide))
                       ·intro r4448 h4449 _
                        refine MT.say (MT.ite (fun c4450=>?_) (fun c4450=>?_))
                        ·have c4450' : ¬ (r4448 = 0) := by simpa using c4450
                         exact MT.say MT.any
                        ·have c4450' : r4448 = 0 := by simpa using c4450
                         exact MT.say MT.any
                      ·have c4447' : ¬ (p_w.aU = 2) := by simpa using c4447
                       exact MT.say MT.any
                     ·intro o4455 h4454 _
                      exact MT.say MT.any
                     ·intro o4456 h4454 _
                      refine MT.say (MT.ask (R := Any) ?_ ?_)
                      ·show MT (Un p_w) Any
                       refine MT.ask (R := Any) ?_ ?_
                       ·exact T.wk (nY p_w.aU )
                       ·intro r4462 h4463 _
                        refine MT.say (MT.ite (fun c4464=>?_) (fun c4464=>?_))
                        ·refine MT.say (MT.ask (R := Any) ?_ ?_)
                         ·exact T.wk (T.val (kC p_w.gY))
                         ·intro r4465 h4466 _
                          exact MT.say MT.any
                        ·exact MT.say MT.any
                      ·intro r4468 h4469 _
                       refine MT.say (MT.eU (R := Any) ?_ ?_ ?_)
                       ·show MT (Fv p_w r4468) Any
                        refine MT.ite (fun c4476=>?_) (fun c4476=>?_)
                        ·refine MT.say (MT.ask (R := Any) ?_ ?_)
                         ·exact T.wk (Gv p_w.gY p_w.mW (by first | omega | (simp; done) | decide) (by first | omega | (simp; done) | decide))
                         ·intro r4477 h4478 _
                          refine MT.say (MT.ite (fun c4479=>?_) (fun c4479=>?_))
                          ·have c4479' : ¬ (r4477 = 0) := by simpa using c4479
                           exact MT.say MT.any
                          ·have c4479' : r4477 = 0 := by simpa using c4479
                           exact MT.say MT.any
                        ·exact MT.say MT.any
                       ·intro o4484 h4483 _
                        exact MT.say MT.any
                       ·intro o4485 h4483 _
                        refine MT.say (MT.ite (fun c7115=>?_) (fun c7115=>?_))
                        ·have c7115' : p_w.aU = 4 := by simpa using c7115
                         refine MT.say (MT.ask (R := Any) ?_ ?_)
                         ·exact T.wk (Ip p_w.oW (by first | omega | (simp; done) | decide))
                         ·intro r7118 h7119 _
                          exact MT.say MT.any
                        ·have c7115' : ¬ (p_w.aU = 4) := by simpa using c7115
                         refine MT.say (MT.ite (fun c7123=>?_) (fun c7123=>?_))
                         ·have c7123' : p_w.aU = 6 := by simpa using c7123
                          refine MT.say (MT.ask (R := Any) ?_ ?_)
                          ·exact T.wk (uV p_w.aW (by first | omega | (simp; done) | decide))
                          ·intro r7126 h7127 _
                           exact MT.say MT.any
                         ·have c7123' : ¬ (p_w.aU = 6) := by simpa using c7123
                          exact MT.say MT.any
theorem Iq (p_e:ay) (h_p_e:aY p_e.lf1 ≤ 100000000) : Tot (Q23 p_e) Any := by
  have := nT p_e
  have := iU p_e.iJ
  have := jJ p_e.iJ.dN
  show MT (ajn p_e) Any
  refine MT.ite (fun c756=>?_) (fun c756=>?_)
  ·have c756' := of_decide_eq_true c756
   exact MT.say MT.any
  ·have c756' := of_decide_eq_false c756
   refine MT.say (MT.ask (R := fun b_=>(b_ = true → True) ∧ (b_ = false → ¬ ((p_e.fC:Int) < 1) ∧ ¬ ((1099511627776:Int) < p_e.fC) ∧ True)) ?_ ?_)
   ·show MT (Ur p_e) _
    refine MT.ite (fun c757=>?_) (fun c757=>?_)
    ·have c757' := of_decide_eq_true c757
     exact MT.say (MT.ret ⟨(fun _=>trivial),(fun h_=>by cases h_)⟩)
    ·have c757' := of_decide_eq_false c757
     exact MT.say (MT.ret ⟨(fun _=>trivial),(fun h_=>⟨(by first | assumption | omega),(of_decide_eq_false h_),trivial⟩)⟩)
   ·intro r759 h760 f_r759
    refine MT.say (MT.ask (R := fun b_=>(b_ = true → True) ∧ (b_ = false → r759 = false ∧ ¬ ((p_e.pO:Int) < 0) ∧ True)) ?_ ?_)
    ·show MT (Us p_e r759) _
     refine MT.ite (fun c761=>?_) (fun c761=>?_)
     ·exact MT.say (MT.ret ⟨(fun _=>trivial),(fun h_=>by cases h_)⟩)
     ·have q176 := f_r759.2 (c761)
      exact MT.say (MT.ret ⟨(fun _=>trivial),(fun h_=>⟨(by first | assumption | omega),(of_decide_eq_false h_),trivial⟩)⟩)
    ·intro r763 h764 f_r763
     refine MT.say (MT.ask (R := Any) ?_ ?_)
     ·show MT (JM p_e r763) Any
      exact MT.any
     ·intro r765 h766 _
      refine MT.say (MT.ite (fun c775=>?_) (fun c775=>?_))
      ·exact MT.say MT.any
      ·have q177 := f_r763.2 (c775)
       have q178 := f_r759.2 (q177.1)
       refine MT.say (MT.ask (R := Any) ?_ ?_)
       ·show MT (JO p_e) Any
        refine MT.ite (fun c776=>?_) (fun c776=>?_)
        ·refine MT.say (MT.ask (R := Any) ?_ ?_)
         ·exact T.wk (T.val (uw p_e.kJ))
         ·intro r777 h778 _
          exact MT.say MT.any
        ·exact MT.say MT.any
       ·intro r780 h781 _
        refine MT.say (MT.ite (fun c783=>?_) (fun c783=>?_))
        ·exact MT.say MT.any
        ·refine MT.say (MT.ask (R := Any) ?_ ?_)
         ·exact T.wk (Cj p_e.iJ 1 12 (by first | omega | (simp; done) | decide))
         ·intro r7130 h7131 _
          refine MT.say (MT.ite (fun c7133=>?_) (fun c7133=>?_))
          ·have c7133' : ¬ (r7130 = 0) := by simpa using c7133
           exact MT.say MT.any
          ·have c7133' : r7130 = 0 := by simpa using c7133
           refine MT.say (MT.ask (R := Any) ?_ ?_)
           ·show MT (JQ p_e) Any
            refine MT.ite (fun c7135=>?_) (fun c7135=>?_)
            ·have c7135' : p_e.iJ.aU = 9 := by simpa using c7135
             exact MT.say MT.any
            ·have c7135' : ¬ (p_e.iJ.aU = 9) := by simpa using c7135
             exact MT.say MT.any
           ·intro r7137 h7138 _
            refine MT.say (MT.eU (R := Any) ?_ ?_ ?_)
            ·refine T.cnt (fun _=>True) ?_
             intro k179 hk179
             show MT (Bl p_e r7137 ((k179:Nat) : Int)) _
             refine MT.say (MT.ite (fun c7176=>?_) (fun c7176=>?_))
             ·have c7176' := of_decide_eq_true c7176
              refine MT.say (MT.ask (dI p_e.iJ.dN ((k179:Nat) : Int) (by omega) (by omega)) (fun x7177 _ hx180=>?_))
              have := nC hx180
              have := iU x7177
              refine MT.say (MT.ask (R := Any) ?_ ?_)
              ·exact T.wk (Cj x7177 2 r7137 (by first | omega | (simp; done) | decide))
              ·intro r7179 h7180 _
               refine MT.say (MT.ite (fun c7181=>?_) (fun c7181=>?_))
               ·have c7181' : ¬ (r7179 = 0) := by simpa using c7181
                exact MT.say (MT.ret trivial)
               ·have c7181' : r7179 = 0 := by simpa using c7181
                exact MT.say (MT.ret ⟨rfl,by omega⟩)
             ·have c7176' := of_decide_eq_false c7176
              exact MT.say (MT.ret trivial)
            ·intro o7186 h7185 _
             exact MT.say MT.any
            ·intro o7187 h7185 _
             exact MT.say MT.any
end Go.Proofs.YtdnafbfmaphhhaaGreatDoor
set_option linter.unusedSimpArgs false
set_option linter.unusedVariables false
namespace Go.Proofs.YtdnafbfmaphhhaaGreatDoor
open Go.RowKit
theorem vT:∀ l:List Int,bG (l.map lfI) = l.length
  | []=>rfl
  | x :: r=>by simp only [List.map_cons,bG,vT r,lfI,aY,Lf.bulk,List.length_cons]; omega
theorem lN {α:Type} (f : α → List Lf) (l:List α) (k:Nat) : bG ((l.drop k).map f) ≤ bG (l.map f) := by
  have := uq ((l.take k).map f) ((l.drop k).map f)
  rw [← List.map_append,List.take_append_drop] at this; omega
theorem GZ (m:aj) (hb:aY m.lf1 ≤ 100000000) : ahI m = some m := by
  simp only [ahI,aeN,Mo.den,aC,aF,aS,aG,aK,ahH,Xv,Mo.den,aC,aF,aS,aG,aK,Q65,Zx,Fz,qZ,Mo.den,aC,aF,aS,aG,aK,iH m hb,Option.bind_some,decide_eq_true (show m.bf ≤ m.bf by omega),cond_true]
theorem CV (l:List ay) (hb:bG (l.map ay.lf) ≤ 10000000) : ah8 l = some l := by
  have h0:¬ ((l.length:Int) < 0) := by omega
  have e1:(aj.nJ aj.z l).aP = l := rfl
  have e2:(aj.nJ aj.z l).au = 0 := rfl
  have e3 := iw l (by omega)
  have hz:aY ((aj.nJ aj.z l).nJ []).lf1 = 12 := by kernel_rfl
  have e4 := kP ((aj.nJ aj.z l).nJ []) (by omega)
  simp only [ah8,afo,Mo.den,aC,aF,aS,aG,aK,ah7,XO,Mo.den,aC,aF,aS,aG,aK,e1,e2,gt_iff_lt,Int.lt_irrefl,if_false,h0,Int.toNat_zero,List.drop_zero,List.take_zero,e3,e4,Option.bind_some]
  rw [if_pos (by omega),if_pos (by omega)]; rfl
def Yd (l:List ay) (n:Int) : Int := if 1 ≤ n then (match l[(n - 1).toNat]? with | some e=>e.bf | none=>0) else 0
theorem G5 (l:List ay) (n:Int) (hl:l.length ≤ 1000000) : alB n l = some (Yd l n) := by
  simp only [alB,aeU,KE,Mo.den,aC,aF,aS,aG,aK,Yd]
  by_cases h1:n < 1
  · rw [decide_eq_true h1,if_neg (by omega)]; rfl
  rw [decide_eq_false h1,if_pos (by omega)]
  simp only [cond_false,Option.bind_some]
  by_cases h2:(l.length:Int) < n
  · rw [decide_eq_true h2,List.getElem?_eq_none (by omega)]; rfl
  · rw [decide_eq_false h2, w64 (by omega) (by omega)]
    obtain ⟨x,h3,h4⟩ := MZ (l := l) (i := n - 1) (by omega) (by omega)
    simp only [cond_false,h3,h4,Option.bind_some]
theorem Ye (l:List ay) (n:Int) (hl:l.length ≤ 1000000) : al0 l n = some (Yd l n) := by
  simp only [al0,afO,Lc,Mo.den,aC,aF,aS,aG,aK,Yd]
  by_cases h1:n < 1
  · rw [decide_eq_true h1,if_neg (by omega)]; rfl
  rw [decide_eq_false h1,if_pos (by omega)]
  simp only [cond_false,Option.bind_some]
  by_cases h2:(l.length:Int) < n
  · rw [decide_eq_true h2,List.getElem?_eq_none (by omega)]; rfl
  · rw [decide_eq_false h2, w64 (by omega) (by omega)]
    obtain ⟨x,h3,h4⟩ := MZ (l := l) (i := n - 1) (by omega) (by omega)
    simp only [cond_false,h3,h4,Option.bind_some]
/-- a proper message -/
structure Oz (m:aj) (x:ah) : Prop where
  t0 : 0 ≤ x.bf
  i0 : 0 ≤ x.aW
  i1:x.aW ≤ 16384
  c0 : 0 ≤ x.au
  c1:x.au ≤ 16384
  es:x.aN.length ≤ 16
theorem Yf (m:aj) (x:ah) (hb:bG (x.aN.map ay.lf) ≤ 100000000) : Tot (Q10 m x) (fun b=>b = true → Oz m x) := by
  have hl := ku x.aN
  unfold Q10 ajo NI Bo J6 J5 J4 J3 JZ JY JX JW JV Uu Ut
  simp only [Mo.den,aC,aF,aS,aG,aK]
  refine T.bind (R := fun b=>b = false → True) (T.ite (fun _=>T.ret (by simp)) fun _=>T.ret (by simp)) fun r h=>T.bind (T.orc h) fun r h=>T.bind (T.orc h) fun r h=>T.bind (T.orc h) fun r h=>T.bind (T.orc h) fun r h=>T.bind (T.orc h) fun r h=>T.bind (T.orc h) fun r h=>T.bind (T.orc h) fun r h=>T.bind (T.orc h) fun r h=>T.bind (T.orc h) fun r h=>T.ite (fun _=>T.ret (by simp)) fun hr=>?_
  have h := h hr
  refine T.bind (R := Any) ?_ ?_
  · refine T.abx x.aN (by omega) _ (fun k e hx => ?_) ?_
    · have hm := um (jY hx)
      simp only [ltt hx,gid hx,cond_true,Option.bind_some]
      refine T.bind (R := Any) (T.ite (fun _=>T.any) fun _=>T.bind (Iq e (by omega)) fun v _=>T.any) fun b _=>T.ite (fun _=>T.ret trivial) fun _=>T.ret rfl
    · simp only [ltn,cond_false]
      exact T.ret trivial
  · rintro (r | r) _
    · exact T.ret (by simp)
    · exact T.ret fun _=>⟨by omega,by omega,by omega,by omega,by omega,by omega⟩
/-- what a member becomes at a later term -/
def tim (n:Int) : Int := IntKind.wrap .i64 (10 + IntKind.wrap .i64 (3 * n))
def stepS (m:aj) (t:Int) : aj := if t ≤ m.bf then m else ⟨m.fID,m.bW,t,-1,0,-1,if m.dh = 2 then tim m.fID else m.gu,0,m.aP,m.au,[],[]⟩
theorem Vy (m:aj) (t:Int) (hb:aY m.lf1 ≤ 100000000) : ahH m t = some (stepS m t) := by
  simp only [ahH,Xv,Mo.den,aC,aF,aS,aG,aK,Q65,Zx,Fz,qZ,Mo.den,aC,aF,aS,aG,aK,ahG,NQ,Mo.den,aC,aF,aS,aG,aK,iH m hb,Option.bind_some,stepS]
  by_cases h:t ≤ m.bf
  · rw [decide_eq_true h,if_pos h]; rfl
  · rw [decide_eq_false h,if_neg h]
    by_cases hr:m.dh = 2
    · rw [show (m.dh == 2) = true by simp [hr],if_pos hr]; rfl
    · rw [show (m.dh == 2) = false by simp [hr],if_neg hr]; rfl
theorem uy (m:aj) (t:Int) : alV m t = some (stepS m t) := by
  simp only [alV,afE,KU,Mo.den,aC,aF,aS,aG,aK,ak9,Xd,Mo.den,aC,aF,aS,aG,aK,stepS]
  by_cases h:t ≤ m.bf
  · rw [decide_eq_true h,if_pos h]; rfl
  · rw [decide_eq_false h,if_neg h]
    by_cases hr:m.dh = 2
    · rw [show (m.dh == 2) = true by simp [hr],if_pos hr]; rfl
    · rw [show (m.dh == 2) = false by simp [hr],if_neg hr]; rfl
def iI (m:aj) (x:ah) : aj :=
  let n := if m.bf < x.bf then stepS m x.bf else if m.dh = 1 then aj.pU (aj.Py m 0) 0 else m
  aj.kU (aj.pR n x.bK) (tim n.fID)
theorem G6 (m:aj) (x:ah) : (iI m x).aP = m.aP ∧ (iI m x).au = m.au ∧ (iI m x).fID = m.fID := by
  unfold iI stepS
  split
  · rw [if_neg (by omega)]; exact ⟨rfl,rfl,rfl⟩
  · split <;> exact ⟨rfl,rfl,rfl⟩
theorem Md (m:aj) (x:ah) : aY (iI m x).lf1 ≤ aY m.lf1 := by
  rw [fV,fV,(G6 m x).1]
  have:bG ((iI m x).fNext.map lfI) ≤ bG (m.fNext.map lfI) ∧ bG ((iI m x).bg.map lfI) ≤ bG (m.bg.map lfI) := by
    unfold iI stepS
    split
    · rw [if_neg (by omega)]; exact ⟨Nat.zero_le _,Nat.zero_le _⟩
    · split <;> exact ⟨Nat.le_refl _,Nat.le_refl _⟩
  omega
theorem Vz (m:aj) (x:ah) : aio m x = some (iI m x) := by
  simp only [aio,afM,La,Mo.den,aC,aF,aS,aG,aK,uy,iI,tim]
  by_cases h:m.bf < x.bf
  · rw [decide_eq_true h,if_pos h]; rfl
  · rw [decide_eq_false h,if_neg h]
    by_cases hr:m.dh = 1
    · rw [show (m.dh == 1) = true by simp [hr],if_pos hr]; rfl
    · rw [show (m.dh == 1) = false by simp [hr],if_neg hr]; rfl
/-- the first place at which the entries are not the log's -/
def nZ (a b:ay) : Bool := a.bf == b.bf && a.fC == b.fC
theorem Yg (a b:ay) : nZ a b = nZ b a := by unfold nZ; rw [BEq.comm (a := a.bf),BEq.comm (a := a.fC)]
theorem agd (a b:ay) : ahQ a b = some (nZ a b) := by
  simp only [ahQ,aeV,Mo.den,aC,aF,aS,aG,aK,nZ]
  cases a.bf == b.bf <;> rfl
theorem abH (a b:ay) : aiq a b = some (nZ a b) := by
  simp only [aiq,afN,Mo.den,aC,aF,aS,aG,aK,nZ]
  cases a.bf == b.bf <;> rfl
def dif (l:List ay) : List ay → Nat → Option Nat
  | [],_=>none
  | e :: r,i=>match l[i]? with
    | none=>none
    | some a=>if nZ a e then dif l r (i + 1) else some i
theorem Dx {l:List ay} {e:ay} {r:List ay} {i:Nat} (hx:l[i]? = none) : dif l (e :: r) i = none := by unfold dif; rw [hx]
theorem OA {l:List ay} {e a:ay} {r:List ay} {i:Nat} (hx:l[i]? = some a) (hs:nZ a e = true) : dif l (e :: r) i = dif l r (i + 1) := by
  show (match l[i]? with | none=>none | some a=>if nZ a e then dif l r (i + 1) else some i) = _
  rw [hx]; exact if_pos hs
theorem G7 {l:List ay} {e a:ay} {r:List ay} {i:Nat} (hx:l[i]? = some a) (hs:nZ a e = false) : dif l (e :: r) i = some i := by
  show (match l[i]? with | none=>none | some a=>if nZ a e then dif l r (i + 1) else some i) = _
  rw [hx]; exact if_neg (by rw [hs]; simp)
theorem agf {l:List ay} : ∀ {es:List ay} {i:Nat},l.length ≤ i → dif l es i = none
  | [],_,_=>rfl
  | e :: r,i,h=>Dx (List.getElem?_eq_none h)
theorem OB {l:List ay} : ∀ {es:List ay} {i p:Nat},dif l es i = some p → i ≤ p ∧ p < l.length
  | [],_,_,h=>by cases h
  | e :: r,i,p,h=>by
    cases hx:l[i]? with
    | none=>rw [Dx hx] at h; cases h
    | some a =>
      have hi := (List.getElem?_eq_some_iff.1 hx).1
      cases hs:nZ a e with
      | true =>
        rw [OA hx hs] at h
        have := OB h; omega
      | false =>
        rw [G7 hx hs] at h
        cases h; omega
theorem drop_at {es:List ay} {k:Nat} {e:ay} (hx:es[k]? = some e) : es.drop k = e :: es.drop (k + 1) := by
  have hk := (List.getElem?_eq_some_iff.1 hx)
  rw [List.drop_eq_getElem_cons hk.1,hk.2]
def Yh (o:Option Nat) (d:Int) : Int := match o with | some p=>(p:Int) | none=>d
theorem Cm (x:ah) (n:aI) (i:Nat) (hi:x.aW = i) (hi2:i ≤ 20000) (he:x.aN.length ≤ 1000) : Q35 x n = some (Yh (dif n.aQ.aP x.aN i) (n.aQ.aP.length:Int)) := by
  have h1:Tot (Xw n x 0) (fun r=>r = (match dif n.aQ.aP x.aN i with | some p=>.inr (p:Int) | none=>.inl ())) := by
    refine T.uM x.aN.length (by omega) (fun k s=>s = (k:Int) ∧ dif n.aQ.aP (x.aN.drop k) (i + k) = dif n.aQ.aP x.aN i) _ ⟨rfl,rfl⟩ ?_ ?_
    · rintro k s hk ⟨rfl,hs⟩
      have hx := List.getElem?_eq_getElem hk
      have ew:IntKind.wrap .i64 ((i:Int) + (k:Int)) = ((i + k:Nat) : Int) := by rw [w64 (by omega) (by omega)]; omega
      rw [drop_at hx] at hs
      simp only [zo,Mo.den,aC,aF,aS,aG,aK,ltt hx,gid hx,cond_true,Option.bind_some,hi,ew]
      by_cases hq:i + k < n.aQ.aP.length
      · have hy := List.getElem?_eq_getElem hq
        rw [decide_eq_false (show ¬ (n.aQ.aP.length:Int) ≤ ((i + k:Nat) : Int) by omega),gid hy]
        simp only [cond_false,Option.bind_some,agd]
        rw [Yg]
        cases hse:nZ n.aQ.aP[i + k] x.aN[k] with
        | true =>
          rw [OA hy hse] at hs
          exact ⟨_,rfl,inc k (by omega),hs⟩
        | false =>
          rw [G7 hy hse] at hs
          exact ⟨_,rfl,by rw [← hs]; rfl⟩
      · rw [Dx (List.getElem?_eq_none (by omega))] at hs
        rw [decide_eq_true (show (n.aQ.aP.length:Int) ≤ ((i + k:Nat) : Int) by omega)]
        exact ⟨_,rfl,by rw [← hs]; rfl⟩
    · rintro s ⟨rfl,hs⟩
      rw [List.drop_eq_nil_of_le (Nat.le_refl _)] at hs
      have hs:none = _ := hs
      simp only [zo,Mo.den,aC,aF,aS,aG,aK,ltn,cond_false]
      exact ⟨_,rfl,by rw [← hs]; rfl⟩
  obtain ⟨r,h1,h2⟩ := h1
  simp only [Q35,ajv,Mo.den,aC,aF,aS,aG,aK,h1]
  rw [h2]
  cases dif n.aQ.aP x.aN i <;> rfl
theorem OC (m:aj) (x:ah) (i:Nat) (hi:x.aW = i) (hi2:i ≤ 20000) (he:x.aN.length ≤ 1000) : Q25 m x = some (Yh (dif m.aP x.aN i) (-1)) := by
  have h1:Tot (FY m x 0) (fun r=>r = (match dif m.aP x.aN i with | some p=>.inl (p:Int) | none=>.inr ())) := by
    refine T.uM x.aN.length (by omega) (fun k s=>s = (k:Int) ∧ dif m.aP (x.aN.drop k) (i + k) = dif m.aP x.aN i) _ ⟨rfl,rfl⟩ ?_ ?_
    · rintro k s hk ⟨rfl,hs⟩
      have hx := List.getElem?_eq_getElem hk
      have ew:IntKind.wrap .i64 ((i:Int) + (k:Int)) = ((i + k:Nat) : Int) := by rw [w64 (by omega) (by omega)]; omega
      rw [drop_at hx] at hs
      simp only [Q25,ZN,FY,zG,FX,Mo.den,aC,aF,aS,aG,aK,ltt hx,gid hx,cond_true,Option.bind_some,hi,ew]
      by_cases hq:i + k < m.aP.length
      · have hy := List.getElem?_eq_getElem hq
        rw [decide_eq_true (show ((i + k:Nat) : Int) < (m.aP.length:Int) by omega),gid hy]
        simp only [cond_true,Option.bind_some,abH]
        cases hse:nZ m.aP[i + k] x.aN[k] with
        | true =>
          rw [OA hy hse] at hs
          exact ⟨_,rfl,inc k (by omega),hs⟩
        | false =>
          rw [G7 hy hse] at hs
          exact ⟨_,rfl,by rw [← hs]; rfl⟩
      · rw [Dx (List.getElem?_eq_none (by omega))] at hs
        rw [decide_eq_false (show ¬ ((i + k:Nat) : Int) < (m.aP.length:Int) by omega)]
        refine ⟨_,rfl,inc k (by omega),?_⟩
        rw [← hs]; exact agf (by omega)
    · rintro s ⟨rfl,hs⟩
      rw [List.drop_eq_nil_of_le (Nat.le_refl _)] at hs
      have hs:none = _ := hs
      simp only [Q25,ZN,FY,zG,FX,Mo.den,aC,aF,aS,aG,aK,ltn,cond_false]
      exact ⟨_,rfl,by rw [← hs]; rfl⟩
  obtain ⟨r,h1,h2⟩ := h1
  simp only [Q25,ZN,Mo.den,aC,aF,aS,aG,aK,h1]
  rw [h2]
  cases dif m.aP x.aN i <;> rfl
end Go.Proofs.YtdnafbfmaphhhaaGreatDoor
set_option linter.unusedSimpArgs false
set_option linter.unusedVariables false
namespace Go.Proofs.YtdnafbfmaphhhaaGreatDoor
open Go.RowKit
theorem BP (d:Int) : Yh none d = d := rfl
theorem uz (p:Nat) (d:Int) : Yh (some p) d = (p:Int) := rfl
theorem aiC (m:aj) (p:Nat) (c0 : 0 ≤ m.au) (hc:m.au ≤ p) (hp:p ≤ m.aP.length) (hl:m.aP.length ≤ 1000000) (hb:aY m.lf1 ≤ 100000000) : ah7 m (p:Int) = some (aj.nJ m (m.aP.take p),⟨m.fID,m.bf,(p:Int),m.aP.drop p⟩) := by
  have h1:(if m.au > (p:Int) then m.au else (p:Int)) = (p:Int) := if_neg (by omega)
  have h2:(if (0:Int) > (p:Int) then (0:Int) else (p:Int)) = (p:Int) := if_neg (by omega)
  have h3:(if (m.aP.length:Int) < (p:Int) then (m.aP.length:Int) else (p:Int)) = (p:Int) := if_neg (by omega)
  have hbm := fV m
  have hd := lN ay.lf m.aP p
  have e1 := iw (m.aP.drop p) (by omega)
  have e2 := kP (aj.nJ m (m.aP.take p)) (by
    have ht := lK ay.lf m.aP p
    rw [fV]
    show 12 + bG ((m.aP.take p).map ay.lf) + bG (m.fNext.map lfI) + bG (m.bg.map lfI) ≤ _
    omega)
  simp only [ah7,XO,Mo.den,aC,aF,aS,aG,aK,h1,h2,h3,Int.toNat_natCast,e1,e2,Option.bind_some]
  rw [if_pos (by omega),if_pos (by omega)]
theorem agh (m:aj) (p:Nat) (c0 : 0 ≤ m.au) (hc:m.au ≤ p) (hp:p ≤ m.aP.length) (hl:m.aP.length ≤ 1000000) : al1 m (p:Int) = some (aj.nJ m (m.aP.take p),⟨m.fID,m.bf,(p:Int),m.aP.drop p⟩) := by
  have h1:(if m.au > (p:Int) then m.au else (p:Int)) = (p:Int) := if_neg (by omega)
  have h2:(if (0:Int) > (p:Int) then (0:Int) else (p:Int)) = (p:Int) := if_neg (by omega)
  have h3:(if (m.aP.length:Int) < (p:Int) then (m.aP.length:Int) else (p:Int)) = (p:Int) := if_neg (by omega)
  have h4:(m.aP.drop p).length ≤ 1000000 := by rw [List.length_drop]; omega
  have h5:(m.aP.take p).length ≤ 1000000 := by rw [List.length_take]; omega
  simp only [al1,afP,Mo.den,aC,aF,aS,aG,aK,h1,h2,h3,Int.toNat_natCast]
  rw [if_pos (by omega),if_pos (by simp only [List.length_nil]; omega),if_pos (by omega),if_pos (by simp only [List.length_nil]; omega)]
def noR:bF := ⟨-1,0,0,[]⟩
def VA (m:aj) (x:ah) (ok:Bool) (n:Int) : ah := ah.sOK (ah.nI (ah.iV (ah.iR (ah.sTo (ah.jl ah.z m.fID) x.bK) 4) m.bf) n) ok
theorem BQ (x:ah) (ok:Bool) (n:Int) (b:aI) (h:b.dB.length ≤ 1000) : alA x ok n b = some ⟨b.aQ,b.dB ++ [VA b.aQ x ok n],b.eP⟩ := by
  simp only [alA,aeT,Mo.den,aC,aF,aS,aG,aK]
  rw [if_pos (by simp only [List.length_cons,List.length_nil]; omega)]; rfl
theorem Yi (m:aj) (x:ah) (ok:Bool) (n:Int) : ain m x ok n = some [VA m x ok n] := by
  simp only [ain,afL,Mo.den,aC,aF,aS,aG,aK]; rfl
theorem og:ani = some noR := rfl
theorem jO:UC = some noR := rfl
def Yj (x:ah) : Int := IntKind.wrap .i64 (x.aW + (x.aN.length:Int))
/-- are the entries refused -/
def OD (m:aj) (x:ah) (i:Nat) : Bool :=
  decide ((m.aP.length:Int) < x.aW) || (Yd m.aP x.aW != x.jd) || (match dif m.aP x.aN i with | some p=>decide ((p:Int) < m.au) | none=>false) || decide (16384 < Yj x)
theorem VB (x:ah) (b:aI) (i:Nat) (hi:x.aW = i) (hi2:i ≤ 20000) (he:x.aN.length ≤ 1000) (hl:b.aQ.aP.length ≤ 1000000) (c1:b.aQ.au ≤ b.aQ.aP.length) : alC x b = some (OD b.aQ x i) := by
  have h0:decide (x.aW < 0) = false := decide_eq_false (by omega)
  simp only [alC,aeW,KF,Mo.den,aC,aF,aS,aG,aK,h0,cond_false,G5 _ _ hl,Option.bind_some,Cm x b i hi hi2 he,OD]
  by_cases h1:(b.aQ.aP.length:Int) < x.aW
  · rw [decide_eq_true h1]; simp
  rw [decide_eq_false h1]
  simp only [cond_false,Option.bind_some,Bool.false_or]
  cases Yd b.aQ.aP x.aW != x.jd with
  | true=>simp
  | false =>
    cases hd:dif b.aQ.aP x.aN i with
    | none =>
      have h2:¬ (b.aQ.aP.length:Int) < b.aQ.au := by omega
      rw [BP,decide_eq_false h2]; rfl
    | some p =>
      rw [uz]
      simp only [cond_false,Option.bind_some,Bool.false_or]
      by_cases h2:(p:Int) < b.aQ.au
      · rw [decide_eq_true h2]; rfl
      · rw [decide_eq_false h2]; rfl
theorem Yk (m:aj) (x:ah) (i:Nat) (hi:x.aW = i) (hl:m.aP.length ≤ 1000000) : XT x m (Yh (dif m.aP x.aN i) (-1)) = some (OD m x i) := by
  unfold XT Va
  simp only [Mo.den,aC,aF,aS,aG,aK,Ye _ _ hl,Option.bind_some,OD]
  by_cases h1:(m.aP.length:Int) < x.aW
  · rw [decide_eq_true h1]; simp
  rw [decide_eq_false h1]
  simp only [cond_false,Bool.false_or]
  cases Yd m.aP x.aW != x.jd with
  | true=>simp
  | false =>
    cases hd:dif m.aP x.aN i with
    | none=>rw [BP]; rfl
    | some p =>
      rw [uz]
      simp only [cond_false,Bool.false_or,decide_eq_true (show (0:Int) ≤ (p:Int) by omega),cond_true]
      by_cases h2:(p:Int) < m.au
      · rw [decide_eq_true h2]; rfl
      · rw [decide_eq_false h2]; rfl
/-- what is taken -/
def ctS (m:aj) : Option Nat → aj × bF
  | none=>(m,noR)
  | some p=>(aj.nJ m (m.aP.take p),⟨m.fID,m.bf,(p:Int),m.aP.drop p⟩)
def anO (m:aj) (x:ah) : Int := if (if Yj x < x.au then Yj x else x.au) > m.au then (if Yj x < x.au then Yj x else x.au) else m.au
def aiD (m:aj) (x:ah) (i:Nat) : aj := aj.jR (aj.nJ m (m.aP ++ x.aN.drop (m.aP.length - i))) (anO m x)
def VD (m:aj) (x:ah) (i:Nat) : aj × List ah × bF :=
  let c := ctS m (dif m.aP x.aN i)
  (aiD c.1 x i,[VA (aiD c.1 x i) x true (Yj x)],c.2)
theorem ZT (m:aj) (l:List ay) (i:Nat) (hi:i ≤ m.aP.length) : i ≤ (ctS m (dif m.aP l i)).1.aP.length ∧ (ctS m (dif m.aP l i)).1.aP.length ≤ m.aP.length := by
  cases h:dif m.aP l i with
  | none=>exact ⟨hi,Nat.le_refl _⟩
  | some p =>
    have := OB h
    show i ≤ (m.aP.take p).length ∧ (m.aP.take p).length ≤ _
    rw [List.length_take]; omega
theorem agi (x:ah) (b:aI) (i:Nat) (hs:b.dB = []) (hr:b.eP = noR) (hi:x.aW = i) (hi2:i ≤ 20000) (he:x.aN.length ≤ 1000) (hl:b.aQ.aP.length ≤ 1000000) (hil:i ≤ b.aQ.aP.length) (c0 : 0 ≤ b.aQ.au) (hc:∀ p,dif b.aQ.aP x.aN i = some p → b.aQ.au ≤ p) (hb:aY b.aQ.lf1 ≤ 10000000) (hx:bG (x.aN.map ay.lf) ≤ 10000000) : Q49 x b = some ⟨(VD b.aQ x i).1,(VD b.aQ x i).2.1,(VD b.aQ x i).2.2⟩ := by
  obtain ⟨m,s,r⟩ := b
  obtain rfl:s = [] := hs
  obtain rfl:r = noR := hr
  have hl:m.aP.length ≤ 1000000 := hl
  have hil:i ≤ m.aP.length := hil
  have hb:aY m.lf1 ≤ 10000000 := hb
  have hcl := ZT m x.aN i hil
  have j0:NW ⟨m,[],noR⟩ x (Yh (dif m.aP x.aN i) (m.aP.length:Int)) = some (let c := ctS m (dif m.aP x.aN i); (c.1.fID,c.1.bW,c.1.bf,c.1.iy,c.1.dh,c.1.gK,c.1.gu,c.1.dY,c.1.au,c.2.dX,c.2.bf,c.2.fAt,c.2.aN,c.1.aP,c.1.fNext,c.1.bg)) := by
    unfold NW FD
    simp only [Mo.den,aC,aF,aS,aG,aK]
    cases h:dif m.aP x.aN i with
    | none =>
      rw [BP]
      rw [decide_eq_false (show ¬ (m.aP.length:Int) < (m.aP.length:Int) by omega)]; rfl
    | some p =>
      have hp := OB h
      rw [uz]
      rw [decide_eq_true (show (p:Int) < (m.aP.length:Int) by omega),aiC m p c0 (hc p h) (by omega) hl (by omega)]; rfl
  simp only [Q49,ajz,Mo.den,aC,aF,aS,aG,aK,Cm x ⟨m,[],noR⟩ i hi hi2 he,Option.bind_some,j0]
  generalize hcc:ctS m (dif m.aP x.aN i) = c at hcl
  have j5:∀ r:(Int × Int × Int × Int × Int × Int × Int × Int × Int × Int × Int × Int × List ay × List ay × List Int × List Int),r.2.2.2.2.2.2.2.2.2.2.2.2.2.1 = c.1.aP → NY ⟨m,[],noR⟩ x r = some (c.1.aP ++ x.aN.drop (c.1.aP.length - i)) := by
    intro r hr
    have hw:IntKind.wrap .i64 ((c.1.aP.length:Int) - (i:Int)) = ((c.1.aP.length - i:Nat) : Int) := by rw [w64 (by omega) (by omega)]; omega
    have hm:(if ((c.1.aP.length - i:Nat) : Int) > 0 then ((c.1.aP.length - i:Nat) : Int) else 0) = ((c.1.aP.length - i:Nat) : Int) := by split <;> omega
    unfold NY FK
    simp only [Mo.den,aC,aF,aS,aG,aK,hr,hi,hw,hm,Int.toNat_natCast]
    by_cases h:c.1.aP.length - i < x.aN.length
    · have hd := lN ay.lf x.aN (c.1.aP.length - i)
      rw [iLt h]
      simp only [cond_true,CV _ (Nat.le_trans hd hx),Option.bind_some]
      rw [if_pos (by omega),if_pos (by rw [List.length_drop]; omega)]
    · rw [PI h,List.drop_eq_nil_of_le (by omega),List.append_nil]; rfl
  rw [j5 _ rfl]
  simp only [Option.bind_some]
  rw [BQ _ _ _ _ (by simp)]
  simp only [VD,hcc]
  rfl
theorem agj (x:ah) (c:aj × bF) (i:Nat) (hi:x.aW = i) (hi2:i ≤ 20000) (he:x.aN.length ≤ 1000) (hl:c.1.aP.length ≤ 1000000) (hil:i ≤ c.1.aP.length) : Dv x c 0 c.1.aP = some (c.1.aP ++ x.aN.drop (c.1.aP.length - i)) := by
  suffices h:Tot (Dv x c 0 c.1.aP) (fun r=>r = c.1.aP ++ x.aN.drop (c.1.aP.length - i)) by
    obtain ⟨r,h1,rfl⟩ := h; exact h1
  unfold Dv
  refine T.uM x.aN.length (by omega) (fun k s=>s = ((k:Int),c.1.aP ++ (x.aN.take k).drop (c.1.aP.length - i))) _ (by simp) ?_ ?_
  · rintro k s hk rfl
    have hx := List.getElem?_eq_getElem hk
    have ew:IntKind.wrap .i64 ((i:Int) + (k:Int)) = ((i + k:Nat) : Int) := by rw [w64 (by omega) (by omega)]; omega
    unfold BM Ld
    simp only [Mo.den,aC,aF,aS,aG,aK,ltt hx,gid hx,cond_true,Option.bind_some,hi,ew]
    have hlen:((x.aN.take k).drop (c.1.aP.length - i)).length ≤ 1000 := by rw [List.length_drop,List.length_take]; omega
    rw [List.take_succ_eq_append_getElem hk]
    by_cases h:c.1.aP.length ≤ i + k
    · rw [decide_eq_true (show (c.1.aP.length : Int) ≤ ((i + k : Nat) : Int) by omega)]
      simp only [cond_true]
      rw [if_pos (by simp only [List.length_append,List.length_cons,List.length_nil]; omega)]
      refine ⟨_,rfl,?_⟩
      show (_,_) = (_,_)
      rw [inc k (by omega),List.drop_append_of_le_length (by rw [List.length_take]; omega),List.append_assoc]
    · rw [decide_eq_false (show ¬ (c.1.aP.length : Int) ≤ ((i + k : Nat) : Int) by omega)]
      refine ⟨_,rfl,?_⟩
      show (_,_) = (_,_)
      rw [inc k (by omega),List.drop_eq_nil_of_le (by rw [List.length_take]; omega),List.drop_eq_nil_of_le (by simp only [List.length_append,List.length_take,List.length_cons,List.length_nil]; omega)]
  · rintro s rfl
    unfold BM
    simp only [Mo.den,aC,aF,aS,aG,aK,ltn,cond_false]
    exact ⟨_,rfl,by rw [List.take_length]; rfl⟩
/-- what Entries answers -/
def ano (m:aj) (x:ah) : Int :=
  let a := if IntKind.wrap .i64 (x.aW - 1) < (m.aP.length:Int) then IntKind.wrap .i64 (x.aW - 1) else (m.aP.length:Int)
  if a > 0 then a else 0
def uN (m:aj) (x:ah) (i:Nat) : aj × List ah × bF :=
  if x.bf < m.bf then (m,[VA m x false 0],noR)
  else if x.bf = m.bf ∧ m.dh = 2 then (m,[],noR)
  else if OD (iI m x) x i = true then (iI m x,[VA (iI m x) x false (ano (iI m x) x)],noR)
  else VD (iI m x) x i
theorem G8 {m:aj} {x:ah} {i:Nat} (h:OD m x i = false) : x.aW ≤ m.aP.length ∧ (∀ p,dif m.aP x.aN i = some p → m.au ≤ p) ∧ Yj x ≤ 16384 := by
  unfold OD at h
  simp only [Bool.or_eq_false_iff,decide_eq_false_iff_not] at h
  obtain ⟨⟨⟨h1,_⟩,h2⟩,h3⟩ := h
  refine ⟨by omega,fun p hp=>?_,by omega⟩
  rw [hp] at h2
  have := of_decide_eq_false h2
  omega
theorem VE (m:aj) (x:ah) : (bif x.bf == m.bf then some (m.dh == 2) else some false) = some (decide (x.bf = m.bf ∧ m.dh = 2)) := by
  by_cases h1:x.bf = m.bf
  · rw [show (x.bf == m.bf) = true by simp [h1]]
    by_cases h2:m.dh = 2
    · rw [show (m.dh == 2) = true by simp [h2],decide_eq_true ⟨h1,h2⟩]; rfl
    · rw [show (m.dh == 2) = false by simp [h2],decide_eq_false (fun h=>h2 h.2)]; rfl
  · rw [show (x.bf == m.bf) = false by simp [h1],decide_eq_false (fun h=>h1 h.1)]; rfl
theorem VF (m:aj) (x:ah) (i:Nat) (g:Good m) (px:Oz m x) (hi:x.aW = i) (hb:aY m.lf1 ≤ 10000000) (hx:bG (x.aN.map ay.lf) ≤ 10000000) : Q44 x ⟨m,[],noR⟩ = some ⟨(uN m x i).1,(uN m x i).2.1,(uN m x i).2.2⟩ := by
  have lg := g.lg
  have c0 := g.c0
  have c1 := g.c1
  have i1 := px.i1
  have he := px.es
  obtain ⟨fl,fc,fi⟩ := G6 m x
  have hfb := Md m x
  have hj:∃ r j,NZ ⟨m,[],noR⟩ x = some r ∧ N7 ⟨m,[],noR⟩ x r = some j ∧ aj.mk r.1 r.2.1 r.2.2.1 r.2.2.2.1 j.1 x.bK (IntKind.wrap .i64 (10 + (IntKind.wrap .i64 (3 * r.1)))) j.2 r.2.2.2.2.2.2.2.2.2.1 r.2.2.2.2.2.2.2.2.1 r.2.2.2.2.2.2.2.2.2.2.1 r.2.2.2.2.2.2.2.2.2.2.2 = iI m x := by
    unfold NZ FN N7 KN iI
    simp only [Mo.den,aC,aF,aS,aG,aK]
    by_cases h:m.bf < x.bf
    · have hs : stepS m x.bf = ⟨m.fID, m.bW, x.bf, -1, 0, -1, if m.dh = 2 then tim m.fID else m.gu, 0, m.aP, m.au, [], []⟩ := if_neg (by omega)
      rw [decide_eq_true h,if_pos h,Vy m _ (by omega),hs]
      exact ⟨_,(0,0),rfl,rfl,rfl⟩
    · rw [decide_eq_false h,if_neg h]
      by_cases hr:m.dh = 1
      · refine ⟨_, (0, 0), rfl, ?_, by rw [if_pos hr]; rfl⟩
        show (bif m.dh == 1 then some ((0:Int),(0:Int)) else some (m.dh,m.dY)) = _
        rw [show (m.dh == 1) = true by simp [hr]]; rfl
      · refine ⟨_, (m.dh, m.dY), rfl, ?_, by rw [if_neg hr]; rfl⟩
        show (bif m.dh == 1 then some ((0:Int),(0:Int)) else some (m.dh,m.dY)) = _
        rw [show (m.dh == 1) = false by simp [hr]]; rfl
  obtain ⟨r,j,hr,hjj,hm⟩ := hj
  have hlog:r.2.2.2.2.2.2.2.2.2.1 = (iI m x).aP := by rw [← hm]
  unfold Q44 ajA UY
  simp only [Mo.den,aC,aF,aS,aG,aK,VE,Option.bind_some,hr,hjj,hm,uN]
  by_cases h1:x.bf < m.bf
  · rw [decide_eq_true h1,if_pos h1]
    simp only [cond_true]
    rw [BQ _ _ _ _ (by simp)]; rfl
  rw [decide_eq_false h1,if_neg h1]
  simp only [cond_false]
  by_cases h2:x.bf = m.bf ∧ m.dh = 2
  · rw [decide_eq_true h2,if_pos h2]; rfl
  rw [decide_eq_false h2,if_neg h2]
  simp only [cond_false]
  rw [VB x ⟨iI m x,[],noR⟩ i hi (by omega) (by omega) (by show (iI m x).aP.length ≤ _; rw [fl]; omega) (by show (iI m x).au ≤ ((iI m x).aP.length:Int); rw [fl,fc]; exact c1)]
  simp only [Option.bind_some]
  cases hq:OD (iI m x) x i with
  | true =>
    simp only [cond_true,if_true,hlog]
    rw [BQ _ _ _ _ (by simp)]; rfl
  | false =>
    obtain ⟨k1,k2,k3⟩ := G8 hq
    simp only [cond_false]
    rw [agi x ⟨iI m x,[],noR⟩ i rfl rfl hi (by omega) (by omega) (by show (iI m x).aP.length ≤ _; rw [fl]; omega) (by show i ≤ (iI m x).aP.length; omega) (by show 0 ≤ (iI m x).au; rw [fc]; exact c0) k2 (by show aY (iI m x).lf1 ≤ _; omega) hx]
    rfl
theorem OE (m:aj) (x:ah) (i:Nat) (g:Good m) (px:Oz m x) (hi:x.aW = i) (hb:aY m.lf1 ≤ 10000000) (hx:bG (x.aN.map ay.lf) ≤ 10000000) : Q21 m x = some (uN m x i) := by
  have lg := g.lg
  have c0 := g.c0
  have c1 := g.c1
  have i1 := px.i1
  have he := px.es
  obtain ⟨fl,fc,fi⟩ := G6 m x
  unfold Q21 ajD U9
  simp only [Mo.den,aC,aF,aS,aG,aK,VE,Option.bind_some,Yi,og,Vz,uN]
  by_cases h1:x.bf < m.bf
  · rw [decide_eq_true h1,if_pos h1]; rfl
  rw [decide_eq_false h1,if_neg h1]
  simp only [cond_false]
  by_cases h2:x.bf = m.bf ∧ m.dh = 2
  · rw [decide_eq_true h2,if_pos h2]; rfl
  rw [decide_eq_false h2,if_neg h2]
  simp only [cond_false]
  rw [OC (iI m x) x i hi (by omega) (by omega)]
  simp only [Option.bind_some]
  rw [Yk (iI m x) x i hi (by rw [fl]; omega)]
  simp only [Option.bind_some]
  cases hq:OD (iI m x) x i with
  | true =>
    simp only [cond_true,if_true]
    have hba:∀ a:Int,(if 0 > a then 0 else a) = (if a > 0 then a else 0) := fun a=>by split <;> split <;> omega
    rw [hba]; rfl
  | false =>
    obtain ⟨k1,k2,k3⟩ := G8 hq
    have hcl := ZT (iI m x) x.aN i (by omega)
    have hfl:(iI m x).aP.length ≤ 200 := by rw [fl]; exact lg
    have j10:Du x (iI m x) (Yh (dif (iI m x).aP x.aN i) (-1)) noR = some (ctS (iI m x) (dif (iI m x).aP x.aN i)) := by
      unfold Du BK
      simp only [Mo.den,aC,aF,aS,aG,aK]
      cases h:dif (iI m x).aP x.aN i with
      | none=>rfl
      | some p =>
        have hp := OB h
        rw [uz]
        rw [decide_eq_true (show (0:Int) ≤ (p:Int) by omega),agh (iI m x) p (by omega) (k2 p h) (by omega) (by rw [fl]; omega)]; rfl
    simp only [cond_false,j10,Option.bind_some]
    rw [if_pos (by simp only [List.length_nil]; omega),agj x _ i hi (by omega) (by omega) (by omega) hcl.1]
    rfl
theorem OG (x:ah) : bG (x.aN.map ay.lf) ≤ aY x.lf1 := by simp only [ah.lf1,aY,Lf.bulk]; omega
theorem mM (r:bF) (hb:bG (r.aN.map ay.lf) ≤ 100000000) : Q64 r r = some true := by
  unfold Q64 ajI LQ LM Vq Vp
  simp only [Mo.den,aC,aF,aS,aG,aK,BEq.rfl,cond_true,Option.bind_some,lC _ hb]
theorem agk (m:aj) (o:Option Nat) : aY (ctS m o).1.lf1 ≤ aY m.lf1 ∧ bG ((ctS m o).2.aN.map ay.lf) ≤ aY m.lf1 := by
  have hbm := fV m
  cases o with
  | none=>exact ⟨Nat.le_refl _,Nat.zero_le _⟩
  | some p =>
    have ht := lK ay.lf m.aP p
    have hd := lN ay.lf m.aP p
    refine ⟨?_,?_⟩
    · rw [fV]
      show 12 + bG ((m.aP.take p).map ay.lf) + bG (m.fNext.map lfI) + bG (m.bg.map lfI) ≤ _
      omega
    · show bG ((m.aP.drop p).map ay.lf) ≤ _
      omega
theorem abI (m:aj) (x:ah) (i:Nat) : aY (aiD m x i).lf1 ≤ aY m.lf1 + bG (x.aN.map ay.lf) := by
  have hd := lN ay.lf x.aN (m.aP.length - i)
  have ha := uq (m.aP.map ay.lf) ((x.aN.drop (m.aP.length - i)).map ay.lf)
  rw [← List.map_append] at ha
  rw [fV,fV m]
  show 12 + bG ((m.aP ++ x.aN.drop (m.aP.length - i)).map ay.lf) + bG (m.fNext.map lfI) + bG (m.bg.map lfI) ≤ _
  omega
theorem agl (m:aj) (x:ah) (i:Nat) (hb:aY m.lf1 ≤ 10000000) (hx:bG (x.aN.map ay.lf) ≤ 10000000) : Q15 (uN m x i).1 (uN m x i).1 = some true ∧ Q1 (uN m x i).2.1 (uN m x i).2.1 = some true ∧ Q64 (uN m x i).2.2 (uN m x i).2.2 = some true := by
  have hfb := Md m x
  have one : ∀ f ok n, Q1 [VA f x ok n] [VA f x ok n] = some true := fun f ok n => jy _ (by simp) fun y hy => by
    obtain rfl:y = VA f x ok n := by simpa using hy
    exact Nat.zero_le _
  have nil:Q1 [] [] = some true := jy [] (by simp) (by simp)
  have rep:Q64 noR noR = some true := mM _ (Nat.zero_le _)
  unfold uN
  split
  · exact ⟨jo m (by omega),one _ _ _,rep⟩
  · split
    · exact ⟨jo m (by omega),nil,rep⟩
    · split
      · exact ⟨jo (iI m x) (by omega),one _ _ _,rep⟩
      · have h1 := agk (iI m x) (dif (iI m x).aP x.aN i)
        have h2 := abI (ctS (iI m x) (dif (iI m x).aP x.aN i)).1 x i
        exact ⟨jo _ (by show aY (aiD (ctS (iI m x) (dif (iI m x).aP x.aN i)).1 x i).lf1 ≤ _; omega),one _ _ _,mM _ (by show bG ((ctS (iI m x) (dif (iI m x).aP x.aN i)).2.aN.map ay.lf) ≤ _; omega)⟩
end Go.Proofs.YtdnafbfmaphhhaaGreatDoor
