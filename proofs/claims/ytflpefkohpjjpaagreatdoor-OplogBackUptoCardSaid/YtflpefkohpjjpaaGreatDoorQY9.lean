/- Plain: how deep the structs of valid entries are nested. -/
import Derived.Test.YtflpefkohpjjpaaGreatDoorQY8
import Derived.Test.YtflpefkohpjjpaaGreatDoorQY7
set_option linter.unusedSimpArgs false
set_option linter.unusedVariables false
namespace Go.Proofs.YtflpefkohpjjpaaGreatDoor
open Go.RowKit
theorem qC{α τ ε ω:Type}(l:List α)(P:α→Prop)(Q:ε→Prop)(at_:Nat→τ→Prop)(T:τ→Option (τ⊕(ε⊕ω)))
 (hs:∀(k:Nat) (x:α) (v:τ) (r:τ⊕(ε⊕ω)),l[k]?=some x→at_ k v→T v=some r→(∃v',r=.inl v'∧at_ (k+1) v'∧P x)∨∃e,r=.inr (.inl e)∧Q e)
 (he:∀(v:τ) (r:τ⊕(ε⊕ω)),at_ l.length v→T v=some r→∃w,r=.inr (.inr w)):
 ∀(m k F:Nat) (v:τ) (r:ε⊕ω),k+m=l.length→at_ k v→dM T F v=some r→(∃e,r=.inl e∧Q e)∨∃w,r=.inr w∧∀x∈l.drop k,P x:=by
 intro m
 induction m with
 |zero=>
  intro k F v r hk hv h
  obtain rfl:k=l.length:=by omega
  cases F with
  |zero=>cases h
  |succ F=>
   rw[dM] at h
   obtain⟨z,hz,h⟩:=bC h
   obtain⟨w,rfl⟩:=he v z hv hz
   have h:r=.inr w:=(Option.some.inj h).symm
   refine .inr ⟨w,h,fun x hx=>?_⟩
   rw[List.drop_length] at hx;cases hx
 |succ m ih=>
  intro k F v r hk hv h
  have hx:=List.getElem?_eq_getElem (show k<l.length by omega)
  cases F with
  |zero=>cases h
  |succ F=>
   rw[dM] at h
   obtain⟨z,hz,h⟩:=bC h
   rcases hs k _ v z hx hv hz with⟨v',rfl,a1,a2⟩|⟨e,rfl,a1⟩
   ·have h:dM T F v'=some r:=h
    rcases ih (k+1) F v' r (by omega) a1 h with⟨e,b1,b2⟩|⟨w,b1,b2⟩
    ·exact .inl ⟨e,b1,b2⟩
    ·refine .inr ⟨w,b1,fun x hx=>?_⟩
     rw[List.drop_eq_getElem_cons (show k<l.length by omega)] at hx
     rcases List.mem_cons.1 hx with rfl|hx
     ·exact a2
     ·exact b2 x hx
   ·exact .inl ⟨e,(Option.some.inj h).symm,a1⟩
theorem aiZ:∀(F:Nat) (x:aS) (lv c r:Int) (m:Nat),aP x.lf1≤100000000→(uQ F).m1 x lv c=some (0,r)→lv+m=18→1≤lv→okE m x:=by
 intro F
 induction F with
 |zero=>intro x lv c r m _ h;cases h
 |succ F ih=>
  intro x lv c r m hb h hm h1
  have hp:=jU x
  have hl:=pX x.bV
  have h:Mo.den (RG (uQ F) x lv c)=some (0,r):=h
  unfold RG at h
  simp only[Mo.den,aF,aA,aB,aG,aH,Gf] at h
  by_cases h16:16<lv
  ·rw[decide_eq_true h16] at h
   have h:some ((2:Int),c)=some (0,r):=h
   cases h
  rw[decide_eq_false h16] at h
  cases h256:c==256 with
  |true=>
   rw[h256] at h
   have h:some ((2:Int),c)=some (0,r):=h
   cases h
  |false=>
  rw[h256] at h
  simp only[cond_false,Option.bind_some] at h
  obtain⟨q,hq,h⟩:=bC h
  cases hq0:q != 0 with
  |true=>
   rw[hq0] at h
   have h:=congrArg Prod.fst (Option.some.inj h)
   have h:q=0:=h
   rw[h] at hq0;cases hq0
  |false=>
  rw[hq0] at h
  simp only[cond_false] at h
  obtain⟨z,hz,h⟩:=bC h
  obtain⟨m,rfl⟩:∃k,m=k+1:=⟨m-1,by omega⟩
  have key:=qC x.bV (fun k=>okE m k) (fun e:Int×Int=>e.1≠0) (fun k v=>v.1=(k:Int)) (fun v_=>(uP (uQ F) x lv v_).den) ?_ ?_ x.bV.length 0 FU (0,IntKind.wrap .i64 (c+1)) z (by omega) rfl hz
  ·rcases key with⟨e,rfl,he⟩|⟨w,rfl,hw⟩
   ·exact absurd (congrArg Prod.fst (Option.some.inj h)) he
   ·exact hw
  ·rintro k y ⟨v,b⟩ r2 hy hv h2
   obtain rfl:v=(k:Int):=hv
   have hm:=GZ (oW hy)
   have hky:=oZ hy
   unfold uP at h2
   simp only[Mo.den,aF,aA,aB,aG,aH,ltt hy,gid hy,cond_true,Option.bind_some] at h2
   obtain⟨z2,hz2,h2⟩:=bC h2
   obtain⟨z2,b2⟩:=z2
   cases hz0:z2 != 0 with
   |true=>
    simp only[hz0,cond_true] at h2
    exact .inr ⟨_,(Option.some.inj h2).symm,by simpa using hz0⟩
   |false=>
    simp only[hz0,cond_false] at h2
    obtain rfl:z2=0:=by simpa using hz0
    rw[w64 (by omega) (by omega)] at hz2
    exact .inl ⟨_,(Option.some.inj h2).symm,inc k (by omega),ih y (lv+1) b b2 m (by omega) hz2 (by omega) (by omega)⟩
  ·rintro⟨v,b⟩ r2 hv h2
   obtain rfl:v=(x.bV.length:Int):=hv
   unfold uP at h2
   simp only[Mo.den,aF,aA,aB,aG,aH,ltn,cond_false] at h2
   exact⟨_,(Option.some.inj h2).symm⟩
theorem aaJ:∀(F:Nat) (x:aI) (lv c r:Int) (m:Nat),aP x.lf1≤100000000→(nU F).m1 x lv c=some (0,r)→lv+m=18→1≤lv→okS m x:=by
 intro F
 induction F with
 |zero=>intro x lv c r m _ h;cases h
 |succ F ih=>
  intro x lv c r m hb h hm h1
  have hp:=iq x
  have hl:=pY x.dN
  have hl2:=mV x.dP
  have h:Mo.den (Sj (nU F) x lv c)=some (0,r):=h
  unfold Sj at h
  simp only[Mo.den,aF,aA,aB,aG,aH,Gm] at h
  by_cases h16:16<lv
  ·rw[decide_eq_true h16] at h
   have h:some ((2:Int),c)=some (0,r):=h
   cases h
  rw[decide_eq_false h16] at h
  cases h256:c==64 with
  |true=>
   rw[h256] at h
   have h:some ((2:Int),c)=some (0,r):=h
   cases h
  |false=>
  rw[h256] at h
  simp only[cond_false,Option.bind_some] at h
  obtain⟨q,hq,h⟩:=bC h
  cases hq0:q != 0 with
  |true=>
   rw[hq0] at h
   have h:=congrArg Prod.fst (Option.some.inj h)
   have h:q=0:=h
   rw[h] at hq0;cases hq0
  |false=>
  rw[hq0] at h
  simp only[cond_false] at h
  obtain⟨z,hz,h⟩:=bC h
  obtain⟨m,rfl⟩:∃k,m=k+1:=⟨m-1,by omega⟩
  have key:=qC x.dN (fun k=>okS m k.aZ) (fun e:Int×Int=>e.1≠0) (fun k v=>v.1=(k:Int)) (fun v_=>(uU (nU F) lv x v_).den) ?_ ?_ x.dN.length 0 FU (0,IntKind.wrap .i64 (c+1)) z (by omega) rfl hz
  ·rcases key with⟨e,rfl,he⟩|⟨w,rfl,hw⟩
   ·exact absurd (congrArg Prod.fst (Option.some.inj h)) he
   ·obtain⟨z,hz,h⟩:=bC h
    have key:=qC x.dP (fun k=>okS m k) (fun e:Int×Int=>e.1≠0) (fun k v=>v.1=(k:Int)) (fun v_=>(rV (nU F) lv x v_).den) ?_ ?_ x.dP.length 0 FU (0,w) z (by omega) rfl hz
    ·rcases key with⟨e,rfl,he⟩|⟨w2,rfl,hw2⟩
     ·exact absurd (congrArg Prod.fst (Option.some.inj h)) he
     ·exact⟨hw,hw2⟩
    ·rintro k y ⟨v,b⟩ r2 hy hv h2
     obtain rfl:v=(k:Int):=hv
     have hm:=yI (oW hy)
     have hky:=oZ hy
     unfold rV at h2
     simp only[Mo.den,aF,aA,aB,aG,aH,ltt hy,gid hy,cond_true,Option.bind_some] at h2
     obtain⟨z2,hz2,h2⟩:=bC h2
     obtain⟨z2,b2⟩:=z2
     cases hz0:z2 != 0 with
     |true=>
      simp only[hz0,cond_true] at h2
      exact .inr ⟨_,(Option.some.inj h2).symm,by simpa using hz0⟩
     |false=>
      simp only[hz0,cond_false] at h2
      obtain rfl:z2=0:=by simpa using hz0
      rw[w64 (by omega) (by omega)] at hz2
      exact .inl ⟨_,(Option.some.inj h2).symm,inc k (by omega),ih y (lv+1) b b2 m (by omega) hz2 (by omega) (by omega)⟩
    ·rintro⟨v,b⟩ r2 hv h2
     obtain rfl:v=(x.dP.length:Int):=hv
     unfold rV at h2
     simp only[Mo.den,aF,aA,aB,aG,aH,ltn,cond_false] at h2
     exact⟨_,(Option.some.inj h2).symm⟩
  ·rintro k y ⟨v,b⟩ r2 hy hv h2
   obtain rfl:v=(k:Int):=hv
   have hm:=AO (oW hy)
   rw[mP] at hm
   have hky:=oZ hy
   unfold uU at h2
   simp only[Mo.den,aF,aA,aB,aG,aH,ltt hy,gid hy,cond_true,Option.bind_some] at h2
   obtain⟨z2,hz2,h2⟩:=bC h2
   obtain⟨z2,b2⟩:=z2
   cases hz0:z2 != 0 with
   |true=>
    simp only[hz0,cond_true] at h2
    exact .inr ⟨_,(Option.some.inj h2).symm,by simpa using hz0⟩
   |false=>
    simp only[hz0,cond_false] at h2
    obtain rfl:z2=0:=by simpa using hz0
    rw[w64 (by omega) (by omega)] at hz2
    exact .inl ⟨_,(Option.some.inj h2).symm,inc k (by omega),ih y.aZ (lv+1) b b2 m (by omega) hz2 (by omega) (by omega)⟩
  ·rintro⟨v,b⟩ r2 hv h2
   obtain rfl:v=(x.dN.length:Int):=hv
   unfold uU at h2
   simp only[Mo.den,aF,aA,aB,aG,aH,ltn,cond_false] at h2
   exact⟨_,(Option.some.inj h2).symm⟩
def exP:Nat→aO→Prop
 |0,_=>True
 |n+1,x=>okE 17 x.fExpr∧∀k∈x.bV,exP n k
def dpP:Nat→aO→Prop
 |0,_=>False
 |n+1,x=>∀k∈x.bV,dpP n k
theorem afz:∀(n:Nat) (x:aO),dpP n x→exP n x→okP n x
 |0,_,h,_=>h
 |n+1,x,h,g=>⟨g.1,fun k hk=>afz n k (h k hk) (g.2 k hk)⟩
theorem ai0:∀(F:Nat) (x:aO) (lv c r:Int) (m:Nat),aP x.lf1≤100000000→(uO F).m1 x lv c=some (true,r)→lv+m=18→1≤lv→dpP m x:=by
 intro F
 induction F with
 |zero=>intro x lv c r m _ h;cases h
 |succ F ih=>
  intro x lv c r m hb h hm h1
  have hp:=gZ x
  have hl:=mQ x.bV
  have h:Mo.den (Rn (uO F) x lv c)=some (true,r):=h
  unfold Rn at h
  simp only[Mo.den,aF,aA,aB,aG,aH,F8] at h
  by_cases h16:16<lv
  ·rw[decide_eq_true h16] at h
   have h:some (false,c)=some (true,r):=h
   cases h
  rw[decide_eq_false h16] at h
  cases h256:c==256 with
  |true=>
   rw[h256] at h
   have h:some (false,c)=some (true,r):=h
   cases h
  |false=>
  rw[h256] at h
  simp only[cond_false,Option.bind_some] at h
  obtain⟨z,hz,h⟩:=bC h
  obtain⟨m,rfl⟩:∃k,m=k+1:=⟨m-1,by omega⟩
  have key:=qC x.bV (fun k=>dpP m k) (fun _:Int=>True) (fun k v=>v.1=(k:Int)) (fun v_=>(uN (uO F) lv x v_).den) ?_ ?_ x.bV.length 0 FU (0,IntKind.wrap .i64 (c+1)) z (by omega) rfl hz
  ·rcases key with⟨e,rfl,he⟩|⟨w,rfl,hw⟩
   ·have h:some (false,e)=some (true,r):=h
    cases h
   ·exact hw
  ·rintro k y ⟨v,b⟩ r2 hy hv h2
   obtain rfl:v=(k:Int):=hv
   have hm:=vH (oW hy)
   have hky:=oZ hy
   unfold uN at h2
   simp only[Mo.den,aF,aA,aB,aG,aH,ltt hy,gid hy,cond_true,Option.bind_some] at h2
   obtain⟨z2,hz2,h2⟩:=bC h2
   obtain⟨z2,b2⟩:=z2
   cases z2 with
   |false=>exact .inr ⟨_,(Option.some.inj h2).symm,trivial⟩
   |true=>
    rw[w64 (by omega) (by omega)] at hz2
    exact .inl ⟨_,(Option.some.inj h2).symm,inc k (by omega),ih y (lv+1) b b2 m (by omega) hz2 (by omega) (by omega)⟩
  ·rintro⟨v,b⟩ r2 hv h2
   obtain rfl:v=(x.bV.length:Int):=hv
   unfold uN at h2
   simp only[Mo.den,aF,aA,aB,aG,aH,ltn,cond_false] at h2
   exact⟨_,(Option.some.inj h2).symm⟩
theorem Yo{x:aS}(h:x.bV=[]):okE 17 x:=fun k hk=>by rw[h] at hk;cases hk
theorem Yp{x:aS}(h:yR x=true):x.bV=[]:=by
 unfold yR at h
 simp only[Bool.and_eq_true,beq_iff_eq] at h
 exact List.eq_nil_of_length_eq_zero (by have:=h.2;omega)
theorem afA{x:aS}(hb:aP x.lf1≤100000000)(h:ag9 x=some 0):okE 17 x:=by
 simp only[ag9,UZ,Mo.den,aF,aA,aB,aG,aH] at h
 obtain⟨⟨a,b⟩,h1,h⟩:=bC h
 obtain rfl:a=0:=Option.some.inj h
 exact aiZ FU x 1 0 b 17 hb h1 (by omega) (by omega)
theorem ai1{p:aO}{ins:Bool}(hb:aP p.lf1≤100000000)(h:Q9 p ins=some 0):okE 17 p.fExpr:=by
 have hp:=gZ p
 unfold Q9 ak2 at h
 simp only[Mo.den,aF,aA,aB,aG,aH] at h
 obtain⟨_,_,h⟩:=bC h
 obtain⟨q1,_,h⟩:=bC h
 cases q1 with
 |true=>cases h
 |false=>
 obtain⟨_,_,h⟩:=bC h
 obtain⟨q2,_,h⟩:=bC h
 cases q2 with
 |true=>cases h
 |false=>
 obtain⟨_,_,h⟩:=bC h
 obtain⟨q3,_,h⟩:=bC h
 cases q3 with
 |true=>cases h
 |false=>
 obtain⟨_,_,h⟩:=bC h
 obtain⟨q4,_,h⟩:=bC h
 cases q4 with
 |true=>cases h
 |false=>
 obtain⟨q5,_,h⟩:=bC h
 obtain⟨q6,_,h⟩:=bC h
 rcases q6 with q6|q6
 ·cases h
 obtain⟨q7,h7,h⟩:=bC h
 rcases q7 with q7|q7
 ·exfalso
  obtain rfl:q7=0:=Option.some.inj h
  simp only[Gg,Mo.den,aF,aA,aB,aG,aH] at h7
  cases e18:p.fOp==18 with
  |false=>rw[e18] at h7;cases h7
  |true=>
   rw[e18] at h7
   simp only[cond_true] at h7
   obtain⟨g,_,h7⟩:=bC h7
   cases g0:g != 0 with
   |false=>
    rw[g0] at h7
    have h7:some (Sum.inr ():Int⊕Unit)=some (.inl 0):=h7
    exact absurd (Option.some.inj h7) (by simp)
   |true=>
    rw[g0] at h7
    have h7:some (Sum.inl g:Int⊕Unit)=some (.inl 0):=h7
    have h7:=Sum.inl.inj (Option.some.inj h7)
    subst h7
    exact absurd g0 (by decide)
 obtain⟨q8,h8,h⟩:=bC h
 cases q8 with
 |false=>cases h
 |true=>
 cases e24:p.fOp==24 with
 |true=>
  rw[e24] at h
  simp only[Bool.not_true,cond_false,cond_true] at h
  obtain⟨v,hv,h⟩:=bC h
  obtain rfl:v=0:=Option.some.inj h
  exact afA (by omega) hv
 |false=>
  obtain⟨a,ha⟩:∃a,ag0 p.fOp=some a:=(lD p.fOp).imp fun _ h=>h.1
  obtain⟨b,hb'⟩:∃a,ag1 p.fOp=some a:=(kP p.fOp).imp fun _ h=>h.1
  obtain⟨c,hc⟩:∃a,agZ p.fOp=some a:=(jo p.fOp).imp fun _ h=>h.1
  have hcl:=(aav p ha hb' hc).symm.trans h8
  have hcl:Dv a b c p=true:=Option.some.inj hcl
  unfold Dv at hcl
  simp only[Bool.and_eq_true,Bool.or_eq_true,e24] at hcl
  exact Yo (Yp (by have:=hcl.2.2.2.2.2.2;simpa using this))
theorem afB:∀(F:Nat) (n:Nat) (x:aO) (ins:Bool),aP x.lf1≤100000000→(uT F).m1 x ins=some 0→exP n x:=by
 intro F
 induction F with
 |zero=>intro n x ins _ h;cases h
 |succ F ih=>
  intro n x ins hb h
  cases n with
  |zero=>trivial
  |succ n=>
  have hp:=gZ x
  have hl:=mQ x.bV
  have h:Mo.den (RV (uT F) x ins)=some 0:=h
  unfold RV at h
  simp only[Mo.den,aF,aA,aB,aG,aH] at h
  obtain⟨q,hq,h⟩:=bC h
  cases hq0:q != 0 with
  |true=>
   rw[hq0] at h
   have h:q=0:=Option.some.inj h
   rw[h] at hq0;cases hq0
  |false=>
  obtain rfl:q=0:=by simpa using hq0
  rw[hq0] at h
  simp only[cond_false] at h
  obtain⟨z,hz,h⟩:=bC h
  have key:=qC x.bV (fun k=>exP n k) (fun e:Int=>e≠0) (fun k v=>v=(k:Int)) (fun v_=>(uS (uT F) ins x v_).den) ?_ ?_ x.bV.length 0 FU 0 z (by omega) rfl hz
  ·rcases key with⟨e,rfl,he⟩|⟨w,rfl,hw⟩
   ·exact absurd (Option.some.inj h) he
   ·exact⟨ai1 hb hq,hw⟩
  ·rintro k y v r2 hy rfl h2
   have hm:=vH (oW hy)
   have hky:=oZ hy
   unfold uS at h2
   simp only[Gi,Mo.den,aF,aA,aB,aG,aH,ltt hy,gid hy,cond_true,Option.bind_some] at h2
   obtain⟨z2,hz2,h2⟩:=bC h2
   cases hz0:z2 != 0 with
   |true=>
    simp only[hz0,cond_true] at h2
    exact .inr ⟨_,(Option.some.inj h2).symm,by simpa using hz0⟩
   |false=>
    simp only[hz0,cond_false] at h2
    obtain rfl:z2=0:=by simpa using hz0
    refine .inl ⟨_,(Option.some.inj h2).symm,inc k (by omega),?_⟩
    cases ins with
    |true=>
     simp only[cond_true] at hz2
     obtain⟨z3,hz3,hz2⟩:=bC hz2
     obtain rfl:z3=0:=Option.some.inj hz2
     exact ih n y _ (by omega) hz3
    |false=>
     simp only[cond_false] at hz2
     obtain⟨z3,hz3,hz2⟩:=bC hz2
     obtain rfl:z3=0:=Option.some.inj hz2
     exact ih n y _ (by omega) hz3
  ·rintro v r2 rfl h2
   unfold uS at h2
   simp only[Mo.den,aF,aA,aB,aG,aH,ltn,cond_false] at h2
   exact⟨_,(Option.some.inj h2).symm⟩
theorem afC{x:aO}(hb:aP x.lf1≤100000000)(h:ahc x=some 0):okP 17 x:=by
 simp only[ahc,U1,Mo.den,aF,aA,aB,aG,aH] at h
 obtain⟨⟨a,b⟩,h1,h⟩:=bC h
 cases a with
 |false=>cases h
 |true=>
  simp only[Bool.not_true,cond_false] at h
  obtain⟨c,h2,h⟩:=bC h
  obtain rfl:c=0:=Option.some.inj h
  exact afz 17 x (ai0 FU x 1 0 b 17 hb h1 (by omega) (by omega)) (afB FU 17 x false hb h2)
theorem Yq{x:aO}(h:x.bV=[])(h2:x.fExpr.bV=[]):okP 17 x:=⟨Yo h2,fun k hk=>by rw[h] at hk;cases hk⟩
end Go.Proofs.YtflpefkohpjjpaaGreatDoor
set_option linter.unusedSimpArgs false
set_option linter.unusedVariables false
namespace Go.Proofs.YtflpefkohpjjpaaGreatDoor
open Go.RowKit
end Go.Proofs.YtflpefkohpjjpaaGreatDoor
set_option linter.unusedSimpArgs false
set_option linter.unusedVariables false
namespace Go.Proofs.YtflpefkohpjjpaaGreatDoor
open Go.RowKit
end Go.Proofs.YtflpefkohpjjpaaGreatDoor
set_option linter.unusedSimpArgs false
set_option linter.unusedVariables false
namespace Go.Proofs.YtflpefkohpjjpaaGreatDoor
theorem aaK:ang=some true:=by kernel_rfl
end Go.Proofs.YtflpefkohpjjpaaGreatDoor
set_option linter.unusedSimpArgs false
set_option linter.unusedVariables false
namespace Go.Proofs.YtflpefkohpjjpaaGreatDoor
open Go.RowKit
theorem ai2(e:bW)(hb:aP e.lf1≤100000000):∃b,alZ e=some b:=by
 have hbe:=mG e
 have hbw:=jv e.fG
 have hlw:=nX e.fG.bQ
 have hI:∃c,Q38 e.fG.bQ=some c:=by
  have hL:VA e.fG.bQ 0=some (afc (yQ (fun k=>match e.fG.bQ[k]? with|some x=>bif decide ((300:Int)<(x.bQ.length:Int)) then some (k:Int) else none|none=>none) 0 e.fG.bQ.length)):=by
   try unfold VA
   refine VI _ e.fG.bQ.length (by omega) (fun k hk=>?_) (by simp only[AB,Mo.den,aF,aA,aB,aG,aH,ltn,cond_false])
   obtain⟨x,hx⟩:∃x,e.fG.bQ[k]?=some x:=⟨_,List.getElem?_eq_getElem hk⟩
   simp only[AB,anh,ae0,Mo.den,aF,aA,aB,aG,aH,ltt hx,gid hx,cond_true,Option.bind_some,hx]
   cases decide ((300:Int)<(x.bQ.length:Int))<;>rfl
  unfold Q38 ajP
  simp only[Mo.den,aF,aA,aB,aG,aH,hL,Option.bind_some]
  generalize yQ _ 0 e.fG.bQ.length=o
  cases o<;>exact⟨_,rfl⟩
 obtain⟨c,hc⟩:=hI
 unfold alZ ae2 ani ae1
 simp only[Mo.den,aF,aA,aB,aG,aH,hc,Option.bind_some,jA]
 exact⟨_,rfl⟩
end Go.Proofs.YtflpefkohpjjpaaGreatDoor
set_option linter.unusedSimpArgs false
set_option linter.unusedVariables false
namespace Go.Proofs.YtflpefkohpjjpaaGreatDoor
open Go.RowKit
theorem aaL(n:Nat):∀x:au,aP x.lf1<n→aP x.lf1≤100000000→Ap ((sU n).m1 x) (wrL x.lf1):=by
 induction n with
 |zero=>intro x h _;omega
 |succ n ih=>
  intro x h hb
  have hl:=nX x.bQ
  have hl1:=vG x.dI
  rw[jv] at h hb
  have hL:Ap (Vt (sU n) x 0) (wrQ (x.bQ.map au.lf)):=by
   refine Ap.of' (fun b hb=>by unfold Vt;rfl) (Ap.loop au.lf x.bQ (fun p b=>(sU n).m1 p b) _ (by omega) (fun x hx=>by have h1:=Df hx;exact(ih _ (by omega) (by omega)).to (by rw[au.aW])) fun k s=>⟨fun y h=>?_,fun h=>?_⟩) rfl
   ·obtain⟨h1,h2⟩:=(eY x.bQ k).1 y h
    simp only[Az,Mo.den,aF,aG,h1,h2,cond_true,Option.bind_some,Option.bind_assoc]
   ·simp only[Az,Mo.den,aF,aG,(eY x.bQ k).2 h,cond_false]
  have hL2:Ap (Vu (sU n) x 0) (wrQ (x.dI.map lfI)):=by
   refine Ap.of' (fun b hb=>by unfold Vu;rfl) (Ap.loop lfI x.dI (fun p b=>Q2 p b) _ (by omega) (fun x hx=>(fO x).to (by simp only[lfI,wrL,wrF,ByteArray.append_empty])) fun k s=>⟨fun y h=>?_,fun h=>?_⟩) rfl
   ·obtain⟨h1,h2⟩:=(eY x.dI k).1 y h
    simp only[AA,Mo.den,aF,aG,h1,h2,cond_true,Option.bind_some,Option.bind_assoc]
   ·simp only[AA,Mo.den,aF,aG,(eY x.dI k).2 h,cond_false]
  refine Ap.of' (fun b hr=>?_) (Ap.bind (fO (x.ay)) (Ap.bind (rE (x.fE)) (Ap.bind (qp (x.ig) (by omega)) (Ap.bind (qp (x.aY) (by omega)) (Ap.bind (qp (x.dF) (by omega)) (Ap.bind (ae9 (x.dB) (by omega)) (Ap.bind (Td (x.aX) (by omega)) (Ap.bind (rE (x.kX)) (Ap.bind (fO (x.dO)) (Ap.bind (fO ((x.bQ.length:Int))) (Ap.bind hL (Ap.bind (fO ((x.dI.length:Int))) (Ap.bind hL2 (Ap.bind (pF (x.fB)) Ap.nil)))))))))))))) ?_
  ·simp only[sU,aei,Mo.den,aF,aG]
  ·simp only[au.lf1,pz,wrL,wrF,List.length_map,ByteArray.append_empty,ByteArray.append_assoc]
theorem afD(v:au)(hb:aP v.lf1≤100000000):Ap (Q23 v) (wrL v.lf1):=aaL FU v (DK (by omega)) hb
theorem afE(x:bW)(hb:aP x.lf1≤100000000):Ap (alL x) (wrL x.lf1):=by
 rw[mG] at hb
 refine Ap.of' (fun b hb=>?_) (Ap.bind (fO (x.nM)) (Ap.bind (fO (x.dO)) (Ap.bind (rE (x.jq)) (Ap.bind (fO (x.lM)) (Ap.bind (afD (x.fG) (by omega)) Ap.nil))))) ?_
 ·simp only[alL,aej,Mo.den,aF,aG]
 ·simp only[bW.lf1,pz,wrL,wrF,ByteArray.append_empty,ByteArray.append_assoc]
theorem afF(x:bW)(hb:aP x.lf1≤100000000):ael x=some (wrL x.lf1):=by
 have h1:=VD x.lf1
 have h2:=afE x hb ⟨⟨#[]⟩,false,true⟩ rfl (by show 0+_≤_;omega)
 simp only[ael,aek,Mo.den,aF,aA,aB,aG,aH,h2,Option.bind_some]
 exact congrArg some ByteArray.empty_append
end Go.Proofs.YtflpefkohpjjpaaGreatDoor
set_option linter.unusedSimpArgs false
set_option linter.unusedVariables false
namespace Go.Proofs.YtflpefkohpjjpaaGreatDoor
open Go.RowKit
theorem aaM(x:aQ):(aQ.abn x ⟨#[]⟩).bF=x.bF:=by cases x;rfl
theorem ai3(w:au)(h:Q11 w=some true):(¬w.ay=4→w.dB.lf1.all zlf=true)∧(¬w.ay=6→w.aX.bF.lf1.all zlf=true)∧(¬w.ay=8→¬w.ay=9→w.bQ=[]):=by
 have hix:∀x:aQ,x.lf1.all zlf=true→x.bF.lf1.all zlf=true:=fun x hx=>by
  unfold aQ.lf1 at hx
  rw[List.all_append,Bool.and_eq_true] at hx
  exact hx.2
 have hln:∀l:List au,((l.length:Int)==0)=true→l=[]:=fun l hl=>List.eq_nil_of_length_eq_zero (by rw[beq_iff_eq] at hl;omega)
 cases w with
 |mk k sp key doc bef df ix tx st ws sh sil=>
 simp only[Q11,abX,CG,CB,Cm,Cj,Ci,Ce,Cc,Cb,FZ,FY,Mo.den,aF,aA,aB,aG,aH,akz,UF,Mo.den,aF,aA,aB,aG,aH,Iz,Option.bind_some,au.ay,au.fE,au.ig,au.aY,au.dF,au.dB,au.aX,au.kX,au.dO,au.bQ,au.dI,au.fB] at h
 rcases aiY k with rfl|rfl|rfl|rfl|rfl|rfl|rfl|rfl|rfl|rfl|rfl|hk
 case inr.inr.inr.inr.inr.inr.inr.inr.inr.inr.inr=>
  have hne:∀c:Int,2≤c→c≤12→(k==c)=false:=fun c h1 h2=>by rw[beq_eq_false_iff_ne];omega
  simp only[Mo.den,aF,aA,aB,aG,aH,Option.bind_some,cond_true,cond_false,au.ay,au.fE,au.ig,au.aY,au.dF,au.dB,au.aX,au.kX,au.dO,au.bQ,au.dI,au.fB,au.DJ,au.MJ,au.af7,au.af8,au.MK,au.akg,au.ML,au.akh,au.Um,au.MN,au.MO,au.MP,aN.z,aN.yx,aN.af9,aN.aki,aN.akj,aN.Un,aN.yA,aN.YK,aN.MQ,aN.EF,aN.MR,jA,xW,hne 2 (by omega) (by omega),hne 3 (by omega) (by omega),hne 4 (by omega) (by omega),hne 5 (by omega) (by omega),hne 6 (by omega) (by omega),hne 7 (by omega) (by omega),hne 8 (by omega) (by omega),hne 9 (by omega) (by omega),hne 10 (by omega) (by omega),hne 11 (by omega) (by omega),hne 12 (by omega) (by omega)] at h
  have h:=Option.some.inj h
  simp only[Bool.and_eq_true] at h
  exact⟨fun _=>by first|exact h.2.2.2.2.2.1|(simp_all),fun _=>hix _ (by first|exact h.2.2.2.2.2.2.1|(simp_all)),fun _ _=>hln _ (by first|exact h.2.2.2.2.2.2.2.2.2.1|(simp_all))⟩
 all_goals (simp(decide:=true) only[Mo.den,aF,aA,aB,aG,aH,Option.bind_some,cond_true,cond_false,au.ay,au.fE,au.ig,au.aY,au.dF,au.dB,au.aX,au.kX,au.dO,au.bQ,au.dI,au.fB,au.DJ,au.MJ,au.af7,au.af8,au.MK,au.akg,au.ML,au.akh,au.Um,au.MN,au.MO,au.MP,aN.z,aN.yx,aN.af9,aN.aki,aN.akj,aN.Un,aN.yA,aN.YK,aN.MQ,aN.EF,aN.MR,jA,xW,V3,V4,Int.reduceBEq,Int.reduceLE,Int.reduceBNe,decide_true,decide_false,bne,Bool.not_true,Bool.not_false] at h)
 all_goals (have h:=Option.some.inj h)
 all_goals (simp only[Bool.and_eq_true] at h)
 all_goals (refine⟨fun q=>?_,fun q=>?_,fun q q2=>?_⟩)
 all_goals (first|exact absurd rfl q|exact absurd rfl q2|exact h.2.2.2.2.2.1|exact hix _ h.2.2.2.2.2.2.1|(have h9:=hix _ h.2.2.2.2.2.2.1;rw[aaM] at h9;exact h9)|exact hln _ h.2.2.2.2.2.2.2.2.2.1)
theorem wu{α:Type}{n:Nat}{lf:α→List Lf}{l:List α}(h:zlf (.rows n (l.map lf))=true):l=[]:=by
 unfold zlf at h
 rw[beq_iff_eq,List.length_map] at h
 exact List.eq_nil_of_length_eq_zero (by omega)
theorem aaN{x:aS}(h:x.lf1.all zlf=true):x.bV=[]:=by
 unfold aS.lf1 at h
 simp only[List.all_append,List.all_cons,Bool.and_eq_true] at h
 exact wu h.2.2.2.1
theorem LM{x:aO}(h:x.lf1.all zlf=true):okP 17 x:=by
 unfold aO.lf1 at h
 simp only[List.all_append,List.all_cons,Bool.and_eq_true] at h
 exact Yq (wu h.2.2.2.2.2.1) (aaN h.2.2.2.2.1)
theorem Ea{x:bY}(h:x.lf1.all zlf=true):okD x:=by
 unfold bY.lf1 at h
 simp only[List.all_append,List.all_cons,Bool.and_eq_true] at h
 have hi:=wu h.1.2.1
 have hs:=h.2.1
 unfold aI.lf1 at hs
 simp only[List.all_append,List.all_cons,Bool.and_eq_true] at hs
 have hp:=wu hs.2.2.2.2.2.2.2.2.1
 have ht:=wu hs.2.2.2.2.2.2.2.2.2.2.1
 exact⟨fun k hk=>(by rw[hi] at hk;cases hk),fun k hk=>(by rw[hp] at hk;cases hk),fun k hk=>(by rw[ht] at hk;cases hk)⟩
theorem ama{x:aO}(h:Q97 x=some true):okP 17 x:=by
 simp only[Q97,acW,eX,zU,J9,zT,zQ,zO,zN,zM,zL,RX,EI,Mo.den,aF,aA,aB,aG,aH,Yj,afd,Option.bind_some,jA,xW] at h
 have h:=Option.some.inj h
 simp only[Bool.and_eq_true] at h
 exact Yq (List.eq_nil_of_length_eq_zero (by have:=h.2;rw[beq_iff_eq] at this;omega)) (Yp h.1.2)
theorem afG{x:aQ}(hb:aP x.lf1≤100000000)(h:ahh x=some 0):okP 17 x.bF:=by
 have hp:=jr x
 unfold ahh U4 at h
 simp only[Mo.den,aF,aA,aB,aG,aH] at h
 obtain⟨q1,_,h⟩:=bC h
 cases q1 with
 |false=>cases h
 |true=>
 simp only[Bool.not_true,cond_false] at h
 obtain⟨q2,_,h⟩:=bC h
 cases q2 with
 |true=>cases h
 |false=>
 simp only[cond_false] at h
 obtain⟨q3,_,h⟩:=bC h
 cases h3:q3 != 0 with
 |true=>
  rw[h3] at h
  have h:q3=0:=Option.some.inj h
  rw[h] at h3;cases h3
 |false=>
 rw[h3] at h
 simp only[cond_false] at h
 obtain⟨q4,_,h⟩:=bC h
 cases q4 with
 |true=>cases h
 |false=>
 simp only[cond_false] at h
 cases hpt:x.gB with
 |true=>
  rw[hpt] at h
  simp only[cond_true] at h
  obtain⟨q5,h5,h⟩:=bC h
  obtain rfl:q5=0:=Option.some.inj h
  exact afC (by omega) h5
 |false=>
  rw[hpt] at h
  simp only[cond_false] at h
  obtain⟨q5,h5,h⟩:=bC h
  cases q5 with
  |false=>cases h
  |true=>exact ama h5
theorem ai4{x:bY}(hb:aP x.lf1≤100000000)(h:Q69 x=some 0):okD x:=by
 have hp:=mF x
 have hl:=jZ x.bZ
 unfold Q69 ac3 at h
 simp only[Mo.den,aF,aA,aB,aG,aH] at h
 obtain⟨q1,_,h⟩:=bC h
 cases q1 with
 |false=>cases h
 |true=>
 simp only[Bool.not_true,cond_false] at h
 cases hn:decide ((16:Int)<(x.bZ.length:Int)) with
 |true=>rw[hn] at h;cases h
 |false=>
 rw[hn] at h
 simp only[cond_false] at h
 obtain⟨z,hz,h⟩:=bC h
 have key:=qC x.bZ (fun k=>okP 17 k.bF) (fun e:Int=>e≠0) (fun k v=>v=(k:Int)) (fun v_=>(uV x v_).den) ?_ ?_ x.bZ.length 0 FU 0 z (by omega) rfl hz
 ·rcases key with⟨e,rfl,he⟩|⟨w,rfl,hw⟩
  ·exact absurd (Option.some.inj h) he
  ·obtain⟨q2,_,h⟩:=bC h
   cases q2 with
   |true=>cases h
   |false=>
   simp only[cond_false] at h
   obtain⟨q3,_,h⟩:=bC h
   cases q3 with
   |true=>cases h
   |false=>
   simp only[cond_false] at h
   obtain⟨q4,h4,h⟩:=bC h
   obtain rfl:q4=0:=Option.some.inj h
   simp only[ak9,U5,Mo.den,aF,aA,aB,aG,aH] at h4
   obtain⟨⟨a,b⟩,h5,h4⟩:=bC h4
   obtain rfl:a=0:=Option.some.inj h4
   exact⟨hw,aaJ FU x.aZ 1 0 b 17 (by omega) h5 (by omega) (by omega)⟩
 ·rintro k y v r2 hy rfl h2
  have hm:=wU (oW hy)
  have hky:=oZ hy
  unfold uV at h2
  simp only[Mo.den,aF,aA,aB,aG,aH,ltt hy,gid hy,cond_true,Option.bind_some] at h2
  obtain⟨z2,hz2,h2⟩:=bC h2
  cases hz0:z2 != 0 with
  |true=>
   simp only[hz0,cond_true] at h2
   exact .inr ⟨_,(Option.some.inj h2).symm,by simpa using hz0⟩
  |false=>
   simp only[hz0,cond_false] at h2
   obtain rfl:z2=0:=by simpa using hz0
   split at h2
   case isFalse=>cases h2
   case isTrue=>
   obtain⟨z3,_,h2⟩:=bC h2
   cases h3:decide ((0:Int)≤z3) with
   |true=>
    rw[h3] at h2
    exact .inr ⟨16,(Option.some.inj h2).symm,by decide⟩
   |false=>
    rw[h3] at h2
    exact .inl ⟨_,(Option.some.inj h2).symm,inc k (by omega),afG (by omega) hz2⟩
 ·rintro v r2 rfl h2
  unfold uV at h2
  simp only[Mo.den,aF,aA,aB,aG,aH,ltn,cond_false] at h2
  exact⟨_,(Option.some.inj h2).symm⟩
theorem Pj{w:au}{n:Nat}(h1:okD w.dB)(h2:okP 17 w.aX.bF)(h3:w.bQ=[]):okW (n+1) w:=⟨h1,h2,fun k hk=>by rw[h3] at hk;cases hk⟩
theorem anv:∀(F:Nat) (n:Nat) (w:au) (lo hi:Int),aP w.lf1≤100000000→(mO F).m1 w lo hi=some 0→(n=0→hi≤7)→okW (n+1) w:=by
 intro F
 induction F with
 |zero=>intro n w lo hi _ h;cases h
 |succ F ih=>
  intro n w lo hi hb h hn
  have hp:=jv w
  have hl:=nX w.bQ
  have h:Mo.den (ac4 (mO F) w lo hi)=some 0:=h
  unfold ac4 at h
  simp only[Mo.den,aF,aA,aB,aG,aH] at h
  obtain⟨u,_,h⟩:=bC h
  obtain⟨b1,e1,h⟩:=bC h
  obtain⟨b2,e2,h⟩:=bC h
  obtain⟨b3,e3,h⟩:=bC h
  cases b3 with
  |true=>
   have h:some (11:Int)=some 0:=h
   cases h
  |false=>
  have hb2:b2=false:=by
   simp only[Gn,Mo.den,aF,aA,aB,aG,aH] at e3
   cases b2 with
   |false=>rfl
   |true=>cases e3
  have hb1:b1=false∧Q11 w=some true:=by
   rw[hb2] at e2
   simp only[NH,Mo.den,aF,aA,aB,aG,aH] at e2
   cases b1 with
   |true=>cases e2
   |false=>
    simp only[cond_false] at e2
    obtain⟨o,ho,e2⟩:=bC e2
    cases o with
    |false=>cases e2
    |true=>exact⟨rfl,ho⟩
  obtain⟨hb1,hon⟩:=hb1
  rw[hb1] at e1
  have hkhi:w.ay≤hi:=by
   simp only[NG,Mo.den,aF,aA,aB,aG,aH] at e1
   cases hq:decide (w.ay<lo) with
   |true=>rw[hq] at e1;cases e1
   |false=>
    rw[hq] at e1
    have e1:=of_decide_eq_false (Option.some.inj e1)
    omega
  obtain⟨o1,o2,o3⟩:=ai3 w hon
  cases hn2:decide ((256:Int)<(w.bQ.length:Int)) with
  |true=>rw[hn2] at h;cases h
  |false=>
  rw[hn2] at h
  simp only[cond_false] at h
  obtain⟨_,_,h⟩:=bC h
  obtain⟨_,_,h⟩:=bC h
  obtain⟨c1,_,h⟩:=bC h
  cases c1 with
  |true=>cases h
  |false=>
  simp only[cond_false] at h
  obtain⟨_,_,h⟩:=bC h
  obtain⟨c2,_,h⟩:=bC h
  cases c2 with
  |true=>cases h
  |false=>
  simp only[cond_false] at h
  obtain⟨c3,e40,h⟩:=bC h
  rcases c3 with c3|c3
  ·exfalso
   obtain rfl:c3=0:=Option.some.inj h
   simp only[Gp,Mo.den,aF,aA,aB,aG,aH] at e40
   cases hk:u.yw with
   |false=>rw[hk] at e40;cases e40
   |true=>
    rw[hk] at e40
    simp only[cond_true] at e40
    obtain⟨g,_,e40⟩:=bC e40
    cases g0:g != 0 with
    |false=>
     rw[g0] at e40
     have e40:some (Sum.inr ():Int⊕Unit)=some (.inl 0):=e40
     exact absurd (Option.some.inj e40) (by simp)
    |true=>
     rw[g0] at e40
     have e40:some (Sum.inl g:Int⊕Unit)=some (.inl 0):=e40
     have e40:=Sum.inl.inj (Option.some.inj e40)
     subst e40
     exact absurd g0 (by decide)
  obtain⟨c4,e45,h⟩:=bC h
  simp only[Gq,Mo.den,aF,aA,aB,aG,aH] at e45
  by_cases k4:w.ay=4
  ·rw[show(w.ay==4)=true by rw[k4];rfl] at e45
   simp only[cond_true] at e45
   obtain⟨g,hg,e45⟩:=bC e45
   obtain rfl:Sum.inl g=c4:=Option.some.inj e45
   obtain rfl:g=0:=Option.some.inj h
   exact Pj (ai4 (by omega) hg) (LM (o2 (by omega))) (o3 (by omega) (by omega))
  rw[show(w.ay==4)=false by rw[beq_eq_false_iff_ne];exact k4] at e45
  by_cases k6:w.ay=6
  ·rw[show(w.ay==6)=true by rw[k6];rfl] at e45
   simp only[cond_true,cond_false] at e45
   obtain⟨g,hg,e45⟩:=bC e45
   obtain rfl:Sum.inl g=c4:=Option.some.inj e45
   obtain rfl:g=0:=Option.some.inj h
   exact Pj (Ea (o1 (by omega))) (afG (by omega) hg) (o3 (by omega) (by omega))
  rw[show(w.ay==6)=false by rw[beq_eq_false_iff_ne];exact k6] at e45
  simp only[cond_false] at e45
  have d1:=Ea (o1 k4)
  have d2:=LM (o2 k6)
  by_cases k8:w.ay=8∨w.ay=9
  ·obtain⟨g,hg,rfl⟩:∃g:Int,g≤7∧c4=Sum.inr g:=by
    rcases k8 with k8|k8
    ·rw[show(w.ay==8)=true by rw[k8];rfl] at e45
     exact⟨7,by omega,(Option.some.inj e45).symm⟩
    ·rw[show(w.ay==8)=false by rw[k8];rfl, show(w.ay==9)=true by rw[k8];rfl] at e45
     exact⟨3,by omega,(Option.some.inj e45).symm⟩
   cases n with
   |zero=>exact absurd (hn rfl) (by omega)
   |succ n=>
   simp only at h
   obtain⟨z,hz,h⟩:=bC h
   have key:=qC w.bQ (fun k=>okW (n+1) k) (fun e:Int=>e≠0) (fun k v=>v=(k:Int)) (fun v_=>(uX (mO F) g w v_).den) ?_ ?_ w.bQ.length 0 FU 0 z (by omega) rfl hz
   ·rcases key with⟨e,rfl,he⟩|⟨q,rfl,hw⟩
    ·exact absurd (Option.some.inj h) he
    ·exact⟨d1,d2,hw⟩
   ·rintro k y v r2 hy rfl h2
    have hm:=Df (oW hy)
    have hky:=oZ hy
    unfold uX at h2
    simp only[Mo.den,aF,aA,aB,aG,aH,ltt hy,gid hy,cond_true,Option.bind_some] at h2
    obtain⟨z2,hz2,h2⟩:=bC h2
    cases hz0:z2 != 0 with
    |true=>
     simp only[hz0,cond_true] at h2
     exact .inr ⟨_,(Option.some.inj h2).symm,by simpa using hz0⟩
    |false=>
     simp only[hz0,cond_false] at h2
     obtain rfl:z2=0:=by simpa using hz0
     exact .inl ⟨_,(Option.some.inj h2).symm,inc k (by omega),ih n y 2 g (by omega) hz2 (fun _=>hg)⟩
   ·rintro v r2 rfl h2
    unfold uX at h2
    simp only[Mo.den,aF,aA,aB,aG,aH,ltn,cond_false] at h2
    exact⟨_,(Option.some.inj h2).symm⟩
  ·exact Pj d1 d2 (o3 (by omega) (by omega))
theorem afH{e:bW}(hb:aP e.lf1≤100000000)(h:Q86 e=some 0):okW 2 e.fG:=by
 have hp:=mG e
 unfold Q86 ac7 at h
 simp only[Mo.den,aF,aA,aB,aG,aH] at h
 cases h1:decide (e.nM<0) with
 |true=>rw[h1] at h;cases h
 |false=>
 rw[h1] at h
 simp only[cond_false] at h
 obtain⟨_,_,h⟩:=bC h
 obtain⟨c1,_,h⟩:=bC h
 cases c1 with
 |true=>cases h
 |false=>
 simp only[cond_false] at h
 obtain⟨c2,_,h⟩:=bC h
 cases c2 with
 |true=>cases h
 |false=>
 simp only[cond_false] at h
 obtain⟨g,hg,h⟩:=bC h
 obtain rfl:g=0:=Option.some.inj h
 exact anv FU 1 e.fG 1 12 (by omega) hg (fun h=>by cases h)
theorem aaO(e:bW)(hb:40*aP e.lf1≤100000000)(hf:jY e.lf1)(hv:Q86 e=some 0)(hbad:iP e.fG=false):alr (strOfNums (jB e))=some (e,0):=by
 have hp:=mG e
 have hle:=D9 e (by omega)
 have hfx:=hf
 unfold bW.lf1 at hfx
 simp only[nC,jH] at hfx
 obtain⟨⟨q1,q2,q3,q4,_⟩,q5⟩:=hfx
 have hs:(strOfNums (jB e)).size≤100000000:=by rw[strOfNums_size];omega
 have hE:=Hz e (by omega)
 rw[hv,Option.bind_some] at hE
 have hE:ady e=some (strOfNums (jB e),0):=by
  rw[hE];unfold EO;rw[hbad];rfl
 have ha:At (strOfNums (jB e)) 0 (jB e):=⟨Nat.zero_le _,[],by rw[List.append_nil];rfl⟩
 have hlen:(strOfNums (jB e)).size=(jB e).length:=strOfNums_size _
 generalize strOfNums (jB e)=s at *
 unfold jB at ha hlen
 have hr:∀p:Nat,(⟨s,(p:Int),0,false⟩:aj)=⟨s,(p:Int),((0:Nat):Int),false⟩:=fun p=>rfl
 obtain⟨a1,ha⟩:=ha.app
 have s1:=jC e.nM (iC rfl q1) 0 s 0 0 hs a1 (by omega)
 obtain⟨a2,ha⟩:=ha.app
 have s2:=jC e.dO (iC rfl q2) 0 s _ 0 hs a2 (by omega)
 obtain⟨a3,ha⟩:=ha.app
 have s3:=mX e.jq 0 s _ 0 hs a3 (by omega)
 obtain⟨a4,a5⟩:=ha.app
 have s4:=jC e.lM (iC rfl q4) 0 s _ 0 hs a4 (by omega)
 have s5:=afy e.fG (by omega) q5 hbad (afH (by omega) hv) s _ 0 hs a5 (by omega)
 have s1:Q18 ⟨s,0,0,false⟩=_:=s1
 unfold alr adP Ld Lh
 simp only[Mo.den,aF,aA,aB,aG,aH,s1,s2,s3,s4,s5,Option.bind_some,cond_false]
 simp only[List.length_append] at hlen
 have heq:(((0+(dX e.nM).length+(dX e.dO).length+(fD e.jq).length+(dX e.lM).length+(iO e.fG).length:Nat):Int) != (s.size:Int))=false:=by
  rw[bne_eq_false_iff_eq];omega
 have hmk:bW.mk e.nM e.dO e.jq e.lM e.fG=e:=by cases e;rfl
 simp only[heq,cond_false,hmk,hE,Option.bind_some,bne_self_eq_false,decide_true,Bool.not_true]
theorem IB(e:bW)(hb:40*aP e.lf1≤100000000)(hf:jY e.lf1):al0 e=some true:=by
 obtain⟨b,hb2⟩:=ai2 e (by omega)
 obtain⟨v,hv,_⟩:=Et e (by omega)
 have hE:=Hz e (by omega)
 rw[hv,Option.bind_some] at hE
 have hC:=afF e (by omega)
 unfold al0 ae3 Lp
 simp only[Mo.den,aF,aA,aB,aG,aH,aaK,hb2,hE,Option.bind_some]
 cases b with
 |false=>rfl
 |true=>
  simp only[Bool.not_true,cond_false]
  unfold EO
  cases hv0:v != 0 with
  |true=>
   simp only[cond_true,hv0];rfl
  |false=>
   obtain rfl:v=0:=by simpa using hv0
   cases hbad:iP e.fG with
   |true=>rfl
   |false=>
    simp only[cond_false,aaO e hb hf hv hbad,Option.bind_some,am7,aem,Mo.den,aF,aA,aB,aG,aH,hC,decide_true]
    rfl
end Go.Proofs.YtflpefkohpjjpaaGreatDoor
