/- Trees: the model of a part of the code, and the answers by which it is shown. -/
import Derived.Test.YtflpefkohpjjpaaGreatDoorQO2
set_option linter.unusedSimpArgs false
set_option linter.unusedVariables false
namespace Go.Proofs.YtflpefkohpjjpaaGreatDoor
open Go.RowKit
inductive Mo (ρ:Type) : Type 1 where
  | ret (f:Fit) (r : ρ)
  | stop
  | say (qs:List Ans) {Φ:List Prop} (ok:dS Φ) (k:Mo ρ)
  | ite (b:Bool) (t:b = true → Mo ρ) (e:b = false → Mo ρ)
  | grd (p:Prop) [Decidable p] (k:p → Mo ρ)
  | ask {α:Type} (m:Option α) (k:(a : α) → m = some a → Mo ρ)
  | fG {α β:Type} (m:Option (α ⊕ β)) (k1:(a : α) → m = some (.inl a) → Mo ρ) (k2:(b : β) → m = some (.inr b) → Mo ρ)
  | Zx {α β γ:Type} (m:Option (α ⊕ β ⊕ γ)) (k1:(a : α) → m = some (.inl a) → Mo ρ) (k2:(b : β) → m = some (.inr (.inl b)) → Mo ρ) (k3:(c : γ) → m = some (.inr (.inr c)) → Mo ρ)
def ac5 {α:Type} (b:Bool) (t:b = true → α) (e:b = false → α) : α := match b,t,e with
  | true,t,_=>t rfl
  | false,_,e=>e rfl
def ac6 {α ρ:Type} (m:Option α) (k:(a : α) → m = some a → Option ρ) : Option ρ := match m,k with
  | none,_=>none
  | some a,k=>k a rfl
def VI {α β ρ:Type} (m:Option (α ⊕ β)) (k1:(a : α) → m = some (.inl a) → Option ρ) (k2:(b : β) → m = some (.inr b) → Option ρ) : Option ρ := match m,k1,k2 with
  | none,_,_=>none
  | some (.inl a),k,_=>k a rfl
  | some (.inr b),_,k=>k b rfl
def VJ {α β γ ρ:Type} (m:Option (α ⊕ β ⊕ γ)) (k1:(a : α) → m = some (.inl a) → Option ρ) (k2:(b : β) → m = some (.inr (.inl b)) → Option ρ) (k3:(c : γ) → m = some (.inr (.inr c)) → Option ρ) : Option ρ := match m,k1,k2,k3 with
  | none,_,_,_=>none
  | some (.inl a),k,_,_=>k a rfl
  | some (.inr (.inl b)),_,k,_=>k b rfl
  | some (.inr (.inr c)),_,_,k=>k c rfl
def Jy {ρ:Type} (p:Prop) [d:Decidable p] (k:p → Option ρ) : Option ρ := match d with
  | .isTrue h=>k h
  | .isFalse _=>none
/-- what the tree computes -/
noncomputable def Mo.den {ρ:Type} : Mo ρ → Option ρ
  | .ret _ r=>some r
  | .stop=>none
  | .say _ _ k=>k.den
  | .ite b t e=>ac5 b (fun h=>(t h).den) (fun h=>(e h).den)
  | @Mo.grd _ p d k=>@Jy ρ p d fun h=>(k h).den
  | .ask m k=>ac6 m fun a h=>(k a h).den
  | .fG m k1 k2=>VI m (fun a h=>(k1 a h).den) (fun b h=>(k2 b h).den)
  | .Zx m k1 k2 k3=>VJ m (fun a h=>(k1 a h).den) (fun b h=>(k2 b h).den) (fun c h=>(k3 c h).den)
theorem aN {α:Type} (b:Bool) (x y : α) : ac5 b (fun _=>x) (fun _=>y) = bif b then x else y := by cases b <;> rfl
theorem aO {ρ:Type} (p:Prop) [d:Decidable p] (x:Option ρ) : Jy p (fun _=>x) = if p then x else none := by
  unfold Jy; cases d with
  | isTrue h=>simp [h]
  | isFalse h=>simp [h]
theorem aP {α ρ:Type} (m:Option α) (k : α → Option ρ) : ac6 m (fun a _=>k a) = m.bind k := by cases m <;> rfl
theorem aI {α β ρ:Type} (m:Option (α ⊕ β)) (k1 : α → Option ρ) (k2 : β → Option ρ) : VI m (fun a _=>k1 a) (fun b _=>k2 b) = m.bind fun x=>match x with
  | .inl a=>k1 a
  | .inr b=>k2 b := by rcases m with _ | _ | _ <;> rfl
theorem aJ {α β γ ρ:Type} (m:Option (α ⊕ β ⊕ γ)) (k1 : α → Option ρ) (k2 : β → Option ρ) (k3 : γ → Option ρ) : VJ m (fun a _=>k1 a) (fun b _=>k2 b) (fun c _=>k3 c) = m.bind fun x=>match x with
  | .inl a=>k1 a
  | .inr (.inl b)=>k2 b
  | .inr (.inr c)=>k3 c := by rcases m with _ | _ | _ | _ <;> rfl
theorem VK {α:Type} {b:Bool} {t:b = true → Option α} {e:b = false → Option α} {r : α} (h:ac5 b t e = some r) : (∃ hb,t hb = some r) ∨ ∃ hb,e hb = some r := by
  cases b
  · exact .inr ⟨rfl,h⟩
  · exact .inl ⟨rfl,h⟩
theorem VL {ρ:Type} {p:Prop} {d:Decidable p} {k:p → Option ρ} {r : ρ} (h:Jy p k = some r) : ∃ hp,k hp = some r := by
  cases d with
  | isTrue hh=>exact ⟨hh,h⟩
  | isFalse hh=>cases h
theorem VN {α ρ:Type} {m:Option α} {k:(a : α) → m = some a → Option ρ} {r : ρ} (h:ac6 m k = some r) : ∃ a ha,k a ha = some r := by
  cases m with
  | none=>cases h
  | some a=>exact ⟨a,rfl,h⟩
theorem Qp {α β ρ:Type} {m:Option (α ⊕ β)} {k1:(a : α) → m = some (.inl a) → Option ρ} {k2:(b : β) → m = some (.inr b) → Option ρ} {r : ρ} (h:VI m k1 k2 = some r) : (∃ a ha,k1 a ha = some r) ∨ ∃ b hb,k2 b hb = some r := by
  rcases m with _ | a | b
  · cases h
  · exact .inl ⟨a,rfl,h⟩
  · exact .inr ⟨b,rfl,h⟩
theorem Qq {α β γ ρ:Type} {m:Option (α ⊕ β ⊕ γ)} {k1:(a : α) → m = some (.inl a) → Option ρ} {k2:(b : β) → m = some (.inr (.inl b)) → Option ρ} {k3:(c : γ) → m = some (.inr (.inr c)) → Option ρ} {r : ρ} (h:VJ m k1 k2 k3 = some r) : (∃ a ha,k1 a ha = some r) ∨ (∃ b hb,k2 b hb = some r) ∨ ∃ c hc,k3 c hc = some r := by
  rcases m with _ | a | b | c
  · cases h
  · exact .inl ⟨a,rfl,h⟩
  · exact .inr (.inl ⟨b,rfl,h⟩)
  · exact .inr (.inr ⟨c,rfl,h⟩)
inductive Ob (ω:Type) : Type 1 where
  | leaf (o : ω)
  | two (a b:Ob ω)
  | im {p:Prop} (k:p → Ob ω)
  | fn {α:Type} {p : α → Prop} (k:(a : α) → p a → Ob ω)
section
variable {ρ ω:Type}
/-- what the code does, along the tree -/
def Mo.lhs (run:Fit → List Ans → ω) : Mo ρ → List Ans → Ob ω
  | .ret f _,acc=>.leaf (run f acc.reverse)
  | .stop,_=>.im (p := False) fun h=>h.elim
  | .say qs _ k,acc=>k.lhs run (qs.reverseAux acc)
  | .ite _ t e,acc=>.two (.im fun h=>(t h).lhs run acc) (.im fun h=>(e h).lhs run acc)
  | @Mo.grd _ _ _ k,acc=>.im fun h=>(k h).lhs run acc
  | .ask _ k,acc=>.fn fun a h=>(k a h).lhs run acc
  | .fG _ k1 k2,acc=>.two (.fn fun a h=>(k1 a h).lhs run acc) (.fn fun a h=>(k2 a h).lhs run acc)
  | .Zx _ k1 k2 k3,acc=>.two (.fn fun a h=>(k1 a h).lhs run acc) (.two (.fn fun a h=>(k2 a h).lhs run acc) (.fn fun a h=>(k3 a h).lhs run acc))
/-- what it should do -/
def Mo.rhs (exp : ρ → List Prop → ω) : Mo ρ → List Prop → Ob ω
  | .ret _ r,acc=>.leaf (exp r acc.reverse)
  | .stop,_=>.im (p := False) fun h=>h.elim
  | .say (Φ := Φ) _ _ k,acc=>k.rhs exp (Φ.reverseAux acc)
  | .ite _ t e,acc=>.two (.im fun h=>(t h).rhs exp acc) (.im fun h=>(e h).rhs exp acc)
  | @Mo.grd _ _ _ k,acc=>.im fun h=>(k h).rhs exp acc
  | .ask _ k,acc=>.fn fun a h=>(k a h).rhs exp acc
  | .fG _ k1 k2,acc=>.two (.fn fun a h=>(k1 a h).rhs exp acc) (.fn fun a h=>(k2 a h).rhs exp acc)
  | .Zx _ k1 k2 k3,acc=>.two (.fn fun a h=>(k1 a h).rhs exp acc) (.two (.fn fun a h=>(k2 a h).rhs exp acc) (.fn fun a h=>(k3 a h).rhs exp acc))
theorem dS.rev:∀ (l m:List Prop),dS l → dS m → dS (l.reverseAux m)
  | [],_,_,h=>h
  | _ :: l,m,hl,h=>dS.rev l (_ :: m) hl.2 ⟨hl.1,h⟩
theorem Ob.BL {α:Type} {p : α → Prop} {k k':(a : α) → p a → Ob ω} (h:Ob.fn k = Ob.fn k') : ∀ a h,k a h = k' a h := by
  injection h with _ _ h; intro a ha; rw [h]
theorem Ob.VO {p:Prop} {k k':p → Ob ω} (h:Ob.im k = Ob.im k') : ∀ h,k h = k' h := by
  injection h with _ h; intro a; rw [h]
theorem Ob.Ez {a b c d:Ob ω} (h:Ob.two a b = Ob.two c d) : a = c ∧ b = d := by
  injection h with h1 h2; exact ⟨h1,h2⟩
theorem Ob.ac7 {a b : ω} (h:Ob.leaf a = Ob.leaf b) : a = b := by injection h
theorem Mo.sound {run:Fit → List Ans → ω} {exp : ρ → List Prop → ω} : ∀ (t:Mo ρ) (qs:List Ans) (ps:List Prop),dS ps → t.lhs run qs = t.rhs exp ps → ∀ r,t.den = some r → ∃ f qs p,run f qs = exp r p ∧ dS p
  | .ret f r,qs,ps,hp,h,r',hd=>by
    injection hd with hd; subst hd
    exact ⟨f,_,_,Ob.ac7 h,dS.rev ps [] hp trivial⟩
  | .stop,qs,ps,hp,h,r,hd=>by cases hd
  | .say q ok k,qs,ps,hp,h,r,hd=>Mo.sound k _ _ (dS.rev _ _ ok hp) h r hd
  | .ite b t e,qs,ps,hp,h,r,hd=>by
    obtain ⟨h1,h2⟩ := Ob.Ez h
    rcases VK hd with ⟨hb,hd⟩ | ⟨hb,hd⟩
    · exact Mo.sound (t hb) _ _ hp (Ob.VO h1 hb) r hd
    · exact Mo.sound (e hb) _ _ hp (Ob.VO h2 hb) r hd
  | @Mo.grd _ p d k,qs,ps,hp,h,r,hd=>by
    obtain ⟨hh,hd⟩ := VL hd
    exact Mo.sound (k hh) _ _ hp (Ob.VO h hh) r hd
  | .ask m k,qs,ps,hp,h,r,hd=>by
    obtain ⟨a,ha,hd⟩ := VN hd
    exact Mo.sound (k a ha) _ _ hp (Ob.BL h a ha) r hd
  | .fG m k1 k2,qs,ps,hp,h,r,hd=>by
    obtain ⟨h1,h2⟩ := Ob.Ez h
    rcases Qp hd with ⟨a,ha,hd⟩ | ⟨a,ha,hd⟩
    · exact Mo.sound (k1 a ha) _ _ hp (Ob.BL h1 a ha) r hd
    · exact Mo.sound (k2 a ha) _ _ hp (Ob.BL h2 a ha) r hd
  | .Zx m k1 k2 k3,qs,ps,hp,h,r,hd=>by
    obtain ⟨h1,h2⟩ := Ob.Ez h
    obtain ⟨h2,h3⟩ := Ob.Ez h2
    rcases Qq hd with ⟨a,ha,hd⟩ | ⟨a,ha,hd⟩ | ⟨a,ha,hd⟩
    · exact Mo.sound (k1 a ha) _ _ hp (Ob.BL h1 a ha) r hd
    · exact Mo.sound (k2 a ha) _ _ hp (Ob.BL h2 a ha) r hd
    · exact Mo.sound (k3 a ha) _ _ hp (Ob.BL h3 a ha) r hd
end
section
variable {P:Program} {G:Gh → Prop} {tt:TT} {ρ σ:Type}
/-- a part -/
theorem iE (hB:Base P G tt) {nt k0:Nat} {code:Code} {st:St} (t:Mo ρ) (X : ρ → Exit) (S : ρ → St) (h:t.lhs (fun f qs=>exX P G tt nt k0 code st qs f) [] = t.rhs (fun r p=>some (X r,S r,p)) []) {r : ρ} (hm:t.den = some r) : AWa P G tt nt k0 code (X r) (S r) st := fun s=>by
  obtain ⟨f,qs,p,h1,h2⟩ := Mo.sound t [] [] trivial h r hm
  exact VF hB s qs f p h1 h2
theorem aoh (hB:Base P G tt) {nt k0:Nat} {code:Code} {l:List Nat} {st:St} (t:Mo ρ) (S : ρ → St) (h:t.lhs (fun f qs=>exO P G tt nt k0 code l st qs f) [] = t.rhs (fun r p=>some (S r,p)) []) {r : ρ} (hm:t.den = some r) : ahV P G tt nt k0 code l (S r) st := by
  obtain ⟨f,qs,p,h1,h2⟩ := Mo.sound t [] [] trivial h r hm
  exact alT hB qs f p h1 h2
/-- a loop's model: the body tells the next head, or the way out -/
def bT (T : σ → Option (σ ⊕ ρ)) : Nat → σ → Option ρ
  | 0,_=>none
  | n + 1,v=>(T v).bind fun x=>match x with
    | .inl v'=>bT T n v'
    | .inr r=>some r
theorem dK (hB:Base P G tt) {nt k0:Nat} {code body:Code} (hc:code = .loop body) (T : σ → Mo (σ ⊕ ρ)) (S0 : σ → St) (X : ρ → Exit) (S : ρ → St) (hX:∀ r,alR (X r) = true)
    (h:∀ v,(T v).lhs (fun f qs=>exX P G tt nt k0 body (S0 v) qs f) [] = (T v).rhs (fun x p=>match x with | .inl v'=>some (.normal,S0 v',p) | .inr r=>some (X r,S r,p)) []) :
    ∀ {n:Nat} {v : σ} {r : ρ},bT (fun v=>(T v).den) n v = some r → AWa P G tt nt k0 code (X r) (S r) (S0 v) := by
  subst hc
  have key:∀ (n:Nat) (v : σ) (r : ρ),bT (fun v=>(T v).den) n v = some r → ∀ s:Sur k0,AL (mkC P G tt nt s) body (X r) (S r) (S0 v) := by
    intro n
    induction n with
    | zero=>intro v r hr; cases hr
    | succ n ih =>
      intro v r hr s
      unfold bT at hr
      rw [Option.bind_eq_some_iff] at hr
      obtain ⟨x,hx,hr⟩ := hr
      obtain ⟨f,qs,p,h1,h2⟩ := Mo.sound (T v) [] [] trivial (h v) x hx
      cases x with
      | inl v'=>exact AL.next (VF hB s qs f p h1 h2) (ih v' r hr s)
      | inr r' =>
        injection hr with hr; subst hr
        exact AL.stop (VF hB s qs f p h1 h2) (hX r')
  exact fun {n v r} hr s=>AL.loop (key n v r hr s)
/-- a function -/
theorem akt (hB:Base P G tt) {f:FuncId} {fn:Func} (hf:P.funcs[f]? = some fn) (hbd:fn.body.isSome = true) (hcall:oQ P f = true) {args:List AV} {H0:List Slot} (hnt:Nat.ble args.length fn.ntmps = true)
    (t:Mo ρ) (L : ρ → List AV) (HH : ρ → List Slot) (h:t.lhs (fun f qs=>exF P G tt fn args H0 qs f) [] = t.rhs (fun r p=>some (L r,HH r,p)) []) {r : ρ} (hm:t.den = some r) : FnH P G f args H0 (resV (L r)) (HH r) := by
  obtain ⟨ft,qs,p,h1,h2⟩ := Mo.sound t [] [] trivial h r hm
  exact alU hB hf hbd hcall hnt qs ft p h1 h2
theorem apJ (hB:Base P G tt) {f:FuncId} {fn:Func} (hf:P.funcs[f]? = some fn) (hbd:fn.body.isSome = true) (hcall:oQ P f = true) {args:List AV} (hnt:Nat.ble args.length fn.ntmps = true)
    (t:Mo ρ) (L : ρ → List AV) (h:t.lhs (fun f qs=>exF P G tt fn args [] qs f) [] = t.rhs (fun r p=>some (L r,[],p)) []) {r : ρ} (hm:t.den = some r) : Fn P G f args (resV (L r)) :=
  Fn.apy (akt hB hf hbd hcall hnt t L (fun _=>[]) h hm)
end
theorem ok0:dS [] := trivial
theorem ok1 {a:Prop} (h:a) : dS [a] := ⟨h,trivial⟩
theorem ok2 {a b:Prop} (h:a) (k:b) : dS [a,b] := ⟨h,k,trivial⟩
theorem okc {a:Prop} {l:List Prop} (h:a) (k:dS l) : dS (a :: l) := ⟨h,k⟩
/-- nothing but the first n results is kept -/
def bf (n:Nat) : Fit := ⟨[],List.range n,[],0⟩
end Go.Proofs.YtflpefkohpjjpaaGreatDoor
