/- What the printed models and proofs lean on. -/
import Derived.Test.YtdnafbfmaphhhaaGreatDoorQS2
import Derived.Test.YtdnafbfmaphhhaaGreatDoorQSSnd
import Derived.Test.YtdnafbfmaphhhaaGreatDoorRows
import Derived.Lib.LaidU8T
import Derived.Test.YtdnafbfmaphhhaaGreatDoorCards
import Derived.Test.YtdnafbfmaphhhaaGreatDoorTie
import Derived.Test.YtdnafbfmaphhhaaGreatDoorQS1
import Derived.WalkKit
import Derived.ProofKit
import Derived.OpenShut
import Derived.Deep.DeepHandedRow
import Derived.Lib.LaidTab
import Derived.WideKeyArgs
import Derived.Lib.SmallJoins
import Derived.Test.YtdnafbfmaphhhaaGreatDoorQS3
set_option linter.unusedSimpArgs false
set_option linter.unusedVariables false
namespace Go.Proofs.YtdnafbfmaphhhaaGreatDoor
open Go.RowKit
def cO {α:Type} (l:List α) (i:Int) : Option α := if 0 ≤ i then l[i.toNat]? else none
def Xa (s:ByteArray) (i:Int) : Option UInt8 := if 0 ≤ i then s[i.toNat]? else none
theorem bf {α:Type} {f g : α → List Lf} (e:∀ x,f x = g x) {l:List α} {i:Int} {v : α} (h:cO l i = some v) : 0 ≤ i ∧ (l.map f)[i.toNat]? = some (g v) := by
  unfold cO at h
  split at h
  · rename_i h0
    exact ⟨h0,by rw [List.getElem?_map,h,Option.map_some,e]⟩
  · cases h
theorem bM {α:Type} {f g : α → List Lf} (e:∀ x,f x = g x) {l:List α} {i:Int} {v : α} (h:cO l i = some v) : 0 ≤ i ∧ i.toNat < (l.map f).length :=
  ⟨(bf e h).1,(List.getElem?_eq_some_iff.1 (bf e h).2).1⟩
theorem TF {s:ByteArray} {i:Int} {v:UInt8} (h:Xa s i = some v) : 0 ≤ i ∧ s[i.toNat]? = some v := by
  unfold Xa at h
  split at h
  · rename_i h0; exact ⟨h0,h⟩
  · cases h
theorem G8 {α:Type} {p:Prop} [Decidable p] {a:Option α} {r : α} (h:(if p then a else none) = some r) : p ∧ a = some r := by
  split at h
  · exact ⟨by assumption,h⟩
  · cases h
/-- what holds of every ghost: the tables are there -/
def GI:Gh → Prop := fun I=>∀ w,Inv I w → Tabs w
theorem fJ:Base Tryz.prog GI TTc := ⟨WX,fun _ _ h k w hi=>k w (hi.le h),by kernel_rfl⟩
/-- fuel -/
theorem l9 {α:Type} (f : α → List Lf) (l:List α) (n:Nat) : (l.drop n).map f = ((l.map f).take ((l.map f).length:Int).toNat).drop n := by rw [Int.toNat_natCast,List.take_length,List.map_drop]
theorem I9 {α:Type} (f : α → List Lf) (l:List α) {lo:Int} (h : 0 ≤ lo ∧ lo ≤ (l.length:Int) ∧ (l.length:Int) ≤ (l.length:Int)) : 0 ≤ lo ∧ lo ≤ ((l.map f).length:Int) ∧ ((l.map f).length:Int) ≤ ((l.map f).length:Int) := by rw [List.length_map]; exact h
def FU:Nat := 1152921504606846976
theorem rf_ (s:St) : (some s:Option St) = some s := rfl
theorem lI_ (x:Int) : lfI x = lfI x := rfl
theorem ln_ {α:Type} (l:List α) (f : α → List Lf) : l.length = (l.map f).length := by simp
theorem mk_ {P:Prop} (x:Int) (h:P) : x = x ∧ P := ⟨rfl,h⟩
theorem st_ {α:Type} {f g : α → List Lf} (e:∀ x,f x = g x) (l:List α) (i:Nat) (x : α) : (l.set i x).map f = (l.map f).set i (g x) := by simp [e]
theorem rp_ {α:Type} {f g : α → List Lf} (e:∀ x,f x = g x) (n:Nat) (x : α) : (List.replicate n x).map f = List.replicate n (g x) := by simp [e]
theorem ap_ {α:Type} {f g : α → List Lf} (e:∀ x,f x = g x) (l:List α) (x : α) : (l ++ [x]).map f = l.map f ++ [g x] := by simp [e]
theorem cp_ {α:Type} (f : α → List Lf) {l:List α} {x : α} {k n:Nat} (h:(l.length + [x].length) * k ≤ n) : ((l.map f).length + [f x].length) * k ≤ n := by simpa using h
theorem cq_ {α:Type} (f : α → List Lf) {l:List α} {k n:Nat} (h:(([] : List α).length + l.length) * k ≤ n) : (([] : List (List Lf)).length + (l.map f).length) * k ≤ n := by simpa using h
abbrev AV.i_ (x:Int) : AV := .lf (.int .i64 x)
abbrev AV.b_ (x:Bool) : AV := .lf (.bool x)
abbrev ag_ (l:List Lf) (s:List (Nat × AV)) : AV := tV (.agg (l.map AV.lf)) s
abbrev Ans.sg_ (i n:Nat) (l:List Nat) (k:Nat) (s:St) : Ans := .seg i [] n l k s.T s.H
abbrev Ans.pt_ (n:Nat) (l:List Nat) (k:Nat) (x:Exit) (s:St) : Ans := .part [] n l k x s.T s.H
abbrev jq (f:Func) (k:Nat) (p:List Nat) := AWa Tryz.prog GI TTc f.ntmps k (Code.sub (bodyC f) p)
abbrev DJ (f:Func) (k:Nat) (p:List Nat) := Ti Tryz.prog GI TTc f.ntmps k (Code.sub (bodyC f) p)
section
variable {ρ α σ:Type}
abbrev Mo.rt (l:List Nat) (n:Nat) (r : ρ) : Mo ρ := .ret ⟨[],l,[],n⟩ r
abbrev Mo.iB (b:Bool) (t e:Mo ρ) : Mo ρ := .ite b (fun c=>.say [.br true] (ok1 c) t) fun c=>.say [.br false] (ok1 c) e
abbrev Mo.iG (n:Nat) (b:Bool) (t e:Mo ρ) : Mo ρ := .ite b (fun c=>.say [.gd n true] (ok1 c) t) fun c=>.say [.gd n false] (ok1 c) e
abbrev FV (m:Option α) (f:FuncId) (a:List AV) (v : α → AV) : Prop := ∀ r,m = some r → Fn Tryz.prog GI f a (v r)
abbrev FH (m:Option α) (f:FuncId) (a:List AV) (H0:List Slot) (v : α → AV) (H : α → List Slot) : Prop := ∀ r,m = some r → FnH Tryz.prog GI f a H0 (v r) (H r)
def unV:AV → List AV
  | .tup l=>l
  | x=>[x]
theorem eG {f:FuncId} {fn:Func} {a:List AV} {v : α → AV} {t:Mo α} (hf:Tryz.prog.funcs[f]? = some fn) (hb:(fn.body.isSome && nV Tryz.prog f && Nat.ble a.length fn.ntmps) = true) (hv:∀ r,resV (unV (v r)) = v r) (h:t.lhs (fun g qs=>exF Tryz.prog GI TTc fn a [] qs g) [] = t.rhs (fun r p=>some (unV (v r),[],p)) []) : FV t.den f a v := fun r hm=>by
  simp only [Bool.and_eq_true] at hb
  exact hv r ▸ Zx fJ hf hb.1.1 hb.1.2 hb.2 t (fun r=>unV (v r)) h hm
theorem gy {f:FuncId} {fn:Func} {a:List AV} {H0:List Slot} {v : α → AV} {H : α → List Slot} {t:Mo α} (hf:Tryz.prog.funcs[f]? = some fn) (hb:(fn.body.isSome && nV Tryz.prog f && Nat.ble a.length fn.ntmps) = true) (hv:∀ r,resV (unV (v r)) = v r) (h:t.lhs (fun g qs=>exF Tryz.prog GI TTc fn a H0 qs g) [] = t.rhs (fun r p=>some (unV (v r),H r,p)) []) : FH t.den f a H0 v H := fun r hm=>by
  simp only [Bool.and_eq_true] at hb
  exact hv r ▸ Vg fJ hf hb.1.1 hb.1.2 hb.2 t (fun r=>unV (v r)) H h hm
abbrev Mo.cl {m:Option α} {f:FuncId} {a:List AV} {v : α → AV} (h:FV m f a v) (k:(r : α) → m = some r → Mo ρ) : Mo ρ := .ask m fun r e=>.say [.res (v r)] (ok1 (h r e)) (k r e)
abbrev Mo.cH {m:Option α} {f:FuncId} {a:List AV} {H0:List Slot} {v : α → AV} {H : α → List Slot} (l:List Nat) (h:FH m f a H0 v H) (k:(r : α) → m = some r → Mo ρ) : Mo ρ := .ask m fun r e=>.say [.iU l (v r) (H r)] (ok1 (h r e)) (k r e)
abbrev Mo.jp (f:Func) (k0:Nat) (path:List Nat) (i:Nat) (keys:List Nat) (n:Nat) (x:Exit) (S : α → St) (pre:St) (m:Option α) (W:∀ r,m = some r → jq f k0 path x (S r) pre) (k:(r : α) → m = some r → Mo ρ) : Mo ρ := .ask m fun r e=>.say [.part [] i keys n x (S r).T (S r).H] (ok1 (W r e)) (k r e)
theorem jW {f:Func} {k0:Nat} {path:List Nat} {x:Exit} {S : α → St} {pre:St} {t:Mo α} (h:t.lhs (fun g qs=>exX Tryz.prog GI TTc f.ntmps k0 (Code.sub (bodyC f) path) pre qs g) [] = t.rhs (fun r p=>some (x,S r,p)) []) : ∀ r,t.den = some r → jq f k0 path x (S r) pre := fun _ e=>jw fJ t (fun _=>x) S h e
abbrev Mo.sj (f:Func) (k0:Nat) (path ops:List Nat) (i n:Nat) (keys:List Nat) (kk:Nat) (S : α → St) (pre:St) (m:Option α) (W:∀ r,m = some r → DJ f k0 path ops (S r) pre) (k:(r : α) → m = some r → Mo ρ) : Mo ρ := .ask m fun r e=>.say [.seg i [] n keys kk (S r).T (S r).H] (ok1 (W r e)) (k r e)
theorem sW {f:Func} {k0:Nat} {path ops:List Nat} {S : α → St} {pre:St} {t:Mo α} (h:t.lhs (fun g qs=>exO Tryz.prog GI TTc f.ntmps k0 (Code.sub (bodyC f) path) ops pre qs g) [] = t.rhs (fun r p=>some (S r,p)) []) : ∀ r,t.den = some r → DJ f k0 path ops (S r) pre := fun _ e=>I8 fJ t S h e
abbrev Mo.lp (f:Func) (k0:Nat) (path:List Nat) (i:Nat) (keys:List Nat) (n:Nat) (x:Exit) (S : α → St) (m:Option α) {pre:St} (W:∀ r,m = some r → jq f k0 path x (S r) pre) (k:(r : α) → m = some r → Mo ρ) : Mo ρ := .ask m fun r e=>.say [.part [] i keys n x (S r).T (S r).H] (ok1 (W r e)) (k r e)
theorem lW {f:Func} {k0:Nat} {path:List Nat} {x:Exit} {S : α → St} (H : σ → St) {T : σ → Mo (σ ⊕ α)} {v : σ} (hc:Code.sub (bodyC f) path = .loop (Code.sub (bodyC f) (path ++ [0]))) (hx:WQ x = true) (h:∀ v,(T v).lhs (fun g qs=>exX Tryz.prog GI TTc f.ntmps k0 (Code.sub (bodyC f) (path ++ [0])) (H v) qs g) [] = (T v).rhs (fun y p=>match y with | .inl v'=>some (.normal,H v',p) | .inr r=>some (x,S r,p)) []) : ∀ r,dF (fun v=>(T v).den) FU v = some r → jq f k0 path x (S r) (H v) := fun _ e=>jo fJ hc T H (fun _=>x) S (fun _=>hx) h e
end
end Go.Proofs.YtdnafbfmaphhhaaGreatDoor
set_option linter.unusedSimpArgs false
set_option linter.unusedVariables false
namespace Go.Proofs.YtdnafbfmaphhhaaGreatDoor
open Go.RowKit
theorem eX {σ ρ:Type} {T : σ → Option (σ ⊕ ρ)} (Inv : σ → Prop) (μ : σ → Nat) (Post : ρ → Prop)
    (step:∀ v,Inv v → (∃ v',T v = some (.inl v') ∧ Inv v' ∧ μ v' < μ v) ∨ ∃ r,T v = some (.inr r) ∧ Post r) : ∀ (n:Nat) (v : σ),Inv v → μ v < n → ∃ r,dF T n v = some r ∧ Post r
  | 0,v,_,h=>by omega
  | n + 1,v,hv,h=>by
    rcases step v hv with ⟨v',h1,h2,h3⟩ | ⟨r,h1,h2⟩
    · obtain ⟨r, k1, k2⟩ := eX Inv μ Post step n v' h2 (by omega)
      exact ⟨r,by unfold dF; rw [h1]; exact k1,k2⟩
    · exact ⟨r,by unfold dF; rw [h1]; rfl,h2⟩
theorem w64 {x:Int} (h1 : -9223372036854775808 ≤ x) (h2:x ≤ 9223372036854775807) : IntKind.wrap .i64 x = x := by
  rw [IntKind.wrap_i64]; omega
theorem DK {α:Type} (l:List α) (k:Nat) : cO l (k:Int) = l[k]? := by
  unfold cO; rw [if_pos (by omega),Int.toNat_natCast]
theorem Ja {α:Type} {l:List α} {i:Int} (h0 : 0 ≤ i) (h1:i < l.length) : ∃ x,cO l i = some x ∧ l[i.toNat]? = some x := by
  unfold cO; rw [if_pos h0]
  exact ⟨l[i.toNat]'(by omega),by rw [List.getElem?_eq_getElem (by omega)],by rw [List.getElem?_eq_getElem (by omega)]⟩
theorem iq {n:Nat} (h:n ≤ 1000000000000) : n < FU := by unfold FU; omega
/-- a loop that counts from 0 to n -/
theorem NZ {σ ρ:Type} {T : σ → Option (σ ⊕ ρ)} {v0 : σ} (n:Nat) (hn:n ≤ 1000000000) (P:Nat → σ → Prop) (Post : ρ → Prop) (h0:P 0 v0)
    (step:∀ k v,k < n → P k v → (∃ v',T v = some (.inl v') ∧ P (k + 1) v') ∨ ∃ r,T v = some (.inr r) ∧ Post r)
    (fin:∀ v,P n v → ∃ r,T v = some (.inr r) ∧ Post r) : ∃ r,dF T FU v0 = some r ∧ Post r := by
  have key:∀ m k v,k + m = n → P k v → ∀ f,m < f → ∃ r,dF T f v = some r ∧ Post r := by
    intro m
    induction m with
    | zero =>
      intro k v hk hP f hf
      obtain ⟨r,h1,h2⟩ := fin v (by rw [← hk]; exact hP)
      obtain ⟨f,rfl⟩ : ∃ g,f = g + 1 := ⟨f - 1,by omega⟩
      exact ⟨r,by unfold dF; rw [h1]; rfl,h2⟩
    | succ m ih =>
      intro k v hk hP f hf
      obtain ⟨f,rfl⟩ : ∃ g,f = g + 1 := ⟨f - 1,by omega⟩
      rcases step k v (by omega) hP with ⟨v',h1,h2⟩ | ⟨r,h1,h2⟩
      · obtain ⟨r, k1, k2⟩ := ih (k + 1) v' (by omega) h2 f (by omega)
        exact ⟨r,by unfold dF; rw [h1]; exact k1,k2⟩
      · exact ⟨r,by unfold dF; rw [h1]; rfl,h2⟩
  exact key n 0 v0 (by omega) h0 FU (iq (by omega))
theorem iLt {a b:Nat} (h:a < b) : decide ((a:Int) < (b:Int)) = true := decide_eq_true (by omega)
theorem zG {a b:Nat} (h:¬ a < b) : decide ((a:Int) < (b:Int)) = false := decide_eq_false (by omega)
theorem inc (k:Nat) (h:k ≤ 1000000000) : IntKind.wrap .i64 ((k:Int) + 1) = ((k + 1:Nat) : Int) := by rw [w64 (by omega) (by omega)]; rfl
end Go.Proofs.YtdnafbfmaphhhaaGreatDoor
set_option linter.unusedSimpArgs false
set_option linter.unusedVariables false
namespace Go.Proofs.YtdnafbfmaphhhaaGreatDoor
open Go.RowKit Go.Lib
theorem G9:Rows.laid_unicode_utf8_first = firstData := by kernel_rfl
theorem DL:(Rows.laid_unicode_utf8_acceptRanges:DataW Unit) = acceptData := by kernel_rfl
theorem BK {W : World} (hL : laidMetH Tryz.prog [("unicode/utf8.acceptRanges", Rows.laid_unicode_utf8_acceptRanges), ("unicode/utf8.first", Rows.laid_unicode_utf8_first)] W) : Tabs W := by
  have hm : laidMet Tryz.prog [("unicode/utf8.acceptRanges", Rows.laid_unicode_utf8_acceptRanges), ("unicode/utf8.first", Rows.laid_unicode_utf8_first)] W := hL
  refine utf8Tabs_of_readsT (U8Types.of196 Tryz.laysValid) ⟨by kernel_rfl,by kernel_rfl,by kernel_rfl,by kernel_rfl,by kernel_rfl,by kernel_rfl,by kernel_rfl⟩ ?_ ?_
  · rw [← G9]; exact Lib.laidMet.reads hm (.tail _ (.head _))
  · rw [← DL]; exact Lib.laidMet.reads hm (.head _)
end Go.Proofs.YtdnafbfmaphhhaaGreatDoor
set_option linter.unusedSimpArgs false
set_option linter.unusedVariables false
namespace Go.Proofs.YtdnafbfmaphhhaaGreatDoor
open Go.ChangeShapes Go.WideShapes Go.ChangeAt Go.RowKit

theorem own:ownKnob Tryz.prog.godebug = none := by kernel_rfl
/-- The numbers of a table. -/
def xM:Nat → DataW Unit → List Value
  | 0,_=>[]
  | _ + 1,.lit (.int k n)=>[.int k n]
  | f + 1,.agg l=>l.flatMap (xM f)
  | _,_=>[]
def N8 (cs:Array Value) : Obj → Obj
  | .cells _ t frozen=>.cells cs t frozen
  | o=>o
/-- A world for the witness: the settled one, the two listed tables holding what the rows list. -/
noncomputable def laidWorld (os:Os) : World :=
  { World.holding Tryz.prog os ⟨#[],#[],[]⟩ with heap := ((World.holding Tryz.prog os ⟨#[],#[],[]⟩).heap.modify 0 (N8 (xM 4 Rows.laid_unicode_utf8_first).toArray)).modify 1 (N8 (xM 4 Rows.laid_unicode_utf8_acceptRanges).toArray) }
section
variable {H:Type} {enc:TypeId × Value → H} {P:Program}
theorem zH {f:Func} {s:ChangeSpec} {apart fresh handsOn again:Bool} {W W':World} {args:Array Value} {v:Value} {ds gs:List (DataW H)} {before pa pv:List MemPlace}
    (hW:DataW.Whole enc P f.params.toList s.vars apart W args.toList ds gs before)
    (hres:∀ (b:Nat) (sp:Nat → Bool) (hd:Bool),DataW.TrodAll enc P W' b sp hd f.resultTypes.toList (v.resultList f.resultTypes.size) (s.fn H (ds ++ gs)).results [])
    (hargs:∀ sp:Nat → Bool,(∀ p ∈ before,sp p.block = true) → DataW.TrodAll enc P W' 0 sp true f.params.toList args.toList (s.fn H (ds ++ gs)).args pa)
    (hvars:∀ sp:Nat → Bool,(∀ p ∈ before,sp p.block = true) → DataW.TrodVars enc P W' sp s.vars (s.fn H (ds ++ gs)).vars pv)
    (hps:before = pa ++ pv) (hb:Below W.heap.size W W')
    (hok:∀ (j:Nat) (t:TypeId) (r:Value),f.resultTypes[j]? = some t → (v.resultList f.resultTypes.size)[j]? = some r → Value.okWide P W' .any 0 t r) :
    s.post enc P f apart fresh handsOn again W args v W' := by
  have hlt:∀ p ∈ before,p.block < W.heap.size := fun p hp=>hW.lt p hp
  have hold:∀ p ∈ before,(fun b=>decide (b < W.heap.size)) p.block = true := fun p hp=>by simpa using hlt p hp
  refine ⟨ds,gs,before,[],pa,pv,hW,hres _ _ _,hargs _ hold,hvars _ hold,World.keptBut_mono (fun p hp=>⟨hp,?_⟩) (hb.frame (· ∈ before)),fun _=>?_⟩
  · rw [hps,List.mem_append] at hp
    exact Or.inr hp
  · obtain ⟨_,_,_,_,_,hz,hn⟩ := hW
    refine ⟨hok,_,_,([] ++ pa) ++ pv,⟨[] ++ pa,pv,trodAll_append (hargs _ (fun _ _=>rfl)) (hres _ _ _),hvars _ (fun _ _=>rfl),rfl,?_,?_⟩,?_⟩
    · intro b off hp
      have hin:MemPlace.cell b off ∈ before := by rw [hps]; simpa using hp
      rw [hb.frozen (hlt _ hin)]
      exact hz b off hin
    · intro ha
      have := hn ha
      rw [hps] at this
      simpa using this
    · intro p hp _
      rw [hps]
      simpa using hp
end
end Go.Proofs.YtdnafbfmaphhhaaGreatDoor
set_option linter.unusedSimpArgs false
set_option linter.unusedVariables false
namespace Go.Proofs.YtdnafbfmaphhhaaGreatDoor
open Go.ChangeShapes Go.WideShapes Go.ChangeAt Go.RowKit Go.Joins Go.Deep
section
variable {H:Type} {enc:TypeId × Value → H} {P:Program} {w:World} {base:Nat} {spare:Nat → Bool} {held:Bool}
theorem pK (hl:laidOutB P = true) {W W':World} {sp':Nat → Bool} : ∀ (ts:List TypeId) (vs:List Value) (ds:List (DataW H)) (ps:List MemPlace),(∀ t ∈ ts,P.readableRec t = true ∧ t < P.types.size) →
    DataW.TrodAll enc P W 0 (fun _=>true) true ts vs ds ps → (∀ x ∈ ps,W.sameAt W' x) → (∀ x ∈ ps,sp' x.block = true) → DataW.TrodAll enc P W' 0 sp' true ts vs ds ps
  | [],vs,ds,ps,_,h,_,_=>by
    cases vs <;> cases ds <;> simp [DataW.TrodAll] at h ⊢
    exact h
  | t :: ts,vs,ds,ps,hr,h,h1,h2=>by
    obtain ⟨v,vs',d,ds',p,q,rfl,rfl,rfl,hp,hq⟩ := trodAll_cons h
    refine ⟨p,q,WideElems.Trod_stays hl (hr t (by simp)).1 (hr t (by simp)).2 hp (fun x hx=>h1 x (by simp [hx])) (fun x hx=>h2 x (by simp [hx])),?_,rfl⟩
    exact pK hl ts vs' ds' q (fun t ht=>hr t (by simp [ht])) hq (fun x hx=>h1 x (by simp [hx])) (fun x hx=>h2 x (by simp [hx]))
theorem N9 {f:Func} {s:ChangeSpec} {W W':World} {args:Array Value} {ds:List (DataW H)} {before:List MemPlace} {tb:TypeId}
    (hl:laidOutB P = true) (hr:(f.params.all fun t=>P.readableRec t && decide (t < P.types.size)) = true) (hv:s.vars = []) (ht:f.resultTypes = #[tb]) (hb:P.underlying tb = some .bool)
    (hW:DataW.Whole enc P f.params.toList s.vars false W args.toList ds [] before) (hs:s.fn H (ds ++ []) = { results := [.lit (.bool true)],args := ds }) (he:Ext W W') :
    s.post enc P f false true false false W args (.bool true) W' := by
  have hW0 := hW
  obtain ⟨p,q,hA,hV,rfl,hfz,hnd⟩ := hW
  have hq:q = [] := by
    rw [hv] at hV
    simpa [DataW.TrodVars] using hV
  subst hq
  have hlt:∀ x ∈ p ++ [],x.block < W.heap.size := fun x hx=>hW0.lt x hx
  have hrr:∀ t ∈ f.params.toList,P.readableRec t = true ∧ t < P.types.size := fun t ht=>by
    have := Array.all_eq_true'.1 hr t (by simpa using ht)
    simpa using this
  refine zH (pa := p) (pv := []) hW0 ?_ ?_ ?_ rfl he ?_
  · intro b sp hd
    rw [hs,ht]
    exact trodAll_mk1 (shut_bool hb _)
  · intro sp hsp
    rw [hs]
    exact pK hl _ _ _ _ hrr hA (fun x hx=>Below.same he (hlt x (by simpa using hx))) (fun x hx=>hsp x (by simpa using hx))
  · intro sp _
    rw [hs,hv]
    rfl
  · intro j t r hj hr'
    rw [ht] at hj hr'
    have hj0:j = 0 := by
      rcases j with _ | j
      · rfl
      · simp at hj
    subst hj0
    obtain rfl:tb = t := by simpa using hj
    obtain rfl:Value.bool true = r := by simpa [Value.resultList] using hr'
    exact okWide_bool_mk hb _
end
end Go.Proofs.YtdnafbfmaphhhaaGreatDoor
set_option linter.unusedSimpArgs false
set_option linter.unusedVariables false
namespace Go.Proofs.YtdnafbfmaphhhaaGreatDoor
open Go.ChangeShapes Go.WideShapes Go.ChangeAt Go.RowKit
theorem YD {W:World} (h:Tabs W) : GI (I0 W) := fun w hi=>⟨fun c hc=>hi _ _ _ (h.1 c hc),fun i hi'=>⟨hi _ _ _ (h.2 i hi').1,hi _ _ _ (h.2 i hi').2⟩⟩
section
variable {H:Type} {enc:TypeId × Value → H} {P:Program} {w:World} {tys:List TypeId}
theorem TJ (hok:okT P tys = true) {t:TypeId} {v:Value} {d:DataW H} {ps:List MemPlace} (h:DataW.Trod enc P w 0 (fun _=>true) true t v d ps) {shs:List Shp} (hf:flat P 12 t = some shs) (ht:tys.contains t = true) :
    ∃ r,bY (I0 w) r v.cells.toList ∧ WTr P r shs ∧ bn r ≤ Rows.uptoBulk d := by
  obtain ⟨fuel,hf'⟩ := h
  obtain ⟨shs',h1,h2⟩ := Jb hok (List.contains_iff_mem.1 ht)
  rw [hf] at h1; injection h1 with h1; subst h1
  exact TG hok fuel 12 t v.cells.toList (d,ps) shs hf' hf h2
theorem Jc (hok:okT P tys = true) {t:TypeId} {v:Value} {d:DataW H} {ps:List MemPlace} (h:DataW.Trod enc P w 0 (fun _=>true) true t v d ps) (hc:v.cells.toList = [v]) {s:Shp} (hf:flat P 12 t = some [s]) (ht:tys.contains t = true) :
    ∃ x,LRp (I0 w) x v ∧ WTf P x s ∧ x.bulk ≤ Rows.uptoBulk d := by
  obtain ⟨r,h1,h2,h3⟩ := TJ hok h hf ht
  rw [hc] at h1
  obtain ⟨x,r',rfl,k1,k2⟩ := WTr.cons_inv h2
  obtain rfl := WTr.dN k2
  obtain ⟨c,q,e,e1,_⟩ := h1
  injection e with e _
  subst e
  exact ⟨x,e1,k1,by unfold bn at h3; omega⟩
end
/-- an argument's own form, not unfolded -/
structure OkW (P:Program) (w:World) (base:Nat) (t:TypeId) (v:Value) : Prop where
  ok:Value.okWide P w .any base t v
def OkA (P:Program) (w:World) (base:Nat) (ps:Array TypeId) (vs:Array Value) : Prop := ∀ (j:Nat) t v,ps[j]? = some t → vs[j]? = some v → OkW P w base t v
theorem Xc {P:Program} {w:World} {base:Nat} {ps:Array TypeId} {vs:Array Value} (h:∀ (j:Nat) t v,ps[j]? = some t → vs[j]? = some v → Value.okWide P w .any base t v) : OkA P w base ps vs := fun j t v h1 h2=>⟨h j t v h1 h2⟩
theorem TK {P:Program} {w:World} {base:Nat} {ps:Array TypeId} {vs:Array Value} (h:OkA P w base ps vs) (j:Nat) {t:TypeId} {v:Value} {k:IntKind} (h1:ps[j]? = some t) (h2:vs[j]? = some v) (ht:P.underlying t = some (.int k)) : ∃ n,v = .int k n := okWide_int ht (h j t v h1 h2).ok
theorem J9 {P:Program} {w:World} {base:Nat} {ps:Array TypeId} {vs:Array Value} (h:OkA P w base ps vs) (j:Nat) {t e:TypeId} {v:Value} (h1:ps[j]? = some t) (h2:vs[j]? = some v) (ht:P.underlying t = some (.slice e)) : ∃ a len cap,v = .slice a len cap := okWide_slice ht (h j t v h1 h2).ok
/-- the law's last step -/
theorem Xd {f:FuncId} {args:List AV} {vs:List Value} {W:World} (h:Fn Tryz.prog GI f args (.lf (.bool true))) (hT:Tabs W) (hvs:VRs (zy (I0 W)) args vs) :
    Calls Tryz.prog f vs.toArray W fun e W'=>e = .returned (.bool true) ∧ Ext W W' := by
  refine (h.2 (I0 W) W vs (YD hT) (Xb W) hvs).mono ?_
  rintro e w' ⟨I',v,rfl,g,hv⟩
  exact ⟨by rw [hv.bool],g.ext⟩
end Go.Proofs.YtdnafbfmaphhhaaGreatDoor
set_option linter.unusedSimpArgs false
set_option linter.unusedVariables false
namespace Go.Proofs.YtdnafbfmaphhhaaGreatDoor
open Go.RowKit
theorem Oa {P:Program} {r:List Lf} (h:WTr P r [.int .i64,.int .i64]) : ∃ x:aZ,x.lf = r := by
  obtain ⟨x,r',rfl,k1,h⟩ := WTr.cons_inv h
  obtain ⟨y,r',rfl,k2,h⟩ := WTr.cons_inv h
  obtain rfl := WTr.dN h
  obtain ⟨a,rfl⟩ := WTf.cu k1
  obtain ⟨b,rfl⟩ := WTf.cu k2
  exact ⟨⟨a,b⟩,rfl⟩
end Go.Proofs.YtdnafbfmaphhhaaGreatDoor
set_option linter.unusedSimpArgs false
set_option linter.unusedVariables false
namespace Go.Proofs.YtdnafbfmaphhhaaGreatDoor
namespace Raft
/-- an entry: its term and its time -/
abbrev E := Int × Int
/-- two logs agree below n -/
def Agr (n:Nat) (a b:List E) : Prop := ∀ k,k < n → a[k]? = b[k]?
theorem Agr.refl (n:Nat) (a:List E) : Agr n a a := fun _ _=>rfl
theorem Agr.symm {n:Nat} {a b:List E} (h:Agr n a b) : Agr n b a := fun k hk=>(h k hk).symm
theorem Agr.trans {n:Nat} {a b c:List E} (h:Agr n a b) (k:Agr n b c) : Agr n a c := fun j hj=>(h j hj).trans (k j hj)
theorem Agr.mono {n p:Nat} {a b:List E} (h:Agr n a b) (hp:p ≤ n) : Agr p a b := fun k hk=>h k (Nat.lt_of_lt_of_le hk hp)
theorem Agr.zero (a b:List E) : Agr 0 a b := fun _ hk=>absurd hk (Nat.not_lt_zero _)
/-- a member -/
structure AM where
  term:Int
  fG:Option Nat
  role:Int
  log:List E
  commit:Nat
  mat:Nat → Nat
  jd:Nat → Bool
/-- messages that count -/
inductive Msg where
  | fG (f t:Nat) (T:Int) (n:Nat) (last:Int)
  | lH (f t:Nat) (T:Int)
  | app (f t:Nat) (T:Int) (n:Nat) (last:Int) (com:Nat) (es:List E)
  | vN (f t:Nat) (T:Int) (n:Nat)
/-- what has been: the primary of each term, its log, the candidates' logs, the jd, what was acknowledged, who lH for a primary -/
structure Gh where
  ld:Int → Option Nat
  G:Int → List E
  K:Nat → Int → List E
  vt:Nat → Int → Option Nat
  A:Nat → Int → Nat
  Q:Int → Nat → Bool
def bef (l:List E) (n:Nat) : Int := if n = 0 then 0 else match l[n - 1]? with | some e=>e.1 | none=>0
def quo (N:Nat) (p:Nat → Bool) : Prop := N < 2 * (List.range N).countP p
theorem zh (p q:Nat → Bool) : ∀ l:List Nat,(∀ x ∈ l,¬ (p x = true ∧ q x = true)) → l.countP p + l.countP q ≤ l.length
  | [],_=>by simp
  | x :: r,h=>by
    have h1 := zh p q r (fun y hy=>h y (List.mem_cons_of_mem _ hy))
    have h2 := h x (List.mem_cons_self ..)
    simp only [List.countP_cons,List.length_cons]
    cases hp:p x <;> cases hq:q x <;> simp [hp,hq] at h2 ⊢ <;> omega
theorem JG {N:Nat} {p q:Nat → Bool} (hp:quo N p) (hq:quo N q) : ∃ i,i < N ∧ p i = true ∧ q i = true := by
  refine Classical.byContradiction fun hn=>?_
  have := zh p q (List.range N) (fun x hx hc=>hn ⟨x,List.mem_range.1 hx,hc⟩)
  rw [List.length_range] at this
  unfold quo at hp hq
  omega
theorem vg (p q:Nat → Bool) : ∀ l:List Nat,(∀ x ∈ l,p x = true → q x = true) → l.countP p ≤ l.countP q
  | [],_=>by simp
  | x :: r,h=>by
    have h1 := vg p q r (fun y hy=>h y (List.mem_cons_of_mem _ hy))
    have h2 := h x (List.mem_cons_self ..)
    simp only [List.countP_cons]
    cases hp:p x <;> cases hq:q x <;> simp [hp,hq] at h2 ⊢ <;> omega
theorem F5 {N:Nat} {p q:Nat → Bool} (hp:quo N p) (h:∀ i,i < N → p i = true → q i = true) : quo N q := by
  have := vg p q (List.range N) (fun x hx=>h x (List.mem_range.1 hx))
  unfold quo at hp ⊢; omega
/-- the terms are at most T -/
def Bel (l:List E) (T:Int) : Prop := ∀ (k:Nat) (e:E),l[k]? = some e → e.1 ≤ T
def D (g:Gh) (T:Int) : Prop := ∃ c,g.ld T = some c
def WF (g:Gh) (l:List E) : Prop := ∀ (k:Nat) (e:E),l[k]? = some e → D g e.1 ∧ Agr (k + 1) l (g.G e.1)
def zi (g:Gh) (T:Int) (n:Nat) (B:Int) : Prop := ∃ T',T < T' ∧ T' ≤ B ∧ D g T' ∧ D g T ∧ ∃ k a b,k < n ∧ (g.G T')[k]? = some a ∧ (g.G T)[k]? = some b ∧ a ≠ b
def Fin (g:Gh) (T:Int) (n:Nat) : Prop := 0 < n ∧ ∃ e,(g.G T)[n - 1]? = some e ∧ e.1 = T
def Com (N:Nat) (g:Gh) (T:Int) (n:Nat) : Prop := D g T ∧ Fin g T n ∧ quo N fun i=>decide (n ≤ g.A i T)
def Cm (N:Nat) (g:Gh) (l:List E) (n:Nat) : Prop := n = 0 ∨ ∃ T p,Com N g T p ∧ n ≤ p ∧ Agr n l (g.G T)
def VP (m:Nat → AM) (g:Gh) (j:Nat) (T:Int) (K:List E) : Prop := T ≤ (m j).term ∧ ∀ T0 n,T0 < T → n ≤ g.A j T0 → Fin g T0 n → Agr n K (g.G T0) ∨ zi g T0 n T
theorem zi.up {g:Gh} {T:Int} {n:Nat} {B C:Int} (h:zi g T n B) (hb:B ≤ C) : zi g T n C := by
  obtain ⟨T',h1,h2,h3⟩ := h
  exact ⟨T',h1,by omega,h3⟩
structure Inv (N:Nat) (m:Nat → AM) (sent:Msg → Prop) (g:Gh) : Prop where
  wl:∀ i,i < N → WF g (m i).log
  wt:∀ i,i < N → Bel (m i).log (m i).term
  wg:∀ T,D g T → WF g (g.G T) ∧ Bel (g.G T) T
  pr:∀ i,i < N → (m i).role = 2 → g.ld (m i).term = some i ∧ g.G (m i).term = (m i).log ∧ ∀ j,j < N → (m i).mat j ≤ g.A j (m i).term
  dl:∀ T c,g.ld T = some c → c < N ∧ T ≤ (m c).term ∧ ((m c).term = T → (m c).role = 2)
  ac:∀ i,i < N → ∀ T,0 < g.A i T → D g T ∧ T ≤ (m i).term ∧ g.A i T ≤ (g.G T).length
  lg:∀ i,i < N → ∀ T n,n ≤ g.A i T → Agr n (m i).log (g.G T) ∨ zi g T n (m i).term
  vn:∀ i,i < N → ∀ T,(m i).term < T → g.vt i T = none
  vc:∀ i,i < N → g.vt i (m i).term = (m i).fG
  ca:∀ i,i < N → (m i).role = 1 → (m i).fG = some i ∧ g.K i (m i).term = (m i).log ∧ Bel (m i).log ((m i).term - 1) ∧ g.ld (m i).term ≠ some i ∧ ∀ j,j < N → (m i).jd j = true → g.vt j (m i).term = some i ∧ VP m g j (m i).term (m i).log
  qs:∀ T c,g.ld T = some c → quo N (g.Q T) ∧ ∀ j,j < N → g.Q T j = true → g.vt j T = some c ∧ T ≤ (m j).term ∧ ∀ T0 n,T0 < T → n ≤ g.A j T0 → Fin g T0 n → Agr n (g.G T) (g.G T0) ∨ zi g T0 n (T - 1)
  mv:∀ f t T n last,sent (.fG f t T n last) → f < N ∧ T ≤ (m f).term ∧ n = (g.K f T).length ∧ last = bef (g.K f T) n ∧ WF g (g.K f T) ∧ Bel (g.K f T) (T - 1)
  md:∀ f t T,sent (.lH f t T) → f < N ∧ t < N ∧ T ≤ (m t).term ∧ g.vt f T = some t ∧ VP m g f T (g.K t T)
  ma:∀ f t T n last com es,sent (.app f t T n last com es) → D g T ∧ n + es.length ≤ (g.G T).length ∧ last = bef (g.G T) n ∧ (∀ k,k < es.length → es[k]? = (g.G T)[n + k]?) ∧ com ≤ (g.G T).length ∧ Cm N g (g.G T) com
  mr:∀ f t T n,sent (.vN f t T n) → f < N ∧ n ≤ g.A f T
  ps:∀ T,D g T → 0 < T
  t0:∀ i,i < N → 0 ≤ (m i).term ∧ ((m i).role = 1 → 0 < (m i).term)
  cm:∀ i,i < N → (m i).commit ≤ (m i).log.length ∧ Cm N g (m i).log (m i).commit
def upd (m:Nat → AM) (i:Nat) (a:AM) : Nat → AM := fun j=>if j = i then a else m j
theorem upd_same (m:Nat → AM) (i:Nat) (a:AM) : upd m i a i = a := by unfold upd; rw [if_pos rfl]
theorem upd_ne {m:Nat → AM} {i j:Nat} {a:AM} (h:j ≠ i) : upd m i a j = m j := by unfold upd; rw [if_neg h]
theorem gu {m:Nat → AM} {i:Nat} {a:AM} (h:(m i).term ≤ a.term) (j:Nat) : (m j).term ≤ (upd m i a j).term := by
  unfold upd; split
  · rename_i e; subst e; exact h
  · exact Int.le_refl _
theorem VP.up {m m':Nat → AM} {g:Gh} {j:Nat} {T:Int} {K:List E} (h:VP m g j T K) (ht:(m j).term ≤ (m' j).term) : VP m' g j T K := ⟨by have := h.1; omega,h.2⟩
/-! ### consequences -/
theorem Inv.RI {N:Nat} {m:Nat → AM} {sent:Msg → Prop} {g:Gh} (h:Inv N m sent g) {T0:Int} {n:Nat} (hc:Com N g T0 n) : ∀ (k:Nat) (T:Int),T0 < T → T - T0 ≤ k → D g T → Agr n (g.G T) (g.G T0)
  | 0,T,h1,h2,_=>by omega
  | k + 1,T,h1,h2,⟨c,hd⟩=>by
    obtain ⟨q1,q2⟩ := h.qs T c hd
    obtain ⟨i,hi,p1,p2⟩ := JG hc.2.2 q1
    have p1 := of_decide_eq_true p1
    rcases (q2 i hi p2).2.2 T0 n h1 p1 hc.2.1 with h3 | ⟨T',k1,k2,k3,_,j,a,b,e1,e2,e3,e4⟩
    · exact h3
    · have := h.RI hc k T' k1 (by omega) k3 j e1
      rw [e2,e3] at this
      injection this with this
      exact absurd this e4
theorem Inv.safe {N:Nat} {m:Nat → AM} {sent:Msg → Prop} {g:Gh} (h:Inv N m sent g) {a b:List E} {p q:Nat} (ha:Cm N g a p) (hb:Cm N g b q) : Agr (min p q) a b := by
  rcases ha with rfl | ⟨T,n,c1,h1,h2⟩
  · rw [Nat.zero_min]; exact Agr.zero _ _
  rcases hb with rfl | ⟨T',n',c2,h3,h4⟩
  · rw [Nat.min_zero]; exact Agr.zero _ _
  refine (h2.mono (Nat.min_le_left ..)).trans (Agr.trans ?_ (h4.mono (Nat.min_le_right ..)).symm)
  rcases Int.lt_trichotomy T T' with hl | rfl | hl
  · exact ((h.RI c1 (T' - T).toNat T' hl (by omega) c2.1).mono (by omega)).symm
  · exact Agr.refl _ _
  · exact (h.RI c2 (T - T').toNat T hl (by omega) c1.1).mono (by omega)
theorem WF.match_ {g:Gh} {a b:List E} (ha:WF g a) (hb:WF g b) {k:Nat} {e f:E} (h1:a[k]? = some e) (h2:b[k]? = some f) (he:e.1 = f.1) : Agr (k + 1) a b := by
  have k1 := (ha k e h1).2
  have k2 := (hb k f h2).2
  rw [he] at k1
  exact k1.trans k2.symm
theorem Inv.one {N:Nat} {m:Nat → AM} {sent:Msg → Prop} {g:Gh} (h:Inv N m sent g) {i j:Nat} (hi:i < N) (hj:j < N) (ri:(m i).role = 2) (rj:(m j).role = 2) (ht:(m i).term = (m j).term) : i = j := by
  have h1 := (h.pr i hi ri).1
  have h2 := (h.pr j hj rj).1
  rw [ht,h2] at h1
  injection h1 with h1; exact h1.symm
/-! ### steps -/
section
variable {N:Nat} {m:Nat → AM} {sent sent':Msg → Prop} {g g':Gh} {i:Nat} {a:AM}
theorem Inv.quiet (h:Inv N m sent g) (hi:i < N) (ht:(m i).term ≤ a.term) (hl:a.log = (m i).log) (h2:a.role = 2 → (m i).role = 2 ∧ a.term = (m i).term ∧ ∀ j,j < N → a.mat j ≤ g.A j a.term) (k2:(m i).role = 2 → a.term = (m i).term → a.role = 2)
    (hv:g.vt i a.term = a.fG) (h1:a.role = 1 → (m i).role = 1 ∧ a.term = (m i).term ∧ ∀ j,j < N → a.jd j = true → (m i).jd j = true ∨ (g.vt j (m i).term = some i ∧ VP m g j (m i).term (m i).log)) (hc:a.commit ≤ (m i).log.length ∧ Cm N g (m i).log a.commit) : Inv N (upd m i a) sent g where
  wl j hj := by
    by_cases e:j = i
    · subst e; rw [upd_same,hl]; exact h.wl j hj
    · rw [upd_ne e]; exact h.wl j hj
  wt j hj := by
    by_cases e:j = i
    · subst e; rw [upd_same,hl]; exact fun k e he=>Int.le_trans (h.wt j hj k e he) ht
    · rw [upd_ne e]; exact h.wt j hj
  wg := h.wg
  pr j hj := by
    by_cases e:j = i
    · subst e; rw [upd_same]; intro hr
      obtain ⟨r1,r2,r3⟩ := h2 hr
      obtain ⟨p1,p2,_⟩ := h.pr j hj r1
      exact ⟨by rw [r2]; exact p1,by rw [r2,hl]; exact p2,r3⟩
    · rw [upd_ne e]; exact h.pr j hj
  dl T c hT := by
    obtain ⟨d1,d2,d3⟩ := h.dl T c hT
    refine ⟨d1,Int.le_trans d2 (gu ht c),?_⟩
    by_cases e:c = i
    · subst e; rw [upd_same]; intro q
      have e2:(m c).term = T := by omega
      exact k2 (d3 e2) (by omega)
    · rw [upd_ne e]; exact d3
  ac j hj T hA := by
    obtain ⟨d1,d2,d3⟩ := h.ac j hj T hA
    exact ⟨d1,Int.le_trans d2 (gu ht j),d3⟩
  lg j hj T n hn := by
    rcases h.lg j hj T n hn with q | q
    · left
      by_cases e:j = i
      · subst e; rw [upd_same,hl]; exact q
      · rw [upd_ne e]; exact q
    · exact .inr (q.up (gu ht j))
  vn j hj T hT := h.vn j hj T (Int.lt_of_le_of_lt (gu ht j) hT)
  vc j hj := by
    by_cases e:j = i
    · subst e; rw [upd_same]; exact hv
    · rw [upd_ne e]; exact h.vc j hj
  ca j hj := by
    by_cases e:j = i
    · subst e; rw [upd_same]; intro hr
      obtain ⟨r1,r2,r3⟩ := h1 hr
      obtain ⟨c1,c2,c3,c4,c5⟩ := h.ca j hj r1
      rw [r2,hl]
      rw [r2,h.vc j hj] at hv
      refine ⟨by rw [← hv]; exact c1,c2,c3,c4,fun k hk hq=>?_⟩
      have := (r3 k hk hq).elim (fun q=>c5 k hk q) id
      exact ⟨this.1,this.2.up (gu ht k)⟩
    · rw [upd_ne e]; intro hr
      obtain ⟨c1,c2,c3,c4,c5⟩ := h.ca j hj hr
      exact ⟨c1,c2,c3,c4,fun k hk hq=>⟨(c5 k hk hq).1,(c5 k hk hq).2.up (gu ht k)⟩⟩
  qs T c hT := by
    obtain ⟨q1,q2⟩ := h.qs T c hT
    exact ⟨q1,fun j hj hq=>⟨(q2 j hj hq).1,Int.le_trans (q2 j hj hq).2.1 (gu ht j),(q2 j hj hq).2.2⟩⟩
  mv f t T n last hs := by
    obtain ⟨q1,q2,q3⟩ := h.mv f t T n last hs
    exact ⟨q1,Int.le_trans q2 (gu ht f),q3⟩
  md f t T hs := by
    obtain ⟨q1,q2,q3,q4,q5⟩ := h.md f t T hs
    exact ⟨q1,q2,Int.le_trans q3 (gu ht t),q4,q5.up (gu ht f)⟩
  ma := h.ma
  mr := h.mr
  ps := h.ps
  t0 j hj := by
    by_cases e:j = i
    · subst e; rw [upd_same]
      exact ⟨Int.le_trans (h.t0 j hj).1 ht,fun hr=>by have := (h.t0 j hj).2 (h1 hr).1; omega⟩
    · rw [upd_ne e]; exact h.t0 j hj
  cm j hj := by
    by_cases e:j = i
    · subst e; rw [upd_same,hl]; exact hc
    · rw [upd_ne e]; exact h.cm j hj
theorem Inv.send (h:Inv N m sent g) (hi:i < N) (hr:(m i).role = 2) (hs:∀ x,sent' x → sent x ∨ ∃ t n last es,x = .app i t (m i).term n last (m i).commit es ∧ n + es.length ≤ (m i).log.length ∧ last = bef (m i).log n ∧ ∀ k,k < es.length → es[k]? = (m i).log[n + k]?) : Inv N m sent' g where
  wl := h.wl
  wt := h.wt
  wg := h.wg
  pr := h.pr
  dl := h.dl
  ac := h.ac
  lg := h.lg
  vn := h.vn
  vc := h.vc
  ca := h.ca
  qs := h.qs
  mv f t T n last q := (hs _ q).elim (h.mv f t T n last) fun ⟨_,_,_,_,e,_⟩=>by cases e
  md f t T q := (hs _ q).elim (h.md f t T) fun ⟨_,_,_,_,e,_⟩=>by cases e
  ma f t T n last com es q := (hs _ q).elim (h.ma f t T n last com es) fun ⟨t',n',last',es',e,e1,e2,e3⟩=>by
    cases e
    obtain ⟨p1,p2,_⟩ := h.pr i hi hr
    rw [p2]
    exact ⟨⟨i,p1⟩,e1,e2,e3,(h.cm i hi).1,(h.cm i hi).2⟩
  mr f t T n q := (hs _ q).elim (h.mr f t T n) fun ⟨_,_,_,_,e,_⟩=>by cases e
  ps := h.ps
  t0 := h.t0
  cm := h.cm
/-- nothing is sent that was not -/
theorem Inv.less (h:Inv N m sent g) (hs:∀ x,sent' x → sent x) : Inv N m sent' g where
  wl := h.wl
  wt := h.wt
  wg := h.wg
  pr := h.pr
  dl := h.dl
  ac := h.ac
  lg := h.lg
  vn := h.vn
  vc := h.vc
  ca := h.ca
  qs := h.qs
  mv f t T n last q := h.mv f t T n last (hs _ q)
  md f t T q := h.md f t T (hs _ q)
  ma f t T n last com es q := h.ma f t T n last com es (hs _ q)
  mr f t T n q := h.mr f t T n (hs _ q)
  ps := h.ps
  t0 := h.t0
  cm := h.cm
theorem Inv.Yh (h:Inv N m sent g) (hi:i < N) (ht:a.term = (m i).term + 1) (hl:a.log = (m i).log) (hr:a.role = 1) (hv:a.fG = some i) (hc:a.commit = (m i).commit) (hvs:∀ j,a.jd j = true → j = i)
    (hs:∀ x,sent' x → sent x ∨ ∃ t,x = .fG i t a.term (m i).log.length (bef (m i).log (m i).log.length)) :
    Inv N (upd m i a) sent' { g with K := fun c T=>if c = i ∧ T = a.term then (m i).log else g.K c T,vt := fun j T=>if j = i ∧ T = a.term then some i else g.vt j T } := by
  have hup:∀ j,(m j).term ≤ (upd m i a j).term := gu (by omega)
  have hK:∀ c T,T ≤ (m c).term → (if c = i ∧ T = a.term then (m i).log else g.K c T) = g.K c T := fun c T q=>if_neg fun ⟨e1,e2⟩=>by subst e1; omega
  have hV:∀ j T,j < N → T ≤ (m j).term → (if j = i ∧ T = a.term then some i else g.vt j T) = g.vt j T := fun c T _ q=>if_neg fun ⟨e1,e2⟩=>by subst e1; omega
  have hVP:∀ j T K,VP m g j T K → VP (upd m i a) { g with K := fun c T=>if c = i ∧ T = a.term then (m i).log else g.K c T,vt := fun j T=>if j = i ∧ T = a.term then some i else g.vt j T } j T K := fun j T K q=>⟨Int.le_trans q.1 (hup j),q.2⟩
  refine ⟨fun j hj=>?_,fun j hj=>?_,h.wg,fun j hj=>?_,fun T c hT=>?_,fun j hj T hA=>?_,fun j hj T n hn=>?_,fun j hj T hT=>?_,fun j hj=>?_,fun j hj=>?_,fun T c hT=>?_,fun f t T n last q=>?_,fun f t T q=>?_,fun f t T n last com es q=>?_,fun f t T n q=>?_,h.ps,fun j hj=>?_,fun j hj=>?_⟩
  · by_cases e:j = i
    · subst e; rw [upd_same,hl]; exact h.wl j hj
    · rw [upd_ne e]; exact h.wl j hj
  · by_cases e:j = i
    · subst e; rw [upd_same,hl]; exact fun k e he=>by have := h.wt j hj k e he; omega
    · rw [upd_ne e]; exact h.wt j hj
  · by_cases e:j = i
    · subst e; rw [upd_same,hr]; intro hq; cases hq
    · rw [upd_ne e]; exact h.pr j hj
  · obtain ⟨d1,d2,d3⟩ := h.dl T c hT
    refine ⟨d1,Int.le_trans d2 (hup c),?_⟩
    by_cases e:c = i
    · subst e; rw [upd_same]; intro q; omega
    · rw [upd_ne e]; exact d3
  · obtain ⟨d1,d2,d3⟩ := h.ac j hj T hA
    exact ⟨d1,Int.le_trans d2 (hup j),d3⟩
  · rcases h.lg j hj T n hn with q | q
    · left
      by_cases e:j = i
      · subst e; rw [upd_same,hl]; exact q
      · rw [upd_ne e]; exact q
    · exact .inr (q.up (hup j))
  · have h1 := h.vn j hj T (Int.lt_of_le_of_lt (hup j) hT)
    show (if j = i ∧ T = a.term then some i else g.vt j T) = none
    rw [if_neg,h1]
    rintro ⟨rfl,e2⟩
    rw [upd_same] at hT; omega
  · show (if j = i ∧ (upd m i a j).term = a.term then some i else g.vt j (upd m i a j).term) = (upd m i a j).fG
    by_cases e:j = i
    · subst e; rw [upd_same,if_pos ⟨rfl,rfl⟩,hv]
    · rw [upd_ne e,if_neg fun q=>e q.1]; exact h.vc j hj
  · by_cases e:j = i
    · subst e; rw [upd_same]; intro _
      refine ⟨hv,?_,?_,?_,fun k hk hq=>?_⟩
      · show (if j = j ∧ a.term = a.term then (m j).log else _) = _
        rw [if_pos ⟨rfl,rfl⟩,hl]
      · rw [hl]; exact fun k e he=>by have := h.wt j hj k e he; omega
      · intro hq
        have := (h.dl a.term j hq).2.1
        omega
      · obtain rfl := hvs k hq
        refine ⟨if_pos ⟨rfl,rfl⟩,by rw [upd_same]; exact Int.le_refl _,fun T0 n h1 h2 h3=>?_⟩
        rw [hl]
        exact (h.lg k hk T0 n h2).imp id fun q=>zi.up (C := a.term) q (by omega)
    · rw [upd_ne e]; intro hq
      obtain ⟨c1,c2,c3,c4,c5⟩ := h.ca j hj hq
      refine ⟨c1,(hK j _ (Int.le_refl _)).trans c2,c3,c4,fun k hk hq=>⟨?_,hVP _ _ _ (c5 k hk hq).2⟩⟩
      exact (hV k _ hk (c5 k hk hq).2.1).trans (c5 k hk hq).1
  · obtain ⟨q1,q2⟩ := h.qs T c hT
    exact ⟨q1,fun j hj hq=>⟨(hV j T hj (q2 j hj hq).2.1).trans (q2 j hj hq).1,Int.le_trans (q2 j hj hq).2.1 (hup j),(q2 j hj hq).2.2⟩⟩
  · rcases hs _ q with q | ⟨t',e⟩
    · obtain ⟨q1,q2,q3⟩ := h.mv f t T n last q
      refine ⟨q1,Int.le_trans q2 (hup f),?_⟩
      show n = (if f = i ∧ T = a.term then (m i).log else g.K f T).length ∧ last = bef (if f = i ∧ T = a.term then (m i).log else g.K f T) n ∧ WF g (if f = i ∧ T = a.term then (m i).log else g.K f T) ∧ Bel (if f = i ∧ T = a.term then (m i).log else g.K f T) (T - 1)
      rw [hK f T q2]; exact q3
    · cases e
      refine ⟨hi,by rw [upd_same]; exact Int.le_refl _,?_⟩
      show (m i).log.length = (if i = i ∧ a.term = a.term then (m i).log else g.K i a.term).length ∧ bef (m i).log (m i).log.length = bef (if i = i ∧ a.term = a.term then (m i).log else g.K i a.term) (m i).log.length ∧ WF g (if i = i ∧ a.term = a.term then (m i).log else g.K i a.term) ∧ Bel (if i = i ∧ a.term = a.term then (m i).log else g.K i a.term) (a.term - 1)
      rw [if_pos ⟨rfl,rfl⟩]
      exact ⟨rfl,rfl,h.wl i hi,fun k e he=>by have := h.wt i hi k e he; omega⟩
  · rcases hs _ q with q | ⟨t',e⟩
    · obtain ⟨q1,q2,q3,q4,q5⟩ := h.md f t T q
      refine ⟨q1,q2,Int.le_trans q3 (hup t),(hV f T q1 q5.1).trans q4,?_⟩
      have := hVP _ _ _ q5
      rw [← hK t T q3] at this
      exact this
    · cases e
  · exact (hs _ q).elim (h.ma f t T n last com es) fun ⟨_,e⟩=>by cases e
  · exact (hs _ q).elim (h.mr f t T n) fun ⟨_,e⟩=>by cases e
  · by_cases e:j = i
    · subst e; rw [upd_same]; have := (h.t0 j hj).1; exact ⟨by omega,fun _=>by omega⟩
    · rw [upd_ne e]; exact h.t0 j hj
  · by_cases e:j = i
    · subst e; rw [upd_same,hl,hc]; exact h.cm j hj
    · rw [upd_ne e]; exact h.cm j hj
theorem U0 {l:List E} {n:Nat} (h0 : 0 < n) (h:n ≤ l.length) : ∃ e,l[n - 1]? = some e ∧ bef l n = e.1 := by
  refine ⟨l[n - 1]'(by omega),List.getElem?_eq_getElem (by omega),?_⟩
  unfold bef
  rw [if_neg (by omega),List.getElem?_eq_getElem (by omega)]
theorem Inv.vp (h:Inv N m sent g) (hi:i < N) {c t n:Nat} {last:Int} (hm:sent (.fG c t (m i).term n last)) (hn:bef (m i).log (m i).log.length < last ∨ last = bef (m i).log (m i).log.length ∧ (m i).log.length ≤ n) : VP m g i (m i).term (g.K c (m i).term) := by
  obtain ⟨_,_,k1,k2,k3,k4⟩ := h.mv _ _ _ _ _ hm
  refine ⟨Int.le_refl _,fun T0 p h1 h2 ⟨h3,e0,h4,h5⟩=>?_⟩
  refine (h.lg i hi T0 p h2).elim (fun q=>?_) .inr
  obtain ⟨dT0,_,hlen⟩ := h.ac i hi T0 (by omega)
  have b0 := (h.wg T0 dT0).2
  have p0 := h.ps T0 dT0
  have hp0 := q (p - 1) (by omega)
  rw [h4] at hp0
  have hlp := (List.getElem?_eq_some_iff.1 hp0).1
  obtain ⟨e1,f1,f2⟩ := U0 (l := (m i).log) (n := (m i).log.length) (by omega) (Nat.le_refl _)
  obtain ⟨d1,w1⟩ := h.wl i hi _ e1 f1
  have f3:(g.G e1.1)[p - 1]? = some e0 := by rw [← w1 (p - 1) (by omega)]; exact hp0
  have f4 := (h.wg _ d1).2 _ _ f3
  generalize g.K c (m i).term = K at *
  have hK : 0 < n := by
    rcases Nat.eq_zero_or_pos n with e | e
    · exfalso
      have:last = 0 := by rw [k2,e]; rfl
      omega
    · exact e
  obtain ⟨eK,g1,g2⟩ := U0 (l := K) (n := n) hK (by omega)
  rw [← k2] at g2
  obtain ⟨dK,wK⟩ := k3 _ eK g1
  have tK := k4 _ _ g1
  rw [show n - 1 + 1 = n by omega] at wK
  rcases Int.lt_or_le T0 eK.1 with hl | hl
  · refine Classical.byContradiction fun hno=>?_
    rw [not_or] at hno
    obtain ⟨hno1,hno2⟩ := hno
    apply hno1
    intro k hk
    refine Classical.byContradiction fun hne=>hno2 ?_
    obtain ⟨b,hb⟩ : ∃ b,(g.G T0)[k]? = some b := ⟨_,List.getElem?_eq_getElem (by omega)⟩
    by_cases hkn:k < n
    · obtain ⟨x, hx⟩ : ∃ x, K[k]? = some x := ⟨_, List.getElem?_eq_getElem (by omega)⟩
      refine ⟨eK.1,hl,by omega,dK,dT0,k,x,b,hk,by rw [← wK k hkn]; exact hx,hb,fun e=>hne (by rw [hx,hb,e])⟩
    · obtain ⟨b', hb'⟩ : ∃ b, (g.G T0)[n - 1]? = some b := ⟨_, List.getElem?_eq_getElem (by omega)⟩
      refine ⟨eK.1,hl,by omega,dK,dT0,n - 1,eK,b',by omega,by rw [← wK (n - 1) (by omega)]; exact g1,hb',fun e=>?_⟩
      have := b0 _ _ hb'
      rw [← e] at this; omega
  · left
    have e1':eK.1 = T0 := by omega
    rw [e1'] at wK
    exact wK.mono (by omega)
theorem Inv.grant (h:Inv N m sent g) (hi:i < N) (ht:a.term = (m i).term) (hl:a.log = (m i).log) (hr:a.role = (m i).role) (hc:a.commit = (m i).commit) (hvs:a.jd = (m i).jd) (hmt:a.mat = (m i).mat) {c t n:Nat} {last:Int} (hv:a.fG = some c) (hw:(m i).fG = none ∨ (m i).fG = some c)
    (hm:sent (.fG c t (m i).term n last)) (hn:bef (m i).log (m i).log.length < last ∨ last = bef (m i).log (m i).log.length ∧ (m i).log.length ≤ n) (hs:∀ x,sent' x → sent x ∨ x = .lH i c (m i).term) :
    Inv N (upd m i a) sent' { g with vt := fun j T=>if j = i ∧ T = (m i).term then some c else g.vt j T } := by
  have hup:∀ j,(m j).term ≤ (upd m i a j).term := gu (by omega)
  have hvc := h.vc i hi
  have hV:∀ j T x,g.vt j T = some x → (if j = i ∧ T = (m i).term then some c else g.vt j T) = some x := fun j T x q=>by
    split
    · rename_i e
      obtain ⟨rfl,rfl⟩ := e
      rw [hvc] at q
      rcases hw with e | e
      · rw [e] at q; cases q
      · rw [← q,e]
    · exact q
  have hvp := h.vp hi hm hn
  obtain ⟨cN,cT,_⟩ := h.mv _ _ _ _ _ hm
  have hVP:∀ j T K,VP m g j T K → VP (upd m i a) { g with vt := fun j T=>if j = i ∧ T = (m i).term then some c else g.vt j T } j T K := fun j T K q=>⟨Int.le_trans q.1 (hup j),q.2⟩
  have hsame:∀ j,(upd m i a j).term = (m j).term ∧ (upd m i a j).log = (m j).log ∧ (upd m i a j).role = (m j).role ∧ (upd m i a j).commit = (m j).commit ∧ (upd m i a j).jd = (m j).jd ∧ (upd m i a j).mat = (m j).mat := fun j=>by
    by_cases e:j = i
    · subst e; rw [upd_same]; exact ⟨ht,hl,hr,hc,hvs,hmt⟩
    · rw [upd_ne e]; exact ⟨rfl,rfl,rfl,rfl,rfl,rfl⟩
  refine ⟨fun j hj=>?_,fun j hj=>?_,h.wg,fun j hj=>?_,fun T c hT=>?_,fun j hj T hA=>?_,fun j hj T n hn=>?_,fun j hj T hT=>?_,fun j hj=>?_,fun j hj=>?_,fun T c hT=>?_,fun f t T n last q=>?_,fun f t T q=>?_,fun f t T n last com es q=>?_,fun f t T n q=>?_,h.ps,fun j hj=>?_,fun j hj=>?_⟩
  · rw [(hsame j).2.1]; exact h.wl j hj
  · rw [(hsame j).2.1,(hsame j).1]; exact h.wt j hj
  · obtain ⟨e1,e2,e3,_,_,e6⟩ := hsame j
    rw [e1,e2,e3,e6]; exact h.pr j hj
  · rw [(hsame c).1,(hsame c).2.2.1]; exact h.dl T c hT
  · rw [(hsame j).1]; exact h.ac j hj T hA
  · rw [(hsame j).1,(hsame j).2.1]; exact h.lg j hj T n hn
  · rw [(hsame j).1] at hT
    show (if j = i ∧ T = (m i).term then some c else g.vt j T) = none
    rw [if_neg (by rintro ⟨rfl,rfl⟩; omega)]; exact h.vn j hj T hT
  · show (if j = i ∧ (upd m i a j).term = (m i).term then some c else g.vt j (upd m i a j).term) = (upd m i a j).fG
    rw [(hsame j).1]
    by_cases e:j = i
    · subst e; rw [upd_same,if_pos ⟨rfl,rfl⟩,hv]
    · rw [upd_ne e,if_neg fun q=>e q.1]; exact h.vc j hj
  · obtain ⟨e1,e2,e3,_,e5,_⟩ := hsame j
    rw [e1,e2,e3,e5]; intro hq
    obtain ⟨c1,c2,c3,c4,c5⟩ := h.ca j hj hq
    refine ⟨?_,c2,c3,c4,fun k hk hq=>⟨hV _ _ _ (c5 k hk hq).1,hVP _ _ _ (c5 k hk hq).2⟩⟩
    by_cases e:j = i
    · subst e; rw [upd_same,hv]
      rcases hw with e | e
      · rw [e] at c1; cases c1
      · rw [← e,c1]
    · rw [upd_ne e]; exact c1
  · obtain ⟨q1,q2⟩ := h.qs T c hT
    exact ⟨q1,fun j hj hq=>⟨hV _ _ _ (q2 j hj hq).1,Int.le_trans (q2 j hj hq).2.1 (hup j),(q2 j hj hq).2.2⟩⟩
  · rcases hs _ q with q | e
    · rw [(hsame f).1]; exact h.mv f t T n last q
    · cases e
  · rcases hs _ q with q | e
    · obtain ⟨q1,q2,q3,q4,q5⟩ := h.md f t T q
      exact ⟨q1,q2,Int.le_trans q3 (hup t),hV _ _ _ q4,hVP _ _ _ q5⟩
    · cases e
      exact ⟨hi,cN,Int.le_trans cT (hup _),if_pos ⟨rfl,rfl⟩,hVP _ _ _ hvp⟩
  · exact (hs _ q).elim (h.ma f t T n last com es) fun e=>by cases e
  · exact (hs _ q).elim (h.mr f t T n) fun e=>by cases e
  · rw [(hsame j).1,(hsame j).2.2.1]; exact h.t0 j hj
  · rw [(hsame j).2.1,(hsame j).2.2.2.1]; exact h.cm j hj
end
/-! ### steps by which a primary's log or what was acknowledged grows -/
structure Mon (N:Nat) (m:Nat → AM) (g g':Gh) : Prop where
  ld:∀ T c,g.ld T = some c → g'.ld T = some c
  G:∀ T,D g T → ∀ (k:Nat) (e:E),(g.G T)[k]? = some e → (g'.G T)[k]? = some e
  Q:∀ T,D g T → g'.Q T = g.Q T
  K:g'.K = g.K
  vt:g'.vt = g.vt
  A:∀ j,j < N → ∀ T,g.A j T ≤ g'.A j T
  F:∀ j,j < N → ∀ T,T < (m j).term → g'.A j T = g.A j T
section
variable {N:Nat} {m m':Nat → AM} {sent sent':Msg → Prop} {g g':Gh}
theorem Mon.D (k:Mon N m g g') {T:Int} (h:D g T) : D g' T := ⟨_,k.ld T _ h.choose_spec⟩
theorem Mon.agr (k:Mon N m g g') {T:Int} (h:Raft.D g T) {n:Nat} (hn:n ≤ (g.G T).length) {l:List E} (ha:Agr n l (g.G T)) : Agr n l (g'.G T) := fun j hj=>by
  have e:(g.G T)[j]? = some ((g.G T)[j]'(by omega)) := List.getElem?_eq_getElem (by omega)
  rw [ha j hj,e,k.G T h j _ e]
theorem Mon.wf (k:Mon N m g g') {l:List E} (h:WF g l) : WF g' l := fun j e he=>by
  obtain ⟨d,w⟩ := h j e he
  refine ⟨k.D d,k.agr d ?_ w⟩
  have := w j (Nat.lt_succ_self j)
  rw [he] at this
  have := (List.getElem?_eq_some_iff.1 this.symm).1
  omega
theorem Mon.conf (k:Mon N m g g') {T:Int} {n:Nat} {B:Int} (h:zi g T n B) : zi g' T n B := by
  obtain ⟨T',h1,h2,h3,h4,j,a,b,h5,h6,h7,h8⟩ := h
  exact ⟨T',h1,h2,k.D h3,k.D h4,j,a,b,h5,k.G T' h3 j a h6,k.G T h4 j b h7,h8⟩
theorem Mon.fin (k:Mon N m g g') {T:Int} {n:Nat} (d:Raft.D g T) (h:Fin g T n) : Fin g' T n := by
  obtain ⟨h1,e,h2,h3⟩ := h
  exact ⟨h1,e,k.G T d _ e h2,h3⟩
theorem Mon.RJ (k:Mon N m g g') {T:Int} {n:Nat} (d:Raft.D g T) (hn:n ≤ (g.G T).length) (h:Fin g' T n) : Fin g T n := by
  obtain ⟨h1,e,h2,h3⟩ := h
  have e2:(g.G T)[n - 1]? = some ((g.G T)[n - 1]'(by omega)) := List.getElem?_eq_getElem (by omega)
  have h4 := k.G T d _ _ e2
  rw [h2] at h4
  injection h4 with h4
  exact ⟨h1,_,e2,by rw [← h4]; exact h3⟩
theorem Mon.com (k:Mon N m g g') {T:Int} {n:Nat} (h:Com N g T n) : Com N g' T n :=
  ⟨k.D h.1,k.fin h.1 h.2.1,F5 h.2.2 fun i hi hq=>decide_eq_true (Nat.le_trans (of_decide_eq_true hq) (k.A i hi T))⟩
theorem Com.len {N:Nat} {g:Gh} {T:Int} {n:Nat} (h:Com N g T n) : n ≤ (g.G T).length := by
  obtain ⟨_,⟨h1,e,h2,_⟩,_⟩ := h
  have := (List.getElem?_eq_some_iff.1 h2).1
  omega
theorem Mon.cm (k:Mon N m g g') {l:List E} {n:Nat} (h:Cm N g l n) : Cm N g' l n := by
  rcases h with h | ⟨T,p,h1,h2,h3⟩
  · exact .inl h
  · exact .inr ⟨T,p,k.com h1,h2,k.agr h1.1 (Nat.le_trans h2 h1.len) h3⟩
theorem Cm.down {N:Nat} {g:Gh} {l:List E} {n p:Nat} (h:Cm N g l n) (hp:p ≤ n) : Cm N g l p := by
  rcases h with h | ⟨T,q,h1,h2,h3⟩
  · exact .inl (by omega)
  · exact .inr ⟨T,q,h1,by omega,h3.mono hp⟩
theorem Cm.agr {N:Nat} {g:Gh} {l l':List E} {n:Nat} (h:Cm N g l n) (ha:Agr n l' l) : Cm N g l' n := by
  rcases h with h | ⟨T,q,h1,h2,h3⟩
  · exact .inl h
  · exact .inr ⟨T,q,h1,h2,ha.trans h3⟩
/-- what a fG meant, it means afterwards -/
theorem Inv.old (h:Inv N m sent g) (k:Mon N m g g') {j:Nat} (hj:j < N) {T0:Int} (ht:T0 < (m j).term) {n:Nat} (hn:n ≤ g'.A j T0) (hf:Fin g' T0 n) : n ≤ g.A j T0 ∧ D g T0 ∧ n ≤ (g.G T0).length ∧ Fin g T0 n := by
  rw [k.F j hj T0 ht] at hn
  obtain ⟨d,_,hl⟩ := h.ac j hj T0 (by have := hf.1; omega)
  exact ⟨hn,d,by omega,k.RJ d (by omega) hf⟩
theorem Inv.RN (h:Inv N m sent g) (k:Mon N m g g') (hup:∀ j,(m j).term ≤ (m' j).term) {j:Nat} (hj:j < N) {T:Int} {K:List E} (q:VP m g j T K) : VP m' g' j T K :=
  ⟨Int.le_trans q.1 (hup j),fun T0 n h1 h2 h3=>by
    obtain ⟨k1,k2,k3,k4⟩ := h.old k hj (Int.lt_of_lt_of_le h1 q.1) h2 h3
    exact (q.2 T0 n h1 k1 k4).imp (k.agr k2 k3) k.conf⟩
theorem Inv.Il (h:Inv N m sent g) (k:Mon N m g g') (hup:∀ j,(m j).term ≤ (m' j).term) {T:Int} {c:Nat} (hT:g.ld T = some c) : quo N (g'.Q T) ∧ ∀ j,j < N → g'.Q T j = true → g'.vt j T = some c ∧ T ≤ (m' j).term ∧ ∀ T0 n,T0 < T → n ≤ g'.A j T0 → Fin g' T0 n → Agr n (g'.G T) (g'.G T0) ∨ zi g' T0 n (T - 1) := by
  obtain ⟨q1,q2⟩ := h.qs T c hT
  rw [k.Q T ⟨c,hT⟩,k.vt]
  refine ⟨q1,fun j hj hq=>?_⟩
  obtain ⟨r1,r2,r3⟩ := q2 j hj hq
  refine ⟨r1,Int.le_trans r2 (hup j),fun T0 n h1 h2 h3=>?_⟩
  obtain ⟨k1,k2,k3,k4⟩ := h.old k hj (Int.lt_of_lt_of_le h1 r2) h2 h3
  refine (r3 T0 n h1 k1 k4).imp (fun ha=>?_) k.conf
  refine k.agr k2 k3 fun p hp=>?_
  have e:(g.G T0)[p]? = some ((g.G T0)[p]'(by omega)) := List.getElem?_eq_getElem (by omega)
  rw [e]
  exact k.G T ⟨c,hT⟩ p _ ((ha p hp).trans e)
theorem Inv.Io (h:Inv N m sent g) (k:Mon N m g g') {f t:Nat} {T:Int} {n:Nat} {last:Int} {com:Nat} {es:List E} (q:sent (.app f t T n last com es)) : D g' T ∧ n + es.length ≤ (g'.G T).length ∧ last = bef (g'.G T) n ∧ (∀ k,k < es.length → es[k]? = (g'.G T)[n + k]?) ∧ com ≤ (g'.G T).length ∧ Cm N g' (g'.G T) com := by
  obtain ⟨d,h1,h2,h3,h4,h5⟩ := h.ma f t T n last com es q
  have hk:Agr (g.G T).length (g.G T) (g'.G T) := k.agr d (Nat.le_refl _) (Agr.refl _ _)
  have hl:(g.G T).length ≤ (g'.G T).length := by
    rcases Nat.eq_zero_or_pos (g.G T).length with e | e
    · omega
    · have e1 := hk ((g.G T).length - 1) (by omega)
      rw [List.getElem?_eq_getElem (by omega)] at e1
      have := (List.getElem?_eq_some_iff.1 e1.symm).1
      omega
  refine ⟨k.D d,by omega,?_,fun p hp=>(h3 p hp).trans (hk _ (by omega)),by omega,(k.cm h5).agr (hk.mono h4).symm⟩
  rw [h2]
  unfold bef
  rcases Nat.eq_zero_or_pos n with e | e
  · rw [if_pos e,if_pos e]
  · rw [hk (n - 1) (by omega)]
theorem Inv.Ip (h:Inv N m sent g) (k:Mon N m g g') (hup:∀ j,(m j).term ≤ (m' j).term) {j:Nat} (hj:j < N) (hr:(m j).role = 1) (hld:g'.ld (m j).term ≠ some j) : (m j).fG = some j ∧ g'.K j (m j).term = (m j).log ∧ Bel (m j).log ((m j).term - 1) ∧ g'.ld (m j).term ≠ some j ∧ ∀ i,i < N → (m j).jd i = true → g'.vt i (m j).term = some j ∧ VP m' g' i (m j).term (m j).log := by
  obtain ⟨c1,c2,c3,c4,c5⟩ := h.ca j hj hr
  rw [k.K,k.vt]
  exact ⟨c1,c2,c3,hld,fun i hi hq=>⟨(c5 i hi hq).1,h.RN k hup hi (c5 i hi hq).2⟩⟩
theorem Inv.Iq (h:Inv N m sent g) (k:Mon N m g g') (hup:∀ j,(m j).term ≤ (m' j).term) {f t:Nat} {T:Int} (q:sent (.lH f t T)) : f < N ∧ t < N ∧ T ≤ (m' t).term ∧ g'.vt f T = some t ∧ VP m' g' f T (g'.K t T) := by
  obtain ⟨q1,q2,q3,q4,q5⟩ := h.md f t T q
  rw [k.K,k.vt]
  exact ⟨q1,q2,Int.le_trans q3 (hup t),q4,h.RN k hup q1 q5⟩
theorem Inv.Ir (h:Inv N m sent g) (k:Mon N m g g') (hup:∀ j,(m j).term ≤ (m' j).term) {f t:Nat} {T:Int} {n:Nat} {last:Int} (q:sent (.fG f t T n last)) : f < N ∧ T ≤ (m' f).term ∧ n = (g'.K f T).length ∧ last = bef (g'.K f T) n ∧ WF g' (g'.K f T) ∧ Bel (g'.K f T) (T - 1) := by
  obtain ⟨q1,q2,q3,q4,q5,q6⟩ := h.mv f t T n last q
  rw [k.K]
  exact ⟨q1,Int.le_trans q2 (hup f),q3,q4,k.wf q5,q6⟩
theorem Inv.CQ (h:Inv N m sent g) (k:Mon N m g g') {j:Nat} (hj:j < N) {T:Int} {n:Nat} (hn:n ≤ g.A j T) : Agr n (m j).log (g'.G T) ∨ zi g' T n (m j).term := by
  rcases Nat.eq_zero_or_pos n with e | e
  · subst e; exact .inl (Agr.zero _ _)
  obtain ⟨d,_,hl⟩ := h.ac j hj T (by omega)
  exact (h.lg j hj T n hn).imp (k.agr d (by omega)) k.conf
end
section
variable {N:Nat} {m:Nat → AM} {sent sent':Msg → Prop} {g g':Gh} {i:Nat} {a:AM}
theorem Inv.F6 (h:Inv N m sent g) (hi:i < N) (hr:(m i).role = 1) (hq:quo N (m i).jd) : g.ld (m i).term = none := by
  cases hc:g.ld (m i).term with
  | none=>rfl
  | some c =>
    obtain ⟨q1,q2⟩ := h.qs _ c hc
    obtain ⟨_,_,_,c4,c5⟩ := h.ca i hi hr
    obtain ⟨j,hj,k1,k2⟩ := JG hq q1
    have e1 := (c5 j hj k1).1
    rw [(q2 j hj k2).1] at e1
    rw [hc] at c4
    exact absurd e1 c4
theorem Inv.win (h:Inv N m sent g) (hi:i < N) (ht:a.term = (m i).term) (hl:a.log = (m i).log) (hr0:(m i).role = 1) (hr:a.role = 2) (hv:a.fG = (m i).fG) (hc:a.commit = (m i).commit) (hq:quo N (m i).jd) (hmt:∀ j,j < N → a.mat j ≤ if j = i then (m i).log.length else 0) :
    Inv N (upd m i a) sent { g with ld := fun T=>if T = (m i).term then some i else g.ld T,G := fun T=>if T = (m i).term then (m i).log else g.G T,Q := fun T=>if T = (m i).term then (m i).jd else g.Q T,A := fun j T=>if j = i ∧ T = (m i).term then (m i).log.length else g.A j T } := by
  have hn := h.F6 hi hr0 hq
  have nD:∀ T,D g T → T ≠ (m i).term := fun T ⟨c,e⟩ q=>by rw [q,hn] at e; cases e
  have A0:∀ j,j < N → g.A j (m i).term = 0 := fun j hj=>by
    rcases Nat.eq_zero_or_pos (g.A j (m i).term) with e | e
    · exact e
    · exact absurd rfl (nD _ (h.ac j hj _ e).1)
  have hup:∀ j,(m j).term ≤ (upd m i a j).term := gu (by omega)
  obtain ⟨g',hg'⟩ : ∃ g':Gh,g' = { g with ld := fun T=>if T = (m i).term then some i else g.ld T,G := fun T=>if T = (m i).term then (m i).log else g.G T,Q := fun T=>if T = (m i).term then (m i).jd else g.Q T,A := fun j T=>if j = i ∧ T = (m i).term then (m i).log.length else g.A j T } := ⟨_,rfl⟩
  rw [← hg']
  have l1:g'.ld (m i).term = some i := by rw [hg']; exact if_pos rfl
  have l2:∀ T,T ≠ (m i).term → g'.ld T = g.ld T := fun T e=>by rw [hg']; exact if_neg e
  have G1:g'.G (m i).term = (m i).log := by rw [hg']; exact if_pos rfl
  have G2:∀ T,T ≠ (m i).term → g'.G T = g.G T := fun T e=>by rw [hg']; exact if_neg e
  have Q1:g'.Q (m i).term = (m i).jd := by rw [hg']; exact if_pos rfl
  have Q2:∀ T,T ≠ (m i).term → g'.Q T = g.Q T := fun T e=>by rw [hg']; exact if_neg e
  have A1:g'.A i (m i).term = (m i).log.length := by rw [hg']; exact if_pos ⟨rfl,rfl⟩
  have A2:∀ j T,¬ (j = i ∧ T = (m i).term) → g'.A j T = g.A j T := fun j T e=>by rw [hg']; exact if_neg e
  have k : Mon N m g g' := ⟨fun T c e => by rw [l2 T (nD T ⟨c, e⟩)]; exact e, fun T d p e he => by rw [G2 T (nD T d)]; exact he, fun T d => Q2 T (nD T d), by rw [hg'], by rw [hg'], fun j hj T => by
      by_cases e:j = i ∧ T = (m i).term
      · obtain ⟨rfl,rfl⟩ := e; rw [A0 j hj]; exact Nat.zero_le _
      · rw [A2 j T e]; exact Nat.le_refl _,fun j hj T e=>A2 j T fun ⟨e1,e2⟩=>by subst e1; omega⟩
  have hK:g'.K = g.K := k.K
  have hV:g'.vt = g.vt := k.vt
  have hD:∀ T,D g' T → T = (m i).term ∨ D g T := fun T ⟨c,e⟩=>by
    by_cases q:T = (m i).term
    · exact .inl q
    · rw [l2 T q] at e; exact .inr ⟨c,e⟩
  obtain ⟨c1,c2,c3,c4,c5⟩ := h.ca i hi hr0
  clear hg'
  refine ⟨fun j hj=>?_,fun j hj=>?_,fun T hT=>?_,fun j hj=>?_,fun T c hT=>?_,fun j hj T hA=>?_,fun j hj T n hn=>?_,fun j hj T hT=>?_,fun j hj=>?_,fun j hj=>?_,fun T c hT=>?_,fun f t T n last q=>h.Ir k hup q,fun f t T q=>h.Iq k hup q,fun f t T n last com es q=>h.Io k q,fun f t T n q=>⟨(h.mr f t T n q).1,Nat.le_trans (h.mr f t T n q).2 (k.A f (h.mr f t T n q).1 T)⟩,fun T hT=>?_,fun j hj=>?_,fun j hj=>?_⟩
  · by_cases e:j = i
    · subst e; rw [upd_same,hl]; exact k.wf (h.wl j hj)
    · rw [upd_ne e]; exact k.wf (h.wl j hj)
  · by_cases e:j = i
    · subst e; rw [upd_same,hl,ht]; exact h.wt j hj
    · rw [upd_ne e]; exact h.wt j hj
  · rcases hD T hT with rfl | d
    · rw [G1]; exact ⟨k.wf (h.wl i hi),h.wt i hi⟩
    · rw [G2 T (nD T d)]; exact ⟨k.wf (h.wg T d).1,(h.wg T d).2⟩
  · by_cases e:j = i
    · subst e; rw [upd_same,ht,hl]; intro _
      refine ⟨l1,G1,fun p hp=>Nat.le_trans (hmt p hp) ?_⟩
      split
      · rename_i e; subst e; rw [A1]; exact Nat.le_refl _
      · exact Nat.zero_le _
    · rw [upd_ne e]; intro hq
      obtain ⟨p1,p2,p3⟩ := h.pr j hj hq
      have := nD _ ⟨j,p1⟩
      exact ⟨by rw [l2 _ this]; exact p1,by rw [G2 _ this]; exact p2,fun p hp=>Nat.le_trans (p3 p hp) (k.A p hp _)⟩
  · by_cases e:T = (m i).term
    · subst e; rw [l1] at hT; injection hT with hT; subst hT
      rw [upd_same]; exact ⟨hi,by omega,fun _=>hr⟩
    · rw [l2 T e] at hT
      obtain ⟨d1,d2,d3⟩ := h.dl T c hT
      refine ⟨d1,Int.le_trans d2 (hup c),?_⟩
      by_cases e:c = i
      · subst e; rw [upd_same]; intro _; exact hr
      · rw [upd_ne e]; exact d3
  · by_cases e:j = i ∧ T = (m i).term
    · obtain ⟨rfl,rfl⟩ := e; rw [A1,G1]; exact ⟨⟨j,l1⟩,hup j,Nat.le_refl _⟩
    · rw [A2 j T e] at hA ⊢
      obtain ⟨d1,d2,d3⟩ := h.ac j hj T hA
      exact ⟨k.D d1,Int.le_trans d2 (hup j),by rw [G2 T (nD T d1)]; exact d3⟩
  · by_cases e:j = i ∧ T = (m i).term
    · obtain ⟨rfl,rfl⟩ := e; rw [G1,upd_same,hl]; exact .inl (Agr.refl _ _)
    · rw [A2 j T e] at hn
      have := h.CQ k hj hn
      by_cases e:j = i
      · subst e; rw [upd_same,hl,ht]; exact this
      · rw [upd_ne e]; exact this
  · rw [hV]; exact h.vn j hj T (Int.lt_of_le_of_lt (hup j) hT)
  · rw [hV]
    by_cases e:j = i
    · subst e; rw [upd_same,ht,hv]; exact h.vc j hj
    · rw [upd_ne e]; exact h.vc j hj
  · by_cases e:j = i
    · subst e; rw [upd_same,hr]; intro q; cases q
    · rw [upd_ne e]; intro q
      refine h.Ip k hup hj q ?_
      by_cases e2:(m j).term = (m i).term
      · rw [e2,l1]; intro q; injection q with q; exact e q.symm
      · rw [l2 _ e2]; exact (h.ca j hj q).2.2.2.1
  · by_cases e:T = (m i).term
    · subst e; rw [l1] at hT; injection hT with hT; subst hT
      rw [Q1,hV,G1]
      refine ⟨hq,fun j hj hjv=>?_⟩
      obtain ⟨r1,r2,r3⟩ := c5 j hj hjv
      refine ⟨r1,Int.le_trans r2 (hup j),fun T0 n h1 h2 h3=>?_⟩
      obtain ⟨k1,k2,k3,k4⟩ := h.old k hj (Int.lt_of_lt_of_le h1 r2) h2 h3
      rcases r3 T0 n h1 k1 k4 with q | ⟨T',q1,q2,q3,q4⟩
      · exact .inl (k.agr k2 k3 q)
      · have := nD T' q3
        exact .inr (k.conf ⟨T',q1,by omega,q3,q4⟩)
    · rw [l2 T e] at hT; exact h.Il k hup hT
  · rcases hD T hT with rfl | d
    · exact (h.t0 i hi).2 hr0
    · exact h.ps T d
  · by_cases e:j = i
    · subst e; rw [upd_same,ht,hr]; exact ⟨(h.t0 j hj).1,fun q=>by cases q⟩
    · rw [upd_ne e]; exact h.t0 j hj
  · by_cases e:j = i
    · subst e; rw [upd_same,hl,hc]; exact ⟨(h.cm j hj).1,k.cm (h.cm j hj).2⟩
    · rw [upd_ne e]; exact ⟨(h.cm j hj).1,k.cm (h.cm j hj).2⟩
theorem Inv.push (h:Inv N m sent g) (hi:i < N) (ht:a.term = (m i).term) {st:Int} (hl:a.log = (m i).log ++ [((m i).term,st)]) (hr0:(m i).role = 2) (hr:a.role = 2) (hv:a.fG = (m i).fG) (hc:a.commit = (m i).commit) (hmt:∀ j,j < N → a.mat j ≤ if j = i then (m i).log.length + 1 else (m i).mat j) :
    Inv N (upd m i a) sent { g with G := fun T=>if T = (m i).term then a.log else g.G T,A := fun j T=>if j = i ∧ T = (m i).term then (m i).log.length + 1 else g.A j T } := by
  obtain ⟨ld1,Gi,mi⟩ := h.pr i hi hr0
  have hup:∀ j,(m j).term ≤ (upd m i a j).term := gu (by omega)
  obtain ⟨g',hg'⟩ : ∃ g':Gh,g' = { g with G := fun T=>if T = (m i).term then a.log else g.G T,A := fun j T=>if j = i ∧ T = (m i).term then (m i).log.length + 1 else g.A j T } := ⟨_,rfl⟩
  rw [← hg']
  have l1:g'.ld = g.ld := by rw [hg']
  have G1:g'.G (m i).term = a.log := by rw [hg']; exact if_pos rfl
  have G2:∀ T,T ≠ (m i).term → g'.G T = g.G T := fun T e=>by rw [hg']; exact if_neg e
  have A1:g'.A i (m i).term = (m i).log.length + 1 := by rw [hg']; exact if_pos ⟨rfl,rfl⟩
  have A2:∀ j T,¬ (j = i ∧ T = (m i).term) → g'.A j T = g.A j T := fun j T e=>by rw [hg']; exact if_neg e
  have hll:a.log.length = (m i).log.length + 1 := by rw [hl,List.length_append]; rfl
  have hlk:∀ k,k < (m i).log.length → a.log[k]? = (m i).log[k]? := fun k hk=>by rw [hl,List.getElem?_append_left hk]
  have k : Mon N m g g' := ⟨fun T c e => by rw [l1]; exact e, fun T d p e he => by
      by_cases q:T = (m i).term
      · subst q; rw [G1]; rw [Gi] at he; rw [hlk p (List.getElem?_eq_some_iff.1 he).1]; exact he
      · rw [G2 T q]; exact he,fun T d=>by rw [hg'],by rw [hg'],by rw [hg'],fun j hj T=>by
      by_cases e:j = i ∧ T = (m i).term
      · obtain ⟨rfl,rfl⟩ := e
        rw [A1]
        rcases Nat.eq_zero_or_pos (g.A j (m j).term) with e | e
        · omega
        · have := (h.ac j hj _ e).2.2; rw [Gi] at this; omega
      · rw [A2 j T e]; exact Nat.le_refl _,fun j hj T e=>A2 j T fun ⟨e1,e2⟩=>by subst e1; omega⟩
  have hK:g'.K = g.K := k.K
  have hV:g'.vt = g.vt := k.vt
  have hD:∀ T,D g' T → D g T := fun T ⟨c,e⟩=>by rw [l1] at e; exact ⟨c,e⟩
  clear hg'
  have wL:WF g' a.log := fun p e he=>by
    have hp := (List.getElem?_eq_some_iff.1 he).1
    by_cases q:p < (m i).log.length
    · rw [hlk p q] at he
      obtain ⟨d,w⟩ := k.wf (h.wl i hi) p e he
      exact ⟨d,fun j hj=>by rw [hlk j (by omega)]; exact w j hj⟩
    · have e2 : p = (m i).log.length := by omega
      subst e2
      rw [hl,List.getElem?_append_right (Nat.le_refl _),Nat.sub_self] at he
      injection he with he
      subst he
      exact ⟨k.D ⟨i,ld1⟩,by show Agr _ _ (g'.G (m i).term); rw [G1]; exact Agr.refl _ _⟩
  have bL:Bel a.log (m i).term := fun p e he=>by
    have hp := (List.getElem?_eq_some_iff.1 he).1
    by_cases q:p < (m i).log.length
    · rw [hlk p q] at he; exact h.wt i hi p e he
    · have e2 : p = (m i).log.length := by omega
      subst e2
      rw [hl,List.getElem?_append_right (Nat.le_refl _),Nat.sub_self] at he
      injection he with he
      subst he; exact Int.le_refl _
  refine ⟨fun j hj=>?_,fun j hj=>?_,fun T hT=>?_,fun j hj=>?_,fun T c hT=>?_,fun j hj T hA=>?_,fun j hj T n hn=>?_,fun j hj T hT=>?_,fun j hj=>?_,fun j hj=>?_,fun T c hT=>?_,fun f t T n last q=>h.Ir k hup q,fun f t T q=>h.Iq k hup q,fun f t T n last com es q=>h.Io k q,fun f t T n q=>⟨(h.mr f t T n q).1,Nat.le_trans (h.mr f t T n q).2 (k.A f (h.mr f t T n q).1 T)⟩,fun T hT=>h.ps T (hD T hT),fun j hj=>?_,fun j hj=>?_⟩
  · by_cases e:j = i
    · subst e; rw [upd_same]; exact wL
    · rw [upd_ne e]; exact k.wf (h.wl j hj)
  · by_cases e:j = i
    · subst e; rw [upd_same,ht]; exact bL
    · rw [upd_ne e]; exact h.wt j hj
  · by_cases e:T = (m i).term
    · subst e; rw [G1]; exact ⟨wL,bL⟩
    · rw [G2 T e]; exact ⟨k.wf (h.wg T (hD T hT)).1,(h.wg T (hD T hT)).2⟩
  · by_cases e:j = i
    · subst e; rw [upd_same,ht]; intro _
      refine ⟨by rw [l1]; exact ld1,G1,fun p hp=>Nat.le_trans (hmt p hp) ?_⟩
      split
      · rename_i e; subst e; rw [A1]; exact Nat.le_refl _
      · exact Nat.le_trans (mi p hp) (k.A p hp _)
    · rw [upd_ne e]; intro hq
      obtain ⟨p1,p2,p3⟩ := h.pr j hj hq
      refine ⟨by rw [l1]; exact p1,?_,fun p hp=>Nat.le_trans (p3 p hp) (k.A p hp _)⟩
      rw [G2 _ fun e2=>e (by rw [e2,ld1] at p1; injection p1 with p1; exact p1.symm)]; exact p2
  · rw [l1] at hT
    obtain ⟨d1,d2,d3⟩ := h.dl T c hT
    refine ⟨d1,Int.le_trans d2 (hup c),?_⟩
    by_cases e:c = i
    · subst e; rw [upd_same]; intro _; exact hr
    · rw [upd_ne e]; exact d3
  · by_cases e:j = i ∧ T = (m i).term
    · obtain ⟨rfl,rfl⟩ := e; rw [A1,G1,hll]; exact ⟨k.D ⟨j,ld1⟩,hup j,Nat.le_refl _⟩
    · rw [A2 j T e] at hA ⊢
      obtain ⟨d1,d2,d3⟩ := h.ac j hj T hA
      refine ⟨k.D d1,Int.le_trans d2 (hup j),Nat.le_trans d3 ?_⟩
      by_cases q:T = (m i).term
      · subst q; rw [G1,Gi,hll]; omega
      · rw [G2 T q]; exact Nat.le_refl _
  · by_cases e:j = i ∧ T = (m i).term
    · obtain ⟨rfl,rfl⟩ := e; rw [G1,upd_same]; exact .inl (Agr.refl _ _)
    · rw [A2 j T e] at hn
      by_cases e:j = i
      · subst e; rw [upd_same,ht]
        refine (h.CQ k hj hn).imp (fun q=>?_) id
        rcases Nat.eq_zero_or_pos n with e0 | e0
        · subst e0; exact Agr.zero _ _
        obtain ⟨_,_,hl3⟩ := h.ac j hj T (by omega)
        have q0 := (h.lg j hj T n hn)
        refine Agr.trans (fun p hp=>hlk p ?_) q
        have e9 := q p hp
        have hG:∃ x,(g'.G T)[p]? = some x := by
          by_cases q:T = (m j).term
          · exact (e ⟨rfl,q⟩).elim
          · rw [G2 T q]; exact ⟨_,List.getElem?_eq_getElem (by omega)⟩
        obtain ⟨x,hx⟩ := hG
        rw [hx] at e9
        exact (List.getElem?_eq_some_iff.1 e9).1
      · rw [upd_ne e]; exact h.CQ k hj hn
  · rw [hV]; exact h.vn j hj T (Int.lt_of_le_of_lt (hup j) hT)
  · rw [hV]
    by_cases e:j = i
    · subst e; rw [upd_same,ht,hv]; exact h.vc j hj
    · rw [upd_ne e]; exact h.vc j hj
  · by_cases e:j = i
    · subst e; rw [upd_same,hr]; intro q; cases q
    · rw [upd_ne e]; intro q
      exact h.Ip k hup hj q (by rw [l1]; exact (h.ca j hj q).2.2.2.1)
  · rw [l1] at hT; exact h.Il k hup hT
  · by_cases e:j = i
    · subst e; rw [upd_same,ht,hr]; exact ⟨(h.t0 j hj).1,fun q=>by cases q⟩
    · rw [upd_ne e]; exact h.t0 j hj
  · by_cases e:j = i
    · subst e; rw [upd_same,hc,hll]
      have := h.cm j hj
      exact ⟨by omega,(k.cm this.2).agr fun p hp=>hlk p (by omega)⟩
    · rw [upd_ne e]; exact ⟨(h.cm j hj).1,k.cm (h.cm j hj).2⟩
theorem Inv.take (h:Inv N m sent g) (hi:i < N) (ht:a.term = (m i).term) (hr0:(m i).role ≠ 2) (hr:a.role ≠ 1 ∧ a.role ≠ 2) (hv:a.fG = (m i).fG) {f t n p:Nat} {last:Int} {com:Nat} {es:List E} (hm:sent (.app f t (m i).term n last com es)) (hn:n ≤ (m i).log.length) (hb:bef (m i).log n = last) (hp:n ≤ p) (hp2:p ≤ (m i).log.length)
    (hs1:∀ k,n ≤ k → k < p → k < n + es.length → (m i).log[k]? = es[k - n]?) (hs2:p < (m i).log.length → p < n + es.length ∧ (m i).log[p]? ≠ es[p - n]? ∧ (m i).commit ≤ p) (hl:a.log = (m i).log.take p ++ es.drop (p - n)) (hc:a.commit = max (m i).commit (min com (n + es.length)))
    (hs:∀ x,sent' x → sent x ∨ ∃ q,x = .vN i q (m i).term (n + es.length)) :
    Inv N (upd m i a) sent' { g with A := fun j T=>if j = i ∧ T = (m i).term then max (g.A i T) (n + es.length) else g.A j T } := by
  obtain ⟨dT,h1,h2,h3,h4,h5⟩ := h.ma f t _ n last com es hm
  obtain ⟨wG,bG⟩ := h.wg _ dT
  have hup:∀ j,(m j).term ≤ (upd m i a j).term := gu (by omega)
  obtain ⟨c1,c2⟩ := h.cm i hi
  have hcp:(m i).commit ≤ p := by
    rcases Nat.lt_or_ge p (m i).log.length with e | e
    · exact (hs2 e).2.2
    · omega
  have agn:Agr n (m i).log (g.G (m i).term) := by
    rcases Nat.eq_zero_or_pos n with e | e
    · rw [e]; exact Agr.zero _ _
    · obtain ⟨x,x1,x2⟩ := U0 e hn
      obtain ⟨y,y1,y2⟩ := U0 (l := g.G (m i).term) e (by omega)
      have := (h.wl i hi).match_ wG x1 y1 (by rw [← x2,← y2,hb,h2])
      exact this.mono (by omega)
  have eq1:∀ k,k < p → k < n + es.length → (m i).log[k]? = (g.G (m i).term)[k]? := fun k k1 k2=>by
    rcases Nat.lt_or_ge k n with e | e
    · exact agn k e
    · rw [hs1 k e k1 k2,h3 (k - n) (by omega),show n + (k - n) = k by omega]
  have Llen:a.log.length = p + (es.length - (p - n)) := by rw [hl,List.length_append,List.length_take,List.length_drop,Nat.min_eq_left hp2]
  have L2:∀ k,k < p → a.log[k]? = (m i).log[k]? := fun k hk=>by
    rw [hl,List.getElem?_append_left (by rw [List.length_take]; omega),List.getElem?_take,if_pos hk]
  have L1:∀ k,k < n + es.length → a.log[k]? = (g.G (m i).term)[k]? := fun k hk=>by
    rcases Nat.lt_or_ge k p with e | e
    · rw [L2 k e]; exact eq1 k e hk
    · rw [hl,List.getElem?_append_right (by rw [List.length_take]; omega),List.length_take,Nat.min_eq_left hp2,List.getElem?_drop,show p - n + (k - p) = k - n by omega,h3 (k - n) (by omega),show n + (k - n) = k by omega]
  have L3:∀ k e,a.log[k]? = some e → p ≤ k → k < n + es.length := fun k e he hk=>by
    have := (List.getElem?_eq_some_iff.1 he).1; omega
  have wL:WF g a.log := fun k e he=>by
    rcases Nat.lt_or_ge k p with q | q
    · rw [L2 k q] at he
      obtain ⟨d,w⟩ := h.wl i hi k e he
      exact ⟨d,fun j hj=>by rw [L2 j (by omega)]; exact w j hj⟩
    · have q2 := L3 k e he q
      rw [L1 k q2] at he
      obtain ⟨d,w⟩ := wG k e he
      exact ⟨d,fun j hj=>by rw [L1 j (by omega)]; exact w j hj⟩
  have bL:Bel a.log (m i).term := fun k e he=>by
    rcases Nat.lt_or_ge k p with q | q
    · rw [L2 k q] at he; exact h.wt i hi k e he
    · rw [L1 k (L3 k e he q)] at he; exact bG k e he
  obtain ⟨g',hg'⟩ : ∃ g':Gh,g' = { g with A := fun j T=>if j = i ∧ T = (m i).term then max (g.A i T) (n + es.length) else g.A j T } := ⟨_,rfl⟩
  rw [← hg']
  have l1:g'.ld = g.ld := by rw [hg']
  have G1:g'.G = g.G := by rw [hg']
  have A1:g'.A i (m i).term = max (g.A i (m i).term) (n + es.length) := by rw [hg']; exact if_pos ⟨rfl,rfl⟩
  have A2:∀ j T,¬ (j = i ∧ T = (m i).term) → g'.A j T = g.A j T := fun j T e=>by rw [hg']; exact if_neg e
  have k : Mon N m g g' := ⟨fun T c e => by rw [l1]; exact e, fun T d p e he => by rw [G1]; exact he, fun T d => by rw [hg'], by rw [hg'], by rw [hg'], fun j hj T => by
      by_cases e:j = i ∧ T = (m i).term
      · obtain ⟨rfl,rfl⟩ := e; rw [A1]; exact Nat.le_max_left ..
      · rw [A2 j T e]; exact Nat.le_refl _,fun j hj T e=>A2 j T fun ⟨e1,e2⟩=>by subst e1; omega⟩
  have hV:g'.vt = g.vt := k.vt
  have hD:∀ T,D g' T → D g T := fun T ⟨c,e⟩=>by rw [l1] at e; exact ⟨c,e⟩
  clear hg'
  refine ⟨fun j hj=>?_,fun j hj=>?_,fun T hT=>?_,fun j hj=>?_,fun T c hT=>?_,fun j hj T hA=>?_,fun j hj T q hq=>?_,fun j hj T hT=>?_,fun j hj=>?_,fun j hj=>?_,fun T c hT=>?_,fun f t T n last q=>?_,fun f t T q=>?_,fun f t T n last com es q=>?_,fun f' t T q' q=>?_,fun T hT=>h.ps T (hD T hT),fun j hj=>?_,fun j hj=>?_⟩
  · by_cases e:j = i
    · subst e; rw [upd_same]; exact k.wf wL
    · rw [upd_ne e]; exact k.wf (h.wl j hj)
  · by_cases e:j = i
    · subst e; rw [upd_same,ht]; exact bL
    · rw [upd_ne e]; exact h.wt j hj
  · rw [G1]; exact ⟨k.wf (h.wg T (hD T hT)).1,(h.wg T (hD T hT)).2⟩
  · by_cases e:j = i
    · subst e; rw [upd_same]; intro q; exact absurd q hr.2
    · rw [upd_ne e]; intro hq
      obtain ⟨p1,p2,p3⟩ := h.pr j hj hq
      exact ⟨by rw [l1]; exact p1,by rw [G1]; exact p2,fun p hp=>Nat.le_trans (p3 p hp) (k.A p hp _)⟩
  · rw [l1] at hT
    obtain ⟨d1,d2,d3⟩ := h.dl T c hT
    refine ⟨d1,Int.le_trans d2 (hup c),?_⟩
    by_cases e:c = i
    · subst e; rw [upd_same,ht]; intro q; exact absurd (d3 q) hr0
    · rw [upd_ne e]; exact d3
  · by_cases e:j = i ∧ T = (m i).term
    · obtain ⟨rfl,rfl⟩ := e
      rw [A1,G1]
      refine ⟨k.D dT,hup j,Nat.max_le.2 ⟨?_,h1⟩⟩
      rcases Nat.eq_zero_or_pos (g.A j (m j).term) with e | e
      · omega
      · exact (h.ac j hj _ e).2.2
    · rw [A2 j T e] at hA ⊢
      obtain ⟨d1,d2,d3⟩ := h.ac j hj T hA
      exact ⟨k.D d1,Int.le_trans d2 (hup j),by rw [G1]; exact d3⟩
  · by_cases e:j = i
    · subst e
      rw [upd_same,ht,G1]
      by_cases eT:T = (m j).term
      · subst eT
        left
        rw [A1] at hq
        rcases Nat.lt_or_ge (n + es.length) q with e1 | e1
        · have hq2 : q ≤ g.A j (m j).term := by omega
          obtain ⟨_,_,hlen⟩ := h.ac j hj _ (by omega : 0 < g.A j (m j).term)
          rcases h.lg j hj _ q hq2 with ha | ⟨T',r1,r2,_⟩
          · have hlq:q ≤ (m j).log.length := by
              have := ha (q - 1) (by omega)
              rw [List.getElem?_eq_getElem (l := g.G (m j).term) (by omega)] at this
              have := (List.getElem?_eq_some_iff.1 this).1
              omega
            have hpe:p = (m j).log.length := by
              rcases Nat.lt_or_ge p (m j).log.length with e2 | e2
              · obtain ⟨r1,r2,_⟩ := hs2 e2
                exact absurd (by rw [ha p (by omega),h3 (p - n) (by omega),show n + (p - n) = p by omega]) r2
              · omega
            exact fun x hx=>by rw [L2 x (by omega)]; exact ha x hx
          · omega
        · exact fun x hx=>L1 x (by omega)
      · rw [A2 j T fun e=>eT e.2] at hq
        rcases Nat.eq_zero_or_pos q with e0 | e0
        · subst e0; exact .inl (Agr.zero _ _)
        obtain ⟨d1,d2,d3⟩ := h.ac j hj T (by omega)
        rcases h.lg j hj T q hq with ha | ha
        · rcases Nat.lt_or_ge p q with e1 | e1
          · right
            have hlq:q ≤ (m j).log.length := by
              have := ha (q - 1) (by omega)
              rw [List.getElem?_eq_getElem (l := g.G T) (by omega)] at this
              have := (List.getElem?_eq_some_iff.1 this).1
              omega
            obtain ⟨r1,r2,_⟩ := hs2 (by omega)
            obtain ⟨x,hx⟩ : ∃ x,(g.G (m j).term)[p]? = some x := ⟨_,List.getElem?_eq_getElem (by omega)⟩
            obtain ⟨y,hy⟩ : ∃ y,(g.G T)[p]? = some y := ⟨_,List.getElem?_eq_getElem (by omega)⟩
            refine k.conf ⟨(m j).term,by omega,Int.le_refl _,dT,d1,p,x,y,e1,hx,hy,fun e=>r2 ?_⟩
            rw [ha p e1,hy,h3 (p - n) (by omega),show n + (p - n) = p by omega,hx,e]
          · exact .inl fun x hx=>by rw [L2 x (by omega)]; exact ha x hx
        · exact .inr (k.conf ha)
    · rw [A2 j T fun q=>e q.1] at hq
      rw [upd_ne e]; exact h.CQ k hj hq
  · rw [hV]; exact h.vn j hj T (Int.lt_of_le_of_lt (hup j) hT)
  · rw [hV]
    by_cases e:j = i
    · subst e; rw [upd_same,ht,hv]; exact h.vc j hj
    · rw [upd_ne e]; exact h.vc j hj
  · by_cases e:j = i
    · subst e; rw [upd_same]; intro q; exact absurd q hr.1
    · rw [upd_ne e]; intro q
      exact h.Ip k hup hj q (by rw [l1]; exact (h.ca j hj q).2.2.2.1)
  · rw [l1] at hT; exact h.Il k hup hT
  · rcases hs _ q with q | ⟨_,e⟩
    · exact h.Ir k hup q
    · cases e
  · rcases hs _ q with q | ⟨_,e⟩
    · exact h.Iq k hup q
    · cases e
  · rcases hs _ q with q | ⟨_,e⟩
    · exact h.Io k q
    · cases e
  · rcases hs _ q with q | ⟨_,e⟩
    · exact ⟨(h.mr f' t T q' q).1,Nat.le_trans (h.mr f' t T q' q).2 (k.A f' (h.mr f' t T q' q).1 T)⟩
    · cases e
      exact ⟨hi,by rw [A1]; exact Nat.le_max_right ..⟩
  · by_cases e:j = i
    · subst e; rw [upd_same,ht]; exact ⟨(h.t0 j hj).1,fun q=>absurd q hr.1⟩
    · rw [upd_ne e]; exact h.t0 j hj
  · by_cases e:j = i
    · subst e; rw [upd_same,hc]
      refine ⟨by omega,?_⟩
      rcases Nat.le_total (m j).commit (min com (n + es.length)) with e | e
      · rw [Nat.max_eq_right e]
        exact ((k.cm (h5.down (Nat.min_le_left ..)))).agr fun x hx=>L1 x (by omega)
      · rw [Nat.max_eq_left e]
        exact (k.cm c2).agr fun x hx=>L2 x (by omega)
    · rw [upd_ne e]; exact ⟨(h.cm j hj).1,k.cm (h.cm j hj).2⟩
end
/-! ### one member's steps -/
theorem jK (m:Nat → AM) (i:Nat) (a b:AM) : upd (upd m i a) i b = upd m i b := by
  funext j; unfold upd; split <;> rfl
theorem RP (m:Nat → AM) (i:Nat) : upd m i (m i) = m := by
  funext j; unfold upd; split
  · rename_i e; rw [e]
  · rfl
/-- member i may be a; who was primary is not forgotten -/
def Pr (N:Nat) (A:Nat → AM) (i:Nat) (g0:Gh) (sent:Msg → Prop) (a:AM) : Prop := ∃ g,Inv N (upd A i a) sent g ∧ ∀ T c,g0.ld T = some c → g.ld T = some c
section
variable {N:Nat} {A:Nat → AM} {i:Nat} {g0:Gh} {sent sent':Msg → Prop} {a b:AM}
theorem Pr.start (h:Inv N A sent g0) : Pr N A i g0 sent (A i) := ⟨g0,by rw [RP]; exact h,fun _ _ e=>e⟩
theorem Pr.less (h:Pr N A i g0 sent a) (hs:∀ x,sent' x → sent x) : Pr N A i g0 sent' a := by
  obtain ⟨g,h,k⟩ := h
  exact ⟨g,h.less hs,k⟩
theorem Pr.follow (hi:i < N) (h:Pr N A i g0 sent a) (ht:a.term < b.term) (hl:b.log = a.log) (hc:b.commit = a.commit) (hr:b.role = 0) (hv:b.fG = none) : Pr N A i g0 sent b := by
  obtain ⟨g,h,k⟩ := h
  refine ⟨g,?_,k⟩
  have := h.quiet (i := i) (a := b) hi (by rw [upd_same]; omega) (by rw [upd_same]; exact hl) (fun q=>by rw [hr] at q; cases q) (fun _ q=>by rw [upd_same] at q; omega) (by rw [hv]; exact h.vn i hi _ (by rw [upd_same]; exact ht)) (fun q=>by rw [hr] at q; cases q) (by rw [hc]; have := h.cm i hi; rw [upd_same] at this ⊢; exact this)
  rwa [jK] at this
theorem Pr.demote (hi:i < N) (h:Pr N A i g0 sent a) (ht:b.term = a.term) (hl:b.log = a.log) (hc:b.commit = a.commit) (hr:b.role = 0) (hr2:a.role ≠ 2) (hv:b.fG = a.fG) : Pr N A i g0 sent b := by
  obtain ⟨g,h,k⟩ := h
  refine ⟨g,?_,k⟩
  have := h.quiet (i := i) (a := b) hi (by rw [upd_same]; omega) (by rw [upd_same]; exact hl) (fun q=>by rw [hr] at q; cases q) (fun q=>by rw [upd_same] at q; exact absurd q hr2) (by have := h.vc i hi; rw [upd_same] at this; rw [hv,ht]; exact this) (fun q=>by rw [hr] at q; cases q) (by rw [hc]; have := h.cm i hi; rw [upd_same] at this ⊢; exact this)
  rwa [jK] at this
theorem Pr.record (hi:i < N) (h:Pr N A i g0 sent a) (ht:b.term = a.term) (hl:b.log = a.log) (hc:b.commit = a.commit) (hr:b.role = 1) (hr1:a.role = 1) (hv:b.fG = a.fG) {f:Nat} (hm:sent (.lH f i a.term)) (hvs:∀ j,b.jd j = true → a.jd j = true ∨ j = f) : Pr N A i g0 sent b := by
  obtain ⟨g,h,k⟩ := h
  refine ⟨g,?_,k⟩
  have hca := h.ca i hi
  rw [upd_same] at hca
  obtain ⟨c1,c2,_⟩ := hca hr1
  obtain ⟨_,_,_,d4,d5⟩ := h.md _ _ _ hm
  have := h.quiet (i := i) (a := b) hi (by rw [upd_same]; omega) (by rw [upd_same]; exact hl) (fun q => by rw [hr] at q; cases q) (fun q => by rw [upd_same, hr1] at q; cases q) (by have := h.vc i hi; rw [upd_same] at this; rw [hv, ht]; exact this) (fun _ => by
    rw [upd_same]
    refine ⟨hr1,ht,fun j hj hq=>?_⟩
    rcases hvs j hq with q | rfl
    · exact .inl q
    · exact .inr ⟨d4,by rw [c2] at d5; exact d5⟩) (by rw [hc]; have := h.cm i hi; rw [upd_same] at this ⊢; exact this)
  rwa [jK] at this
theorem Pr.ack (hi:i < N) (h:Pr N A i g0 sent a) (ht:b.term = a.term) (hl:b.log = a.log) (hc:b.commit = a.commit) (hr:b.role = 2) (hr2:a.role = 2) (hv:b.fG = a.fG) (hm:∀ j,j < N → b.mat j ≤ a.mat j ∨ ∃ t n,sent (.vN j t a.term n) ∧ b.mat j ≤ n) : Pr N A i g0 sent b := by
  obtain ⟨g,h,k⟩ := h
  refine ⟨g,?_,k⟩
  have hp := h.pr i hi
  rw [upd_same] at hp
  obtain ⟨_,_,p3⟩ := hp hr2
  have := h.quiet (i := i) (a := b) hi (by rw [upd_same]; omega) (by rw [upd_same]; exact hl) (fun _ => by
    rw [upd_same]
    refine ⟨hr2,ht,fun j hj=>?_⟩
    rw [ht]
    rcases hm j hj with q | ⟨t,n,q1,q2⟩
    · exact Nat.le_trans q (p3 j hj)
    · exact Nat.le_trans q2 (h.mr _ _ _ _ q1).2) (fun _ _=>hr) (by have := h.vc i hi; rw [upd_same] at this; rw [hv,ht]; exact this) (fun q=>by rw [hr] at q; cases q) (by rw [hc]; have := h.cm i hi; rw [upd_same] at this ⊢; exact this)
  rwa [jK] at this
theorem Pr.adv (hi:i < N) (h:Pr N A i g0 sent a) (ht:b.term = a.term) (hl:b.log = a.log) (hr:b.role = 2) (hr2:a.role = 2) (hv:b.fG = a.fG) (hm:b.mat = a.mat) (hc:b.commit = a.commit ∨ (0 < b.commit ∧ (∃ e,a.log[b.commit - 1]? = some e ∧ e.1 = a.term) ∧ quo N fun j=>decide (b.commit ≤ a.mat j))) : Pr N A i g0 sent b := by
  obtain ⟨g,h,k⟩ := h
  refine ⟨g,?_,k⟩
  have hp := h.pr i hi
  rw [upd_same] at hp
  obtain ⟨p1,p2,p3⟩ := hp hr2
  have := h.quiet (i := i) (a := b) hi (by rw [upd_same]; omega) (by rw [upd_same]; exact hl) (fun _ => by
    rw [upd_same]
    exact ⟨hr2,ht,fun j hj=>by rw [ht,hm]; exact p3 j hj⟩) (fun _ _=>hr) (by have := h.vc i hi; rw [upd_same] at this; rw [hv,ht]; exact this) (fun q=>by rw [hr] at q; cases q) (by
    rw [upd_same]
    rcases hc with hc | ⟨c1,⟨e,e1,e2⟩,c3⟩
    · rw [hc]; have := h.cm i hi; rw [upd_same] at this; exact this
    · have := (List.getElem?_eq_some_iff.1 e1).1
      refine ⟨by omega,.inr ⟨a.term,b.commit,⟨⟨i,p1⟩,⟨c1,e,by rw [p2]; exact e1,e2⟩,F5 c3 fun j hj q=>decide_eq_true (Nat.le_trans (of_decide_eq_true q) (p3 j hj))⟩,Nat.le_refl _,by rw [p2]; exact Agr.refl _ _⟩⟩)
  rwa [jK] at this
theorem Pr.win (hi:i < N) (h:Pr N A i g0 sent a) (ht:b.term = a.term) (hl:b.log = a.log) (hc:b.commit = a.commit) (hr:b.role = 2) (hr1:a.role = 1) (hv:b.fG = a.fG) (hq:quo N a.jd) (hm:∀ j,j < N → b.mat j ≤ if j = i then a.log.length else 0) : Pr N A i g0 sent b := by
  obtain ⟨g,h,k⟩ := h
  have := h.win (i := i) (a := b) hi (by rw [upd_same]; exact ht) (by rw [upd_same]; exact hl) (by rw [upd_same]; exact hr1) hr (by rw [upd_same]; exact hv) (by rw [upd_same]; exact hc) (by rw [upd_same]; exact hq) (by rw [upd_same]; exact hm)
  rw [jK] at this
  refine ⟨_,this,fun T c e=>?_⟩
  have hn := h.F6 hi (by rw [upd_same]; exact hr1) (by rw [upd_same]; exact hq)
  have e := k T c e
  show (if T = (upd A i a i).term then some i else g.ld T) = some c
  rw [if_neg (fun q=>by rw [q,hn] at e; cases e)]; exact e
theorem Pr.push (hi:i < N) (h:Pr N A i g0 sent a) (ht:b.term = a.term) {st:Int} (hl:b.log = a.log ++ [(a.term,st)]) (hc:b.commit = a.commit) (hr:b.role = 2) (hr2:a.role = 2) (hv:b.fG = a.fG) (hm:∀ j,j < N → b.mat j ≤ if j = i then a.log.length + 1 else a.mat j) : Pr N A i g0 sent b := by
  obtain ⟨g,h,k⟩ := h
  have := h.push (i := i) (a := b) hi (by rw [upd_same]; exact ht) (st := st) (by rw [upd_same]; exact hl) (by rw [upd_same]; exact hr2) hr (by rw [upd_same]; exact hv) (by rw [upd_same]; exact hc) (by rw [upd_same]; exact hm)
  rw [jK] at this
  exact ⟨_,this,k⟩
theorem Pr.Yh (hi:i < N) (h:Pr N A i g0 sent a) (ht:b.term = a.term + 1) (hl:b.log = a.log) (hr:b.role = 1) (hv:b.fG = some i) (hc:b.commit = a.commit) (hvs:∀ j,b.jd j = true → j = i) (hs:∀ x,sent' x → sent x ∨ ∃ t,x = .fG i t b.term a.log.length (bef a.log a.log.length)) : Pr N A i g0 sent' b := by
  obtain ⟨g,h,k⟩ := h
  have := h.Yh (i := i) (a := b) hi (by rw [upd_same]; exact ht) (by rw [upd_same]; exact hl) hr hv (by rw [upd_same]; exact hc) hvs (sent' := sent') (by rw [upd_same]; exact hs)
  rw [jK] at this
  exact ⟨_,this,k⟩
theorem Pr.grant (hi:i < N) (h:Pr N A i g0 sent a) (ht:b.term = a.term) (hl:b.log = a.log) (hr:b.role = a.role) (hc:b.commit = a.commit) (hvs:b.jd = a.jd) (hmt:b.mat = a.mat) {c t n:Nat} {last:Int} (hv:b.fG = some c) (hw:a.fG = none ∨ a.fG = some c) (hm:sent (.fG c t a.term n last)) (hn:bef a.log a.log.length < last ∨ last = bef a.log a.log.length ∧ a.log.length ≤ n) (hs:∀ x,sent' x → sent x ∨ x = .lH i c a.term) : Pr N A i g0 sent' b := by
  obtain ⟨g,h,k⟩ := h
  have := h.grant (i := i) (a := b) (sent' := sent') (c := c) (t := t) (n := n) (last := last) hi (by rw [upd_same]; exact ht) (by rw [upd_same]; exact hl) (by rw [upd_same]; exact hr) (by rw [upd_same]; exact hc) (by rw [upd_same]; exact hvs) (by rw [upd_same]; exact hmt) hv (by rw [upd_same]; exact hw) (by rw [upd_same]; exact hm) (by rw [upd_same]; exact hn) (by rw [upd_same]; exact hs)
  rw [jK] at this
  exact ⟨_,this,k⟩
theorem Pr.take (hi:i < N) (h:Pr N A i g0 sent a) (ht:b.term = a.term) (hr0:a.role ≠ 2) (hr:b.role ≠ 1 ∧ b.role ≠ 2) (hv:b.fG = a.fG) {f t n p:Nat} {last:Int} {com:Nat} {es:List E} (hm:sent (.app f t a.term n last com es)) (hn:n ≤ a.log.length) (hb:bef a.log n = last) (hp:n ≤ p) (hp2:p ≤ a.log.length)
    (hs1:∀ k,n ≤ k → k < p → k < n + es.length → a.log[k]? = es[k - n]?) (hs2:p < a.log.length → p < n + es.length ∧ a.log[p]? ≠ es[p - n]? ∧ a.commit ≤ p) (hl:b.log = a.log.take p ++ es.drop (p - n)) (hc:b.commit = max a.commit (min com (n + es.length))) (hs:∀ x,sent' x → sent x ∨ ∃ q,x = .vN i q a.term (n + es.length)) : Pr N A i g0 sent' b := by
  obtain ⟨g,h,k⟩ := h
  have := h.take (i := i) (a := b) (sent' := sent') (f := f) (t := t) (n := n) (p := p) (last := last) (com := com) (es := es) hi (by rw [upd_same]; exact ht) (by rw [upd_same]; exact hr0) hr (by rw [upd_same]; exact hv) (by rw [upd_same]; exact hm) (by rw [upd_same]; exact hn) (by rw [upd_same]; exact hb) hp (by rw [upd_same]; exact hp2) (by rw [upd_same]; exact hs1) (by rw [upd_same]; exact hs2) (by rw [upd_same]; exact hl) (by rw [upd_same]; exact hc) (by rw [upd_same]; exact hs)
  rw [jK] at this
  exact ⟨_,this,k⟩
theorem Pr.send (hi:i < N) (h:Pr N A i g0 sent a) (hr:a.role = 2) (hs:∀ x,sent' x → sent x ∨ ∃ t n last es,x = .app i t a.term n last a.commit es ∧ n + es.length ≤ a.log.length ∧ last = bef a.log n ∧ ∀ k,k < es.length → es[k]? = a.log[n + k]?) : Pr N A i g0 sent' a := by
  obtain ⟨g,h,k⟩ := h
  exact ⟨g,h.send (i := i) hi (by rw [upd_same]; exact hr) (by rw [upd_same]; exact hs),k⟩
end
def gh0:Gh := ⟨fun _=>none,fun _=>[],fun _ _=>[],fun _ _=>none,fun _ _=>0,fun _ _=>false⟩
theorem Inv.init (N:Nat) (m:Nat → AM) (h:∀ i,i < N → (m i).term = 0 ∧ (m i).fG = none ∧ (m i).role = 0 ∧ (m i).log = [] ∧ (m i).commit = 0) : Inv N m (fun _=>False) gh0 where
  wl i hi := by rw [(h i hi).2.2.2.1]; exact fun k e he=>by simp at he
  wt i hi := by rw [(h i hi).2.2.2.1]; exact fun k e he=>by simp at he
  wg T hT := by obtain ⟨c,e⟩ := hT; cases e
  pr i hi hr := by rw [(h i hi).2.2.1] at hr; cases hr
  dl T c e := by cases e
  ac i hi T hA := absurd hA (Nat.lt_irrefl _)
  lg i hi T n hn := by obtain rfl:n = 0 := Nat.le_zero.1 hn; exact .inl (Agr.zero _ _)
  vn i hi T _ := rfl
  vc i hi := by rw [(h i hi).2.1]; rfl
  ca i hi hr := by rw [(h i hi).2.2.1] at hr; cases hr
  qs T c e := by cases e
  mv f t T n last q := q.elim
  md f t T q := q.elim
  ma f t T n last com es q := q.elim
  mr f t T n q := q.elim
  ps T hT := by obtain ⟨c,e⟩ := hT; cases e
  t0 i hi := by rw [(h i hi).1,(h i hi).2.2.1]; exact ⟨Int.le_refl _,fun q=>by cases q⟩
  cm i hi := by rw [(h i hi).2.2.2.2]; exact ⟨Nat.zero_le _,.inl rfl⟩
end Raft
end Go.Proofs.YtdnafbfmaphhhaaGreatDoor
