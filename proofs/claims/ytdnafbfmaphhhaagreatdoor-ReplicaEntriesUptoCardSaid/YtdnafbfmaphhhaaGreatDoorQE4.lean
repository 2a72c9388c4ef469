/- What the printed models and proofs lean on. -/
import Derived.Test.YtdnafbfmaphhhaaGreatDoorQE2
import Derived.Test.YtdnafbfmaphhhaaGreatDoorQESnd
import Derived.Test.YtdnafbfmaphhhaaGreatDoorRows
import Derived.Lib.LaidU8T
import Derived.Test.YtdnafbfmaphhhaaGreatDoorCards
import Derived.Test.YtdnafbfmaphhhaaGreatDoorTie
import Derived.Test.YtdnafbfmaphhhaaGreatDoorQE1
import Derived.WalkKit
import Derived.ProofKit
import Derived.OpenShut
import Derived.Deep.DeepHandedRow
import Derived.Lib.LaidTab
import Derived.WideKeyArgs
import Derived.Lib.SmallJoins
import Derived.Test.YtdnafbfmaphhhaaGreatDoorQE3
set_option linter.unusedSimpArgs false
set_option linter.unusedVariables false
namespace Go.Proofs.YtdnafbfmaphhhaaGreatDoor
open Go.RowKit
def bM {α:Type} (l:List α) (i:Int) : Option α := if 0 ≤ i then l[i.toNat]? else none
def lM (s:ByteArray) (i:Int) : Option UInt8 := if 0 ≤ i then s[i.toNat]? else none
theorem aX {α:Type} {f g : α → List Lf} (e:∀ x,f x = g x) {l:List α} {i:Int} {v : α} (h:bM l i = some v) : 0 ≤ i ∧ (l.map f)[i.toNat]? = some (g v) := by
  unfold bM at h
  split at h
  · rename_i h0
    exact ⟨h0,by rw [List.getElem?_map,h,Option.map_some,e]⟩
  · cases h
theorem cu {α:Type} {f g : α → List Lf} (e:∀ x,f x = g x) {l:List α} {i:Int} {v : α} (h:bM l i = some v) : 0 ≤ i ∧ i.toNat < (l.map f).length :=
  ⟨(aX e h).1,(List.getElem?_eq_some_iff.1 (aX e h).2).1⟩
theorem iI {s:ByteArray} {i:Int} {v:UInt8} (h:lM s i = some v) : 0 ≤ i ∧ s[i.toNat]? = some v := by
  unfold lM at h
  split at h
  · rename_i h0; exact ⟨h0,h⟩
  · cases h
theorem Uc {α:Type} {p:Prop} [Decidable p] {a:Option α} {r : α} (h:(if p then a else none) = some r) : p ∧ a = some r := by
  split at h
  · exact ⟨by assumption,h⟩
  · cases h
/-- what holds of every ghost: the tables are there -/
def GI:Gh → Prop := fun I=>∀ w,Inv I w → Tabs w
theorem dK:Base Tryz.prog GI TTc := ⟨ah3,fun _ _ h k w hi=>k w (hi.le h),by kernel_rfl⟩
/-- fuel -/
theorem mX {α:Type} (f : α → List Lf) (l:List α) (n:Nat) : (l.drop n).map f = ((l.map f).take ((l.map f).length:Int).toNat).drop n := by rw [Int.toNat_natCast,List.take_length,List.map_drop]
theorem JY {α:Type} (f : α → List Lf) (l:List α) {lo:Int} (h : 0 ≤ lo ∧ lo ≤ (l.length:Int) ∧ (l.length:Int) ≤ (l.length:Int)) : 0 ≤ lo ∧ lo ≤ ((l.map f).length:Int) ∧ ((l.map f).length:Int) ≤ ((l.map f).length:Int) := by rw [List.length_map]; exact h
def FU:Nat := 1152921504606846976
theorem rf_ (s:St) : (some s:Option St) = some s := rfl
theorem lI_ (x:Int) : lfI x = lfI x := rfl
theorem lS_ (x:ByteArray) : lfS x = lfS x := rfl
theorem ln_ {α:Type} (l:List α) (f : α → List Lf) : l.length = (l.map f).length := by simp
theorem mk_ {P:Prop} (x:Int) (h:P) : x = x ∧ P := ⟨rfl,h⟩
theorem st_ {α:Type} {f g : α → List Lf} (e:∀ x,f x = g x) (l:List α) (i:Nat) (x : α) : (l.set i x).map f = (l.map f).set i (g x) := by simp [e]
theorem rp_ {α:Type} {f g : α → List Lf} (e:∀ x,f x = g x) (n:Nat) (x : α) : (List.replicate n x).map f = List.replicate n (g x) := by simp [e]
theorem ap_ {α:Type} {f g : α → List Lf} (e:∀ x,f x = g x) (l:List α) (x : α) : (l ++ [x]).map f = l.map f ++ [g x] := by simp [e]
theorem cp_ {α:Type} (f : α → List Lf) {l:List α} {x : α} {k n:Nat} (h:(l.length + [x].length) * k ≤ n) : ((l.map f).length + [f x].length) * k ≤ n := by simpa using h
theorem cq_ {α:Type} (f : α → List Lf) {l:List α} {k n:Nat} (h:(([] : List α).length + l.length) * k ≤ n) : (([] : List (List Lf)).length + (l.map f).length) * k ≤ n := by simpa using h
abbrev AV.i_ (x:Int) : AV := .lf (.int .i64 x)
abbrev AV.b_ (x:Bool) : AV := .lf (.bool x)
abbrev ag_ (l:List Lf) (s:List (Nat × AV)) : AV := uS (.agg (l.map AV.lf)) s
abbrev Ans.pt_ (n:Nat) (l:List Nat) (k:Nat) (x:Exit) (s:St) : Ans := .part [] n l k x s.T s.H
abbrev fQ (f:Func) (k:Nat) (p:List Nat) := AWa Tryz.prog GI TTc f.ntmps k (Code.sub (bodyC f) p)
abbrev MZ (f:Func) (k:Nat) (p:List Nat) := aeF Tryz.prog GI TTc f.ntmps k (Code.sub (bodyC f) p)
section
variable {ρ α σ:Type}
abbrev Mo.rt (l:List Nat) (n:Nat) (r : ρ) : Mo ρ := .ret ⟨[],l,[],n⟩ r
abbrev Mo.iB (b:Bool) (t e:Mo ρ) : Mo ρ := .ite b (fun c=>.say [.br true] (ok1 c) t) fun c=>.say [.br false] (ok1 c) e
abbrev Mo.iG (n:Nat) (b:Bool) (t e:Mo ρ) : Mo ρ := .ite b (fun c=>.say [.gd n true] (ok1 c) t) fun c=>.say [.gd n false] (ok1 c) e
abbrev FV (m:Option α) (f:FuncId) (a:List AV) (v : α → AV) : Prop := ∀ r,m = some r → Fn Tryz.prog GI f a (v r)
abbrev FH (m:Option α) (f:FuncId) (a:List AV) (H0:List Slot) (v : α → AV) (H : α → List Slot) : Prop := ∀ r,m = some r → FnH Tryz.prog GI f a H0 (v r) (H r)
def unV:AV → List AV
  | .tup l=>l
  | x=>[x]
theorem bY {f:FuncId} {fn:Func} {a:List AV} {v : α → AV} {t:Mo α} (hf:Tryz.prog.funcs[f]? = some fn) (hb:(fn.body.isSome && qm Tryz.prog f && Nat.ble a.length fn.ntmps) = true) (hv:∀ r,resV (unV (v r)) = v r) (h:t.lhs (fun g qs=>exF Tryz.prog GI TTc fn a [] qs g) [] = t.rhs (fun r p=>some (unV (v r),[],p)) []) : FV t.den f a v := fun r hm=>by
  simp only [Bool.and_eq_true] at hb
  exact hv r ▸ aly dK hf hb.1.1 hb.1.2 hb.2 t (fun r=>unV (v r)) h hm
theorem gW {f:FuncId} {fn:Func} {a:List AV} {H0:List Slot} {v : α → AV} {H : α → List Slot} {t:Mo α} (hf:Tryz.prog.funcs[f]? = some fn) (hb:(fn.body.isSome && qm Tryz.prog f && Nat.ble a.length fn.ntmps) = true) (hv:∀ r,resV (unV (v r)) = v r) (h:t.lhs (fun g qs=>exF Tryz.prog GI TTc fn a H0 qs g) [] = t.rhs (fun r p=>some (unV (v r),H r,p)) []) : FH t.den f a H0 v H := fun r hm=>by
  simp only [Bool.and_eq_true] at hb
  exact hv r ▸ agM dK hf hb.1.1 hb.1.2 hb.2 t (fun r=>unV (v r)) H h hm
abbrev Mo.cl {m:Option α} {f:FuncId} {a:List AV} {v : α → AV} (h:FV m f a v) (k:(r : α) → m = some r → Mo ρ) : Mo ρ := .ask m fun r e=>.say [.res (v r)] (ok1 (h r e)) (k r e)
abbrev Mo.cH {m:Option α} {f:FuncId} {a:List AV} {H0:List Slot} {v : α → AV} {H : α → List Slot} (l:List Nat) (h:FH m f a H0 v H) (k:(r : α) → m = some r → Mo ρ) : Mo ρ := .ask m fun r e=>.say [.jc l (v r) (H r)] (ok1 (h r e)) (k r e)
abbrev Mo.jp (f:Func) (k0:Nat) (path:List Nat) (i:Nat) (keys:List Nat) (n:Nat) (x:Exit) (S : α → St) (pre:St) (m:Option α) (W:∀ r,m = some r → fQ f k0 path x (S r) pre) (k:(r : α) → m = some r → Mo ρ) : Mo ρ := .ask m fun r e=>.say [.part [] i keys n x (S r).T (S r).H] (ok1 (W r e)) (k r e)
theorem jW {f:Func} {k0:Nat} {path:List Nat} {x:Exit} {S : α → St} {pre:St} {t:Mo α} (h:t.lhs (fun g qs=>exX Tryz.prog GI TTc f.ntmps k0 (Code.sub (bodyC f) path) pre qs g) [] = t.rhs (fun r p=>some (x,S r,p)) []) : ∀ r,t.den = some r → fQ f k0 path x (S r) pre := fun _ e=>jo dK t (fun _=>x) S h e
abbrev Mo.sj (f:Func) (k0:Nat) (path ops:List Nat) (i n:Nat) (keys:List Nat) (kk:Nat) (S : α → St) (pre:St) (m:Option α) (W:∀ r,m = some r → MZ f k0 path ops (S r) pre) (k:(r : α) → m = some r → Mo ρ) : Mo ρ := .ask m fun r e=>.say [.seg i [] n keys kk (S r).T (S r).H] (ok1 (W r e)) (k r e)
theorem sW {f:Func} {k0:Nat} {path ops:List Nat} {S : α → St} {pre:St} {t:Mo α} (h:t.lhs (fun g qs=>exO Tryz.prog GI TTc f.ntmps k0 (Code.sub (bodyC f) path) ops pre qs g) [] = t.rhs (fun r p=>some (S r,p)) []) : ∀ r,t.den = some r → MZ f k0 path ops (S r) pre := fun _ e=>Wn dK t S h e
abbrev Mo.lp (f:Func) (k0:Nat) (path:List Nat) (i:Nat) (keys:List Nat) (n:Nat) (x:Exit) (S : α → St) (m:Option α) {pre:St} (W:∀ r,m = some r → fQ f k0 path x (S r) pre) (k:(r : α) → m = some r → Mo ρ) : Mo ρ := .ask m fun r e=>.say [.part [] i keys n x (S r).T (S r).H] (ok1 (W r e)) (k r e)
theorem lW {f:Func} {k0:Nat} {path:List Nat} {x:Exit} {S : α → St} (H : σ → St) {T : σ → Mo (σ ⊕ α)} {v : σ} (hc:Code.sub (bodyC f) path = .loop (Code.sub (bodyC f) (path ++ [0]))) (hx:ahW x = true) (h:∀ v,(T v).lhs (fun g qs=>exX Tryz.prog GI TTc f.ntmps k0 (Code.sub (bodyC f) (path ++ [0])) (H v) qs g) [] = (T v).rhs (fun y p=>match y with | .inl v'=>some (.normal,H v',p) | .inr r=>some (x,S r,p)) []) : ∀ r,bK (fun v=>(T v).den) FU v = some r → fQ f k0 path x (S r) (H v) := fun _ e=>dO dK hc T H (fun _=>x) S (fun _=>hx) h e
end
end Go.Proofs.YtdnafbfmaphhhaaGreatDoor
set_option linter.unusedSimpArgs false
set_option linter.unusedVariables false
namespace Go.Proofs.YtdnafbfmaphhhaaGreatDoor
open Go.RowKit
theorem uf {σ ρ:Type} {T : σ → Option (σ ⊕ ρ)} (Inv : σ → Prop) (μ : σ → Nat) (Post : ρ → Prop)
    (step:∀ v,Inv v → (∃ v',T v = some (.inl v') ∧ Inv v' ∧ μ v' < μ v) ∨ ∃ r,T v = some (.inr r) ∧ Post r) : ∀ (n:Nat) (v : σ),Inv v → μ v < n → ∃ r,bK T n v = some r ∧ Post r
  | 0,v,_,h=>by omega
  | n + 1,v,hv,h=>by
    rcases step v hv with ⟨v',h1,h2,h3⟩ | ⟨r,h1,h2⟩
    · obtain ⟨r, k1, k2⟩ := uf Inv μ Post step n v' h2 (by omega)
      exact ⟨r,by unfold bK; rw [h1]; exact k1,k2⟩
    · exact ⟨r,by unfold bK; rw [h1]; rfl,h2⟩
theorem w64 {x:Int} (h1 : -9223372036854775808 ≤ x) (h2:x ≤ 9223372036854775807) : IntKind.wrap .i64 x = x := by
  rw [IntKind.wrap_i64]; omega
theorem Cc {α:Type} (l:List α) (k:Nat) : bM l (k:Int) = l[k]? := by
  unfold bM; rw [if_pos (by omega),Int.toNat_natCast]
theorem JZ {α:Type} {l:List α} {i:Int} (h0 : 0 ≤ i) (h1:i < l.length) : ∃ x,bM l i = some x ∧ l[i.toNat]? = some x := by
  unfold bM; rw [if_pos h0]
  exact ⟨l[i.toNat]'(by omega),by rw [List.getElem?_eq_getElem (by omega)],by rw [List.getElem?_eq_getElem (by omega)]⟩
theorem jQ {n:Nat} (h:n ≤ 1000000000000) : n < FU := by unfold FU; omega
/-- a loop that counts from 0 to n -/
theorem Ce {σ ρ:Type} {T : σ → Option (σ ⊕ ρ)} {v0 : σ} (n:Nat) (hn:n ≤ 1000000000) (P:Nat → σ → Prop) (Post : ρ → Prop) (h0:P 0 v0)
    (step:∀ k v,k < n → P k v → (∃ v',T v = some (.inl v') ∧ P (k + 1) v') ∨ ∃ r,T v = some (.inr r) ∧ Post r)
    (fin:∀ v,P n v → ∃ r,T v = some (.inr r) ∧ Post r) : ∃ r,bK T FU v0 = some r ∧ Post r := by
  have key:∀ m k v,k + m = n → P k v → ∀ f,m < f → ∃ r,bK T f v = some r ∧ Post r := by
    intro m
    induction m with
    | zero =>
      intro k v hk hP f hf
      obtain ⟨r,h1,h2⟩ := fin v (by rw [← hk]; exact hP)
      obtain ⟨f,rfl⟩ : ∃ g,f = g + 1 := ⟨f - 1,by omega⟩
      exact ⟨r,by unfold bK; rw [h1]; rfl,h2⟩
    | succ m ih =>
      intro k v hk hP f hf
      obtain ⟨f,rfl⟩ : ∃ g,f = g + 1 := ⟨f - 1,by omega⟩
      rcases step k v (by omega) hP with ⟨v',h1,h2⟩ | ⟨r,h1,h2⟩
      · obtain ⟨r, k1, k2⟩ := ih (k + 1) v' (by omega) h2 f (by omega)
        exact ⟨r,by unfold bK; rw [h1]; exact k1,k2⟩
      · exact ⟨r,by unfold bK; rw [h1]; rfl,h2⟩
  exact key n 0 v0 (by omega) h0 FU (jQ (by omega))
theorem Na {σ ρ β:Type} {T : σ → Option (σ ⊕ ρ)} {v0 : σ} {K : ρ → Option β} {y : β} (n:Nat) (hn:n ≤ 1000000000) (P:Nat → σ → Prop) (Post : ρ → Prop) (h0:P 0 v0)
    (step:∀ k v,k < n → P k v → (∃ v',T v = some (.inl v') ∧ P (k + 1) v') ∨ ∃ r,T v = some (.inr r) ∧ Post r)
    (fin:∀ v,P n v → ∃ r,T v = some (.inr r) ∧ Post r) (hK:∀ r,Post r → K r = some y) : (bK T FU v0).bind K = some y := by
  obtain ⟨r,h1,h2⟩ := Ce n hn P Post h0 step fin
  rw [h1]; exact hK r h2
theorem iLt {a b:Nat} (h:a < b) : decide ((a:Int) < (b:Int)) = true := decide_eq_true (by omega)
theorem XY {a b:Nat} (h:¬ a < b) : decide ((a:Int) < (b:Int)) = false := decide_eq_false (by omega)
theorem inc (k:Nat) (h:k ≤ 1000000000) : IntKind.wrap .i64 ((k:Int) + 1) = ((k + 1:Nat) : Int) := by rw [w64 (by omega) (by omega)]; rfl
end Go.Proofs.YtdnafbfmaphhhaaGreatDoor
set_option linter.unusedSimpArgs false
set_option linter.unusedVariables false
namespace Go.Proofs.YtdnafbfmaphhhaaGreatDoor
open Go.RowKit Go.Lib
theorem Ud:Rows.laid_unicode_utf8_first = firstData := by kernel_rfl
theorem Nb:(Rows.laid_unicode_utf8_acceptRanges:DataW Unit) = acceptData := by kernel_rfl
theorem J3 {W : World} (hL : laidMetH Tryz.prog [("unicode/utf8.acceptRanges", Rows.laid_unicode_utf8_acceptRanges), ("unicode/utf8.first", Rows.laid_unicode_utf8_first)] W) : Tabs W := by
  have hm : laidMet Tryz.prog [("unicode/utf8.acceptRanges", Rows.laid_unicode_utf8_acceptRanges), ("unicode/utf8.first", Rows.laid_unicode_utf8_first)] W := hL
  refine utf8Tabs_of_readsT (U8Types.of196 Tryz.laysValid) ⟨by kernel_rfl,by kernel_rfl,by kernel_rfl,by kernel_rfl,by kernel_rfl,by kernel_rfl,by kernel_rfl⟩ ?_ ?_
  · rw [← Ud]; exact Lib.laidMet.reads hm (.tail _ (.head _))
  · rw [← Nb]; exact Lib.laidMet.reads hm (.head _)
end Go.Proofs.YtdnafbfmaphhhaaGreatDoor
set_option linter.unusedSimpArgs false
set_option linter.unusedVariables false
namespace Go.Proofs.YtdnafbfmaphhhaaGreatDoor
open Go.ChangeShapes Go.WideShapes Go.ChangeAt Go.RowKit

theorem own:ownKnob Tryz.prog.godebug = none := by kernel_rfl
/-- The numbers of a table. -/
def Cm:Nat → DataW Unit → List Value
  | 0,_=>[]
  | _ + 1,.lit (.int k n)=>[.int k n]
  | f + 1,.agg l=>l.flatMap (Cm f)
  | _,_=>[]
def aao (cs:Array Value) : Obj → Obj
  | .cells _ t frozen=>.cells cs t frozen
  | o=>o
/-- A world for the witness: the settled one, the two listed tables holding what the rows list. -/
noncomputable def laidWorld (os:Os) : World :=
  { World.holding Tryz.prog os ⟨#[],#[],[]⟩ with heap := ((World.holding Tryz.prog os ⟨#[],#[],[]⟩).heap.modify 0 (aao (Cm 4 Rows.laid_unicode_utf8_first).toArray)).modify 1 (aao (Cm 4 Rows.laid_unicode_utf8_acceptRanges).toArray) }
section
variable {H:Type} {enc:TypeId × Value → H} {P:Program}
theorem Fz {f:Func} {s:ChangeSpec} {apart fresh handsOn again:Bool} {W W':World} {args:Array Value} {v:Value} {ds gs:List (DataW H)} {before pa pv:List MemPlace}
    (hW:DataW.Whole enc P f.params.toList s.vars apart W args.toList ds gs before)
    (hres:∀ (b:Nat) (sp:Nat → Bool) (hd:Bool),DataW.TrodAll enc P W' b sp hd f.resultTypes.toList (v.resultList f.resultTypes.size) (s.fn H (ds ++ gs)).results [])
    (hargs:∀ sp:Nat → Bool,(∀ p ∈ before,sp p.block = true) → DataW.TrodAll enc P W' 0 sp true f.params.toList args.toList (s.fn H (ds ++ gs)).args pa)
    (hvars:∀ sp:Nat → Bool,(∀ p ∈ before,sp p.block = true) → DataW.TrodVars enc P W' sp s.vars (s.fn H (ds ++ gs)).vars pv)
    (hps:before = pa ++ pv) (hb:Below W.heap.size W W')
    (hok:∀ (j:Nat) (t:TypeId) (r:Value),f.resultTypes[j]? = some t → (v.resultList f.resultTypes.size)[j]? = some r → Value.okWide P W' .any 0 t r) :
    s.post enc P f apart fresh handsOn again W args v W' := by
  have hlt:∀ p ∈ before,p.block < W.heap.size := fun p hp=>hW.lt p hp
  have hold:∀ p ∈ before,(fun b=>decide (b < W.heap.size)) p.block = true := fun p hp=>by simpa using hlt p hp
  refine ⟨ds,gs,before,[],pa,pv,hW,hres _ _ _,hargs _ hold,hvars _ hold,World.keptBut_mono (fun p hp=>⟨hp,?_⟩) (hb.frame (· ∈ before)),fun _=>?_⟩
  · rw [hps,List.mem_append] at hp
    exact Or.inr hp
  · obtain ⟨_,_,_,_,_,hz,hn⟩ := hW
    refine ⟨hok,_,_,([] ++ pa) ++ pv,⟨[] ++ pa,pv,trodAll_append (hargs _ (fun _ _=>rfl)) (hres _ _ _),hvars _ (fun _ _=>rfl),rfl,?_,?_⟩,?_⟩
    · intro b off hp
      have hin:MemPlace.cell b off ∈ before := by rw [hps]; simpa using hp
      rw [hb.frozen (hlt _ hin)]
      exact hz b off hin
    · intro ha
      have := hn ha
      rw [hps] at this
      simpa using this
    · intro p hp _
      rw [hps]
      simpa using hp
end
end Go.Proofs.YtdnafbfmaphhhaaGreatDoor
set_option linter.unusedSimpArgs false
set_option linter.unusedVariables false
namespace Go.Proofs.YtdnafbfmaphhhaaGreatDoor
open Go.ChangeShapes Go.WideShapes Go.ChangeAt Go.RowKit Go.Joins Go.Deep
section
variable {H:Type} {enc:TypeId × Value → H} {P:Program} {w:World} {base:Nat} {spare:Nat → Bool} {held:Bool}
theorem sU (hl:laidOutB P = true) {W W':World} {sp':Nat → Bool} : ∀ (ts:List TypeId) (vs:List Value) (ds:List (DataW H)) (ps:List MemPlace),(∀ t ∈ ts,P.readableRec t = true ∧ t < P.types.size) →
    DataW.TrodAll enc P W 0 (fun _=>true) true ts vs ds ps → (∀ x ∈ ps,W.sameAt W' x) → (∀ x ∈ ps,sp' x.block = true) → DataW.TrodAll enc P W' 0 sp' true ts vs ds ps
  | [],vs,ds,ps,_,h,_,_=>by
    cases vs <;> cases ds <;> simp [DataW.TrodAll] at h ⊢
    exact h
  | t :: ts,vs,ds,ps,hr,h,h1,h2=>by
    obtain ⟨v,vs',d,ds',p,q,rfl,rfl,rfl,hp,hq⟩ := trodAll_cons h
    refine ⟨p,q,WideElems.Trod_stays hl (hr t (by simp)).1 (hr t (by simp)).2 hp (fun x hx=>h1 x (by simp [hx])) (fun x hx=>h2 x (by simp [hx])),?_,rfl⟩
    exact sU hl ts vs' ds' q (fun t ht=>hr t (by simp [ht])) hq (fun x hx=>h1 x (by simp [hx])) (fun x hx=>h2 x (by simp [hx]))
theorem aap {f:Func} {s:ChangeSpec} {W W':World} {args:Array Value} {ds:List (DataW H)} {before:List MemPlace} {tb:TypeId}
    (hl:laidOutB P = true) (hr:(f.params.all fun t=>P.readableRec t && decide (t < P.types.size)) = true) (hv:s.vars = []) (ht:f.resultTypes = #[tb]) (hb:P.underlying tb = some .bool)
    (hW:DataW.Whole enc P f.params.toList s.vars false W args.toList ds [] before) (hs:s.fn H (ds ++ []) = { results := [.lit (.bool true)],args := ds }) (he:Ext W W') :
    s.post enc P f false true false false W args (.bool true) W' := by
  have hW0 := hW
  obtain ⟨p,q,hA,hV,rfl,hfz,hnd⟩ := hW
  have hq:q = [] := by
    rw [hv] at hV
    simpa [DataW.TrodVars] using hV
  subst hq
  have hlt:∀ x ∈ p ++ [],x.block < W.heap.size := fun x hx=>hW0.lt x hx
  have hrr:∀ t ∈ f.params.toList,P.readableRec t = true ∧ t < P.types.size := fun t ht=>by
    have := Array.all_eq_true'.1 hr t (by simpa using ht)
    simpa using this
  refine Fz (pa := p) (pv := []) hW0 ?_ ?_ ?_ rfl he ?_
  · intro b sp hd
    rw [hs,ht]
    exact trodAll_mk1 (shut_bool hb _)
  · intro sp hsp
    rw [hs]
    exact sU hl _ _ _ _ hrr hA (fun x hx=>Below.same he (hlt x (by simpa using hx))) (fun x hx=>hsp x (by simpa using hx))
  · intro sp _
    rw [hs,hv]
    rfl
  · intro j t r hj hr'
    rw [ht] at hj hr'
    have hj0:j = 0 := by
      rcases j with _ | j
      · rfl
      · simp at hj
    subst hj0
    obtain rfl:tb = t := by simpa using hj
    obtain rfl:Value.bool true = r := by simpa [Value.resultList] using hr'
    exact okWide_bool_mk hb _
end
end Go.Proofs.YtdnafbfmaphhhaaGreatDoor
set_option linter.unusedSimpArgs false
set_option linter.unusedVariables false
namespace Go.Proofs.YtdnafbfmaphhhaaGreatDoor
open Go.ChangeShapes Go.WideShapes Go.ChangeAt Go.RowKit
theorem akm {W:World} (h:Tabs W) : GI (I0 W) := fun w hi=>⟨fun c hc=>hi _ _ _ (h.1 c hc),fun i hi'=>⟨hi _ _ _ (h.2 i hi').1,hi _ _ _ (h.2 i hi').2⟩⟩
section
variable {H:Type} {enc:TypeId × Value → H} {P:Program} {w:World} {tys:List TypeId}
theorem Ws (hok:okT P tys = true) {t:TypeId} {v:Value} {d:DataW H} {ps:List MemPlace} (h:DataW.Trod enc P w 0 (fun _=>true) true t v d ps) {shs:List Shp} (hf:flat P 12 t = some shs) (ht:tys.contains t = true) :
    ∃ r,dB (I0 w) r v.cells.toList ∧ WTr P r shs ∧ aW r ≤ Rows.uptoBulk d := by
  obtain ⟨fuel,hf'⟩ := h
  obtain ⟨shs',h1,h2⟩ := Wq hok (List.contains_iff_mem.1 ht)
  rw [hf] at h1; injection h1 with h1; subst h1
  exact aeL hok fuel 12 t v.cells.toList (d,ps) shs hf' hf h2
end
/-- an argument's own form, not unfolded -/
structure OkW (P:Program) (w:World) (base:Nat) (t:TypeId) (v:Value) : Prop where
  ok:Value.okWide P w .any base t v
def OkA (P:Program) (w:World) (base:Nat) (ps:Array TypeId) (vs:Array Value) : Prop := ∀ (j:Nat) t v,ps[j]? = some t → vs[j]? = some v → OkW P w base t v
theorem ah8 {P:Program} {w:World} {base:Nat} {ps:Array TypeId} {vs:Array Value} (h:∀ (j:Nat) t v,ps[j]? = some t → vs[j]? = some v → Value.okWide P w .any base t v) : OkA P w base ps vs := fun j t v h1 h2=>⟨h j t v h1 h2⟩
theorem CB {P:Program} {w:World} {base:Nat} {ps:Array TypeId} {vs:Array Value} (h:OkA P w base ps vs) (j:Nat) {t:TypeId} {v:Value} {fs:Array Field} (h1:ps[j]? = some t) (h2:vs[j]? = some v) (ht:P.underlying t = some (.struct fs)) : ∃ cs,v = .agg cs ∧ cs.size = P.cellsOf t := okWide_struct ht (h j t v h1 h2).ok
/-- the law's last step -/
theorem ah9 {f:FuncId} {args:List AV} {vs:List Value} {W:World} (h:Fn Tryz.prog GI f args (.lf (.bool true))) (hT:Tabs W) (hvs:VRs (Fj (I0 W)) args vs) :
    Calls Tryz.prog f vs.toArray W fun e W'=>e = .returned (.bool true) ∧ Ext W W' := by
  refine (h.2 (I0 W) W vs (akm hT) (ah7 W) hvs).mono ?_
  rintro e w' ⟨I',v,rfl,g,hv⟩
  exact ⟨by rw [hv.bool],g.ext⟩
end Go.Proofs.YtdnafbfmaphhhaaGreatDoor
