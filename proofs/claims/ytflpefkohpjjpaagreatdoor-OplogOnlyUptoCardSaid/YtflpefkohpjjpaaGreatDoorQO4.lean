/- What a statement hands over, as rows of leaves. -/
import Derived.Test.YtflpefkohpjjpaaGreatDoorQO1
import Derived.Test.YtflpefkohpjjpaaGreatDoorRows
import Derived.ChangeArms
import Derived.DataReads
import Derived.Test.YtflpefkohpjjpaaGreatDoorQO2
set_option linter.unusedSimpArgs false
set_option linter.unusedVariables false
namespace Go.Proofs.YtflpefkohpjjpaaGreatDoor
open Go.RowKit
/-- the shape of a leaf -/
inductive Shp where
  | int (k:IntKind)
  | str
  | bool
  | rows (e:TypeId)
deriving DecidableEq
def JC (P:Program) (g:TypeId → Option (List Shp)) (tot:Nat) : List Field → Nat → Option (List Shp)
  | [],o=>if o = tot then some [] else none
  | fl :: rest,o=>if fl.offset = o then (g fl.type).bind fun a=>(JC P g tot rest (o + P.cellsOf fl.type)).map (a ++ ·) else none
/-- the leaves of a type -/
def flat (P:Program) : Nat → TypeId → Option (List Shp)
  | 0,_=>none
  | f + 1,t=>match P.underlying t with
    | some .bool=>some [.bool]
    | some (.int k)=>some [.int k]
    | some .string=>some [.str]
    | some (.slice e)=>some [.rows e]
    | some (.struct fs)=>JC P (flat P f) (P.cellsOf t) fs.toList 0
    | _=>none
mutual
def WTf (P:Program) : Lf → Shp → Prop
  | .int k _,s=>s = .int k
  | .str _,s=>s = .str
  | .bool _,s=>s = .bool
  | .rows n l,s=>∃ e shs,s = .rows e ∧ flat P 12 e = some shs ∧ n = P.cellsOf e ∧ 0 < n ∧ WTq P shs l
def WTq (P:Program) (shs:List Shp) : List (List Lf) → Prop
  | []=>True
  | r :: q=>WTr P r shs ∧ WTq P shs q
def WTr (P:Program) : List Lf → List Shp → Prop
  | [],shs=>shs = []
  | x :: r,shs=>∃ s q,shs = s :: q ∧ WTf P x s ∧ WTr P r q
end
theorem WTq.mem {P:Program} {shs:List Shp} : ∀ {l:List (List Lf)},WTq P shs l → ∀ r ∈ l,WTr P r shs
  | [],_,r,h=>by cases h
  | x :: q,h,r,hr=>by
    unfold WTq at h
    rcases List.mem_cons.1 hr with rfl | hr
    · exact h.1
    · exact WTq.mem h.2 r hr
theorem WTq.of {P:Program} {shs:List Shp} : ∀ {l:List (List Lf)},(∀ r ∈ l,WTr P r shs) → WTq P shs l
  | [],_=>by unfold WTq; trivial
  | x :: q,h=>by unfold WTq; exact ⟨h x (by simp),WTq.of (fun r hr=>h r (by simp [hr]))⟩
theorem WTr.app {P:Program} : ∀ (r s:List Lf) (a b:List Shp),WTr P r a → WTr P s b → WTr P (r ++ s) (a ++ b)
  | [],s,a,b,h,k=>by unfold WTr at h; rw [h]; exact k
  | x :: r,s,a,b,h,k=>by
    unfold WTr at h
    obtain ⟨sh,q,rfl,h1,h2⟩ := h
    show WTr P (x :: (r ++ s)) (sh :: (q ++ b))
    unfold WTr
    exact ⟨sh,q ++ b,rfl,h1,WTr.app r s q b h2 k⟩
mutual
def Lf.bulk:Lf → Nat
  | .int _ _=>1
  | .str s=>s.size + 1
  | .bool _=>1
  | .rows _ l=>1 + aZ l
def aZ:List (List Lf) → Nat
  | []=>0
  | r :: q=>aQ r + aZ q
def aQ:List Lf → Nat
  | []=>0
  | x :: r=>x.bulk + aQ r
end
theorem jL (r s:List Lf) : aQ (r ++ s) = aQ r + aQ s := by
  induction r with
  | nil=>simp [aQ]
  | cons x r ih=>simp only [List.cons_append,aQ,ih]; omega
theorem Lf.ada (x:Lf) : 1 ≤ x.bulk := by cases x <;> simp [Lf.bulk]
/-- all that lies in a world, as ghost -/
def I0 (w:World) : Gh := fun b o=>w.cell? ⟨b,o,none⟩
theorem al3 (w:World) : Inv (I0 w) w := fun _ _ _ h=>h
def okT (P:Program) (tys:List TypeId) : Bool := tys.all fun t=>match flat P 12 t with
  | some shs=>shs.all fun
    | .rows e=>tys.contains e && decide (0 < P.cellsOf e)
    | _=>true
  | none=>false
theorem XW {P:Program} {tys:List TypeId} (h:okT P tys = true) {t:TypeId} (ht:t ∈ tys) : ∃ shs,flat P 12 t = some shs ∧ ∀ e,Shp.rows e ∈ shs → e ∈ tys ∧ 0 < P.cellsOf e := by
  have h1 := List.all_eq_true.1 h t ht
  cases hf:flat P 12 t with
  | none=>rw [hf] at h1; cases h1
  | some shs =>
    rw [hf] at h1
    refine ⟨shs,rfl,fun e he=>?_⟩
    have h2 := List.all_eq_true.1 h1 _ he
    simp only [Bool.and_eq_true,List.contains_iff_mem,decide_eq_true_eq] at h2
    exact h2
theorem spot_none' {w:World} {a:Addr} {v:Value} (h:w.cell? a = some v) : a = ⟨a.block,a.off,none⟩ := by
  unfold World.cell? at h
  split at h
  · split at h
    · cases h
    · rename_i hs
      obtain ⟨b,o,s⟩ := a
      cases s
      · rfl
      · simp at hs
  · cases h
section
variable {H:Type} {enc:TypeId × Value → H} {P:Program} {w:World} {tys:List TypeId}
/-- what the reading at one level gives -/
def adb (P:Program) (w:World) (enc:TypeId × Value → H) (tys:List TypeId) (fuel:Nat) : Prop :=
  ∀ (f:Nat) (t:TypeId) (cs:List Value) (x:DataW H × List MemPlace) (shs:List Shp),DataW.trod enc P w 0 (fun _=>true) true fuel t cs = some x → flat P f t = some shs → (∀ e,Shp.rows e ∈ shs → e ∈ tys ∧ 0 < P.cellsOf e) →
    ∃ r,dI (I0 w) r cs ∧ WTr P r shs ∧ aQ r ≤ Rows.uptoBulk x.1
theorem DF {n f tot:Nat} (ih:adb P w enc tys n) (cs:List Value) : ∀ (fs:List Field) (xs:List (DataW H × List MemPlace)) (o:Nat) (shs:List Shp),
    (∀ (i:Nat) (fl:Field),fs[i]? = some fl → DataW.trod enc P w 0 (fun _=>true) true n fl.type ((cs.drop fl.offset).take (P.cellsOf fl.type)) = xs[i]?) → xs.length = fs.length → JC P (flat P f) tot fs o = some shs → cs.length = tot →
    (∀ e,Shp.rows e ∈ shs → e ∈ tys ∧ 0 < P.cellsOf e) → ∃ r,dI (I0 w) r (cs.drop o) ∧ WTr P r shs ∧ aQ r ≤ Rows.uptoBulkAll (xs.map (·.1))
  | [],xs,o,shs,_,hl,hf,hc,_=>by
    unfold JC at hf
    split at hf
    · injection hf with hf
      refine ⟨[],?_,by unfold WTr; exact hf.symm,by simp [aQ]⟩
      show cs.drop o = []
      exact List.drop_of_length_le (by omega)
    · cases hf
  | fl :: rest,xs,o,shs,hx,hl,hf,hc,hs=>by
    unfold JC at hf
    split at hf
    · rename_i ho
      subst ho
      cases ha:flat P f fl.type with
      | none=>rw [ha] at hf; cases hf
      | some a =>
        rw [ha,Option.bind_some] at hf
        cases hb:JC P (flat P f) tot rest (fl.offset + P.cellsOf fl.type) with
        | none=>rw [hb] at hf; cases hf
        | some b =>
          rw [hb] at hf
          injection hf with hf
          subst hf
          cases xs with
          | nil=>simp at hl
          | cons y ys =>
            have h0 := hx 0 fl rfl
            rw [List.getElem?_cons_zero] at h0
            obtain ⟨r,hr1,hr2,hr3⟩ := ih f fl.type _ y a h0 ha (fun e he=>hs e (by simp [he]))
            obtain ⟨q,hq1,hq2,hq3⟩ := DF ih cs rest ys (fl.offset + P.cellsOf fl.type) b (fun i g hg=>by simpa using hx (i + 1) g (by simpa using hg)) (by simpa using hl) hb hc (fun e he=>hs e (by simp [he]))
            refine ⟨r ++ q,?_,WTr.app _ _ _ _ hr2 hq2,?_⟩
            · have := dI.app _ _ _ _ hr1 hq1
              rwa [← List.drop_drop,List.take_append_drop] at this
            · rw [jL]; simp only [List.map_cons,Rows.uptoBulkAll]; omega
    · cases hf
theorem Fq {b off k:Nat} {shs:List Shp} : ∀ (elems:List (DataW H × List MemPlace)) (i0:Nat),
    (∀ j y,elems[j]? = some y → ∃ r cs,dI (I0 w) r cs ∧ WTr P r shs ∧ aQ r ≤ Rows.uptoBulk y.1 ∧ cs.length = k ∧ ∀ q u,cs[q]? = some u → I0 w b (off + (i0 + j) * k + q) = some u) →
    ∃ l:List (List Lf),l.length = elems.length ∧ WTq P shs l ∧ RRp (I0 w) b k (off + i0 * k) l ∧ aZ l ≤ Rows.uptoBulkAll (elems.map (·.1))
  | [],i0,_=>⟨[],rfl,by unfold WTq; trivial,by unfold RRp; trivial,by simp [aZ]⟩
  | y :: ys,i0,h=>by
    obtain ⟨r,cs,h1,h2,h3,h4,h5⟩ := h 0 y rfl
    obtain ⟨l,g1,g2,g3,g4⟩ := Fq ys (i0 + 1) (fun j z hj=>by
      obtain ⟨r,cs,h1,h2,h3,h4,h5⟩ := h (j + 1) z (by simpa using hj)
      exact ⟨r,cs,h1,h2,h3,h4,fun q u hq=>by have := h5 q u hq; rwa [show i0 + (j + 1) = i0 + 1 + j by omega] at this⟩)
    refine ⟨r :: l,by simp [g1],by unfold WTq; exact ⟨h2,g2⟩,?_,by simp only [List.map_cons,aZ,Rows.uptoBulkAll]; omega⟩
    unfold RRp
    have hl := dI.len r cs h1
    refine ⟨by omega,CRp.of r _ cs h1 (fun q u hq=>h5 q u hq),?_⟩
    rwa [show off + i0 * k + k = off + (i0 + 1) * k by rw [Nat.add_mul]; omega]
theorem add_plain' (b o q:Nat) : (⟨b,o,none⟩ : Addr).add q = ⟨b,o + q,none⟩ := by unfold Addr.add; split <;> simp_all
theorem bind_some' {α β:Type} {o:Option α} {f : α → Option β} {y : β} (h:o.bind f = some y) : ∃ a,o = some a ∧ f a = some y := by
  rw [Option.bind_eq_some_iff] at h; exact h
theorem ah5 (hok:okT P tys = true) : ∀ fuel,adb P w enc tys fuel := by
  intro fuel
  induction fuel using Nat.strongRecOn with
  | _ fuel ih =>
    intro f t cs x shs h hf hs
    cases f with
    | zero=>cases hf
    | succ f =>
      unfold flat at hf
      cases hu:P.underlying t with
      | none=>rw [hu] at hf; cases hf
      | some d =>
        rw [hu] at hf
        cases d with
        | bool =>
          injection hf with hf
          subst hf
          obtain ⟨b,rfl,rfl⟩ := DataW.trod_bool hu h
          exact ⟨[.bool b],⟨_,_,rfl,by unfold LRp; rfl,rfl⟩,by unfold WTr; exact ⟨_,_,rfl,by unfold WTf; rfl,by unfold WTr; rfl⟩,by simp [aQ,Lf.bulk,Rows.uptoBulk]⟩
        | int k =>
          injection hf with hf
          subst hf
          obtain ⟨n,rfl,rfl,hwf⟩ := DataW.trod_int hu h
          exact ⟨[.int k n],⟨_,_,rfl,by unfold LRp; exact ⟨rfl,hwf⟩,rfl⟩,by unfold WTr; exact ⟨_,_,rfl,by unfold WTf; rfl,by unfold WTr; rfl⟩,by simp [aQ,Lf.bulk,Rows.uptoBulk]⟩
        | string =>
          injection hf with hf
          subst hf
          obtain ⟨s,rfl,rfl,hsz⟩ := DataW.trod_string hu h
          exact ⟨[.str s],⟨_,_,rfl,by unfold LRp; exact ⟨rfl,hsz⟩,rfl⟩,by unfold WTr; exact ⟨_,_,rfl,by unfold WTf; rfl,by unfold WTr; rfl⟩,by simp [aQ,Lf.bulk,Rows.uptoBulk]⟩
        | slice e =>
          injection hf with hf
          subst hf
          obtain ⟨he,hpos⟩ := hs e (by simp)
          obtain ⟨she,hfe,hse⟩ := XW hok he
          rcases DataW.trod_slice hu h with ⟨rfl,rfl⟩ | ⟨a,len,cap,elems,rest,m,rfl,rfl,rfl,-,hlc,hcm,hel,hat,-,-⟩
          · refine ⟨[.rows (P.cellsOf e) []], ⟨_, _, rfl, LRp.nil _ _, rfl⟩, ?_, by simp [aQ, Lf.bulk, aZ, Rows.uptoBulk]⟩
            unfold WTr
            exact ⟨_,_,rfl,by unfold WTf; exact ⟨e,she,rfl,hfe,rfl,hpos,by unfold WTq; trivial⟩,by unfold WTr; rfl⟩
          · have each:∀ j y,elems[j]? = some y → ∃ r cs,dI (I0 w) r cs ∧ WTr P r she ∧ aQ r ≤ Rows.uptoBulk y.1 ∧ cs.length = P.cellsOf e ∧ ∀ q u,cs[q]? = some u → w.cell? ((a.add (j * P.cellsOf e)).add q) = some u := by
              intro j y hj
              have hjl:j < len := by rw [← hel]; exact (List.getElem?_eq_some_iff.1 hj).1
              obtain ⟨cs',hc,hy⟩ := bind_some' ((hat j hjl).trans hj)
              obtain ⟨r,h1,h2,h3⟩ := ih m (by omega) 12 e cs' y she hy hfe hse
              obtain ⟨-,hcl,hcc⟩ := World.cells?_some hc
              exact ⟨r,cs',h1,h2,h3,hcl,fun q u hq=>by rw [hcc q (by have := (List.getElem?_eq_some_iff.1 hq).1; omega),hq]⟩
            cases elems with
            | nil =>
              have hl0:len = 0 := by rw [← hel]; rfl
              subst hl0
              refine ⟨[.rows (P.cellsOf e) []],⟨_,_,rfl,?_,rfl⟩,?_,by simp [aQ,Lf.bulk,aZ,Rows.uptoBulk]⟩
              · unfold LRp; exact ⟨some a,cap,rfl,by simp,hcm,fun h=>absurd rfl h⟩
              · unfold WTr
                exact ⟨_,_,rfl,by unfold WTf; exact ⟨e,she,rfl,hfe,rfl,hpos,by unfold WTq; trivial⟩,by unfold WTr; rfl⟩
            | cons y0 ys =>
              have ha:a = ⟨a.block,a.off,none⟩ := by
                obtain ⟨r,cs',_,_,_,hcl,hcc⟩ := each 0 y0 rfl
                have hlt : 0 < cs'.length := by omega
                have := hcc 0 cs'[0] (List.getElem?_eq_getElem hlt)
                simp only [Nat.zero_mul,Addr.add,if_true] at this
                exact spot_none' this
              obtain ⟨b,off,sp⟩ := a
              simp only [Addr.mk.injEq,true_and] at ha
              subst ha
              obtain ⟨l,l1,l2,l3,l4⟩ := Fq (w := w) (b := b) (off := off) (k := P.cellsOf e) (shs := she) (P := P) (y0 :: ys) 0 (fun j y hj=>by
                obtain ⟨r,cs',h1,h2,h3,h4,h5⟩ := each j y hj
                refine ⟨r,cs',h1,h2,h3,h4,fun q u hq=>?_⟩
                have := h5 q u hq
                rw [add_plain',add_plain'] at this
                rw [Nat.zero_add]; exact this)
              refine ⟨[.rows (P.cellsOf e) l],⟨_,_,rfl,?_,rfl⟩,?_,?_⟩
              · unfold LRp
                exact ⟨_,cap,by rw [l1,hel],by omega,hcm,fun _=>⟨b,off,rfl,by simpa using l3⟩⟩
              · unfold WTr
                exact ⟨_,_,rfl,by unfold WTf; exact ⟨e,she,rfl,hfe,rfl,hpos,l2⟩,by unfold WTr; rfl⟩
              · simp only [aQ,Lf.bulk,Rows.uptoBulk]; omega
        | struct fs =>
          simp only at hf
          obtain ⟨xs,n,rfl,rfl,hl,hlen,hx⟩ := DataW.trod_struct hu h
          obtain ⟨r,h1,h2,h3⟩ := DF (ih n (by omega)) cs fs.toList xs 0 shs (fun i fl hi=>hx i fl (by simpa using hi)) (by simpa using hlen) hf hl hs
          exact ⟨r,by simpa using h1,h2,by simp only [Rows.uptoBulk]; omega⟩
        | _=>cases hf
end
end Go.Proofs.YtflpefkohpjjpaaGreatDoor
set_option linter.unusedSimpArgs false
set_option linter.unusedVariables false
namespace Go.Proofs.YtflpefkohpjjpaaGreatDoor
open Go.RowKit
theorem WTr.nil (P:Program) : WTr P [] [] := by unfold WTr; rfl
theorem WTr.cons {P:Program} {x:Lf} {s:Shp} {r:List Lf} {q:List Shp} (h:WTf P x s) (k:WTr P r q) : WTr P (x :: r) (s :: q) := by unfold WTr; exact ⟨s,q,rfl,h,k⟩
theorem WTf.int (P:Program) (k:IntKind) (n:Int) : WTf P (.int k n) (.int k) := by unfold WTf; rfl
theorem WTf.str (P:Program) (s:ByteArray) : WTf P (.str s) .str := by unfold WTf; rfl
theorem WTf.bool (P:Program) (b:Bool) : WTf P (.bool b) .bool := by unfold WTf; rfl
theorem WTf.rows {P:Program} {n:Nat} {l:List (List Lf)} {e:TypeId} {shs:List Shp} (hf:flat P 12 e = some shs) (hn:n = P.cellsOf e) (h0 : 0 < n) (h:WTq P shs l) : WTf P (.rows n l) (.rows e) := by unfold WTf; exact ⟨e,shs,rfl,hf,hn,h0,h⟩
theorem WTq.map {P:Program} {shs:List Shp} {α:Type} {f : α → List Lf} (l:List α) (h:∀ x,WTr P (f x) shs) : WTq P shs (l.map f) := WTq.of fun r hr=>by
  obtain ⟨x,_,rfl⟩ := List.mem_map.1 hr; exact h x
theorem WTq.nil (P:Program) (shs:List Shp) : WTq P shs [] := by unfold WTq; trivial
theorem WTq.cons {P:Program} {shs:List Shp} {r:List Lf} {q:List (List Lf)} (h:WTr P r shs) (k:WTq P shs q) : WTq P shs (r :: q) := by unfold WTq; exact ⟨h,k⟩
theorem WTr.cons_inv {P:Program} {r:List Lf} {s:Shp} {q:List Shp} (h:WTr P r (s :: q)) : ∃ x r',r = x :: r' ∧ WTf P x s ∧ WTr P r' q := by
  cases r with
  | nil=>unfold WTr at h; cases h
  | cons x r=>unfold WTr at h; obtain ⟨s',q',e,h1,h2⟩ := h; injection e with e1 e2; subst e1 e2; exact ⟨x,r,rfl,h1,h2⟩
theorem WTr.ah6 {P:Program} {r:List Lf} (h:WTr P r []) : r = [] := by
  cases r with
  | nil=>rfl
  | cons x r=>unfold WTr at h; obtain ⟨s',q',e,h1,h2⟩ := h; cases e
theorem WTf.ah7 {P:Program} {x:Lf} (h:WTf P x .str) : ∃ s,x = .str s := by
  cases x <;> unfold WTf at h
  · cases h
  · exact ⟨_,rfl⟩
  · cases h
  · obtain ⟨_,_,e,_⟩ := h; cases e
end Go.Proofs.YtflpefkohpjjpaaGreatDoor
