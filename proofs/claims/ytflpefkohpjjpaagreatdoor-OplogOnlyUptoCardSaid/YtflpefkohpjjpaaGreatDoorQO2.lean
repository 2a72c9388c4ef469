/- One operation, with answers. -/
import Derived.Test.YtflpefkohpjjpaaGreatDoorQO1
import Derived.WalkKit
import Derived.OrdersHeld
import Derived.Deep.RegionHeld3
import Derived.KernelRfl
set_option linter.unusedSimpArgs false
set_option linter.unusedVariables false
namespace Go.Proofs.YtflpefkohpjjpaaGreatDoor
open Go.RowKit
theorem Qa {I:Gh} {n:Nat} : ∀ (l:List (List Lf)) (xs:List Value),(∀ r ∈ l,r.length = n) → dI I l.flatten xs → ∀ (j:Nat) (r:List Lf),l[j]? = some r →
    ∃ pre ds post,xs = pre ++ ds ++ post ∧ pre.length = j * n ∧ ds.length = n ∧ dI I r ds ∧ ∀ r' ds',dI I r' ds' → dI I (l.set j r').flatten (pre ++ ds' ++ post)
  | [],xs,_,_,j,r,hj=>by simp at hj
  | x :: l,xs,hn,hv,j,r,hj=>by
    rw [List.flatten_cons] at hv
    obtain ⟨ds,es,rfl,h1,h2⟩ := dI.split x l.flatten xs hv
    have hl:ds.length = n := by rw [dI.len _ _ h1]; exact hn x (by simp)
    cases j with
    | zero =>
      obtain rfl:x = r := by simpa using hj
      exact ⟨[], ds, es, by simp, by simp, hl, h1, fun r' ds' hd => by
        rw [List.set_cons_zero,List.flatten_cons]; exact dI.app _ _ _ _ hd h2⟩
    | succ j =>
      obtain ⟨pre,fs,post,k1,k2,k3,k4,k5⟩ := Qa l es (fun r hr=>hn r (by simp [hr])) h2 j r (by simpa using hj)
      refine ⟨ds ++ pre,fs,post,by rw [k1]; simp,by simp [hl,k2,Nat.add_mul]; omega,k3,k4,fun r' ds' hd=>?_⟩
      rw [List.set_cons_succ,List.flatten_cons,List.append_assoc,List.append_assoc]
      exact dI.app _ _ _ _ h1 (by rw [← List.append_assoc]; exact k5 r' ds' hd)
section
variable {c:Ctx} {o:Oper} {st:St}
theorem LOp.alJ (hc:c.Ok) {t:TypeId} {x y:Operand} (ho:o.op = .store t x y) {i:TI} (hi:jM c.tt t = some i) {b m j q:Nat} (hx:ev st.T x = some (.oN b m j q)) {v:AV} (hy:evN i.z st.T y = some v) {n:Nat} (hn:v.width = some n) (hin:n = i.size) (hfl:v.PN = true)
    {ty:TypeId} {l:List (List Lf)} (hb:st.H[b]? = some (.row ty m l)) {r r':List Lf} (hr:l[j]? = some r) (hu:Vm (.dat r) q v = some (.dat r')) {T':List (Nat × AV)} (hT:jE c.nt st.T o.dst (.raw undef) = some T') : LOp c o st ⟨T',st.H.set b (.row ty m (l.set j r'))⟩ [b] false :=
  LOp.skip hT fun e C a w hR=>by
    obtain ⟨ok,rfl⟩ := iK hc.tt hi
    have hx := cO hR.tmp hx
    have hy := Na hR.tmp hy
    unfold VR at hx
    obtain ⟨hok,g,len,cap,hsv,hxe⟩ := hx
    obtain ⟨k0,k1,k2,k3,k4⟩ := hR.mem.hv b _ hb
    have hown:w.ownsRow 0 ty m (e.sv b) l.length (C b) := hR.mem.hw b _ hb
    have hsz := VR.width hn hy
    rw [hsv] at hown
    rcases hown.2 with ⟨h1,_⟩ | ⟨g',cap',cur,h1,h2,h3,h4,h5,h6,h7⟩
    · cases h1
    injection h1 with h1 e2 e3
    injection h1 with h1
    injection h1 with h1
    subst h1 e2 e3
    obtain ⟨pre,ds,post,f1,f2,f3,f4,f5⟩ := Qa l (C b) k2 k1 j r hr
    obtain ⟨u1,u2⟩ := Nh hu (VR.dat.2 ⟨ds,rfl,f4⟩ : VR e (.dat r) (.agg ds.toArray)) hy
    obtain ⟨ds',e4,f6⟩ := VR.dat.1 u2
    have e4 := Nc e4
    have hjlt:j < l.length := (List.getElem?_eq_some_iff.1 hr).1
    have hN:(C b).length = l.length * m := hown.1
    have hvl:(a.eval y).cells.toList.length = i.size := by simp; rw [hsz,hin]
    have hds':ds'.length = m := by rw [← e4]; simp [f3]; rw [hsz] at u1 ⊢; omega
    have hcl:cur.toList = pre ++ (ds ++ (post ++ cur.toList.drop (l.length * m))) := by
      have := (List.take_append_drop (l.length * m) cur.toList).symm
      rw [h7,f1,List.append_assoc,List.append_assoc] at this
      exact this
    have hq:q + i.size ≤ ds.length := by rw [hsz,hin] at u1; exact u1
    have hjN:j * m + m ≤ l.length * m := by
      have:(j + 1) * m ≤ l.length * m := Nat.mul_le_mul_right _ hjlt
      rw [Nat.add_mul] at this; omega
    have hcur:cur.toList.length = cap * m := by rw [← h6]; exact Array.length_toList
    have hlen:l.length * m ≤ cur.toList.length := by
      rw [hcur]; exact Nat.mul_le_mul_right _ h4
    have hheap := pq (a.eval y).cells.toList (j * m + q) cur.toList w (by rw [Array.toArray_toList]; exact h3) (by rw [hvl]; omega)
    have hnew:cur.toList.take (j * m + q) ++ (a.eval y).cells.toList ++ cur.toList.drop (j * m + q + (a.eval y).cells.toList.length) = (pre ++ ds' ++ post) ++ cur.toList.drop (l.length * m) := by
      have hpd:j * m + q + (a.eval y).cells.toList.length = pre.length + (q + (a.eval y).cells.toList.length) := by omega
      rw [hpd,← f2,← e4]
      generalize cur.toList.drop (l.length * m) = Y at hcl ⊢
      rw [hcl,List.take_length_add_append,List.take_append_of_le_length (by omega),List.drop_length_add_append,List.drop_append_of_le_length (by omega)]
      simp
    rw [hnew] at hheap
    have hrun := run_store (P := c.P) (t := i.t) ok.size (v := a.eval y) (by rw [hsz,hin]) (w := w) (b := g) (o := j * m + q) (Jv (cs := cur.toList) (by simpa using h3) (by omega)) (VR.flat hfl hy)
    have honly := pz g (a.eval y).cells.toList (j * m + q) w
    have hlen2:(pre ++ ds' ++ post).length = l.length * m := by rw [← hN,f1]; simp [hds',f3]
    have hM := hR.mem.put (s' := .row ty m (l.set j r')) (l := pre ++ ds' ++ post) hb (g := g) (by show Value.ownBlock _ = _; rw [hsv]; rfl) (fun z hz => by
        have hz:(e.sv b).ownBlock = some z := hz
        rw [hsv] at hz; injection hz with hz; exact hz.symm) (by simp)
      ⟨k0, by rw [show jD C b _ b = _ from if_pos rfl]; exact f5 r' ds' f6, fun z hz => by
        rcases List.mem_or_eq_of_mem_set hz with h | h
        · exact k2 z h
        · rw [h,← dI.len _ _ f6]; exact hds',by simpa using k3,by
        rw [hsv]; exact .inr ⟨g,cap,by simp⟩⟩
      (by
        show World.ownsRow _ 0 ty m (e.sv b) _ (jD C b _ b)
        rw [show jD C b (pre ++ ds' ++ post) b = _ from if_pos rfl,hsv,List.length_set]
        refine ⟨hlen2,.inr ⟨g,cap,_,rfl,Nat.zero_le _,hheap,h4,h5,?_,?_⟩⟩
        · rw [List.size_toArray,List.length_append,hlen2,List.length_drop,hcur]
          have := Nat.mul_le_mul_right m h4
          omega
        · show List.take _ (List.toArray _).toList = _
          rw [List.toList_toArray,List.take_append_of_le_length (by omega),List.take_of_length_le (by omega)]) honly
    refine ⟨e,_,_,?_,hM,Env.le.refl e,fun _=>rfl,BD,hM.inv⟩
    simp [execOp,ho,hxe,hrun]
end
/-! ### maps that the call makes -/
theorem Mem.mkMap {c:Ctx} {e:Env} {C:Nat → List Value} {H H':List Slot} {w:World} {b:Nat} {kt et:TypeId} {qs qs':List Ans} (h:Mem c e C H w) (hp:iL H (.map c.P kt et []) qs = some (b,H',qs')) :
    ∃ e' C',Mem c e' C' H' (w.alloc (.map #[] 0)) ∧ e.le e' ∧ VR e' (.mp b) (.map (some w.heap.size)) ∧ jv [] false e C H e' C' H' (w.alloc (.map #[] 0)) := by
  have hP := xM hp
  have hE:Ext w (w.alloc (.map #[] 0)) := (Ext.refl w).alloc _
  have hM := h.ext hE
  have hb := hP.P6 hM
  have hle := Env.ET hb w.heap.size undef
  have hm:(e.add b w.heap.size undef).m b = w.heap.size := if_pos rfl
  refine ⟨e.add b w.heap.size undef,jD C b [],hM.place hP (by simp) ⟨.inl rfl,fun p hp=>by cases hp⟩ ?_ (fun z hz=>?_),hle,?_,⟨hle,fun _=>rfl,hP.links hM _ _ _,hM.inv⟩⟩
  · show (w.alloc _).ownsMap c.P kt (plainElem c.P et) ((e.add b w.heap.size undef).m b) 0 (mapD [])
    rw [hm]
    exact World.ownsMap_made _ _ _ _
  · have hz:(some ((e.add b w.heap.size undef).m b) : Option Nat) = some z := hz
    rw [hm] at hz
    injection hz with hz
    subst hz
    have := h.new (Nat.le_refl w.heap.size)
    exact this
  · unfold VR
    exact ⟨.inl rfl,by rw [hm]⟩
theorem LOp.mkMap {c:Ctx} {o:Oper} {st:St} {t:TypeId} (ho:o.op = .makeMap t none) {kt et:TypeId} {b:Nat} {H':List Slot} {qs qs':List Ans} (hp:iL st.H (.map c.P kt et []) qs = some (b,H',qs'))
    {T':List (Nat × AV)} (hT:jE c.nt st.T o.dst (.mp b) = some T') : LOp c o st ⟨T',H'⟩ [] false :=
  LOp.value hT fun e C a w hR=>by
    obtain ⟨e',C',k1,k2,k3,k4⟩ := hR.mem.mkMap hp
    refine ⟨_,e',C',_,?_,k3,k1,k4⟩
    simp [execOp,ho,run_makeMap]
theorem LOp.alK {c:Ctx} (hc:c.Ok) {o:Oper} {st:St} {t:TypeId} {m k y:Operand} (ho:o.op = .mapUpdate t m k y) {kt et:TypeId} {d:TD} {z:Lf} (hmt:Jq c.tt t = some (kt,et,d,z)) {b:Nat} (hm:ev st.T m = some (.mp b))
    {P':Program} {l:List (ByteArray × Lf)} (hb:st.H[b]? = some (.map P' kt et l)) (hP:P' = c.P) (hl:l.length < maxLen) {s:ByteArray} (hk:ev st.T k = some (.lf (.str s))) {x:Lf} (hy:ev st.T y = some (.lf x)) (hz:zl d x = true)
    {T':List (Nat × AV)} (hT:jE c.nt st.T o.dst (.raw undef) = some T') : LOp c o st ⟨T',st.H.set b (.map P' kt et ((s,x) :: l))⟩ [b] false :=
  LOp.skip hT fun e C a w hR=>by
    subst hP
    have M := PZ hc.tt hmt
    have hm := cO hR.tmp hm
    have hk := (cO hR.tmp hk).str
    have hy := cO hR.tmp hy
    unfold VR at hm
    have hv := hR.mem.hv b _ hb
    have hw:w.ownsMap c.P kt (plainElem c.P et) (e.m b) l.length (mapD l) := hR.mem.hw b _ hb
    obtain ⟨w',k1,k2,k3⟩ := World.ownsMap.update (t := t) (e := et) hw (Maps.string_keyed M.key) M.map hl (WideMaps.keyOf_string_mk M.key hk.2) (P5 M.d hz hy)
    have hlt := (List.getElem?_eq_some_iff.1 hb).1
    have hC:jD C b (C b) = C := by funext y; unfold jD; split <;> simp_all
    have hput := hR.mem.put (s' := .map c.P kt et ((s, x) :: l)) (l := C b) hb rfl (fun y hy => by injection hy with hy; exact hy.symm) (by simp) ⟨hv.1, fun p hp => by
      rcases List.mem_cons.1 hp with rfl | hp
      · exact VR.wfL hy hz
      · exact hv.2 p hp⟩ (by exact k2) k3
    refine ⟨e,jD C b (C b),w',?_,hput,⟨Env.le.refl e,fun _=>rfl,BD,hput.inv⟩⟩
    simp [execOp,ho,hm.2,hk.1,k1]
end Go.Proofs.YtflpefkohpjjpaaGreatDoor
set_option linter.unusedSimpArgs false
set_option linter.unusedVariables false
namespace Go.Proofs.YtflpefkohpjjpaaGreatDoor
open Go.RowKit
mutual
def AV.ren (ρ:Nat → Nat) : AV → AV
  | .ptr b off=>.ptr (ρ b) off
  | .oN b n j off=>.oN (ρ b) n j off
  | .own b=>.own (ρ b)
  | .mp b=>.mp (ρ b)
  | .agg l=>.agg (xP ρ l)
  | .tup l=>.tup (xP ρ l)
  | .clo f l=>.clo f (xP ρ l)
  | .lf x=>.lf x
  | .dat r=>.dat r
  | .dp r off=>.dp r off
  | .bU n=>.bU n
  | .raw v=>.raw v
def xP (ρ:Nat → Nat) : List AV → List AV
  | []=>[]
  | x :: r=>AV.ren ρ x :: xP ρ r
end
mutual
/-- all slots that are mentioned are of bs -/
def AV.inB (bs:List Nat) : AV → Bool
  | .ptr b _=>bs.contains b
  | .oN b _ _ _=>bs.contains b
  | .own b=>bs.contains b
  | .mp b=>bs.contains b
  | .agg l=>I5 bs l
  | .tup l=>I5 bs l
  | .clo _ l=>I5 bs l
  | _=>true
def I5 (bs:List Nat) : List AV → Bool
  | []=>true
  | x :: r=>AV.inB bs x && I5 bs r
end
def Slot.ren (ρ:Nat → Nat) : Slot → Slot
  | .box ty cs=>.box ty (cs.ren ρ)
  | s=>s
def Slot.inB (bs:List Nat) : Slot → Bool
  | .box _ cs=>cs.inB bs
  | _=>true
def Slot.xQ:Slot → Bool
  | .free=>false
  | _=>true
/-- a renaming under which values stay what they are -/
structure Moves (e e':Env) (p:Nat → Prop) (ρ:Nat → Nat) : Prop where
  ok:∀ b,p b → e.ok b → e'.ok (ρ b)
  m:∀ b,p b → e.ok b → e'.m (ρ b) = e.m b
  sv:∀ b,p b → e.ok b → e'.sv (ρ b) = e.sv b
  I:Le e.I e'.I
mutual
theorem VR.ren {e e':Env} {bs:List Nat} {ρ:Nat → Nat} (h:Moves e e' (fun b=>bs.contains b = true) ρ) : ∀ (x:AV) (v:Value),x.inB bs = true → VR e x v → VR e' (x.ren ρ) v
  | .ptr b off,v,hb,hv=>by
    unfold AV.inB at hb; unfold AV.ren; unfold VR at hv ⊢
    exact ⟨h.ok b hb hv.1,by rw [h.m b hb hv.1]; exact hv.2⟩
  | .oN b n j off,v,hb,hv=>by
    unfold AV.inB at hb; unfold AV.ren; unfold VR at hv ⊢
    exact ⟨h.ok b hb hv.1,by rw [h.sv b hb hv.1]; exact hv.2⟩
  | .own b,v,hb,hv=>by
    unfold AV.inB at hb; unfold AV.ren; unfold VR at hv ⊢
    exact ⟨h.ok b hb hv.1,by rw [h.sv b hb hv.1]; exact hv.2⟩
  | .mp b,v,hb,hv=>by
    unfold AV.inB at hb; unfold AV.ren; unfold VR at hv ⊢
    exact ⟨h.ok b hb hv.1,by rw [h.m b hb hv.1]; exact hv.2⟩
  | .agg l,v,hb,hv=>by
    unfold AV.inB at hb; unfold AV.ren
    obtain ⟨cs,e1,h1⟩ := VR.agg.1 hv
    exact VR.agg.2 ⟨cs,e1,VRs.ren h l cs hb h1⟩
  | .tup l,v,hb,hv=>by
    unfold AV.inB at hb; unfold AV.ren
    obtain ⟨cs,e1,h1⟩ := VR.tup.1 hv
    exact VR.tup.2 ⟨cs,e1,VRs.ren h l cs hb h1⟩
  | .clo f l,v,hb,hv=>by
    unfold AV.inB at hb; unfold AV.ren
    obtain ⟨cs,e1,h1⟩ := VR.clo.1 hv
    exact VR.clo.2 ⟨cs,e1,VRs.ren h l cs hb h1⟩
  | .lf x,v,_,hv=>by unfold AV.ren; rw [VR.lf] at hv ⊢; exact LRp.mono h.I _ _ hv
  | .dat r,v,_,hv=>by
    unfold AV.ren
    obtain ⟨cs,e1,h1⟩ := VR.dat.1 hv
    exact VR.dat.2 ⟨cs,e1,dI.mono h.I _ _ h1⟩
  | .dp r off,v,_,hv=>by
    unfold AV.ren; unfold VR at hv ⊢
    obtain ⟨b,o,e1,h1⟩ := hv
    exact ⟨b,o,e1,CRp.mono h.I _ _ _ h1⟩
  | .bU n,v,_,hv=>by unfold AV.ren; unfold VR at hv ⊢; exact hv
  | .raw u,v,_,hv=>by unfold AV.ren; unfold VR at hv ⊢; exact hv
theorem VRs.ren {e e':Env} {bs:List Nat} {ρ:Nat → Nat} (h:Moves e e' (fun b=>bs.contains b = true) ρ) : ∀ (l:List AV) (cs:List Value),I5 bs l = true → VRs e l cs → VRs e' (xP ρ l) cs
  | [],cs,_,hv=>by unfold xP; unfold VRs at hv ⊢; exact hv
  | x :: r,cs,hb,hv=>by
    unfold I5 at hb
    rw [Bool.and_eq_true] at hb
    unfold xP; unfold VRs at hv ⊢
    obtain ⟨c,q,e1,h1,h2⟩ := hv
    exact ⟨c,q,e1,VR.ren h x c hb.1 h1,VRs.ren h r q hb.2 h2⟩
end
mutual
theorem VR.Qb {e e':Env} {ρ:Nat → Nat} (h:Moves e e' (fun _=>True) ρ) : ∀ (x:AV) (v:Value),VR e x v → VR e' (x.ren ρ) v
  | .ptr b off,v,hv=>by
    unfold AV.ren; unfold VR at hv ⊢
    exact ⟨h.ok b trivial hv.1,by rw [h.m b trivial hv.1]; exact hv.2⟩
  | .oN b n j off,v,hv=>by
    unfold AV.ren; unfold VR at hv ⊢
    exact ⟨h.ok b trivial hv.1,by rw [h.sv b trivial hv.1]; exact hv.2⟩
  | .own b,v,hv=>by
    unfold AV.ren; unfold VR at hv ⊢
    exact ⟨h.ok b trivial hv.1,by rw [h.sv b trivial hv.1]; exact hv.2⟩
  | .mp b,v,hv=>by
    unfold AV.ren; unfold VR at hv ⊢
    exact ⟨h.ok b trivial hv.1,by rw [h.m b trivial hv.1]; exact hv.2⟩
  | .agg l,v,hv=>by
    unfold AV.ren
    obtain ⟨cs,e1,h1⟩ := VR.agg.1 hv
    exact VR.agg.2 ⟨cs,e1,VRs.Qb h l cs h1⟩
  | .tup l,v,hv=>by
    unfold AV.ren
    obtain ⟨cs,e1,h1⟩ := VR.tup.1 hv
    exact VR.tup.2 ⟨cs,e1,VRs.Qb h l cs h1⟩
  | .clo f l,v,hv=>by
    unfold AV.ren
    obtain ⟨cs,e1,h1⟩ := VR.clo.1 hv
    exact VR.clo.2 ⟨cs,e1,VRs.Qb h l cs h1⟩
  | .lf x,v,hv=>by unfold AV.ren; rw [VR.lf] at hv ⊢; exact LRp.mono h.I _ _ hv
  | .dat r,v,hv=>by
    unfold AV.ren
    obtain ⟨cs,e1,h1⟩ := VR.dat.1 hv
    exact VR.dat.2 ⟨cs,e1,dI.mono h.I _ _ h1⟩
  | .dp r off,v,hv=>by
    unfold AV.ren; unfold VR at hv ⊢
    obtain ⟨b,o,e1,h1⟩ := hv
    exact ⟨b,o,e1,CRp.mono h.I _ _ _ h1⟩
  | .bU n,v,hv=>by unfold AV.ren; unfold VR at hv ⊢; exact hv
  | .raw u,v,hv=>by unfold AV.ren; unfold VR at hv ⊢; exact hv
theorem VRs.Qb {e e':Env} {ρ:Nat → Nat} (h:Moves e e' (fun _=>True) ρ) : ∀ (l:List AV) (cs:List Value),VRs e l cs → VRs e' (xP ρ l) cs
  | [],cs,hv=>by unfold xP; unfold VRs at hv ⊢; exact hv
  | x :: r,cs,hv=>by
    unfold xP; unfold VRs at hv ⊢
    obtain ⟨c,q,e1,h1,h2⟩ := hv
    exact ⟨c,q,e1,VR.Qb h x c h1,VRs.Qb h r q h2⟩
end
/-- memory that a call is handed -/
structure Zm (e:Env) (C:Nat → List Value) (H:List Slot) (w:World) : Prop where
  hv:HVs e C H
  hw:HWs e C w H
  bound:∀ b,e.ok b → b < H.length
  inj:∀ b b' s s' g,H[b]? = some s → H[b']? = some s' → eY e b s = some g → eY e b' s' = some g → b = b'
  av:∀ b s g,H[b]? = some s → eY e b s = some g → Av e.I g
  inv:Inv e.I w
def blks (e:Env) (H:List Slot) (g:Nat) : Prop := ∃ b s,H[b]? = some s ∧ eY e b s = some g
/-- what a call leaves -/
structure GrH (e:Env) (H:List Slot) (e':Env) (H':List Slot) (w w':World) : Prop where
  le:e.le e'
  only:Only (blks e H) w w'
  fresh:∀ b o v,e'.I b o = some v → e.I b o = none → w.heap.size ≤ b ∨ blks e H b
  mine:∀ g,blks e' H' g → w.heap.size ≤ g ∨ blks e H g
/-- Function f, called with these arguments, where memory has these slots, returns this, and leaves those. -/
def FnH (P:Program) (G:Gh → Prop) (f:FuncId) (args:List AV) (H:List Slot) (res:AV) (H':List Slot) : Prop :=
  oQ P f = true ∧ ∀ e C w vs,G e.I → Zm e C H w → VRs e args vs → Calls P f vs.toArray w fun en w'=>∃ e' C' v,en = .returned v ∧ GrH e H e' H' w w' ∧ Zm e' C' H' w' ∧ VR e' res v
def evs (T:List (Nat × AV)) : List Operand → Option (List AV)
  | []=>some []
  | x :: r=>match ev T x with
    | some v=>match evs T r with
      | some l=>some (v.asD :: l)
      | none=>none
    | none=>none
theorem acV {e:Env} {T:List (Nat × AV)} {a:Act} (hT:iY e T a.tmps) : ∀ {l:List Operand} {ds:List AV},evs T l = some ds → VRs e ds (l.map a.eval)
  | [],ds,h=>by injection h with h; subst h; exact VRs.nil
  | x :: r,ds,h=>by
    unfold evs at h
    split at h
    · rename_i v hv
      split at h
      · rename_i l hl
        injection h with h; subst h
        exact VRs.cons (cO hT hv).asD (acV hT hl)
      · cases h
    · cases h
def posB:List Nat → Nat → Nat
  | [],_=>0
  | x :: r,b=>match Nat.beq x b with
    | true=>0
    | false=>posB r b + 1
def mY (bs:List Nat) (k0 i:Nat) : Nat := match bs[i]? with
  | some b=>b
  | none=>k0 + (i - bs.length)
def EY (bs:List Nat) (H:List Slot) : List Slot := bs.map fun b=>(H.getD b .dead).ren (posB bs)
def oldH (bs:List Nat) (k0:Nat) (Hl:List Slot) : Nat → List Slot → List Slot
  | _,[]=>[]
  | b,s :: r=>(match bs.contains b with
    | true=>(Hl.getD (posB bs b) .dead).ren (mY bs k0)
    | false=>s) :: oldH bs k0 Hl (b + 1) r
def newH (bs:List Nat) (H Hl:List Slot) : List Slot := oldH bs H.length Hl 0 H ++ (Hl.drop bs.length).map (·.ren (mY bs H.length))
def nodupB:List Nat → Bool
  | []=>true
  | x :: r=>!r.contains x && nodupB r
theorem qO:∀ {bs:List Nat} {b:Nat},bs.contains b = true → bs[posB bs b]? = some b
  | [],b,h=>by simp at h
  | x :: r,b,h=>by
    unfold posB
    split
    · rename_i hb; have := eu hb; subst this; rfl
    · rename_i hb
      have hne:x ≠ b := by rintro rfl; simp at hb
      rw [List.getElem?_cons_succ]
      exact qO (by
        rw [List.contains_iff_mem] at h ⊢
        rcases List.mem_cons.1 h with h | h
        · exact absurd h.symm hne
        · exact h)
theorem Ey:∀ {bs:List Nat},nodupB bs = true → ∀ {i b:Nat},bs[i]? = some b → posB bs b = i
  | [],_,i,b,h=>by simp at h
  | x :: r,hn,0,b,h=>by
    obtain rfl:x = b := by simpa using h
    unfold posB; simp
  | x :: r,hn,i + 1,b,h=>by
    have h1:r[i]? = some b := by simpa using h
    unfold nodupB at hn
    rw [Bool.and_eq_true,Bool.not_eq_true'] at hn
    have hne:x ≠ b := by
      rintro rfl
      have := List.mem_of_getElem? h1
      rw [← List.contains_iff_mem] at this
      rw [this] at hn; cases hn.1
    unfold posB
    split
    · rename_i hb; exact absurd (eu hb) hne
    · rw [Ey hn.2 h1]
theorem yH (bs:List Nat) (k0:Nat) (Hl:List Slot) : ∀ (H:List Slot) (k:Nat),(oldH bs k0 Hl k H).length = H.length
  | [],_=>rfl
  | _ :: r,k=>by unfold oldH; simp [yH bs k0 Hl r (k + 1)]
theorem Nq (bs:List Nat) (k0:Nat) (Hl:List Slot) : ∀ (H:List Slot) (k b:Nat),(oldH bs k0 Hl k H)[b]? = (H[b]?).map fun s=>(match bs.contains (k + b) with | true=>(Hl.getD (posB bs (k + b)) .dead).ren (mY bs k0) | false=>s)
  | [],k,b=>by simp [oldH]
  | s :: r,k,0=>by unfold oldH; simp
  | s :: r,k,b + 1=>by
    unfold oldH
    rw [List.getElem?_cons_succ,List.getElem?_cons_succ,Nq bs k0 Hl r (k + 1) b,show k + 1 + b = k + (b + 1) by omega]
theorem XH (e:Env) (ρ:Nat → Nat) (b:Nat) (s:Slot) : eY e b (s.ren ρ) = eY e b s := by cases s <;> rfl
theorem Only.alL {wr wr':Nat → Prop} {w0 w w':World} (h:Only wr w0 w) (k:Only wr' w w') (hr:∀ g,wr' g → w0.heap.size ≤ g ∨ wr g) : Only wr w0 w' :=
  ⟨k.os.trans h.os,k.tape.trans h.tape,k.output.trans h.output,Nat.le_trans h.size k.size,fun i hi hn=>(k.block i (Nat.lt_of_lt_of_le hi h.size) (fun e=>by
    rcases hr i e with h1 | h1
    · omega
    · exact hn h1)).trans (h.block i hi hn)⟩
theorem Inv.le2 {I I':Gh} {w:World} (h:Inv I' w) (k:Le I I') : Inv I w := fun b o v e=>h b o v (k b o v e)
theorem Zn {P:Program} {ρ:Operand → Value} {o:Oper} {cl:Call} (ho:o.op = .call cl) {x:Operand} (hf:cl.callee = .value x) {f:FuncId} {cs:Array Value} (hρ : ρ x = .func (.func f) #[] cs) (hb:oQ P f = true) (w:World) :
    (execOp ρ o).run P w = .ok (.enter f (cl.args.map ρ ++ cs)) w := by
  unfold oQ at hb
  split at hb
  · rename_i fn hfn
    simp only [Bool.and_eq_true,Bool.not_eq_true'] at hb
    simp only [execOp,ho,resolve,hf,hρ,Deferred.ofValue,Sem.run_bind,Sem.run_pure,Result.andThen_ok,invoke,callFunc]
    have h1:(program).run P w = .ok P w := rfl
    simp only [h1,Result.andThen_ok,hfn,hb.1,hb.2,Bool.false_eq_true,if_false,Sem.run_pure]
    simp
  · cases hb
theorem Zo {P:Program} {ρ:Operand → Value} {o:Oper} {cl:Call} (ho:o.op = .call cl) {x:Operand} (hf:cl.callee = .value x) {f:FuncId} (hρ : ρ x = .func (.func f) #[] #[]) (hb:oQ P f = true) (w:World) :
    (execOp ρ o).run P w = .ok (.enter f (cl.args.map ρ)) w := by
  unfold oQ at hb
  split at hb
  · rename_i fn hfn
    simp only [Bool.and_eq_true,Bool.not_eq_true'] at hb
    simp only [execOp,ho,resolve,hf,hρ,Deferred.ofValue,Sem.run_bind,Sem.run_pure,Result.andThen_ok,invoke,callFunc]
    have h1:(program).run P w = .ok P w := rfl
    have h2 : (if (fn.name == "runtime.NumGoroutine") = true then (pure Next.numGoroutine : Sem Next) else pure (.enter f (#[] ++ Array.map ρ cl.args ++ #[]))) = pure (.enter f (Array.map ρ cl.args)) := by rw [if_neg (by simp [hb.1])]; simp
    simp only [h1,Result.andThen_ok,hfn,hb.1,hb.2,Bool.false_eq_true,if_false,Sem.run_pure]
    simp
  · cases hb
/-- the function that an operand names -/
def acW (T:List (Nat × AV)) : Operand → Option FuncId
  | .func f=>some f
  | x=>match ev T x with
    | some (.raw (.func (.func f) a b))=>match Nat.beq a.size 0 && Nat.beq b.size 0 with
      | true=>some f
      | false=>none
    | _=>none
theorem Qc {T:List (Nat × AV)} {x:Operand} {f:FuncId} (h:acW T x = some f) (e:Env) (a:Act) (hT:iY e T a.tmps) : a.eval x = .func (.func f) #[] #[] := by
  unfold acW at h
  split at h
  · injection h with h; subst h; rfl
  · split at h
    · rename_i f' p q hv
      split at h
      · rename_i hb
        injection h with h; subst h
        rw [Bool.and_eq_true] at hb
        have h1 := cO hT hv
        unfold VR at h1
        rw [h1,Array.eq_empty_of_size_eq_zero (eu hb.1),Array.eq_empty_of_size_eq_zero (eu hb.2)]
      · cases h
    · cases h
def slB (bs:List Nat) (H:List Slot) : Bool := bs.all fun b=>match H[b]? with
  | some s=>s.xQ && s.inB bs
  | none=>false
section
variable {c:Ctx} {o:Oper} {st:St}
theorem LOp.an8 (hc:c.Ok) {cl:Call} (ho:o.op = .call cl) {x:Operand} (hf:cl.callee = .value x) {f:FuncId} (hx:∀ (e:Env) (a:Act),iY e st.T a.tmps → a.eval x = .func (.func f) #[] #[]) {ds:List AV} (hd:xO st.T cl.args.toList = some ds) {r:AV} (hr:r.isD = true) (hF:Fn c.P c.G f ds r) {T':List (Nat × AV)} (hT:jE c.nt st.T o.dst r = some T') : LOp c o st ⟨T',st.H⟩ [] true := by
  intro e C a w next Q hR K
  unfold Oper.wp
  rw [Zo ho hf (hx e a hR.tmp) hF.1 w,Oper.upon_enter]
  have h1 := BF hR.tmp hd
  have h2 := hF.2 e.I w _ hR.mem.g hR.mem.inv h1
  rw [List.map_toArray.symm,Array.toArray_toList] at h2
  refine Calls.mono h2 ?_
  rintro en w' ⟨I',v,rfl,g,hv⟩
  obtain ⟨hM,hle⟩ := hR.mem.grow hc g
  obtain ⟨k1,k2,k3⟩ := jK hT (hR.tmp.mono hle) hR.size (VR.free (e := Ea I') (e' := { e with I := I' }) rfl hr hv)
  exact K _ C _ w' ⟨k1,k2,k3.trans hR.defers,hM⟩ ⟨hle,(fun h=>by cases h),fun b s hb _ hl=>⟨s,hb,hl,fun w h=>(by cases s <;> exact h)⟩,hR.mem.inv.ext g.ext⟩
theorem LOp.akq (hc:c.Ok) {cl:Call} (ho:o.op = .call cl) {x:Operand} (hf:cl.callee = .value x) {f:FuncId} {cap:List AV} (hx:∀ (e:Env) (a:Act),iY e st.T a.tmps → ∃ cs,a.eval x = .func (.func f) #[] cs.toArray ∧ VRs e cap cs) {bs:List Nat} {dg ds:List AV} (hd:evs st.T cl.args.toList = some dg) (hds:ds = dg ++ cap) (hin:I5 bs ds = true) (hnd:nodupB bs = true)
    (hsl:slB bs st.H = true) {r:AV} {Hl:List Slot} (hlen:Nat.ble bs.length Hl.length = true) (hnf:Hl.all Slot.xQ = true) (hF:FnH c.P c.G f (xP (posB bs) ds) (EY bs st.H) r Hl)
    {T':List (Nat × AV)} (hT:jE c.nt st.T o.dst (r.ren (mY bs st.H.length)) = some T') : LOp c o st ⟨T',newH bs st.H Hl⟩ bs true := by
  intro e C a w next Q hR K
  unfold Oper.wp
  obtain ⟨cv,hcv,hcap⟩ := hx e a hR.tmp
  rw [Zn ho hf hcv hF.1 w,Oper.upon_enter]
  have hM := hR.mem
  have hlen := Nat.le_of_ble_eq_true hlen
  have hS:∀ b,bs.contains b = true → ∃ s,st.H[b]? = some s ∧ s.xQ = true ∧ s.inB bs = true := fun b hb=>by
    have := List.all_eq_true.1 hsl b (List.contains_iff_mem.1 hb)
    split at this
    · rename_i s hs
      rw [Bool.and_eq_true] at this
      exact ⟨s,hs,this.1,this.2⟩
    · cases this
  have hmem:∀ i b,bs[i]? = some b → bs.contains b = true := fun i b h=>List.contains_iff_mem.2 (List.mem_of_getElem? h)
  have gD:∀ i b,bs[i]? = some b → bs.getD i 0 = b := fun i b h=>by rw [List.getD_eq_getElem?_getD,h]; rfl
  -- what the callee sees
  obtain ⟨el,hel⟩ : ∃ el:Env,el = ⟨fun i=>∃ b,bs[i]? = some b ∧ e.ok b,fun i=>e.m (bs.getD i 0),fun i=>e.sv (bs.getD i 0),e.I⟩ := ⟨_,rfl⟩
  obtain ⟨Cl,hCl⟩ : ∃ Cl:Nat → List Value,Cl = fun i=>C (bs.getD i 0) := ⟨_,rfl⟩
  have elok:∀ i b,bs[i]? = some b → (el.ok i ↔ e.ok b) := fun i b h=>by
    subst hel
    show (∃ b',bs[i]? = some b' ∧ e.ok b') ↔ _
    rw [h]
    constructor
    · rintro ⟨b',h1,h2⟩; injection h1 with h1; rw [h1]; exact h2
    · intro h2; exact ⟨b,rfl,h2⟩
  have elm:∀ i b,bs[i]? = some b → el.m i = e.m b := fun i b h=>by subst hel; show e.m (bs.getD i 0) = _; rw [gD i b h]
  have elsv:∀ i b,bs[i]? = some b → el.sv i = e.sv b := fun i b h=>by subst hel; show e.sv (bs.getD i 0) = _; rw [gD i b h]
  have elI:el.I = e.I := by subst hel; rfl
  have hCi:∀ i b,bs[i]? = some b → Cl i = C b := fun i b h=>by subst hCl; show C (bs.getD i 0) = _; rw [gD i b h]
  have elb:∀ i,el.ok i → ∃ b,bs[i]? = some b ∧ e.ok b := fun i h=>by subst hel; exact h
  have mv1:Moves e el (fun b=>bs.contains b = true) (posB bs) := ⟨fun b hb h=>(elok _ b (qO hb)).2 h,fun b hb _=>elm _ b (qO hb),fun b hb _=>elsv _ b (qO hb),by rw [elI]; exact Le.refl _⟩
  have hL:∀ (i:Nat) (s':Slot),(EY bs st.H)[i]? = some s' → ∃ (b:Nat) (s:Slot),bs[i]? = some b ∧ st.H[b]? = some s ∧ s' = s.ren (posB bs) ∧ s.xQ = true ∧ s.inB bs = true := fun i s' h=>by
    unfold EY at h
    rw [List.getElem?_map] at h
    cases hb:bs[i]? with
    | none=>rw [hb] at h; cases h
    | some b =>
      rw [hb] at h
      obtain ⟨s,h1,h2,h3⟩ := hS b (hmem i b hb)
      refine ⟨b,s,rfl,h1,?_,h2,h3⟩
      simp only [Option.map_some,Option.some.injEq] at h
      rw [← h,List.getD_eq_getElem?_getD,h1]; rfl
  have hblk:∀ i b s,bs[i]? = some b → eY el i (Slot.ren (posB bs) s) = eY e b s := fun i b s h=>by
    rw [XH]
    cases s with
    | box ty cs=>show some (el.m i) = some (e.m b); rw [elm i b h]
    | row ty n l=>show Value.ownBlock (el.sv i) = Value.ownBlock (e.sv b); rw [elsv i b h]
    | dead=>rfl
    | free=>rfl
    | map P1 k1 e1 l1=>show some (el.m i) = some (e.m b); rw [elm i b h]
  have hML:Zm el Cl (EY bs st.H) w := by
    refine ⟨fun i s' hs=>?_,fun i s' hs=>?_,fun i hi=>?_,fun i i' s s' g h1 h2 k1 k2=>?_,fun i s g hs hg=>?_,by rw [elI]; exact hM.inv⟩
    · obtain ⟨b,s,hi,hb,rfl,hf,hin'⟩ := hL i s' hs
      have h2 := hM.hv b s hb
      cases s with
      | box ty cs=>exact ⟨(elok i b hi).2 h2.1,by rw [hCi i b hi]; exact VR.ren mv1 _ _ hin' h2.2⟩
      | row ty n l=>exact ⟨(elok i b hi).2 h2.1,by rw [hCi i b hi,elI]; exact h2.2.1,h2.2.2.1,h2.2.2.2.1,by rw [elsv i b hi]; exact h2.2.2.2.2⟩
      | dead=>exact True.intro
      | free=>cases hf
      | map P1 k1 e1 l1=>exact ⟨(elok i b hi).2 h2.1,h2.2⟩
    · obtain ⟨b,s,hi,hb,rfl,hf,hin'⟩ := hL i s' hs
      have h2 := hM.hw b s hb
      cases s with
      | box ty cs=>show w.heap[el.m i]? = some (.cells (Cl i).toArray ty (0,0)); rw [elm i b hi,hCi i b hi]; exact h2
      | row ty n l=>show w.ownsRow 0 ty n (el.sv i) l.length (Cl i); rw [elsv i b hi,hCi i b hi]; exact h2
      | dead=>exact True.intro
      | free=>cases hf
      | map P1 k1 e1 l1=>show w.ownsMap P1 k1 (plainElem P1 e1) (el.m i) l1.length (mapD l1); rw [elm i b hi]; exact h2
    · obtain ⟨b,h1,_⟩ := elb i hi
      unfold EY; rw [List.length_map]; exact (List.getElem?_eq_some_iff.1 h1).1
    · obtain ⟨b,s0,hi,hb,rfl,_,_⟩ := hL i s h1
      obtain ⟨b',s0',hi',hb',rfl,_,_⟩ := hL i' s' h2
      rw [hblk i b s0 hi] at k1
      rw [hblk i' b' s0' hi'] at k2
      have := hM.inj b b' s0 s0' g hb hb' k1 k2
      subst this
      rw [← Ey hnd hi,← Ey hnd hi']
    · obtain ⟨b,s0,hi,hb,rfl,_,_⟩ := hL i s hs
      rw [hblk i b s0 hi] at hg
      rw [elI]; exact hM.av b s0 g hb hg
  have hvs:VRs el (xP (posB bs) ds) (cl.args.toList.map a.eval ++ cv) := VRs.ren mv1 ds _ hin (by rw [hds]; exact VRs.app _ _ _ _ (acV hR.tmp hd) hcap)
  have h2 := hF.2 el Cl w _ (by rw [elI]; exact hM.g) hML hvs
  rw [← List.append_toArray,List.map_toArray.symm,Array.toArray_toList] at h2
  refine Calls.mono h2 ?_
  rintro en w' ⟨e2,C2,v,rfl,g,hM2,hv⟩
  -- what the caller sees
  obtain ⟨im,him⟩ : ∃ im:Nat → Bool,im = fun b=>bs.contains b || Nat.ble st.H.length b := ⟨_,rfl⟩
  obtain ⟨iv,hiv⟩ : ∃ iv:Nat → Nat,iv = fun b=>bif bs.contains b then posB bs b else bs.length + (b - st.H.length) := ⟨_,rfl⟩
  have imC:∀ b,bs.contains b = true → im b = true ∧ iv b = posB bs b := fun b hb=>by subst him hiv; simp only [hb,Bool.true_or,cond_true,and_self]
  have blt:∀ b,bs.contains b = true → b < st.H.length := fun b hb=>by
    obtain ⟨s,h1,_,_⟩ := hS b hb
    exact (List.getElem?_eq_some_iff.1 h1).1
  have notC:∀ b,st.H.length ≤ b → bs.contains b = false := fun b hb=>by
    cases hq:bs.contains b with
    | true=>have := blt b hq; omega
    | false=>rfl
  have imN:∀ b,st.H.length ≤ b → im b = true ∧ iv b = bs.length + (b - st.H.length) := fun b hb=>by
    subst him hiv
    simp only [notC b hb,Bool.false_or,cond_false,and_true]
    exact Nat.ble_eq_true_of_le hb
  have imF:∀ b,im b = false → bs.contains b = false ∧ b < st.H.length := fun b hb=>by
    subst him
    rw [Bool.or_eq_false_iff] at hb
    refine ⟨hb.1,?_⟩
    rcases Nat.lt_or_ge b st.H.length with h | h
    · exact h
    · rw [Nat.ble_eq_true_of_le h] at hb; cases hb.2
  have hρ:∀ i,i < Hl.length → im (mY bs st.H.length i) = true ∧ iv (mY bs st.H.length i) = i := fun i hi=>by
    unfold mY
    cases hb:bs[i]? with
    | some b =>
      obtain ⟨h1,h2⟩ := imC b (hmem i b hb)
      exact ⟨h1,h2.trans (Ey hnd hb)⟩
    | none =>
      have hge:bs.length ≤ i := List.getElem?_eq_none_iff.1 hb
      obtain ⟨h1,h2⟩ := imN (st.H.length + (i - bs.length)) (by omega)
      exact ⟨h1,h2.trans (by omega)⟩
  obtain ⟨e',he'⟩ : ∃ e':Env,e' = ⟨fun b=>(im b = true ∧ e2.ok (iv b)) ∨ (im b = false ∧ e.ok b),fun b=>bif im b then e2.m (iv b) else e.m b,fun b=>bif im b then e2.sv (iv b) else e.sv b,e2.I⟩ := ⟨_,rfl⟩
  obtain ⟨C',hC'⟩ : ∃ C':Nat → List Value,C' = fun b=>bif im b then C2 (iv b) else C b := ⟨_,rfl⟩
  have ok1:∀ b,im b = true → (e'.ok b ↔ e2.ok (iv b)) := fun b h=>by
    subst he'
    show ((im b = true ∧ e2.ok (iv b)) ∨ (im b = false ∧ e.ok b)) ↔ _
    simp [h]
  have ok2:∀ b,im b = false → (e'.ok b ↔ e.ok b) := fun b h=>by
    subst he'
    show ((im b = true ∧ e2.ok (iv b)) ∨ (im b = false ∧ e.ok b)) ↔ _
    simp [h]
  have m1:∀ b,im b = true → e'.m b = e2.m (iv b) ∧ e'.sv b = e2.sv (iv b) ∧ C' b = C2 (iv b) := fun b h=>by subst he' hC'; simp [h]
  have m2:∀ b,im b = false → e'.m b = e.m b ∧ e'.sv b = e.sv b ∧ C' b = C b := fun b h=>by subst he' hC'; simp [h]
  have eI:e'.I = e2.I := by subst he'; rfl
  have mv2:Moves e2 e' (fun _=>True) (mY bs st.H.length) := by
    refine ⟨fun i _ hi=>?_,fun i _ hi=>?_,fun i _ hi=>?_,by rw [eI]; exact Le.refl _⟩
    all_goals obtain ⟨h1,h2⟩ := hρ i (hM2.bound i hi)
    · exact (ok1 _ h1).2 (by rw [h2]; exact hi)
    · rw [(m1 _ h1).1,h2]
    · rw [(m1 _ h1).2.1,h2]
  have leI:Le e.I e2.I := by have := g.le.I; rw [elI] at this; exact this
  have okC:∀ b,e.ok b → im b = true → bs.contains b = true := fun b hb h=>by
    cases hq:bs.contains b with
    | true=>rfl
    | false =>
      subst him
      simp only [hq,Bool.false_or] at h
      have := hM.bound b hb
      have := Nat.le_of_ble_eq_true h
      omega
  have hle:e.le e' := by
    refine ⟨fun b hb=>?_,fun b hb=>?_,fun b hb=>?_,by rw [eI]; exact leI⟩
    all_goals cases hi:im b with
    | true =>
      have hcb := okC b hb hi
      have hp := qO hcb
      have hk := (elok _ b hp).2 hb
      have h3 := (imC b hcb).2
      first
        | exact (ok1 b hi).2 (by rw [h3]; exact g.le.ok _ hk)
        | (rw [(m1 b hi).1,h3,g.le.m _ hk]; exact elm _ b hp)
        | (rw [(m1 b hi).2.1,h3,g.le.sv _ hk]; exact elsv _ b hp)
    | false =>
      first
        | exact (ok2 b hi).2 hb
        | exact (m2 b hi).1
        | exact (m2 b hi).2.1
  have hN:∀ b s,(newH bs st.H Hl)[b]? = some s → (im b = true ∧ ∃ s2,Hl[iv b]? = some s2 ∧ s = s2.ren (mY bs st.H.length)) ∨ (im b = false ∧ bs.contains b = false ∧ st.H[b]? = some s) := fun b s h=>by
    unfold newH at h
    rw [List.getElem?_append,yH] at h
    split at h
    · rename_i hlt
      rw [Nq,Nat.zero_add] at h
      cases hq:bs.contains b with
      | true =>
        left
        obtain ⟨h1,h2⟩ := imC b hq
        have hp := (List.getElem?_eq_some_iff.1 (qO hq)).1
        obtain ⟨s0,h3,_,_⟩ := hS b hq
        rw [h3] at h
        simp only [hq,Option.map_some,Option.some.injEq] at h
        have h4:Hl[posB bs b]? = some (Hl[posB bs b]'(by omega)) := List.getElem?_eq_getElem (by omega)
        refine ⟨h1,_,by rw [h2]; exact h4,?_⟩
        rw [← h,List.getD_eq_getElem?_getD,h4]; rfl
      | false =>
        right
        have hi:im b = false := by
          subst him
          simp only [hq,Bool.false_or]
          cases hk:Nat.ble st.H.length b with
          | false=>rfl
          | true=>have := Nat.le_of_ble_eq_true hk; omega
        refine ⟨hi,rfl,?_⟩
        cases hs:st.H[b]? with
        | none=>rw [hs] at h; cases h
        | some s0=>rw [hs] at h; simp only [hq,Option.map_some,Option.some.injEq] at h; rw [h]
    · rename_i hge
      left
      obtain ⟨h1,h2⟩ := imN b (by omega)
      rw [List.getElem?_map,List.getElem?_drop] at h
      cases hs:Hl[bs.length + (b - st.H.length)]? with
      | none=>rw [hs] at h; cases h
      | some s2 =>
        rw [hs] at h
        simp only [Option.map_some,Option.some.injEq] at h
        exact ⟨h1,s2,by rw [h2]; exact hs,h.symm⟩
  have b1:∀ b s2,im b = true → eY e' b (Slot.ren (mY bs st.H.length) s2) = eY e2 (iv b) s2 := fun b s2 h=>by
    rw [XH]
    cases s2 with
    | box ty cs=>show some (e'.m b) = some (e2.m (iv b)); rw [(m1 b h).1]
    | row ty n l=>show Value.ownBlock (e'.sv b) = Value.ownBlock (e2.sv (iv b)); rw [(m1 b h).2.1]
    | dead=>rfl
    | free=>rfl
    | map P1 k1 e1 l1=>show some (e'.m b) = some (e2.m (iv b)); rw [(m1 b h).1]
  have b2:∀ b s,im b = false → eY e' b s = eY e b s := fun b s h=>by
    cases s with
    | box ty cs=>show some (e'.m b) = some (e.m b); rw [(m2 b h).1]
    | row ty n l=>show Value.ownBlock (e'.sv b) = Value.ownBlock (e.sv b); rw [(m2 b h).2.1]
    | dead=>rfl
    | free=>rfl
    | map P1 k1 e1 l1=>show some (e'.m b) = some (e.m b); rw [(m2 b h).1]
  -- the callee's blocks are the caller's
  have hbl:∀ y,blks el (EY bs st.H) y → ∃ b s,bs.contains b = true ∧ st.H[b]? = some s ∧ eY e b s = some y := fun y ⟨i,s',h1,h2⟩=>by
    obtain ⟨b,s,hi,hb,rfl,_,_⟩ := hL i s' h1
    exact ⟨b,s,hmem i b hi,hb,by rw [← hblk i b s hi]; exact h2⟩
  have hmine:∀ y,blks el (EY bs st.H) y → c.w0.heap.size ≤ y ∨ c.wr y := fun y hy=>by
    obtain ⟨b,s,_,h1,h2⟩ := hbl y hy
    exact hM.mine b s y h1 h2
  have hfar:∀ b s y,bs.contains b = false → st.H[b]? = some s → eY e b s = some y → ¬ blks el (EY bs st.H) y := fun b s y hcb hb hy hk=>by
    obtain ⟨b',s',hc',h1,h2⟩ := hbl y hk
    have := hM.inj b b' s s' y hb h1 hy h2
    subst this
    rw [hcb] at hc'; cases hc'
  have hfar2:∀ b s y,bs.contains b = false → st.H[b]? = some s → eY e b s = some y → ¬ blks e2 Hl y := fun b s y hcb hb hy hk=>by
    rcases g.mine y hk with h1 | h1
    · have := hM.lt hb hy; omega
    · exact hfar b s y hcb hb hy h1
  have hsize := g.only.size
  have hMem:Mem c e' C' (newH bs st.H Hl) w' := by
    refine ⟨fun b s hs=>?_,fun b s hs=>?_,fun b hb=>?_,fun b b' s s' y h1 h2 k1 k2=>?_,fun b s y hs hy=>?_,fun b s y hs hy=>?_,by rw [eI]; exact hM2.inv,hM.le.trans (by rw [eI]; exact leI),fun b oo u k1 k2=>?_,hM.ch.alL g.only hmine,hc.G _ _ (by rw [eI]; exact leI) hM.g,hM.bse.le hle⟩
    · rcases hN b s hs with ⟨hi,s2,h1,rfl⟩ | ⟨hi,hcb,h1⟩
      · have h2 := hM2.hv _ s2 h1
        cases s2 with
        | box ty cs=>exact ⟨(ok1 b hi).2 h2.1,by rw [(m1 b hi).2.2]; exact VR.Qb mv2 _ _ h2.2⟩
        | row ty n l=>exact ⟨(ok1 b hi).2 h2.1,by rw [(m1 b hi).2.2,eI]; exact h2.2.1,h2.2.2.1,h2.2.2.2.1,by rw [(m1 b hi).2.1]; exact h2.2.2.2.2⟩
        | dead=>trivial
        | free=>have := List.all_eq_true.1 hnf _ (List.mem_of_getElem? h1); cases this
        | map P1 k1 e1 l1=>exact ⟨(ok1 b hi).2 h2.1,h2.2⟩
      · by_cases hfr:s = .free
        · subst hfr
          exact fun hk=>hM.hv b _ h1 ((ok2 b hi).1 hk)
        · exact uM hle (m2 b hi).2.2 hfr (hM.hv b s h1)
    · rcases hN b s hs with ⟨hi,s2,h1,rfl⟩ | ⟨hi,hcb,h1⟩
      · have h2 := hM2.hw _ s2 h1
        obtain ⟨q1,q2,q3⟩ := m1 b hi
        cases s2 with
        | box ty cs=>show w'.heap[e'.m b]? = some (.cells (C' b).toArray ty (0,0)); rw [q1,q3]; exact h2
        | row ty n l=>show w'.ownsRow 0 ty n (e'.sv b) l.length (C' b); rw [q2,q3]; exact h2
        | dead=>trivial
        | free=>trivial
        | map P1 k1 e1 l1=>show w'.ownsMap P1 k1 (plainElem P1 e1) (e'.m b) l1.length (mapD l1); rw [q1]; exact h2
      · have h2 := ES (hM.hw b s h1) (w' := w') fun y hy=>g.only.block y (hM.lt h1 hy) (hfar b s y hcb h1 hy)
        obtain ⟨q1,q2,q3⟩ := m2 b hi
        cases s with
        | box ty cs=>show w'.heap[e'.m b]? = some (.cells (C' b).toArray ty (0,0)); rw [q1,q3]; exact h2
        | row ty n l=>show w'.ownsRow 0 ty n (e'.sv b) l.length (C' b); rw [q2,q3]; exact h2
        | dead=>trivial
        | free=>trivial
        | map P1 k1 e1 l1=>show w'.ownsMap P1 k1 (plainElem P1 e1) (e'.m b) l1.length (mapD l1); rw [q1]; exact h2
    · unfold newH
      rw [List.length_append,yH,List.length_map,List.length_drop]
      cases hi:im b with
      | true =>
        have h1 := hM2.bound _ ((ok1 b hi).1 hb)
        cases hq:bs.contains b with
        | true=>have := blt b hq; omega
        | false =>
          have hge:st.H.length ≤ b := by
            subst him
            simp only [hq,Bool.false_or] at hi
            exact Nat.le_of_ble_eq_true hi
          rw [(imN b hge).2] at h1
          omega
      | false=>have := (imF b hi).2; omega
    · rcases hN b s h1 with ⟨hi,s2,n1,rfl⟩ | ⟨hi,hcb,n1⟩ <;> rcases hN b' s' h2 with ⟨hi',s2',n1',rfl⟩ | ⟨hi',hcb',n1'⟩
      · rw [b1 b s2 hi] at k1
        rw [b1 b' s2' hi'] at k2
        have hq := hM2.inj _ _ s2 s2' y n1 n1' k1 k2
        have back:∀ z,im z = true → mY bs st.H.length (iv z) = z := fun z hz=>by
          cases hq:bs.contains z with
          | true=>rw [(imC z hq).2]; unfold mY; rw [qO hq]
          | false =>
            have hge:st.H.length ≤ z := by
              subst him
              simp only [hq,Bool.false_or] at hz
              exact Nat.le_of_ble_eq_true hz
            rw [(imN z hge).2]; unfold mY
            rw [List.getElem?_eq_none (by omega)]
            show st.H.length + (bs.length + (z - st.H.length) - bs.length) = z
            omega
        rw [← back b hi,← back b' hi',hq]
      · rw [b1 b s2 hi] at k1
        rw [b2 b' s' hi'] at k2
        exact absurd ⟨_,s2,n1,k1⟩ (hfar2 b' s' y hcb' n1' k2)
      · rw [b2 b s hi] at k1
        rw [b1 b' s2' hi'] at k2
        exact absurd ⟨_,s2',n1',k2⟩ (hfar2 b s y hcb n1 k1)
      · rw [b2 b s hi] at k1
        rw [b2 b' s' hi'] at k2
        exact hM.inj b b' s s' y n1 n1' k1 k2
    · rcases hN b s hs with ⟨hi,s2,n1,rfl⟩ | ⟨hi,hcb,n1⟩
      · rw [b1 b s2 hi] at hy
        rw [eI]; exact hM2.av _ s2 y n1 hy
      · rw [b2 b s hi] at hy
        intro oo
        rw [eI]
        cases hq:e2.I y oo with
        | none=>rfl
        | some u =>
          have h0:el.I y oo = none := by rw [elI]; exact hM.av b s y n1 hy oo
          rcases g.fresh y oo u hq h0 with h1 | h1
          · have := hM.lt n1 hy; omega
          · exact absurd h1 (hfar b s y hcb n1 hy)
    · rcases hN b s hs with ⟨hi,s2,n1,rfl⟩ | ⟨hi,hcb,n1⟩
      · rw [b1 b s2 hi] at hy
        rcases g.mine y ⟨_,s2,n1,hy⟩ with h1 | h1
        · exact .inl (Nat.le_trans hM.ch.size h1)
        · exact hmine y h1
      · rw [b2 b s hi] at hy
        exact hM.mine b s y n1 hy
    · rw [eI] at k1
      cases hq:e.I b oo with
      | some u'=>exact hM.fresh b oo u' hq k2
      | none =>
        rcases g.fresh b oo u k1 (by rw [elI]; exact hq) with h1 | h1
        · exact .inl (Nat.le_trans hM.ch.size h1)
        · exact hmine b h1
  have hres:VR e' (r.ren (mY bs st.H.length)) v := VR.Qb mv2 r v hv
  obtain ⟨k1,k2,k3⟩ := jK hT (hR.tmp.mono hle) hR.size hres
  refine K _ C' _ w' ⟨k1,k2,k3.trans hR.defers,hMem⟩ ⟨hle,(fun h=>by cases h),fun b s hb hnb hl=>?_,Inv.le2 hM2.inv leI⟩
  have hcb:bs.contains b = false := by
    cases hq:bs.contains b with
    | true=>exact absurd (List.contains_iff_mem.1 hq) hnb
    | false=>rfl
  have hlt := (List.getElem?_eq_some_iff.1 hb).1
  have hi:im b = false := by
    subst him
    simp only [hcb,Bool.false_or]
    cases hk:Nat.ble st.H.length b with
    | false=>rfl
    | true=>have := Nat.le_of_ble_eq_true hk; omega
  refine ⟨s,?_,hl,fun w1 h=>?_⟩
  · unfold newH
    rw [List.getElem?_append,yH,if_pos hlt,Nq,Nat.zero_add,hb]
    simp only [hcb,Option.map_some]
  · exact (EU hle (Eu (hM.hv b s hb) hl) (m2 b hi).2.2).1 h
theorem LOp.an9 (hc:c.Ok) {cl:Call} (ho:o.op = .call cl) {x:Operand} (hf:cl.callee = .value x) {f:FuncId} (hx:∀ (e:Env) (a:Act),iY e st.T a.tmps → a.eval x = .func (.func f) #[] #[]) {bs:List Nat} {ds:List AV} (hd:evs st.T cl.args.toList = some ds) (hin:I5 bs ds = true) (hnd:nodupB bs = true)
    (hsl:slB bs st.H = true) {r:AV} {Hl:List Slot} (hlen:Nat.ble bs.length Hl.length = true) (hnf:Hl.all Slot.xQ = true) (hF:FnH c.P c.G f (xP (posB bs) ds) (EY bs st.H) r Hl)
    {T':List (Nat × AV)} (hT:jE c.nt st.T o.dst (r.ren (mY bs st.H.length)) = some T') : LOp c o st ⟨T',newH bs st.H Hl⟩ bs true :=
  LOp.akq hc ho hf (cap := []) (fun e a h=>⟨[],hx e a h,VRs.nil⟩) hd (List.append_nil _).symm hin hnd hsl hlen hnf hF hT
end
end Go.Proofs.YtflpefkohpjjpaaGreatDoor
set_option linter.unusedSimpArgs false
set_option linter.unusedVariables false
namespace Go.Proofs.YtflpefkohpjjpaaGreatDoor
open Go.RowKit
mutual
/-- neither b' is mentioned, nor a cell of row b -/
def AV.nor (b b':Nat) : AV → Bool
  | .ptr x _=>!Nat.beq x b'
  | .oN x _ _ _=>!Nat.beq x b' && !Nat.beq x b
  | .own x=>!Nat.beq x b'
  | .mp x=>!Nat.beq x b'
  | .agg l=>Zp b b' l
  | .tup l=>Zp b b' l
  | .clo _ l=>Zp b b' l
  | _=>true
def Zp (b b':Nat) : List AV → Bool
  | []=>true
  | x :: r=>AV.nor b b' x && Zp b b' r
end
def ahO (b b':Nat) : List (Nat × AV) → Bool
  | []=>true
  | (_,v) :: r=>AV.nor b b' v && ahO b b' r
def I7 (b b':Nat) : List Slot → Bool
  | []=>true
  | .box _ cs :: r=>AV.nor b b' cs && I7 b b' r
  | _ :: r=>I7 b b' r
def mvR (b b':Nat) (st:St) : Option St := match st.H[b]? with
  | some (.row ty n l)=>match st.H[b']? with
    | some .dead=>match ahO b b' st.T && I7 b b' st.H && !Nat.beq b b' with
      | true=>some ⟨fzT b (.own b') st.T,((st.H.set b' (.row ty n l)).set b .dead).map (Slot.fz b (.own b'))⟩
      | false=>none
    | _=>none
  | _=>none
def Env.mv (e:Env) (b b':Nat) : Env := { ok := fun x=>x = b' ∨ e.ok x,m := e.m,sv := fun x=>if x = b' then e.sv b else e.sv x,I := e.I }
theorem alM {x y:Nat} (h:(!Nat.beq x y) = true) : x ≠ y := by rintro rfl; simp at h
mutual
theorem VR.mv {e:Env} {b b':Nat} : ∀ (x:AV) (v:Value),AV.nor b b' x = true → VR e x v → VR (e.mv b b') (AV.fz b (.own b') x) v
  | .ptr x off,v,hk,hv=>by
    unfold AV.nor at hk; unfold AV.fz; unfold VR at hv ⊢
    exact ⟨.inr hv.1,hv.2⟩
  | .oN x n j off,v,hk,hv=>by
    unfold AV.nor at hk; unfold AV.fz; unfold VR at hv ⊢
    rw [Bool.and_eq_true] at hk
    refine ⟨.inr hv.1,?_⟩
    rw [show (e.mv b b').sv x = e.sv x from if_neg (alM hk.1)]
    exact hv.2
  | .own x,v,hk,hv=>by
    unfold AV.nor at hk; unfold AV.fz
    split
    · rename_i hb
      have := eu hb
      subst this
      unfold VR at hv ⊢
      exact ⟨.inl rfl,by rw [show (e.mv x b').sv b' = e.sv x from if_pos rfl]; exact hv.2.1,hv.2.2⟩
    · unfold VR at hv ⊢
      exact ⟨.inr hv.1,by rw [show (e.mv b b').sv x = e.sv x from if_neg (alM hk)]; exact hv.2.1,hv.2.2⟩
  | .mp x,v,hk,hv=>by
    unfold AV.nor at hk; unfold AV.fz; unfold VR at hv ⊢
    exact ⟨.inr hv.1,hv.2⟩
  | .agg l,v,hk,hv=>by
    unfold AV.nor at hk; unfold AV.fz
    obtain ⟨cs,e1,h1⟩ := VR.agg.1 hv
    exact VR.agg.2 ⟨cs,e1,VRs.mv l cs hk h1⟩
  | .tup l,v,hk,hv=>by
    unfold AV.nor at hk; unfold AV.fz
    obtain ⟨cs,e1,h1⟩ := VR.tup.1 hv
    exact VR.tup.2 ⟨cs,e1,VRs.mv l cs hk h1⟩
  | .clo f l,v,hk,hv=>by
    unfold AV.nor at hk; unfold AV.fz
    obtain ⟨cs,e1,h1⟩ := VR.clo.1 hv
    exact VR.clo.2 ⟨cs,e1,VRs.mv l cs hk h1⟩
  | .lf x,v,_,hv=>by unfold AV.fz; unfold VR at hv ⊢; exact hv
  | .dat r,v,_,hv=>by unfold AV.fz; unfold VR at hv ⊢; exact hv
  | .dp r off,v,_,hv=>by unfold AV.fz; unfold VR at hv ⊢; exact hv
  | .bU n,v,_,hv=>by unfold AV.fz; unfold VR at hv ⊢; exact hv
  | .raw u,v,_,hv=>by unfold AV.fz; unfold VR at hv ⊢; exact hv
theorem VRs.mv {e:Env} {b b':Nat} : ∀ (l:List AV) (cs:List Value),Zp b b' l = true → VRs e l cs → VRs (e.mv b b') (fzs b (.own b') l) cs
  | [],cs,_,hv=>by unfold fzs; unfold VRs at hv ⊢; exact hv
  | x :: r,cs,hk,hv=>by
    unfold Zp at hk
    rw [Bool.and_eq_true] at hk
    unfold fzs
    unfold VRs at hv ⊢
    obtain ⟨u,q,e1,h1,h2⟩ := hv
    exact ⟨u,q,e1,VR.mv x u hk.1 h1,VRs.mv r q hk.2 h2⟩
end
theorem XI {b b':Nat} : ∀ {T:List (Nat × AV)} {t:Nat} {v:AV},ahO b b' T = true → lk T t = some v → AV.nor b b' v = true
  | [],t,v,_,h=>by cases h
  | (k,x) :: r,t,v,hn,h=>by
    unfold ahO at hn
    rw [Bool.and_eq_true] at hn
    unfold lk at h
    split at h
    · injection h with h; subst h; exact hn.1
    · exact XI hn.2 h
theorem XJ {b b':Nat} : ∀ {H:List Slot} {x:Nat} {ty:TypeId} {cs:AV},I7 b b' H = true → H[x]? = some (.box ty cs) → AV.nor b b' cs = true
  | [],x,ty,cs,_,h=>by simp at h
  | s :: r,x,ty,cs,hn,h=>by
    cases x with
    | zero =>
      obtain rfl:s = .box ty cs := by simpa using h
      unfold I7 at hn
      rw [Bool.and_eq_true] at hn
      exact hn.1
    | succ x =>
      refine XJ (H := r) (x := x) ?_ (by simpa using h)
      cases s with
      | box ty' cs'=>unfold I7 at hn; rw [Bool.and_eq_true] at hn; exact hn.2
      | row ty' n l=>unfold I7 at hn; exact hn
      | dead=>unfold I7 at hn; exact hn
      | free=>unfold I7 at hn; exact hn
      | map P1 k1 e1 l1=>unfold I7 at hn; exact hn
theorem acX {c:Ctx} {b b':Nat} (hx0:∀ x,c.e0.ok x → x ≠ b') {st st':St} (h:mvR b b' st = some st') {e:Env} {C:Nat → List Value} {a:Act} {w:World} (hR:Rep c e C st a w) : Rep c (e.mv b b') (jD C b' (C b)) st' a w := by
  unfold mvR at h
  split at h
  · rename_i ty n l hb
    split at h
    · rename_i hb'
      split at h
      · rename_i hk
        simp only [Bool.and_eq_true] at hk
        obtain ⟨⟨hkT,hkH⟩,hne⟩ := hk
        have hne := alM hne
        injection h with h
        subst h
        have hM := hR.mem
        have hlt := (List.getElem?_eq_some_iff.1 hb).1
        have hlt' := (List.getElem?_eq_some_iff.1 hb').1
        have hC:∀ x,x ≠ b' → jD C b' (C b) x = C x := fun x hx=>if_neg hx
        have hCb:jD C b' (C b) b' = C b := if_pos rfl
        have hsv:∀ x,x ≠ b' → (e.mv b b').sv x = e.sv x := fun x hx=>if_neg hx
        have hsvb:(e.mv b b').sv b' = e.sv b := if_pos rfl
        have key:∀ x s,(((st.H.set b' (.row ty n l)).set b .dead).map (Slot.fz b (.own b')))[x]? = some s → (x = b ∧ s = .dead) ∨ (x = b' ∧ s = .row ty n l) ∨ (x ≠ b ∧ x ≠ b' ∧ ∃ s0,st.H[x]? = some s0 ∧ s = s0.fz b (.own b')) := fun x s hs=>by
          rw [List.getElem?_map,List.getElem?_set] at hs
          by_cases hx:b = x
          · rw [if_pos hx] at hs
            split at hs
            · simp [Slot.fz] at hs; exact .inl ⟨hx.symm,hs.symm⟩
            · rename_i hf; exact absurd (by rw [List.length_set]; exact hlt) hf
          · rw [if_neg hx,List.getElem?_set] at hs
            by_cases hx':b' = x
            · rw [if_pos hx'] at hs
              split at hs
              · simp [Slot.fz] at hs; exact .inr (.inl ⟨hx'.symm,hs.symm⟩)
              · rename_i hf; exact absurd hlt' hf
            · rw [if_neg hx'] at hs
              cases hq:st.H[x]? with
              | none=>rw [hq] at hs; simp at hs
              | some s0=>rw [hq] at hs; simp at hs; exact .inr (.inr ⟨Ne.symm hx,Ne.symm hx',s0,rfl,hs.symm⟩)
        have hrow := hM.hv b _ hb
        have hroww:w.ownsRow 0 ty n (e.sv b) l.length (C b) := hM.hw b _ hb
        have blk:∀ x s g,(((st.H.set b' (.row ty n l)).set b .dead).map (Slot.fz b (.own b')))[x]? = some s → eY (e.mv b b') x s = some g → ∃ y s0,st.H[y]? = some s0 ∧ eY e y s0 = some g ∧ (x = b' ∧ y = b ∨ x ≠ b' ∧ x ≠ b ∧ y = x) := fun x s g hs hg=>by
          rcases key x s hs with ⟨rfl,rfl⟩ | ⟨rfl,rfl⟩ | ⟨h1,h2,s0,h3,rfl⟩
          · cases hg
          · refine ⟨b,_,hb,?_,.inl ⟨rfl,rfl⟩⟩
            have hg:((e.mv b x).sv x).ownBlock = some g := hg
            rw [hsvb] at hg; exact hg
          · refine ⟨x,s0,h3,?_,.inr ⟨h2,h1,rfl⟩⟩
            cases s0 with
            | box ty' cs=>exact hg
            | row ty' n' l' =>
              have hg:((e.mv b b').sv x).ownBlock = some g := hg
              rw [hsv x h2] at hg; exact hg
            | dead=>cases hg
            | free=>cases hg
            | map P1 k1 e1 l1=>exact hg
        refine ⟨fun t v hv=>?_,hR.size,hR.defers,⟨fun x s hs=>?_,fun x s hs=>?_,fun x hx=>?_,fun x x' s s' g h1 h2 k1 k2=>?_,fun x s g hs hg=>?_,fun x s g hs hg=>?_,hM.inv,hM.le,hM.fresh,hM.ch,hM.g,fun x hx=>?_⟩⟩
        rotate_right
        · obtain ⟨q1,q2,q3⟩ := hM.bse x hx
          have hxb:x ≠ b' := hx0 x hx
          exact ⟨.inr q1,q2,(hsv x hxb).trans q3⟩
        · have hv:lk (fzT b (.own b') st.T) t = some v := hv
          rw [Np] at hv
          cases hq:lk st.T t with
          | none=>rw [hq] at hv; cases hv
          | some y =>
            rw [hq] at hv
            injection hv with hv
            subst hv
            obtain ⟨u,k1,k2⟩ := hR.tmp t y hq
            exact ⟨u,k1,VR.mv y u (XI hkT hq) k2⟩
        · rcases key x s hs with ⟨rfl,rfl⟩ | ⟨rfl,rfl⟩ | ⟨h1,h2,s0,h3,rfl⟩
          · trivial
          · exact ⟨.inl rfl,by rw [hCb]; exact hrow.2.1,hrow.2.2.1,hrow.2.2.2.1,by rw [hsvb]; exact hrow.2.2.2.2⟩
          · have h4 := hM.hv x s0 h3
            cases s0 with
            | box ty' cs=>exact ⟨.inr h4.1,by rw [hC x h2]; exact VR.mv cs _ (XJ hkH h3) h4.2⟩
            | row ty' n' l'=>exact ⟨.inr h4.1,by rw [hC x h2]; exact h4.2.1,h4.2.2.1,h4.2.2.2.1,by rw [hsv x h2]; exact h4.2.2.2.2⟩
            | dead=>trivial
            | free =>
              show ¬ (x = b' ∨ e.ok x)
              rintro (h5 | h5)
              · exact h2 h5
              · exact h4 h5
            | map P1 k1 e1 l1=>exact ⟨.inr h4.1,h4.2⟩
        · rcases key x s hs with ⟨rfl,rfl⟩ | ⟨rfl,rfl⟩ | ⟨h1,h2,s0,h3,rfl⟩
          · trivial
          · show w.ownsRow 0 ty n ((e.mv b x).sv x) l.length (jD C x (C b) x)
            rw [hsvb,hCb]; exact hroww
          · have h4 := hM.hw x s0 h3
            cases s0 with
            | box ty' cs=>show w.heap[e.m x]? = some (Obj.cells (jD C b' (C b) x).toArray ty' (0,0)); rw [hC x h2]; exact h4
            | row ty' n' l'=>show w.ownsRow 0 ty' n' ((e.mv b b').sv x) l'.length (jD C b' (C b) x); rw [hsv x h2,hC x h2]; exact h4
            | dead=>trivial
            | free=>trivial
            | map P1 k1 e1 l1=>exact h4
        · show x < (((st.H.set b' (.row ty n l)).set b .dead).map _).length
          rw [List.length_map,List.length_set,List.length_set]
          rcases hx with rfl | hx
          · exact hlt'
          · exact hM.bound x hx
        · obtain ⟨y,s0,m1,m2,m3⟩ := blk x s g h1 k1
          obtain ⟨y',s0',n1,n2,n3⟩ := blk x' s' g h2 k2
          have := hM.inj y y' s0 s0' g m1 n1 m2 n2
          subst this
          rcases m3 with ⟨rfl,rfl⟩ | ⟨h5,h6,rfl⟩ <;> rcases n3 with ⟨rfl,h7⟩ | ⟨h7,h8,h9⟩
          · rfl
          · exact absurd h9.symm h8
          · exact absurd h7 h6
          · exact h9
        · obtain ⟨y,s0,m1,m2,_⟩ := blk x s g hs hg
          exact hM.av y s0 g m1 m2
        · obtain ⟨y,s0,m1,m2,_⟩ := blk x s g hs hg
          exact hM.mine y s0 g m1 m2
      · cases h
    · cases h
  · cases h
/-- a row moves to a new place -/
theorem alN {c:Ctx} {b:Nat} {st st':St} (h:mvR b st.H.length ⟨st.T,st.H ++ [.dead]⟩ = some st') {e:Env} {C:Nat → List Value} {a:Act} {w:World} (hR:Rep c e C st a w) :
    ∃ e' C',Rep c e' C' st' a w ∧ jv [b] false e C st.H e' C' st'.H w := by
  have hM := hR.mem
  have hnok:¬ e.ok st.H.length := fun hk=>by have := hM.bound _ hk; omega
  have key:∀ (x:Nat) (t:Slot),(st.H ++ [Slot.dead])[x]? = some t → st.H[x]? = some t ∨ t = Slot.dead := fun x t hx=>by
    rw [List.getElem?_append] at hx
    split at hx
    · exact .inl hx
    · right
      rcases hq:x - st.H.length with _ | k
      · rw [hq] at hx; simpa using hx.symm
      · rw [hq] at hx; simp at hx
  have hR1:Rep c e C ⟨st.T,st.H ++ [.dead]⟩ a w := by
    refine ⟨hR.tmp,hR.size,hR.defers,⟨fun x t hx=>?_,fun x t hx=>?_,fun x hx=>by have := hM.bound x hx; show x < (st.H ++ [Slot.dead]).length; rw [List.length_append]; omega,fun x x' t t' g h1 h2 k1 k2=>?_,fun x t g hx hg=>?_,fun x t g hx hg=>?_,hM.inv,hM.le,hM.fresh,hM.ch,hM.g,hM.bse⟩⟩
    · rcases key x t hx with h1 | rfl
      · exact hM.hv x t h1
      · trivial
    · rcases key x t hx with h1 | rfl
      · exact hM.hw x t h1
      · trivial
    · rcases key x t h1 with h1 | rfl
      · rcases key x' t' h2 with h2 | rfl
        · exact hM.inj x x' t t' g h1 h2 k1 k2
        · cases k2
      · cases k1
    · rcases key x t hx with h1 | rfl
      · exact hM.av x t g h1 hg
      · cases hg
    · rcases key x t hx with h1 | rfl
      · exact hM.mine x t g h1 hg
      · cases hg
  have hk := acX (c := c) (fun x hx=>by have := hM.bound x (hM.bse x hx).1; omega) h hR1
  have hsv:∀ x,x ≠ st.H.length → (e.mv b st.H.length).sv x = e.sv x := fun x hx=>if_neg hx
  refine ⟨_,_,hk,⟨⟨fun x hx=>.inr hx,fun x _=>rfl,fun x hx=>hsv x (fun he=>hnok (he ▸ hx)),Le.refl _⟩,fun _=>rfl,fun x s hs hnx hl=>?_,hM.inv⟩⟩
  have hxb:x ≠ b := by simpa using hnx
  have hlt := (List.getElem?_eq_some_iff.1 hs).1
  have hxl:x ≠ st.H.length := by omega
  have hC:∀ z,z ≠ st.H.length → jD C st.H.length (C b) z = C z := fun z hz=>if_neg hz
  refine ⟨s.fz b (.own st.H.length),?_,(by cases s <;> first | trivial | exact hl.elim),fun w1 h1=>?_⟩
  · unfold mvR at h
    split at h
    · rename_i ty n l hb
      split at h
      · split at h
        · injection h with h
          subst h
          show ((((st.H ++ [Slot.dead]).set st.H.length (Slot.row ty n l)).set b Slot.dead).map (Slot.fz b (AV.own st.H.length)))[x]? = _
          rw [List.getElem?_map,List.getElem?_set_ne (Ne.symm hxb),List.getElem?_set_ne (Ne.symm hxl),List.getElem?_append_left hlt,hs]; rfl
        · cases h
      · cases h
    · cases h
  · cases s with
    | box ty cs =>
      have h1:w1.heap[e.m x]? = some (Obj.cells (jD C st.H.length (C b) x).toArray ty (0,0)) := h1
      rw [hC x hxl] at h1; exact h1
    | row ty n l =>
      have h1:w1.ownsRow 0 ty n ((e.mv b st.H.length).sv x) l.length (jD C st.H.length (C b) x) := h1
      rw [hsv x hxl,hC x hxl] at h1; exact h1
    | dead=>trivial
    | free=>cases hl
    | map P1 k1 e1 l1=>exact h1
end Go.Proofs.YtflpefkohpjjpaaGreatDoor
set_option linter.unusedSimpArgs false
set_option linter.unusedVariables false
namespace Go.Proofs.YtflpefkohpjjpaaGreatDoor
open Go.RowKit
structure OR where
  st:St
  qs:List Ans
  p:List Prop
  ch:List Nat
  gr:Bool
def ahP (P:Program) (tt:TT) (nt:Nat) (st:St) (o:Oper) (qs:List Ans) : Option OR :=
  match qev P tt true true st.T st.H o.op qs with
  | some (v,qs',p)=>match jE nt st.T o.dst v with
    | some T'=>some ⟨⟨T',st.H⟩,qs',p,[],false⟩
    | none=>none
  | none=>none
/-- append of a string's bytes -/
def alO (P:Program) (G:Gh → Prop) (nt:Nat) (st:St) (o:Oper) (cl:Call) (x:Operand) (qs:List Ans) : Option OR :=
  match ev st.T x with
  | some (.clo f cap)=>match qs with
    | .iD bs r Hl :: qs'=>match evs st.T cl.args.toList with
      | some ds=>match I5 bs (ds ++ cap) && nodupB bs && slB bs st.H && Nat.ble bs.length Hl.length && Hl.all Slot.xQ with
        | true=>match jE nt st.T o.dst (r.ren (mY bs st.H.length)) with
          | some T'=>some ⟨⟨T',newH bs st.H Hl⟩,qs',[FnH P G f (xP (posB bs) (ds ++ cap)) (EY bs st.H) r Hl],bs,true⟩
          | none=>none
        | false=>none
      | none=>none
    | _=>none
  | _=>none
def alP (tt:TT) (nt:Nat) (st:St) (o:Oper) (x y:Operand) (t u:TypeId) (qs:List Ans) : Option OR :=
  match jR tt t with
  | some (el,n)=>match jM tt el with
    | some i=>match i.z with
      | some z=>match jM tt u with
        | some ti=>match XG z && ti.isStr && (Nat.beq n 1 && Nat.beq i.bytes 1) with
          | true=>match ev st.T x with
            | some xa=>match ev st.T y with
              | some (.lf (.str s))=>match uN st.H el n xa with
                | some (l0,ob)=>match iL (oP st.H ob) (.row el n (rX (l0 ++ rY s) qs).1) (rX (l0 ++ rY s) qs).2.1 with
                  | some (b,H',qs')=>match jE nt st.T o.dst (.own b) with
                    | some T'=>some ⟨⟨T',H'⟩,qs',(rX (l0 ++ rY s) qs).2.2 ++ [l0.length + s.size ≤ 140737488355328],ob.toList,false⟩
                    | none=>none
                  | none=>none
                | none=>none
              | _=>none
            | none=>none
          | false=>none
        | none=>none
      | none=>none
    | none=>none
  | none=>none
def lev (P:Program) (G:Gh → Prop) (tt:TT) (nt:Nat) (st:St) (o:Oper) (qs:List Ans) : Option OR :=
  match o.op with
  | .alloc t=>match jM tt t with
    | some i=>match i.z with
      | some z=>match qN z with
        | some y=>match iL st.H (.box t y) qs with
          | some (b,H',qs')=>match jE nt st.T o.dst (.ptr b 0) with
            | some T'=>some ⟨⟨T',H'⟩,qs',[],[],false⟩
            | none=>none
          | none=>none
        | none=>none
      | none=>none
    | none=>none
  | .box t x=>match ev st.T x with
    | some z=>match qN z with
      | some y=>match iL st.H (.box t y) qs with
        | some (b,H',qs')=>match jE nt st.T o.dst (.ptr b 0) with
          | some T'=>some ⟨⟨T',H'⟩,qs',[],[],false⟩
          | none=>none
        | none=>none
      | none=>none
    | none=>none
  | .store t x y=>match jM tt t with
    | some i=>match evN i.z st.T y with
      | some v=>match v.width with
        | some n=>match Nat.beq n i.size && v.PN with
          | true=>match jE nt st.T o.dst (.raw undef) with
            | some T'=>match ev st.T x with
              | some (.ptr b q)=>match st.H[b]? with
                | some (.box ty cs)=>match Vm cs q v with
                  | some cs'=>some ⟨⟨T',st.H.set b (.box ty cs')⟩,qs,[],[b],false⟩
                  | none=>none
                | _=>none
              | some (.oN b m j q)=>match qs with
                | .row r :: qs'=>match st.H[b]? with
                  | some (.row ty m' l)=>match Nat.beq m' m with
                    | true=>match Vm (.dat r) q v with
                      | some (.dat r')=>some ⟨⟨T',st.H.set b (.row ty m (rX (l.set j r') qs').1)⟩,(rX (l.set j r') qs').2.1,(rX (l.set j r') qs').2.2 ++ [l[j]? = some r],[b],false⟩
                      | _=>none
                    | false=>none
                  | _=>none
                | _=>none
              | _=>none
            | none=>none
          | false=>none
        | none=>none
      | none=>none
    | none=>none
  | .makeMap t none=>match Jq tt t with
    | some (kt,et,_,_)=>match iL st.H (.map P kt et []) qs with
      | some (b,H',qs')=>match jE nt st.T o.dst (.mp b) with
        | some T'=>some ⟨⟨T',H'⟩,qs',[],[],false⟩
        | none=>none
      | none=>none
    | none=>none
  | .mapUpdate t m k y=>match Jq tt t with
    | some (kt,et,d,_)=>match ev st.T m with
      | some (.mp b)=>match st.H[b]? with
        | some (.map P' k' e' l)=>match Nat.beq k' kt && Nat.beq e' et with
          | true=>match ev st.T k with
            | some (.lf (.str s))=>match ev st.T y with
              | some (.lf x)=>match zl d x with
                | true=>match jE nt st.T o.dst (.raw undef) with
                  | some T'=>some ⟨⟨T',st.H.set b (.map P' k' e' ((s,x) :: l))⟩,qs,[P' = P,l.length < maxLen],[b],false⟩
                  | none=>none
                | false=>none
              | _=>none
            | _=>none
          | false=>none
        | _=>none
      | _=>none
    | none=>none
  | .buildSlice t len parts=>match jR tt t with
    | some (el,n)=>match jM tt el with
      | some i=>match i.z with
        | some _=>match pW st.T n 0 parts.toList with
          | some l=>match Nat.beq l.length len && Nat.ble (len * n) 16777216 && Nat.blt 0 n with
            | true=>match iL st.H (.row el n l) qs with
              | some (b,H',qs')=>match jE nt st.T o.dst (.own b) with
                | some T'=>some ⟨⟨T',H'⟩,qs',[],[],false⟩
                | none=>none
              | none=>none
            | false=>none
          | none=>none
        | none=>none
      | none=>none
    | none=>none
  | .makeSlice t x y=>match jR tt t with
    | some (el,n)=>match jM tt el with
      | some i=>match i.z with
        | some z=>match yG z with
          | some q=>match ev st.T x with
            | some (.lf (.int _ m))=>match ev st.T y with
              | some (.lf (.int _ m'))=>match iL st.H (.row el n (rX (List.replicate m.toNat q) qs).1) (rX (List.replicate m.toNat q) qs).2.1 with
                | some (b,H',qs')=>match jE nt st.T o.dst (.own b) with
                  | some T'=>some ⟨⟨T',H'⟩,qs',(rX (List.replicate m.toNat q) qs).2.2 ++ [m' = m ∧ 0 ≤ m ∧ i.bytes * m.toNat ≤ 281474976710656 ∧ m.toNat ≤ maxLen],[],false⟩
                  | none=>none
                | none=>none
              | _=>none
            | _=>none
          | none=>none
        | none=>none
      | none=>none
    | none=>none
  | .call cl=>match cl.callee with
    | .builtin .append=>match cl.args.toList with
      | [x,y]=>match cl.argTypes.toList with
        | [t,t']=>match Nat.beq t t' with
          | true=>match jR tt t with
            | some (el,n)=>match jM tt el with
              | some i=>match i.z with
                | some _=>match ev st.T x with
                  | some xa=>match ev st.T y with
                    | some ya=>match uN st.H el n xa with
                      | some (l0,ob)=>match Ew st.H n ya with
                        | some l1=>match Nat.blt 0 n && Nat.blt 0 i.bytes with
                          | true=>match iL (oP st.H ob) (.row el n (rX (l0 ++ l1) qs).1) (rX (l0 ++ l1) qs).2.1 with
                            | some (b,H',qs')=>match jE nt st.T o.dst (.own b) with
                              | some T'=>some ⟨⟨T',H'⟩,qs',(rX (l0 ++ l1) qs).2.2 ++ [(l0.length + l1.length) * i.bytes ≤ 140737488355328],ob.toList,false⟩
                              | none=>none
                            | none=>none
                          | false=>none
                        | none=>none
                      | none=>none
                    | none=>none
                  | none=>none
                | none=>none
              | none=>none
            | none=>none
          | false=>alP tt nt st o x y t t' qs
        | _=>none
      | _=>none
    | .value x=>match acW st.T x with
      | some f=>match qs with
        | .res r :: qs'=>match xO st.T cl.args.toList with
          | some ds=>match r.isD with
            | true=>match jE nt st.T o.dst r with
              | some T'=>some ⟨⟨T',st.H⟩,qs',[Fn P G f ds r],[],true⟩
              | none=>none
            | false=>none
          | none=>none
        | .iD bs r Hl :: qs'=>match evs st.T cl.args.toList with
          | some ds=>match I5 bs ds && nodupB bs && slB bs st.H && Nat.ble bs.length Hl.length && Hl.all Slot.xQ with
            | true=>match jE nt st.T o.dst (r.ren (mY bs st.H.length)) with
              | some T'=>some ⟨⟨T',newH bs st.H Hl⟩,qs',[FnH P G f (xP (posB bs) ds) (EY bs st.H) r Hl],bs,true⟩
              | none=>none
            | false=>none
          | none=>none
        | _=>none
      | none=>alO P G nt st o cl x qs
    | _=>ahP P tt nt st o qs
  | _=>ahP P tt nt st o qs
section
variable {c:Ctx} {o:Oper} {st:St} {qs:List Ans} {r:OR}
theorem XK (hc:c.Ok) (h:ahP c.P c.tt c.nt st o qs = some r) (hp:dS r.p) : LOp c o st r.st r.ch r.gr := by
  unfold ahP at h
  split at h
  · rename_i v qs' p hq
    split at h
    · rename_i T' hT
      injection h with h
      subst h
      exact LOp.quiet hc hq hp hT
    · cases h
  · cases h
theorem ahQ (hc:c.Ok) {cl:Call} (ho:o.op = .call cl) {x:Operand} (hcal:cl.callee = .value x) (h:alO c.P c.G c.nt st o cl x qs = some r) (hp:dS r.p) : LOp c o st r.st r.ch r.gr := by
  unfold alO at h
  split at h
  · rename_i f cap hx
    split at h
    · rename_i bs r0 Hl qs'
      split at h
      · rename_i ds hd
        split at h
        · rename_i hb
          simp only [Bool.and_eq_true] at hb
          obtain ⟨⟨⟨⟨b1,b2⟩,b3⟩,b4⟩,b5⟩ := hb
          split at h
          · rename_i T' hT
            injection h with h
            subst h
            exact LOp.akq hc ho hcal (fun e a hR=>VR.clo.1 (cO hR hx)) hd rfl b1 b2 b3 b4 b5 hp.1 hT
          · cases h
        · cases h
      · cases h
    · cases h
  · cases h
theorem ahR (hc:c.Ok) {cl:Call} (ho:o.op = .call cl) (hcal:cl.callee = .builtin .append) {x y:Operand} (ha:cl.args.toList = [x,y]) {t u:TypeId} (hat:cl.argTypes.toList = [t,u]) (h:alP c.tt c.nt st o x y t u qs = some r) (hp:dS r.p) : LOp c o st r.st r.ch r.gr := by
  unfold alP at h
  split at h
  · rename_i el n he
    split at h
    · rename_i i hi
      split at h
      · rename_i z hz
        split at h
        · rename_i ti hti
          split at h
          · rename_i hb
            rw [Bool.and_eq_true,Bool.and_eq_true,Bool.and_eq_true] at hb
            split at h
            · rename_i xa hx
              split at h
              · rename_i s hy
                split at h
                · rename_i l0 ob hl0
                  split at h
                  · rename_i b H' qs' hs
                    split at h
                    · rename_i T' hT
                      injection h with h
                      subst h
                      obtain ⟨hp1,hp⟩ := dS.app hp
                      rw [yE hp1] at hs
                      exact LOp.ahN hc ho hcal ha hat he hi hz hb.1.1 hti hb.1.2 hx hy hl0 (eu hb.2.1) (eu hb.2.2) hp.1 hs hT
                    · cases h
                  · cases h
                · cases h
              · cases h
            · cases h
          · cases h
        · cases h
      · cases h
    · cases h
  · cases h
theorem Nr (hc:c.Ok) (h:lev c.P c.G c.tt c.nt st o qs = some r) (hp:dS r.p) : LOp c o st r.st r.ch r.gr := by
  unfold lev at h
  split at h
  · rename_i t ho
    split at h
    · rename_i i hi
      split at h
      · rename_i z hz
        split at h
        · rename_i y hy
          split at h
          · rename_i b H' qs' hs
            split at h
            · rename_i T' hT
              injection h with h
              subst h
              exact LOp.alloc hc ho hi hz hy hs hT
            · cases h
          · cases h
        · cases h
      · cases h
    · cases h
  · rename_i t x ho
    split at h
    · rename_i z hz
      split at h
      · rename_i y hy
        split at h
        · rename_i b H' qs' hs
          split at h
          · rename_i T' hT
            injection h with h
            subst h
            exact LOp.box ho hz hy hs hT
          · cases h
        · cases h
      · cases h
    · cases h
  · rename_i t x y ho
    split at h
    · rename_i i hi
      split at h
      · rename_i v hy
        split at h
        · rename_i n hn
          split at h
          · rename_i hb
            rw [Bool.and_eq_true] at hb
            split at h
            · rename_i T' hT
              split at h
              · rename_i b q hx
                split at h
                · rename_i ty cs hbx
                  split at h
                  · rename_i cs' hu
                    injection h with h
                    subst h
                    exact LOp.store hc ho hi hx hy hn (eu hb.1) hb.2 hbx hu hT
                  · cases h
                · cases h
              · rename_i b m j q hx
                split at h
                · rename_i r0 qs'
                  split at h
                  · rename_i ty m' l hbx
                    split at h
                    · rename_i hm
                      have hm := eu hm
                      subst hm
                      split at h
                      · rename_i r' hu
                        injection h with h
                        subst h
                        obtain ⟨hp1,hp⟩ := dS.app hp
                        simp only [yE hp1]
                        exact LOp.alJ hc ho hi hx hy hn (eu hb.1) hb.2 hbx hp.1 hu hT
                      · cases h
                    · cases h
                  · cases h
                · cases h
              · cases h
            · cases h
          · cases h
        · cases h
      · cases h
    · cases h
  · rename_i t ho
    split at h
    · rename_i kt et d z hmt
      split at h
      · rename_i b H' qs' hs
        split at h
        · rename_i T' hT
          injection h with h
          subst h
          exact LOp.mkMap ho hs hT
        · cases h
      · cases h
    · cases h
  · rename_i t m k y ho
    split at h
    · rename_i kt et d z hmt
      split at h
      · rename_i b hm
        split at h
        · rename_i P' k' e' l hb
          split at h
          · rename_i hke
            rw [Bool.and_eq_true] at hke
            have e1 := eu hke.1
            have e2 := eu hke.2
            subst e1 e2
            split at h
            · rename_i s hk
              split at h
              · rename_i x hy
                split at h
                · rename_i hz
                  split at h
                  · rename_i T' hT
                    injection h with h
                    subst h
                    exact LOp.alK hc ho hmt hm hb hp.1 hp.2.1 hk hy hz hT
                  · cases h
                · cases h
              · cases h
            · cases h
          · cases h
        · cases h
      · cases h
    · cases h
  · rename_i t len parts ho
    split at h
    · rename_i el n he
      split at h
      · rename_i i hi
        split at h
        · rename_i z hz
          split at h
          · rename_i l hl
            split at h
            · rename_i hb
              simp only [Bool.and_eq_true] at hb
              split at h
              · rename_i b H' qs' hs
                split at h
                · rename_i T' hT
                  injection h with h
                  subst h
                  exact LOp.buildSlice hc ho he hi hz hl (eu hb.1.1) (Nat.le_of_ble_eq_true hb.1.2) (Nat.le_of_ble_eq_true hb.2) hs hT
                · cases h
              · cases h
            · cases h
          · cases h
        · cases h
      · cases h
    · cases h
  · rename_i t x y ho
    split at h
    · rename_i el n he
      split at h
      · rename_i i hi
        split at h
        · rename_i z hz
          split at h
          · rename_i q hq
            split at h
            · rename_i k1 m hx
              split at h
              · rename_i k2 m' hy
                split at h
                · rename_i b H' qs' hs
                  split at h
                  · rename_i T' hT
                    injection h with h
                    subst h
                    obtain ⟨hp1,hp⟩ := dS.app hp
                    rw [yE hp1] at hs
                    exact LOp.make hc ho he hi hz hq hx hy hp.1.1 hp.1.2.1 hp.1.2.2.1 hp.1.2.2.2 hs hT
                  · cases h
                · cases h
              · cases h
            · cases h
          · cases h
        · cases h
      · cases h
    · cases h
  · rename_i cl ho
    split at h
    · rename_i hcal
      split at h
      · rename_i x y ha
        split at h
        · rename_i t t' hat
          split at h
          · rename_i ht
            have ht := eu ht
            subst ht
            split at h
            · rename_i el n he
              split at h
              · rename_i i hi
                split at h
                · rename_i z hz
                  split at h
                  · rename_i xa hx
                    split at h
                    · rename_i ya hy
                      split at h
                      · rename_i l0 ob hl0
                        split at h
                        · rename_i l1 hl1
                          split at h
                          · rename_i hb
                            rw [Bool.and_eq_true] at hb
                            split at h
                            · rename_i b H' qs' hs
                              split at h
                              · rename_i T' hT
                                injection h with h
                                subst h
                                obtain ⟨hp1,hp⟩ := dS.app hp
                                rw [yE hp1] at hs
                                exact LOp.append hc ho hcal ha hat he hi hz hx hy hl0 hl1 (Nat.le_of_ble_eq_true hb.1) (Nat.le_of_ble_eq_true hb.2) hp.1 hs hT
                              · cases h
                            · cases h
                          · cases h
                        · cases h
                      · cases h
                    · cases h
                  · cases h
                · cases h
              · cases h
            · cases h
          · exact ahR hc ho hcal ha hat h hp
        · cases h
      · cases h
    · rename_i x hcal
      split at h
      · rename_i f hfo
        split at h
        · rename_i r0 qs'
          split at h
          · rename_i ds hd
            split at h
            · rename_i hr
              split at h
              · rename_i T' hT
                injection h with h
                subst h
                exact LOp.an8 hc ho hcal (Qc hfo) hd hr hp.1 hT
              · cases h
            · cases h
          · cases h
        · rename_i bs r0 Hl qs'
          split at h
          · rename_i ds hd
            split at h
            · rename_i hb
              simp only [Bool.and_eq_true] at hb
              obtain ⟨⟨⟨⟨b1,b2⟩,b3⟩,b4⟩,b5⟩ := hb
              split at h
              · rename_i T' hT
                injection h with h
                subst h
                exact LOp.an9 hc ho hcal (Qc hfo) hd b1 b2 b3 b4 b5 hp.1 hT
              · cases h
            · cases h
          · cases h
        · cases h
      · exact ahQ hc ho hcal h hp
    · exact XK hc h hp
  · exact XK hc h hp
end
/-! ### what changes no memory: slots kept free, nil made a row, a row made data -/
/-- The state may as well be told as st'. -/
def GOp (c:Ctx) (st st':St) (ch:List Nat) (gr:Bool) : Prop :=
  ∀ e C a w,Rep c e C st a w → ∃ e' C',Rep c e' C' st' a w ∧ jv ch gr e C st.H e' C' st'.H w
structure GR where
  st:St
  qs:List Ans
  p:List Prop
  ch:List Nat
  gr:Bool
def Vu (st:St) : Ans → Option GR
  | .frz b=>match st.H[b]? with
    | some (.row _ n l)=>some ⟨⟨fzT b (.lf (.rows n l)) st.T,(st.H.set b .dead).map (Slot.fz b (.lf (.rows n l)))⟩,[],[],[b],true⟩
    | _=>none
  | .MZ b l'=>match st.H[b]? with
    | some (.row _ n l)=>some ⟨⟨fzT b (.lf (.rows n l')) st.T,(st.H.set b .dead).map (Slot.fz b (.lf (.rows n l')))⟩,[],[l' = l],[b],true⟩
    | _=>none
  | .norm b=>match st.H[b]? with
    | some (.box ty cs)=>some ⟨⟨st.T,st.H.set b (.box ty cs.asD)⟩,[],[],[],false⟩
    | _=>none
  | .resv k=>some ⟨⟨st.T,st.H ++ List.replicate k .free⟩,[],[],[],false⟩
  | .nil t n=>match lk st.T t with
    | some (.raw (.slice none 0 0))=>some ⟨⟨(t,.bU n) :: st.T,st.H⟩,[],[],[],false⟩
    | _=>none
  | .rW t ty n=>match lk st.T t with
    | some (.raw (.slice none 0 0))=>some ⟨⟨(t,.own st.H.length) :: st.T,st.H ++ [Slot.row ty n []]⟩,[],[],[],false⟩
    | some (.bU _)=>some ⟨⟨(t,.own st.H.length) :: st.T,st.H ++ [Slot.row ty n []]⟩,[],[],[],false⟩
    | _=>none
  | .alC b o ty=>match st.H[b]? with
    | some (.box ty' (.agg l))=>match l[o]? with
      | some (.bU n)=>some ⟨⟨st.T,(st.H ++ [Slot.row ty n []]).set b (.box ty' (.agg (l.set o (.own st.H.length))))⟩,[],[],[],false⟩
      | _=>none
    | _=>none
  | .tod t=>match lk st.T t with
    | some v=>some ⟨⟨(t,v.asD) :: st.T,st.H⟩,[],[],[],false⟩
    | none=>none
  | .lM b l'=>match st.H[b]? with
    | some (.row ty n l)=>some ⟨⟨st.T,st.H.set b (.row ty n l')⟩,[],[l' = l],[],false⟩
    | _=>none
  | .kill b=>match st.H[b]? with
    | some (.row _ _ _)=>some ⟨⟨st.T,st.H.set b .dead⟩,[],[],[b],false⟩
    | some (.box _ _)=>some ⟨⟨st.T,st.H.set b .dead⟩,[],[],[b],false⟩
    | some (.map _ _ _ _)=>some ⟨⟨st.T,st.H.set b .dead⟩,[],[],[b],false⟩
    | _=>none
  | .mvn b=>match mvR b st.H.length ⟨st.T,st.H ++ [.dead]⟩ with
    | some st'=>some ⟨st',[],[],[b],false⟩
    | none=>none
  | .an3 t o ty=>match lk st.T t with
    | some (.agg l)=>match l[o]? with
      | some (.bU n)=>some ⟨⟨(t,.agg (l.set o (.own st.H.length))) :: st.T,st.H ++ [Slot.row ty n []]⟩,[],[],[],false⟩
      | _=>none
    | _=>none
  | _=>none
theorem iY.Zq {e:Env} {T:List (Nat × AV)} {tmps:Array Value} (h:iY e T tmps) {t:Nat} {x y:AV} (hx:lk T t = some x) (hy:∀ v,VR e x v → VR e y v) : iY e ((t,y) :: T) tmps := fun t' z hz=>by
  unfold lk at hz
  split at hz
  · rename_i hb
    injection hz with hz
    subst hz
    have := eu hb
    subst this
    obtain ⟨u,h1,h2⟩ := h t x hx
    exact ⟨u,h1,hy u h2⟩
  · exact h t' z hz
theorem Ns {c:Ctx} {e:Env} {C:Nat → List Value} {H:List Slot} {w:World} (h:Mem c e C H w) (ty:TypeId) (n:Nat) :
    ∃ e' C',Mem c e' C' (H ++ [Slot.row ty n []]) w ∧ e.le e' ∧ VR e' (.own H.length) (.slice none 0 0) ∧ jv [] false e C H e' C' (H ++ [Slot.row ty n []]) w := by
  refine h.row (qs := []) (qs' := []) (v := .slice none 0 0) (xs := []) (l := []) (b := H.length) rfl (fun r hr=>by cases hr) rfl (World.ownsRow_nil w 0 ty n) (fun x hx=>by cases hx) (by unfold maxLen; simp)
theorem VRs.set {e:Env} : ∀ (l:List AV) (cs:List Value),VRs e l cs → ∀ (o:Nat) (x y:AV),l[o]? = some x → (∀ v,VR e x v → VR e y v) → VRs e (l.set o y) cs
  | [],cs,h,o,x,y,ho,_=>by simp at ho
  | z :: r,cs,h,o,x,y,ho,hy=>by
    unfold VRs at h
    obtain ⟨u,q,rfl,h1,h2⟩ := h
    cases o with
    | zero =>
      obtain rfl:z = x := by simpa using ho
      rw [List.set_cons_zero]
      exact VRs.cons (hy u h1) h2
    | succ o =>
      rw [List.set_cons_succ]
      exact VRs.cons h1 (VRs.set r q h2 o x y (by simpa using ho) hy)
/-- a slot is told otherwise -/
theorem Mem.tell {c:Ctx} {e:Env} {C:Nat → List Value} {H:List Slot} {w:World} (h:Mem c e C H w) {b:Nat} {s s':Slot} (hb:H[b]? = some s) (hf:s' ≠ .free) (hblk:eY e b s' = eY e b s) (hv:HV e C b s') (hw:HW e C w b s') : Mem c e C (H.set b s') w := by
  have hlt := (List.getElem?_eq_some_iff.1 hb).1
  have key:∀ x t,(H.set b s')[x]? = some t → (x = b ∧ t = s') ∨ (x ≠ b ∧ H[x]? = some t) := fun x t hx=>by
    by_cases hne:x = b
    · subst hne
      rw [List.getElem?_set_self hlt] at hx
      injection hx with hx; exact .inl ⟨rfl,hx.symm⟩
    · rw [List.getElem?_set_ne (Ne.symm hne)] at hx; exact .inr ⟨hne,hx⟩
  have blk:∀ x t g,(H.set b s')[x]? = some t → eY e x t = some g → ∃ t0,H[x]? = some t0 ∧ eY e x t0 = some g := fun x t g hx hg=>by
    rcases key x t hx with ⟨rfl,rfl⟩ | ⟨_,h1⟩
    · exact ⟨s,hb,by rw [← hblk]; exact hg⟩
    · exact ⟨t,h1,hg⟩
  refine ⟨fun x t hx=>?_,fun x t hx=>?_,fun x hx=>by rw [List.length_set]; exact h.bound x hx,fun x x' t t' g h1 h2 k1 k2=>?_,fun x t g hx hg=>?_,fun x t g hx hg=>?_,h.inv,h.le,h.fresh,h.ch,h.g,h.bse⟩
  · rcases key x t hx with ⟨rfl,rfl⟩ | ⟨_,h1⟩
    · exact hv
    · exact h.hv x t h1
  · rcases key x t hx with ⟨rfl,rfl⟩ | ⟨_,h1⟩
    · exact hw
    · exact h.hw x t h1
  · obtain ⟨t0,m1,m2⟩ := blk x t g h1 k1
    obtain ⟨t1,m3,m4⟩ := blk x' t' g h2 k2
    exact h.inj x x' t0 t1 g m1 m3 m2 m4
  · obtain ⟨t0,m1,m2⟩ := blk x t g hx hg
    exact h.av x t0 g m1 m2
  · obtain ⟨t0,m1,m2⟩ := blk x t g hx hg
    exact h.mine x t0 g m1 m2
theorem Zr {c:Ctx} (hc:c.Ok) {st:St} {q:Ans} {r:GR} (h:Vu st q = some r) (hp:dS r.p) : GOp c st r.st r.ch r.gr := by
  unfold Vu at h
  intro e C a w hR
  split at h
  · rename_i b
    split at h
    · rename_i ty n l hb
      injection h with h
      subst h
      obtain ⟨e',h1,h2,h3,h4⟩ := hR.mem.freeze hc hb
      refine ⟨e',C,⟨fun t v hv=>?_,hR.size,hR.defers,h2⟩,h4⟩
      have hv:lk (fzT b (.lf (.rows n l)) st.T) t = some v := hv
      rw [Np] at hv
      cases hq:lk st.T t with
      | none=>rw [hq] at hv; cases hv
      | some y =>
        rw [hq] at hv
        injection hv with hv
        subst hv
        obtain ⟨u,k1,k2⟩ := hR.tmp t y hq
        exact ⟨u,k1,VR.fz h1 h3 y u k2⟩
    · cases h
  · rename_i b l'
    split at h
    · rename_i ty n l hb
      injection h with h
      subst h
      have hll:l' = l := hp.1
      subst hll
      obtain ⟨e',h1,h2,h3,h4⟩ := hR.mem.freeze hc hb
      refine ⟨e',C,⟨fun t v hv=>?_,hR.size,hR.defers,h2⟩,h4⟩
      have hv:lk (fzT b (.lf (.rows n l')) st.T) t = some v := hv
      rw [Np] at hv
      cases hq:lk st.T t with
      | none=>rw [hq] at hv; cases hv
      | some y =>
        rw [hq] at hv
        injection hv with hv
        subst hv
        obtain ⟨u,k1,k2⟩ := hR.tmp t y hq
        exact ⟨u,k1,VR.fz h1 h3 y u k2⟩
    · cases h
  · rename_i b
    split at h
    · rename_i ty cs hb
      injection h with h
      subst h
      have hv := hR.mem.hv b _ hb
      have hw := hR.mem.hw b _ hb
      have hlt := (List.getElem?_eq_some_iff.1 hb).1
      refine ⟨e,C,⟨hR.tmp,hR.size,hR.defers,hR.mem.tell (s' := .box ty cs.asD) hb (by simp) rfl ⟨hv.1,hv.2.asD⟩ hw⟩,Env.le.refl e,fun _=>rfl,fun x s hx hne hl=>?_,hR.mem.inv⟩
      by_cases hxb:x = b
      · subst hxb
        rw [hb] at hx
        injection hx with hx
        subst hx
        exact ⟨_,List.getElem?_set_self hlt,trivial,fun w h=>h⟩
      · exact ⟨s,by rw [List.getElem?_set_ne (Ne.symm hxb)]; exact hx,hl,fun _ h=>h⟩
    · cases h
  · rename_i k
    injection h with h
    subst h
    have key:∀ x t,(st.H ++ List.replicate k Slot.free)[x]? = some t → st.H[x]? = some t ∨ (st.H.length ≤ x ∧ t = .free) := fun x t hx=>by
      rw [List.getElem?_append] at hx
      split at hx
      · exact .inl hx
      · rename_i hlt
        rw [List.getElem?_replicate] at hx
        split at hx
        · injection hx with hx; exact .inr ⟨by omega,hx.symm⟩
        · cases hx
    have hM := hR.mem
    refine ⟨e,C,⟨hR.tmp,hR.size,hR.defers,⟨fun x t hx=>?_,fun x t hx=>?_,fun x hx=>?_,fun x x' t t' g h1 h2 k1 k2=>?_,fun x t g hx hg=>?_,fun x t g hx hg=>?_,hM.inv,hM.le,hM.fresh,hM.ch,hM.g,hM.bse⟩⟩,Env.le.refl e,fun _=>rfl,fun b s hb _ hl=>⟨s,by rw [List.getElem?_append_left (List.getElem?_eq_some_iff.1 hb).1]; exact hb,hl,fun _ h=>h⟩,hM.inv⟩
    · rcases key x t hx with h1 | ⟨h1,rfl⟩
      · exact hM.hv x t h1
      · show ¬ e.ok x
        intro h2; have := hM.bound x h2; omega
    · rcases key x t hx with h1 | ⟨h1,rfl⟩
      · exact hM.hw x t h1
      · trivial
    · have := hM.bound x hx
      show x < (st.H ++ List.replicate k Slot.free).length
      rw [List.length_append]; omega
    · rcases key x t h1 with h1 | ⟨h1,rfl⟩
      · rcases key x' t' h2 with h2 | ⟨h2,rfl⟩
        · exact hM.inj x x' t t' g h1 h2 k1 k2
        · cases k2
      · cases k1
    · rcases key x t hx with h1 | ⟨h1,rfl⟩
      · exact hM.av x t g h1 hg
      · cases hg
    · rcases key x t hx with h1 | ⟨h1,rfl⟩
      · exact hM.mine x t g h1 hg
      · cases hg
  · rename_i t n
    split at h
    · rename_i ht
      injection h with h
      subst h
      exact ⟨e,C,⟨hR.tmp.Zq ht (fun v hv=>by unfold VR at hv ⊢; exact hv),hR.size,hR.defers,hR.mem⟩,jv.same hR⟩
    · cases h
  · rename_i t ty n
    obtain ⟨e',C',k1,k2,k3,k4⟩ := Ns hR.mem ty n
    split at h
    · rename_i ht
      injection h with h
      subst h
      exact ⟨e',C',⟨(hR.tmp.mono k2).Zq ht (fun v hv=>by unfold VR at hv; subst hv; exact k3),hR.size,hR.defers,k1⟩,k4⟩
    · rename_i m ht
      injection h with h
      subst h
      exact ⟨e',C',⟨(hR.tmp.mono k2).Zq ht (fun v hv=>by unfold VR at hv; subst hv; exact k3),hR.size,hR.defers,k1⟩,k4⟩
    · cases h
  · rename_i b o ty
    split at h
    · rename_i ty' l hb
      split at h
      · rename_i n ho
        injection h with h
        subst h
        obtain ⟨e',C',k1,k2,k3,k4⟩ := Ns hR.mem ty n
        have hlt := (List.getElem?_eq_some_iff.1 hb).1
        have hb':(st.H ++ [Slot.row ty n []])[b]? = some (.box ty' (.agg l)) := by rw [List.getElem?_append_left hlt]; exact hb
        have hv := k1.hv b _ hb'
        have hw := k1.hw b _ hb'
        obtain ⟨cs,e1,h1⟩ := VR.agg.1 hv.2
        refine ⟨e',C',⟨hR.tmp.mono k2,hR.size,hR.defers,k1.tell (s' := .box ty' (.agg (l.set o (.own st.H.length)))) hb' (by simp) rfl ⟨hv.1,VR.agg.2 ⟨cs,e1,VRs.set l cs h1 o _ _ ho (fun v hv=>by unfold VR at hv; subst hv; exact k3)⟩⟩ hw⟩,k4.le,k4.I,fun x s hx hne hl=>?_,k4.inv⟩
        obtain ⟨s',m1,m2,m3⟩ := k4.lk x s hx (by simp) hl
        by_cases hxb:x = b
        · subst hxb
          rw [hb'] at m1
          injection m1 with m1
          subst m1
          exact ⟨_,List.getElem?_set_self (List.getElem?_eq_some_iff.1 hb').1,trivial,fun w h=>m3 w h⟩
        · exact ⟨s',by rw [List.getElem?_set_ne (Ne.symm hxb)]; exact m1,m2,m3⟩
      · cases h
    · cases h
  · rename_i t
    split at h
    · rename_i v ht
      injection h with h
      subst h
      exact ⟨e,C,⟨hR.tmp.Zq ht (fun u hv=>hv.asD),hR.size,hR.defers,hR.mem⟩,jv.same hR⟩
    · cases h
  · rename_i b l'
    split at h
    · rename_i ty n l hb
      injection h with h
      subst h
      have hll:l' = l := hp.1
      subst hll
      have hH:st.H.set b (.row ty n l') = st.H := by
        apply List.ext_getElem?
        intro x
        rw [List.getElem?_set]
        split
        · rename_i hx; subst hx
          rw [if_pos (List.getElem?_eq_some_iff.1 hb).1,hb]
        · rfl
      show ∃ e' C',Rep c e' C' ⟨st.T,st.H.set b (.row ty n l')⟩ a w ∧ jv [] false e C st.H e' C' (st.H.set b (.row ty n l')) w
      rw [hH]
      exact ⟨e,C,hR,jv.same hR⟩
    · cases h
  · rename_i b
    have go:∀ {s0:Slot},st.H[b]? = some s0 → s0 ≠ .free → ∃ e' C',Rep c e' C' ⟨st.T,st.H.set b .dead⟩ a w ∧ jv [b] false e C st.H e' C' (st.H.set b .dead) w := fun {s0} hb hs =>
      ⟨e,C,⟨hR.tmp,hR.size,hR.defers,hR.mem.kill b hb hs⟩,Env.le.refl e,fun _=>rfl,fun x s hx hne hl=>⟨s,by rw [List.getElem?_set_ne (fun e1=>hne (by simp [e1]))]; exact hx,hl,fun _ h=>h⟩,hR.mem.inv⟩
    split at h
    · rename_i hb; injection h with h; subst h; exact go hb (by simp)
    · rename_i hb; injection h with h; subst h; exact go hb (by simp)
    · rename_i hb; injection h with h; subst h; exact go hb (by simp)
    · cases h
  · rename_i b
    split at h
    · rename_i st' hs
      injection h with h; subst h
      exact alN hs hR
    · cases h
  · rename_i t o ty
    split at h
    · rename_i l ht
      split at h
      · rename_i n ho
        injection h with h; subst h
        obtain ⟨e',C',k1,k2,k3,k4⟩ := Ns hR.mem ty n
        exact ⟨e',C',⟨(hR.tmp.mono k2).Zq ht (fun v hv=>by
          obtain ⟨cs,e1,h1⟩ := VR.agg.1 hv
          exact VR.agg.2 ⟨cs,e1,VRs.set l cs h1 o _ _ ho (fun v hv=>by unfold VR at hv; subst hv; exact k3)⟩),hR.size,hR.defers,k1⟩,k4⟩
      · cases h
    · cases h
  · cases h
end Go.Proofs.YtflpefkohpjjpaaGreatDoor
set_option linter.unusedSimpArgs false
set_option linter.unusedVariables false
namespace Go.Proofs.YtflpefkohpjjpaaGreatDoor
open Go

section
variable {P:Program} {ops:Array Oper} {Q:Exit → Act → World → Prop} {S:World → Prop}

/-- The walk in a given order; the tag: the operation yields in every world that meets S. -/
def oU (P:Program) (ops:Array Oper) (Q:Exit → Act → World → Prop) (S:World → Prop) : List (Bool × Nat) → Act → World → Prop
  | [],a,w=>Q .normal a w
  | (true,i) :: r,a,w=>∃ o v,ops[i]? = some o ∧ YieldsIf P ops S o v a ∧ oU P ops Q S r (a.put o.dst v) w
  | (false,i) :: r,a,w=>wpOp P ops Q i (fun a' w'=>S w' ∧ oU P ops Q S r a' w') a w

/-- The order is one in which each quiet operation may be taken first, and each other comes up alone. -/
def mZ (ops:Array Oper) : List (Bool × Nat) → Array Bool → Bool
  | [],listed=>(Region.ready .any ops listed).isEmpty
  | (true,i) :: r,listed=>Region.free .any ops listed i && (Region.ready .any ops listed).contains i && mZ ops r (listed.setIfInBounds i true)
  | (false,i) :: r,listed=>(Region.ready .any ops listed == [i]) && mZ ops r (listed.setIfInBounds i true)

theorem mP (hs:Region.noSelect ops = true) (hQ:∀ c a d v w,Q (.panic c) (Act.put a d v) w → Q (.panic c) a w) :
    ∀ (l:List (Bool × Nat)) (listed:Array Bool) (a:Act) (w:World) (fuel:Nat),l.length ≤ fuel → mZ ops l listed = true → S w → oU P ops Q S l a w → wpAnyH P .any ops Q S fuel listed a w
  | [],listed,a,w,fuel,_,hb,_,h=>wpAnyH_done (by simpa [mZ] using hb) h fuel
  | (true,i) :: r,listed,a,w,0,hf,_,_,_=>by simp at hf
  | (false,i) :: r,listed,a,w,0,hf,_,_,_=>by simp at hf
  | (true,i) :: r,listed,a,w,fuel + 1,hf,hb,hS,h=>by
    obtain ⟨o,v,ho,hy,hr⟩ := h
    simp only [mZ,Bool.and_eq_true] at hb
    exact wpAnyH_take ho hs hb.1.1 hb.1.2 (fun c a w=>hQ c a _ _ w) hy hS (mP hs hQ r _ _ _ fuel (by simpa using hf) hb.2 hS hr)
  | (false,i) :: r,listed,a,w,fuel + 1,hf,hb,hS,h=>by
    simp only [mZ,Bool.and_eq_true,beq_iff_eq] at hb
    refine wpAnyH_all hb.1 (by simp) (fun j hj=>?_)
    obtain rfl:j = i := by simpa using hj
    exact wpOp_mono (fun a' w' ⟨h1,h2⟩=>⟨h1,mP hs hQ r _ a' w' fuel (by simpa using hf) hb.2 h1 h2⟩) h

/-- A region that draws its order, walked in the order l. -/
theorem mQ (S:World → Prop) (l:List (Bool × Nat)) {id:Nat} {a:Act} {w:World} (hm:P.follows .mixedOrders = true) (hs:Region.noSelect ops = true) (hl:decide (l.length ≤ ops.size) = true) (hb:mZ ops l (Array.replicate ops.size false) = true)
    (hS:S w.drew) (h:oU P ops (NoPanic Q) S l a w.drew) : (Code.region id ops true).wp P Q a w :=
  wp_region_noPanic (wp_region_held hm (mP hs (fun _ _ _ _ _ h=>h) l _ a _ ops.size (of_decide_eq_true hl) hb hS h))

theorem uO {a:Act} {w:World} (h:Q .normal a w) : oU P ops (NoPanic Q) S [] a w := h

/-- A quiet operation. -/
theorem qP {i:Nat} {r:List (Bool × Nat)} {a:Act} {w:World} {o:Oper} {v:Value} (ho:ops[i]? = some o) (hw:Region.wanted o (yielded ops a.tmps) = true)
    (hy:∀ w,S w → (execOp a.eval o).run P w = .ok (.value v) w) (h:oU P ops Q S r (a.put o.dst v) w) : oU P ops Q S ((true,i) :: r) a w :=
  ⟨o,v,ho,.inl ⟨hw,hy⟩,h⟩
/-- A quiet operation whose guard is false. -/
theorem qQ {i:Nat} {r:List (Bool × Nat)} {a:Act} {w:World} {o:Oper} (ho:ops[i]? = some o) (hw:Region.wanted o (yielded ops a.tmps) = false)
    (h:oU P ops Q S r (a.put o.dst undef) w) : oU P ops Q S ((true,i) :: r) a w :=
  ⟨o,undef,ho,.inr ⟨hw,rfl⟩,h⟩
/-- Any other operation. -/
theorem nU {i:Nat} {r:List (Bool × Nat)} {a:Act} {w:World} {o:Oper} (ho:ops[i]? = some o) (hw:Region.wanted o (yielded ops a.tmps) = true)
    (h:∀ K:Act → World → Prop,(∀ a' w',S w' → oU P ops Q S r a' w' → K a' w') → o.wp P a w K Q) : oU P ops Q S ((false,i) :: r) a w := by
  show wpOp P ops Q i _ a w
  unfold wpOp
  simp only [ho,hw,if_true]
  exact .inl (h _ (fun _ _ h1 h2=>⟨h1,h2⟩))
end
end Go.Proofs.YtflpefkohpjjpaaGreatDoor
set_option linter.unusedSimpArgs false
set_option linter.unusedVariables false
namespace Go.Proofs.YtflpefkohpjjpaaGreatDoor
open Go
section
variable {P:Program} {ops:Array Oper} {Q:Exit → Act → World → Prop} {S:World → Prop} {L:Nat}
def sK (P:Program) (ops:Array Oper) (Q:Exit → Act → World → Prop) (S:World → Prop) (L:Nat) : Nat → Array Bool → Act → World → Prop
  | 0,listed,a,w=>Region.ready .any ops listed = [] ∧ Q .normal a w
  | fuel + 1,listed,a,w =>
    (Region.ready .any ops listed = [] → Q .normal a w) ∧
    ∀ i ∈ Region.ready .any ops listed,wpOp P ops Q i (fun a' w'=>(i ≠ L → S w') ∧ sK P ops Q S L fuel (listed.setIfInBounds i true) a' w') a w
theorem xR:∀ (fuel:Nat) (listed:Array Bool) (a:Act) (w:World),sK P ops Q S L fuel listed a w → wpAny P .any ops Q fuel listed a w
  | 0,_,_,_,h=>h
  | fuel + 1,_,_,_,h=>⟨h.1,fun i hi=>wpOp_mono (fun a' w' h'=>xR fuel _ a' w' h'.2) (h.2 i hi)⟩
/-- Number L waits for all others. -/
def lastB (ops:Array Oper) (L:Nat) : Bool := (List.range ops.size).all fun k=>k == L || ((ops[L]?).map fun o=>o.after.any fun e=>Region.binds .any e && e.on == k).getD true
theorem Vw {o:Oper} (h:lastB ops L = true) (ho:ops[L]? = some o) (k:Nat) (hk:k < ops.size) (hne:k ≠ L) : ∃ e ∈ o.after,Region.binds .any e = true ∧ e.on = k := by
  have h1 := List.all_eq_true.1 h k (List.mem_range.2 hk)
  simp only [ho,Option.map_some,Option.getD_some,Bool.or_eq_true,beq_iff_eq,hne,false_or] at h1
  obtain ⟨e,he,hb⟩ := Array.any_eq_true'.1 h1
  simp only [Bool.and_eq_true,beq_iff_eq] at hb
  exact ⟨e,he,hb.1,hb.2⟩
theorem yI (hL:lastB ops L = true) {i:Nat} {oi:Oper} {v:Value} (hi:ops[i]? = some oi) (hsel:∀ (j:Nat) (o:Oper) cs b,ops[j]? = some o → o.op ≠ .select cs b) (hQ:∀ c a w,Q (.panic c) (a.put oi.dst v) w → Q (.panic c) a w) :
    ∀ (fuel:Nat) (listed:Array Bool) (a:Act) (w:World),
      (∀ j oj,ops[j]? = some oj → j ≠ i → listed.getD j true = false → (∀ e ∈ oj.after,Region.binds .any e = true → e.on ≠ i) → oi.apart ops oj = true) →
      i ∈ Region.ready .any ops listed → YieldsIf P ops S oi v a → S w →
      sK P ops Q S L fuel (listed.setIfInBounds i true) (a.put oi.dst v) w → sK P ops Q S L (fuel + 1) listed a w
  | fuel,listed,a,w,hfree,hr,hy,hS,H=>by
    refine ⟨fun h=>absurd hr (by rw [h]; simp),fun j hj=>?_⟩
    by_cases hji:j = i
    · subst hji
      exact hy.wpOp hi hS ⟨fun _=>hS,H⟩
    · have hin:j ∈ Region.ready .any ops (listed.setIfInBounds i true) := ready_mono hj hji
      match fuel,H with
      | 0,H=>rw [H.1] at hin; cases hin
      | fuel + 1,H =>
        obtain ⟨hjun,oj,hoj,hall⟩ := mem_ready.1 hj
        have hnot:∀ e ∈ oj.after,Region.binds .any e = true → e.on ≠ i := fun e he hb heq=>by
          have h1 := hall e he hb
          have h0 := (mem_ready.1 hr).1
          rw [heq] at h1
          rcases Nat.lt_or_ge i listed.size with h' | h'
          · simp [h'] at h0 h1; rw [h0] at h1; cases h1
          · simp [Array.getElem?_eq_none h'] at h1
        have h2 := wpOp_putIf hoj (hfree j oj hoj hji hjun hnot) (fun cs b=>hsel i oi cs b hi) (fun cs b=>hsel j oj cs b hoj) hQ hy (H.2 j hin)
        have hri:i ∈ Region.ready .any ops (listed.setIfInBounds j true) := ready_mono hr (Ne.symm hji)
        have hfree':∀ k ok,ops[k]? = some ok → k ≠ i → (listed.setIfInBounds j true).getD k true = false → (∀ e ∈ ok.after,Region.binds .any e = true → e.on ≠ i) → oi.apart ops ok = true := fun k ok hk hki hun hno=>by
          refine hfree k ok hk hki ?_ hno
          by_cases hjk:j = k
          · subst hjk; exact hjun
          · rw [getD_set_ne true hjk] at hun; exact hun
        have hjL:j ≠ L := by
          rintro rfl
          obtain ⟨e,he,hb,hon⟩ := Vw hL hoj i (Array.getElem?_eq_some_iff.1 hi).1 (Ne.symm hji)
          exact hnot e he hb hon
        refine wpOp_mono (fun a' w' h3=>?_) h2
        have hSw := h3.2.1 hjL
        refine ⟨fun _=>hSw,yI hL hi hsel hQ fuel (listed.setIfInBounds j true) a' w' hfree' hri h3.1 hSw ?_⟩
        rw [Array.setIfInBounds_comm _ _ hji]
        exact h3.2.2
def jZ (P:Program) (ops:Array Oper) (Q:Exit → Act → World → Prop) (S:World → Prop) (L:Nat) : List (Bool × Nat) → Act → World → Prop
  | [],a,w=>Q .normal a w
  | (true,i) :: r,a,w=>∃ o v,ops[i]? = some o ∧ YieldsIf P ops S o v a ∧ jZ P ops Q S L r (a.put o.dst v) w
  | (false,i) :: r,a,w=>wpOp P ops Q i (fun a' w'=>(i ≠ L → S w') ∧ jZ P ops Q S L r a' w') a w
/-- In the list number L stands last. -/
def endsB (L:Nat) : List (Bool × Nat) → Bool
  | []=>true
  | [_]=>true
  | (_,i) :: r=>!(i == L) && endsB L r
theorem pF (hL:lastB ops L = true) (hs:Region.noSelect ops = true) (hQ:∀ c a d v w,Q (.panic c) (Act.put a d v) w → Q (.panic c) a w) :
    ∀ (l:List (Bool × Nat)) (listed:Array Bool) (a:Act) (w:World) (fuel:Nat),l.length ≤ fuel → mZ ops l listed = true → endsB L l = true → S w → jZ P ops Q S L l a w → sK P ops Q S L fuel listed a w
  | [],listed,a,w,0,_,hb,_,_,h=>⟨by simpa [mZ] using hb,h⟩
  | [],listed,a,w,_ + 1,_,hb,_,_,h=>⟨fun _=>h,fun i hi=>by
      have:Region.ready .any ops listed = [] := by simpa [mZ] using hb
      rw [this] at hi; cases hi⟩
  | (true,i) :: r,listed,a,w,0,hf,_,_,_,_=>by simp at hf
  | (false,i) :: r,listed,a,w,0,hf,_,_,_,_=>by simp at hf
  | (true,i) :: r,listed,a,w,fuel + 1,hf,hb,he,hS,h=>by
    obtain ⟨o,v,ho,hy,hr⟩ := h
    simp only [mZ,Bool.and_eq_true] at hb
    have he':endsB L r = true := by
      cases r with
      | nil=>rfl
      | cons x r=>simp only [endsB,Bool.and_eq_true] at he; exact he.2
    exact yI hL ho (Region.noSelect_spec hs) (fun c a w=>hQ c a _ _ w) fuel listed a w (Region.free_spec ho hb.1.1) (by simpa using hb.1.2) hy hS (pF hL hs hQ r _ _ _ fuel (by simpa using hf) hb.2 he' hS hr)
  | (false,i) :: r,listed,a,w,fuel + 1,hf,hb,he,hS,h=>by
    simp only [mZ,Bool.and_eq_true,beq_iff_eq] at hb
    refine ⟨fun h0=>(by rw [hb.1] at h0; cases h0),fun j hj=>?_⟩
    rw [hb.1] at hj
    obtain rfl:j = i := by simpa using hj
    refine wpOp_mono (fun a' w' ⟨h1,h2⟩=>⟨h1,?_⟩) h
    cases r with
    | nil =>
      cases fuel with
      | zero=>exact ⟨by simpa [mZ] using hb.2,h2⟩
      | succ n=>exact ⟨fun _=>h2,fun i hi=>by
          have:Region.ready .any ops (listed.setIfInBounds j true) = [] := by simpa [mZ] using hb.2
          rw [this] at hi; cases hi⟩
    | cons x r =>
      simp only [endsB,Bool.and_eq_true,Bool.not_eq_true',beq_eq_false_iff_ne] at he
      exact pF hL hs hQ (x :: r) _ a' w' fuel (by simpa using hf) hb.2 he.2 (h1 he.1) h2
theorem Qd {i:Nat} {r:List (Bool × Nat)} {a:Act} {w:World} {o:Oper} {v:Value} (ho:ops[i]? = some o) (hw:Region.wanted o (yielded ops a.tmps) = true)
    (hy:∀ w,S w → (execOp a.eval o).run P w = .ok (.value v) w) (h:jZ P ops Q S L r (a.put o.dst v) w) : jZ P ops Q S L ((true,i) :: r) a w :=
  ⟨o,v,ho,.inl ⟨hw,hy⟩,h⟩
theorem Qe {i:Nat} {r:List (Bool × Nat)} {a:Act} {w:World} {o:Oper} (ho:ops[i]? = some o) (hw:Region.wanted o (yielded ops a.tmps) = false)
    (h:jZ P ops Q S L r (a.put o.dst undef) w) : jZ P ops Q S L ((true,i) :: r) a w :=
  ⟨o,undef,ho,.inr ⟨hw,rfl⟩,h⟩
/-- Any other operation but the last. -/
theorem yJ {i:Nat} {r:List (Bool × Nat)} {a:Act} {w:World} {o:Oper} (ho:ops[i]? = some o) (hw:Region.wanted o (yielded ops a.tmps) = true)
    (h:∀ K:Act → World → Prop,(∀ a' w',S w' → jZ P ops Q S L r a' w' → K a' w') → o.wp P a w K Q) : jZ P ops Q S L ((false,i) :: r) a w := by
  show wpOp P ops Q i _ a w
  unfold wpOp
  simp only [ho,hw,if_true]
  exact .inl (h _ (fun _ _ h1 h2=>⟨fun _=>h1,h2⟩))
/-- The last. -/
theorem Qg {r:List (Bool × Nat)} {a:Act} {w:World} {o:Oper} (ho:ops[L]? = some o) (hw:Region.wanted o (yielded ops a.tmps) = true)
    (h:∀ K:Act → World → Prop,(∀ a' w',jZ P ops Q S L r a' w' → K a' w') → o.wp P a w K Q) : jZ P ops Q S L ((false,L) :: r) a w := by
  show wpOp P ops Q L _ a w
  unfold wpOp
  simp only [ho,hw,if_true]
  exact .inl (h _ (fun _ _ h2=>⟨fun hne=>absurd rfl hne,h2⟩))
end
end Go.Proofs.YtflpefkohpjjpaaGreatDoor
set_option linter.unusedSimpArgs false
set_option linter.unusedVariables false
namespace Go.Proofs.YtflpefkohpjjpaaGreatDoor
open Go
section
variable {P:Program} {ops:Array Oper} {Q:Exit → Act → World → Prop} {S:World → Prop} {L:Nat}
def qR (ops:Array Oper) : Nat → Nat → Nat → Bool
  | 0,_,_=>false
  | n + 1,j,k=>((ops[j]?).map fun o=>o.after.any fun e=>Region.binds .any e && (e.on == k || qR ops n e.on k)).getD false
def lastT (ops:Array Oper) (L:Nat) : Bool := (List.range ops.size).all fun k=>k == L || qR ops ops.size L k
def jS (ops:Array Oper) (listed:Array Bool) : Prop := ∀ (k:Nat) (o:Oper),ops[k]? = some o → listed.getD k false = true → ∀ e ∈ o.after,Region.binds .any e = true → listed.getD e.on false = true
theorem ku {listed:Array Bool} {k:Nat} : listed.getD k false = true ↔ listed[k]? = some true := by
  rw [Array.getD_eq_getD_getElem?]
  cases h:listed[k]? with
  | none=>simp
  | some b=>simp
theorem xw {listed:Array Bool} {j k:Nat} (h:listed.getD k false = true) : (listed.setIfInBounds j true).getD k false = true := by
  rw [ku] at h ⊢
  rw [Array.getElem?_setIfInBounds]
  split
  · rename_i hjk; subst hjk
    have := (Array.getElem?_eq_some_iff.1 h).1
    simp [this]
  · exact h
theorem I8 {listed:Array Bool} {j k:Nat} (hjk:j ≠ k) (h:(listed.setIfInBounds j true).getD k false = true) : listed.getD k false = true := by
  rw [ku] at h ⊢
  rwa [Array.getElem?_setIfInBounds,if_neg hjk] at h
theorem jS.set {listed:Array Bool} (h:jS ops listed) {j:Nat} (hj:j ∈ Region.ready .any ops listed) : jS ops (listed.setIfInBounds j true) := by
  intro k o ho hk e he hb
  obtain ⟨_,oj,hoj,hall⟩ := mem_ready.1 hj
  by_cases hjk:j = k
  · subst hjk
    rw [hoj] at ho
    injection ho with ho
    subst ho
    exact xw (hall e he hb)
  · exact xw (h k o ho (I8 hjk hk) e he hb)
theorem jS.start (n:Nat) (hn:ops.size ≤ n) : jS ops (Array.replicate n false) := by
  intro k o ho hk
  have hlt := (Array.getElem?_eq_some_iff.1 ho).1
  rw [ku,Array.getElem?_replicate,if_pos (by omega)] at hk
  cases hk
theorem qU {listed:Array Bool} (h:jS ops listed) : ∀ (n j k:Nat),qR ops n j k = true → listed.getD j false = true → listed.getD k false = true
  | 0,_,_,hr,_=>by cases hr
  | n + 1,j,k,hr,hj=>by
    unfold qR at hr
    cases ho:ops[j]? with
    | none=>rw [ho] at hr; cases hr
    | some o =>
      rw [ho] at hr
      simp only [Option.map_some,Option.getD_some] at hr
      obtain ⟨e,he,hb⟩ := Array.any_eq_true'.1 hr
      simp only [Bool.and_eq_true,Bool.or_eq_true,beq_iff_eq] at hb
      have h1 := h j o ho hj e he hb.1
      rcases hb.2 with h2 | h2
      · rw [← h2]; exact h1
      · exact qU h n e.on k h2 h1
/-- While another operation is not listed, L is not ready. -/
theorem Vx (h:lastT ops L = true) {listed:Array Bool} (hc:jS ops listed) (hr:L ∈ Region.ready .any ops listed) (k:Nat) (hk:k < ops.size) (hne:k ≠ L) : listed.getD k false = true := by
  have h1 := List.all_eq_true.1 h k (List.mem_range.2 hk)
  simp only [Bool.or_eq_true,beq_iff_eq,hne,false_or] at h1
  obtain ⟨_,o,ho,hall⟩ := mem_ready.1 hr
  cases hn:ops.size with
  | zero=>omega
  | succ n =>
    rw [hn] at h1
    unfold qR at h1
    rw [ho] at h1
    simp only [Option.map_some,Option.getD_some] at h1
    obtain ⟨e,he,hb⟩ := Array.any_eq_true'.1 h1
    simp only [Bool.and_eq_true,Bool.or_eq_true,beq_iff_eq] at hb
    have h2 := hall e he hb.1
    rcases hb.2 with h3 | h3
    · rw [← h3]; exact h2
    · exact qU hc n e.on k h3 h2
theorem yK (hL:lastT ops L = true) {i:Nat} {oi:Oper} {v:Value} (hi:ops[i]? = some oi) (hsel:∀ (j:Nat) (o:Oper) cs b,ops[j]? = some o → o.op ≠ .select cs b) (hQ:∀ c a w,Q (.panic c) (a.put oi.dst v) w → Q (.panic c) a w) :
    ∀ (fuel:Nat) (listed:Array Bool) (a:Act) (w:World),jS ops listed →
      (∀ j oj,ops[j]? = some oj → j ≠ i → listed.getD j true = false → (∀ e ∈ oj.after,Region.binds .any e = true → e.on ≠ i) → oi.apart ops oj = true) →
      i ∈ Region.ready .any ops listed → YieldsIf P ops S oi v a → S w →
      sK P ops Q S L fuel (listed.setIfInBounds i true) (a.put oi.dst v) w → sK P ops Q S L (fuel + 1) listed a w
  | fuel,listed,a,w,hcl,hfree,hr,hy,hS,H=>by
    refine ⟨fun h=>absurd hr (by rw [h]; simp),fun j hj=>?_⟩
    by_cases hji:j = i
    · subst hji
      exact hy.wpOp hi hS ⟨fun _=>hS,H⟩
    · have hin:j ∈ Region.ready .any ops (listed.setIfInBounds i true) := ready_mono hj hji
      match fuel,H with
      | 0,H=>rw [H.1] at hin; cases hin
      | fuel + 1,H =>
        obtain ⟨hjun,oj,hoj,hall⟩ := mem_ready.1 hj
        have hiun := (mem_ready.1 hr).1
        have hnot:∀ e ∈ oj.after,Region.binds .any e = true → e.on ≠ i := fun e he hb heq=>by
          have h1 := hall e he hb
          rw [heq] at h1
          rcases Nat.lt_or_ge i listed.size with h' | h'
          · simp [h'] at hiun h1; rw [hiun] at h1; cases h1
          · simp [Array.getElem?_eq_none h'] at h1
        have h2 := wpOp_putIf hoj (hfree j oj hoj hji hjun hnot) (fun cs b=>hsel i oi cs b hi) (fun cs b=>hsel j oj cs b hoj) hQ hy (H.2 j hin)
        have hri:i ∈ Region.ready .any ops (listed.setIfInBounds j true) := ready_mono hr (Ne.symm hji)
        have hfree':∀ k ok,ops[k]? = some ok → k ≠ i → (listed.setIfInBounds j true).getD k true = false → (∀ e ∈ ok.after,Region.binds .any e = true → e.on ≠ i) → oi.apart ops ok = true := fun k ok hk hki hun hno=>by
          refine hfree k ok hk hki ?_ hno
          by_cases hjk:j = k
          · subst hjk; exact hjun
          · rw [getD_set_ne true hjk] at hun; exact hun
        have hjL:j ≠ L := by
          rintro rfl
          have := Vx hL hcl hj i (Array.getElem?_eq_some_iff.1 hi).1 (Ne.symm hji)
          rw [ku] at this
          rw [Array.getD_eq_getD_getElem?,this] at hiun; cases hiun
        refine wpOp_mono (fun a' w' h3=>?_) h2
        have hSw := h3.2.1 hjL
        refine ⟨fun _=>hSw,yK hL hi hsel hQ fuel (listed.setIfInBounds j true) a' w' (hcl.set hj) hfree' hri h3.1 hSw ?_⟩
        rw [Array.setIfInBounds_comm _ _ hji]
        exact h3.2.2
theorem pG (hL:lastT ops L = true) (hs:Region.noSelect ops = true) (hQ:∀ c a d v w,Q (.panic c) (Act.put a d v) w → Q (.panic c) a w) :
    ∀ (l:List (Bool × Nat)) (listed:Array Bool) (a:Act) (w:World) (fuel:Nat),jS ops listed → l.length ≤ fuel → mZ ops l listed = true → endsB L l = true → S w → jZ P ops Q S L l a w → sK P ops Q S L fuel listed a w
  | [],listed,a,w,0,_,_,hb,_,_,h=>⟨by simpa [mZ] using hb,h⟩
  | [],listed,a,w,_ + 1,_,_,hb,_,_,h=>⟨fun _=>h,fun i hi=>by
      have:Region.ready .any ops listed = [] := by simpa [mZ] using hb
      rw [this] at hi; cases hi⟩
  | (true,i) :: r,listed,a,w,0,_,hf,_,_,_,_=>by simp at hf
  | (false,i) :: r,listed,a,w,0,_,hf,_,_,_,_=>by simp at hf
  | (true,i) :: r,listed,a,w,fuel + 1,hcl,hf,hb,he,hS,h=>by
    obtain ⟨o,v,ho,hy,hr⟩ := h
    simp only [mZ,Bool.and_eq_true] at hb
    have he':endsB L r = true := by
      cases r with
      | nil=>rfl
      | cons x r=>simp only [endsB,Bool.and_eq_true] at he; exact he.2
    have hrd:i ∈ Region.ready .any ops listed := by simpa using hb.1.2
    exact yK hL ho (Region.noSelect_spec hs) (fun c a w=>hQ c a _ _ w) fuel listed a w hcl (Region.free_spec ho hb.1.1) hrd hy hS (pG hL hs hQ r _ _ _ fuel (hcl.set hrd) (by simpa using hf) hb.2 he' hS hr)
  | (false,i) :: r,listed,a,w,fuel + 1,hcl,hf,hb,he,hS,h=>by
    simp only [mZ,Bool.and_eq_true,beq_iff_eq] at hb
    refine ⟨fun h0=>(by rw [hb.1] at h0; cases h0),fun j hj=>?_⟩
    have hj0 := hj
    rw [hb.1] at hj
    obtain rfl:j = i := by simpa using hj
    refine wpOp_mono (fun a' w' ⟨h1,h2⟩=>⟨h1,?_⟩) h
    cases r with
    | nil =>
      cases fuel with
      | zero=>exact ⟨by simpa [mZ] using hb.2,h2⟩
      | succ n=>exact ⟨fun _=>h2,fun i hi=>by
          have:Region.ready .any ops (listed.setIfInBounds j true) = [] := by simpa [mZ] using hb.2
          rw [this] at hi; cases hi⟩
    | cons x r =>
      simp only [endsB,Bool.and_eq_true,Bool.not_eq_true',beq_eq_false_iff_ne] at he
      exact pG hL hs hQ (x :: r) _ a' w' fuel (hcl.set hj0) (by simpa using hf) hb.2 he.2 (h1 he.1) h2
/-- A region that draws its order, walked in the order l; its last operation, L, waits for all others. -/
theorem EZ (S:World → Prop) (L:Nat) (l:List (Bool × Nat)) {id:Nat} {a:Act} {w:World} (hm:P.follows .mixedOrders = true) (hs:Region.noSelect ops = true) (hl:decide (l.length ≤ ops.size) = true) (hb:mZ ops l (Array.replicate ops.size false) = true)
    (hL:lastT ops L = true) (he:endsB L l = true) (hS:S w.drew) (h:jZ P ops (NoPanic Q) S L l a w.drew) : (Code.region id ops true).wp P Q a w :=
  wp_region_noPanic (wp_region_any hm (xR _ _ _ _ (pG hL hs (fun _ _ _ _ _ h=>h) l _ a _ ops.size (jS.start _ (Nat.le_refl _)) (of_decide_eq_true hl) hb he hS h)))
end
end Go.Proofs.YtflpefkohpjjpaaGreatDoor
set_option linter.unusedSimpArgs false
set_option linter.unusedVariables false
namespace Go.Proofs.YtflpefkohpjjpaaGreatDoor
open Go.RowKit
def isG:Ans → Bool
  | .frz _ | .MZ _ _ | .norm _ | .resv _ | .nil _ _ | .rW _ _ _ | .alC _ _ _ | .tod _ | .lM _ _ | .kill _ | .mvn _ | .an3 _ _ _=>true
  | _=>false
def gos (st:St) : List Ans → Option OR
  | []=>some ⟨st,[],[],[],false⟩
  | q :: r=>match isG q with
    | true=>match Vu st q with
      | some g=>match gos g.st r with
        | some x=>some ⟨x.st,x.qs,g.p ++ x.p,g.ch ++ x.ch,g.gr || x.gr⟩
        | none=>none
      | none=>none
    | false=>some ⟨st,q :: r,[],[],false⟩
/-- ghosts that stand ahead of one place -/
def E5 (n i:Nat) (st:St) : List Ans → Option OR
  | .at_ n' i' :: qs=>match Nat.beq n' n && Nat.beq i' i with
    | true=>gos st qs
    | false=>some ⟨st,.at_ n' i' :: qs,[],[],false⟩
  | qs=>some ⟨st,qs,[],[],false⟩
def ahS (st:St) (d:Nat) (want:Bool) (qs:List Ans) : Option (Bool × St × List Ans × List Prop) := match lk st.T d with
  | some (.lf (.bool true))=>some (true == want,st,qs,[])
  | some (.lf (.bool false))=>some (false == want,st,qs,[])
  | some (.raw (.tuple _))=>some (false,st,qs,[])
  | _=>none
/-- is the operation wanted? -/
def gck (n:Nat) (ops:Array Oper) (st:St) (o:Oper) (qs:List Ans) : Option (Bool × St × List Ans × List Prop) :=
  match o.guard with
  | none=>some (true,st,qs,[])
  | some (j,want)=>match (ops[j]?).bind (·.dst) with
    | none=>none
    | some d=>match qs with
      | .gd j' b :: qs'=>match Nat.beq j' (n * 1000 + j) with
        | true=>match lk st.T d with
          | some (.lf (.bool x))=>some (b == want,⟨(d,.lf (.bool b)) :: st.T,st.H⟩,qs',[x = b])
          | _=>none
        | false=>ahS st d want qs
      | _=>ahS st d want qs
def Qh (P:Program) (G:Gh → Prop) (tt:TT) (nt:Nat) (ops:Array Oper) (n:Nat) : List Nat → St → List Ans → Option OR
  | [],st,qs=>some ⟨st,qs,[],[],false⟩
  | i :: r,st,qs=>match ops[i]? with
    | none=>none
    | some o=>match E5 n i st qs with
      | none=>none
      | some g=>match gck n ops g.st o g.qs with
        | some (true,st1,qs1,p1)=>match lev P G tt nt st1 o qs1 with
          | some x=>match Qh P G tt nt ops n r x.st x.qs with
            | some y=>some ⟨y.st,y.qs,g.p ++ (p1 ++ (x.p ++ y.p)),[],false⟩
            | none=>none
          | none=>none
        | some (false,st1,qs1,p1)=>match jE nt st1.T o.dst (.raw undef) with
          | some T'=>match Qh P G tt nt ops n r ⟨T',st1.H⟩ qs1 with
            | some y=>some ⟨y.st,y.qs,g.p ++ (p1 ++ y.p),[],false⟩
            | none=>none
          | none=>none
        | none=>none
theorem jv.trans {ch ch':List Nat} {gr gr':Bool} {e e' e'':Env} {C C' C'':Nat → List Value} {H H' H'':List Slot} {w' w'':World} (h:jv ch gr e C H e' C' H' w') (k:jv ch' gr' e' C' H' e'' C'' H'' w'') (hi:Inv e.I w'') : jv (ch ++ ch') (gr || gr') e C H e'' C'' H'' w'' where
  le := h.le.trans k.le
  I := fun hg=>by
    rw [Bool.or_eq_false_iff] at hg
    rw [k.I hg.2,h.I hg.1]
  lk := fun b s hb hne hl=>by
    rw [List.mem_append,not_or] at hne
    obtain ⟨s',h1,h2,h3⟩ := h.lk b s hb hne.1 hl
    obtain ⟨s'',k1,k2,k3⟩ := k.lk b s' h1 hne.2 h2
    exact ⟨s'',k1,k2,fun w hw=>h3 w (k3 w hw)⟩
  inv := hi
theorem Inv.le {I I':Gh} {w:World} (h:Inv I' w) (k:Le I I') : Inv I w := fun b o v e=>h b o v (k b o v e)
theorem BG {c:Ctx} (hc:c.Ok) : ∀ {qs:List Ans} {st:St} {r:OR},gos st qs = some r → dS r.p → GOp c st r.st r.ch r.gr
  | [],st,r,h,hp=>by
    simp only [gos] at h
    injection h with h
    subst h
    exact fun e C a w hR=>⟨e,C,hR,jv.same hR⟩
  | q :: qs,st,r,h,hp=>by
    simp only [gos] at h
    split at h
    · split at h
      · rename_i g hg
        split at h
        · rename_i x hx
          injection h with h
          subst h
          obtain ⟨h1,h2⟩ := dS.app hp
          intro e C a w hR
          obtain ⟨e1,C1,k1,k2⟩ := Zr hc hg h1 e C a w hR
          obtain ⟨e2,C2,k3,k4⟩ := BG hc hx h2 e1 C1 a w k1
          exact ⟨e2,C2,k3,k2.trans k4 hR.mem.inv⟩
        · cases h
      · cases h
    · injection h with h
      subst h
      exact fun e C a w hR=>⟨e,C,hR,jv.same hR⟩
theorem ng {c:Ctx} (hc:c.Ok) {n i:Nat} {qs:List Ans} {st:St} {r:OR} (h:E5 n i st qs = some r) (hp:dS r.p) : GOp c st r.st r.ch r.gr := by
  unfold E5 at h
  split at h
  · split at h
    · exact BG hc h hp
    · injection h with h; subst h
      exact fun e C a w hR=>⟨e,C,hR,jv.same hR⟩
  · injection h with h; subst h
    exact fun e C a w hR=>⟨e,C,hR,jv.same hR⟩
theorem pI {c:Ctx} {n:Nat} {ops:Array Oper} {st st':St} {o:Oper} {qs qs':List Ans} {bw:Bool} {p:List Prop} (h:gck n ops st o qs = some (bw,st',qs',p)) (hp:dS p) {e:Env} {C:Nat → List Value} {a:Act} {w:World} (hR:Rep c e C st a w) :
    Rep c e C st' a w ∧ st'.H = st.H ∧ Region.wanted o (yielded ops a.tmps) = bw := by
  have g0:∀ {d:Nat} {j:Nat} {want:Bool},o.guard = some (j,want) → (ops[j]?).bind (·.dst) = some d → ahS st d want qs = some (bw,st',qs',p) → Rep c e C st' a w ∧ st'.H = st.H ∧ Region.wanted o (yielded ops a.tmps) = bw := fun {d j want} hg hd h=>by
    unfold ahS at h
    split at h
    · rename_i hl
      injection h with h; injection h with h1 h2; injection h2 with h2 h3
      subst h1 h2
      obtain ⟨u,k1,k2⟩ := hR.tmp d _ hl
      have k2 := k2.bool
      subst k2
      refine ⟨hR,rfl,?_⟩
      simp only [Region.wanted,hg,yielded,hd,Option.bind_some,k1]
      cases want <;> rfl
    · rename_i hl
      injection h with h; injection h with h1 h2; injection h2 with h2 h3
      subst h1 h2
      obtain ⟨u,k1,k2⟩ := hR.tmp d _ hl
      have k2 := k2.bool
      subst k2
      refine ⟨hR,rfl,?_⟩
      simp only [Region.wanted,hg,yielded,hd,Option.bind_some,k1]
      cases want <;> rfl
    · rename_i hl
      injection h with h; injection h with h1 h2; injection h2 with h2 h3
      subst h1 h2
      obtain ⟨u,k1,k2⟩ := hR.tmp d _ hl
      unfold VR at k2
      subst k2
      refine ⟨hR,rfl,?_⟩
      simp only [Region.wanted,hg,yielded,hd,Option.bind_some,k1]
      cases want <;> rfl
    · cases h
  unfold gck at h
  split at h
  · rename_i hg
    injection h with h; injection h with h1 h2; injection h2 with h2 h3
    subst h1 h2
    exact ⟨hR,rfl,by simp only [Region.wanted,hg]⟩
  · rename_i j want hg
    split at h
    · cases h
    · rename_i d hd
      split at h
      · rename_i j' b qs1
        split at h
        · split at h
          · rename_i x hl
            injection h with h; injection h with h1 h2; injection h2 with h2 h3; injection h3 with h3 h4
            subst h1 h2 h4
            obtain ⟨u,k1,k2⟩ := hR.tmp d _ hl
            have hx:x = b := hp.1
            subst hx
            refine ⟨⟨hR.tmp.Zq hl (fun v hv=>hv),hR.size,hR.defers,hR.mem⟩,rfl,?_⟩
            have k2 := k2.bool
            subst k2
            simp only [Region.wanted,hg,yielded,hd,Option.bind_some,k1]
            cases want <;> cases x <;> rfl
          · cases h
        · exact g0 hg hd h
      · exact g0 hg hd h
theorem yL {c:Ctx} (hc:c.Ok) {ops:Array Oper} {n:Nat} {Q:Exit → Act → World → Prop} {rest:List Nat} : ∀ {l:List Nat} {st:St} {qs:List Ans} {r:OR},Qh c.P c.G c.tt c.nt ops n l st qs = some r → dS r.p → ∀ {e:Env} {C:Nat → List Value} {a:Act} {w:World},Rep c e C st a w →
    (∀ e' C' a' w',Rep c e' C' r.st a' w' → wpOps c.P ops Q rest a' w') → wpOps c.P ops Q (l ++ rest) a w
  | [],st,qs,r,h,hp,e,C,a,w,hR,hQ=>by
    simp only [Qh] at h
    injection h with h
    subst h
    exact hQ e C a w hR
  | i :: l,st,qs,r,h,hp,e,C,a,w,hR,hQ=>by
    simp only [Qh] at h
    split at h
    · cases h
    · rename_i o ho
      split at h
      · cases h
      · rename_i g hg
        split at h
        · rename_i st1 qs1 p1 hk
          split at h
          · rename_i x hx
            split at h
            · rename_i y hy
              injection h with h
              subst h
              obtain ⟨q1,q2⟩ := dS.app hp
              obtain ⟨q2,q3⟩ := dS.app q2
              obtain ⟨q3,q4⟩ := dS.app q3
              obtain ⟨e1,C1,k1,_⟩ := ng hc hg q1 e C a w hR
              obtain ⟨k3,k4,k5⟩ := pI hk q2 k1
              show wpOps c.P ops Q (i :: (l ++ rest)) a w
              unfold wpOps
              simp only [ho,k5,if_true]
              exact .inl (Nr hc hx q3 e1 C1 a w _ _ k3 fun e2 C2 a2 w2 m1 _=>yL hc hy q4 m1 hQ)
            · cases h
          · cases h
        · rename_i st1 qs1 p1 hk
          split at h
          · rename_i T' hT
            split at h
            · rename_i y hy
              injection h with h
              subst h
              obtain ⟨q1,q2⟩ := dS.app hp
              obtain ⟨q2,q3⟩ := dS.app q2
              obtain ⟨e1,C1,k1,_⟩ := ng hc hg q1 e C a w hR
              obtain ⟨k3,k4,k5⟩ := pI hk q2 k1
              obtain ⟨m1,m2,m3⟩ := jK hT k3.tmp k3.size (by unfold VR; rfl:VR e1 (.raw undef) undef)
              show wpOps c.P ops Q (i :: (l ++ rest)) a w
              unfold wpOps
              simp only [ho,k5,Bool.false_eq_true,if_false]
              exact yL hc hy q3 ⟨m1,m2,m3.trans k3.defers,k3.mem⟩ hQ
            · cases h
          · cases h
        · cases h
theorem ahT {c:Ctx} (hc:c.Ok) {ops:Array Oper} {n:Nat} {Q:Exit → Act → World → Prop} {l:List Nat} {st:St} {qs:List Ans} {r:OR} (h:Qh c.P c.G c.tt c.nt ops n l st qs = some r) (hp:dS r.p) {e:Env} {C:Nat → List Value} {a:Act} {w:World} (hR:Rep c e C st a w)
    (hQ:∀ e' C' a' w',Rep c e' C' r.st a' w' → Q .normal a' w') : wpOps c.P ops Q l a w := by
  have := yL hc (rest := []) h hp hR hQ
  rwa [List.append_nil] at this
/-- a piece of a region that draws no order -/
def AWo (c:Ctx) (ops:Array Oper) (l:List Nat) (st' st:St) : Prop :=
  ∀ (Q:Exit → Act → World → Prop) (rest:List Nat) e C a w,Rep c e C st a w → (∀ e' C' a' w',Rep c e' C' st' a' w' → wpOps c.P ops Q rest a' w') → wpOps c.P ops Q (l ++ rest) a w
/-! ### regions that draw their order -/
def nT (ch:List Nat) : Nat → List Slot → List Slot
  | _,[]=>[]
  | k,s :: r=>(match ch.contains k with
    | true=>.dead
    | false=>match s with
      | .free=>.dead
      | s=>s) :: nT ch (k + 1) r
theorem pX {ch:List Nat} : ∀ (H:List Slot) (k b:Nat) (s:Slot),(nT ch k H)[b]? = some s → s = .dead ∨ (H[b]? = some s ∧ s ≠ .free ∧ ch.contains (k + b) = false)
  | [],k,b,s,h=>by simp [nT] at h
  | x :: r,k,b,s,h=>by
    unfold nT at h
    cases b with
    | zero =>
      simp only [List.getElem?_cons_zero,Option.some.injEq] at h
      split at h
      · exact .inl h.symm
      · rename_i hc
        split at h
        · exact .inl h.symm
        · rename_i hf
          subst h
          exact .inr ⟨rfl,hf,by simpa using hc⟩
    | succ b =>
      simp only [List.getElem?_cons_succ] at h
      rcases pX r (k + 1) b s h with h1 | ⟨h1,h2,h3⟩
      · exact .inl h1
      · exact .inr ⟨by simpa using h1,h2,by rw [show k + (b + 1) = k + 1 + b by omega]; exact h3⟩
def Qi (l m:List Nat) : Bool := l.all fun x=>m.contains x
def runM (P:Program) (G:Gh → Prop) (tt:TT) (nt:Nat) (ops:Array Oper) (n:Nat) (H0:List Slot) (L:Nat) (ch0:List Nat) : List (Bool × Nat) → Bool → St → List Ans → Option OR
  | [],_,st,qs=>some ⟨st,qs,[],[],false⟩
  | (true,i) :: r,gr,st,qs=>match ops[i]? with
    | none=>none
    | some o=>match gck n ops st o qs with
      | some (true,st1,qs1,p1)=>match qev P tt (!gr) true st1.T H0 o.op qs1 with
        | some (v,qs2,p2)=>match jE nt st1.T o.dst v with
          | some T'=>match runM P G tt nt ops n H0 L ch0 r gr ⟨T',st1.H⟩ qs2 with
            | some y=>some ⟨y.st,y.qs,p1 ++ (p2 ++ y.p),[],false⟩
            | none=>none
          | none=>none
        | none=>none
      | some (false,st1,qs1,p1)=>match jE nt st1.T o.dst (.raw undef) with
        | some T'=>match runM P G tt nt ops n H0 L ch0 r gr ⟨T',st1.H⟩ qs1 with
          | some y=>some ⟨y.st,y.qs,p1 ++ y.p,[],false⟩
          | none=>none
        | none=>none
      | none=>none
  | (false,i) :: r,gr,st,qs=>match ops[i]? with
    | none=>none
    | some o=>match E5 n i st qs with
      | none=>none
      | some g=>match Qi g.ch ch0 with
        | false=>none
        | true=>match gck n ops g.st o g.qs with
          | some (true,st1,qs1,p1)=>match lev P G tt nt st1 o qs1 with
            | some x=>match Nat.beq i L || Qi x.ch ch0 with
              | true=>match runM P G tt nt ops n H0 L ch0 r (gr || (g.gr || x.gr)) x.st x.qs with
                | some y=>some ⟨y.st,y.qs,g.p ++ (p1 ++ (x.p ++ y.p)),[],false⟩
                | none=>none
              | false=>none
            | none=>none
          | some (false,st1,qs1,p1)=>match jE nt st1.T o.dst (.raw undef) with
            | some T'=>match runM P G tt nt ops n H0 L ch0 r (gr || g.gr) ⟨T',st1.H⟩ qs1 with
              | some y=>some ⟨y.st,y.qs,g.p ++ (p1 ++ y.p),[],false⟩
              | none=>none
            | none=>none
          | none=>none
/-- what the region's quiet operations lean on -/
def Vy (e0:Env) (C0:Nat → List Value) (H0:List Slot) (w:World) : Prop := Inv e0.I w ∧ HWs e0 C0 w H0
structure Lnk (gr:Bool) (e0:Env) (C0:Nat → List Value) (H0:List Slot) (ch0:List Nat) (e:Env) (C:Nat → List Value) (H:List Slot) : Prop where
  le:e0.le e
  I:gr = false → e.I = e0.I
  lk:∀ b s,H0[b]? = some s → s.live → b ∉ ch0 ∧ ∃ s',H[b]? = some s' ∧ s'.live ∧ ∀ w,HW e C w b s' → HW e0 C0 w b s
theorem ahU {l m:List Nat} (h:Qi l m = true) {b:Nat} (hb:b ∉ m) : b ∉ l := fun h1=>hb (by
  have := List.all_eq_true.1 h b h1
  simpa using this)
theorem Lnk.step {gr:Bool} {e0:Env} {C0:Nat → List Value} {H0:List Slot} {ch0:List Nat} {e:Env} {C:Nat → List Value} {H:List Slot} (h:Lnk gr e0 C0 H0 ch0 e C H) {ch:List Nat} {gr':Bool} {e':Env} {C':Nat → List Value} {H':List Slot} {w':World} (k:jv ch gr' e C H e' C' H' w') (hs:Qi ch ch0 = true) : Lnk (gr || gr') e0 C0 H0 ch0 e' C' H' where
  le := h.le.trans k.le
  I := fun hg=>by
    rw [Bool.or_eq_false_iff] at hg
    rw [k.I hg.2,h.I hg.1]
  lk := fun b s hb hl=>by
    obtain ⟨h1,s',h2,h3,h4⟩ := h.lk b s hb hl
    obtain ⟨s'',k1,k2,k3⟩ := k.lk b s' h2 (ahU hs h1) h3
    exact ⟨h1,s'',k1,k2,fun w hw=>h4 w (k3 w hw)⟩
theorem Lnk.Zt {c:Ctx} {gr:Bool} {e0:Env} {C0:Nat → List Value} {H0:List Slot} {ch0:List Nat} {e:Env} {C:Nat → List Value} {H:List Slot} {w:World} (h:Lnk gr e0 C0 H0 ch0 e C H) (hM:Mem c e C H w) : Vy e0 C0 H0 w := by
  refine ⟨hM.inv.le h.le.I,fun b s hb=>?_⟩
  by_cases hl:s.live
  · obtain ⟨_,s',h2,_,h4⟩ := h.lk b s hb hl
    exact h4 w (hM.hw b s' h2)
  · cases s with
    | box ty cs=>exact absurd trivial hl
    | row ty n l=>exact absurd trivial hl
    | dead=>trivial
    | free=>trivial
    | map P1 k1 e1 l1=>exact absurd trivial hl
theorem yM {c:Ctx} (hc:c.Ok) {ops:Array Oper} {n:Nat} {Q:Exit → Act → World → Prop} {e0:Env} {C0:Nat → List Value} {H0:List Slot} {L:Nat} {ch0:List Nat} (hf:∀ (b:Nat) (s:Slot),H0[b]? = some s → s ≠ Slot.free) (hv0:HVs e0 C0 H0) : ∀ {l:List (Bool × Nat)} {gr:Bool} {st:St} {qs:List Ans} {r:OR},runM c.P c.G c.tt c.nt ops n H0 L ch0 l gr st qs = some r → endsB L l = true → dS r.p →
    ∀ {e:Env} {C:Nat → List Value} {a:Act} {w:World},Rep c e C st a w → Lnk gr e0 C0 H0 ch0 e C st.H → (∀ e' C' a' w',Rep c e' C' r.st a' w' → Q .normal a' w') → jZ c.P ops Q (Vy e0 C0 H0) L l a w
  | [],gr,st,qs,r,h,hE,hp,e,C,a,w,hR,hL,hQ=>by
    simp only [runM] at h
    injection h with h
    subst h
    exact hQ e C a w hR
  | (true,i) :: l,gr,st,qs,r,h,hE,hp,e,C,a,w,hR,hL,hQ=>by
    have hE':endsB L l = true := by
      cases l with
      | nil=>rfl
      | cons x r=>simp only [endsB,Bool.and_eq_true] at hE; exact hE.2
    simp only [runM] at h
    split at h
    · cases h
    · rename_i o ho
      split at h
      · rename_i st1 qs1 p1 hk
        split at h
        · rename_i v qs2 p2 hq
          split at h
          · rename_i T' hT
            split at h
            · rename_i y hy
              injection h with h
              subst h
              obtain ⟨q1,q2⟩ := dS.app hp
              obtain ⟨q2,q3⟩ := dS.app q2
              obtain ⟨k3,k4,k5⟩ := pI hk q1 hR
              have hv1:HVs e C0 H0 := fun b s hb=>uM hL.le rfl (hf b s hb) (hv0 b s hb)
              obtain ⟨u,m1,m2⟩ := Vp hc.tt k3.tmp hv1 rfl hq q2
              obtain ⟨n1,n2,n3⟩ := jK hT k3.tmp k3.size m1
              refine ⟨o,u,ho,.inl ⟨k5,fun w' hS=>m2 w' (have hws:HWs e C0 w' H0 := fun b s hb=>?_; ⟨fun _=>hws,fun hm=>⟨by rw [hL.I (by simpa using hm)]; exact hS.1,hws⟩⟩)⟩,yM hc hf hv0 hy hE' q3 ⟨n1,n2,n3.trans k3.defers,k3.mem⟩ (by rw [show (⟨T',st1.H⟩ : St).H = st.H from k4]; exact hL) hQ⟩
              by_cases hl:s.live
              · exact (EU hL.le (Eu (hv0 b s hb) hl) rfl).2 (hS.2 b s hb)
              · cases s with
                | box ty cs=>exact absurd trivial hl
                | row ty n l=>exact absurd trivial hl
                | dead=>trivial
                | free=>trivial
                | map P1 k1 e1 l1=>exact absurd trivial hl
            · cases h
          · cases h
        · cases h
      · rename_i st1 qs1 p1 hk
        split at h
        · rename_i T' hT
          split at h
          · rename_i y hy
            injection h with h
            subst h
            obtain ⟨q1,q2⟩ := dS.app hp
            obtain ⟨k3,k4,k5⟩ := pI hk q1 hR
            obtain ⟨n1,n2,n3⟩ := jK hT k3.tmp k3.size (by unfold VR; rfl:VR e (.raw undef) undef)
            exact ⟨o,undef,ho,.inr ⟨k5,rfl⟩,yM hc hf hv0 hy hE' q2 ⟨n1,n2,n3.trans k3.defers,k3.mem⟩ (by rw [show (⟨T',st1.H⟩ : St).H = st.H from k4]; exact hL) hQ⟩
          · cases h
        · cases h
      · cases h
  | (false,i) :: l,gr,st,qs,r,h,hE,hp,e,C,a,w,hR,hL,hQ=>by
    have hE':endsB L l = true := by
      cases l with
      | nil=>rfl
      | cons x r=>simp only [endsB,Bool.and_eq_true] at hE; exact hE.2
    simp only [runM] at h
    split at h
    · cases h
    · rename_i o ho
      split at h
      · cases h
      · rename_i g hg
        split at h
        · cases h
        · rename_i hsub
          split at h
          · rename_i st1 qs1 p1 hk
            split at h
            · rename_i x hx
              split at h
              · rename_i hsx
                split at h
                · rename_i y hy
                  injection h with h
                  subst h
                  obtain ⟨q1,q2⟩ := dS.app hp
                  obtain ⟨q2,q3⟩ := dS.app q2
                  obtain ⟨q3,q4⟩ := dS.app q3
                  obtain ⟨e1,C1,k1,k2⟩ := ng hc hg q1 e C a w hR
                  obtain ⟨k3,k4,k5⟩ := pI hk q2 k1
                  have hL1 := hL.step k2 hsub
                  by_cases hiL:i = L
                  · subst hiL
                    refine Qg ho k5 fun K hK=>Nr hc hx q3 e1 C1 a w _ _ k3 fun e2 C2 a2 w2 m1 m2=>hK a2 w2 ?_
                    cases l with
                    | nil =>
                      simp only [runM] at hy
                      injection hy with hy
                      subst hy
                      exact hQ e2 C2 a2 w2 m1
                    | cons z l=>simp [endsB] at hE
                  · have hsx':Qi x.ch ch0 = true := by
                      rw [Bool.or_eq_true] at hsx
                      rcases hsx with h1 | h1
                      · exact absurd (eu h1) hiL
                      · exact h1
                    refine yJ ho k5 fun K hK=>Nr hc hx q3 e1 C1 a w _ _ k3 fun e2 C2 a2 w2 m1 m2=>?_
                    have hL2:Lnk (gr || (g.gr || x.gr)) e0 C0 H0 ch0 e2 C2 x.st.H := by
                      have := (show Lnk (gr || g.gr) e0 C0 H0 ch0 e1 C1 st1.H by rw [k4]; exact hL1).step m2 hsx'
                      rwa [Bool.or_assoc] at this
                    exact hK a2 w2 (hL2.Zt m1.mem) (yM hc hf hv0 hy hE' q4 m1 hL2 hQ)
                · cases h
              · cases h
            · cases h
          · rename_i st1 qs1 p1 hk
            split at h
            · rename_i T' hT
              split at h
              · rename_i y hy
                injection h with h
                subst h
                obtain ⟨q1,q2⟩ := dS.app hp
                obtain ⟨q2,q3⟩ := dS.app q2
                obtain ⟨e1,C1,k1,k2⟩ := ng hc hg q1 e C a w hR
                obtain ⟨k3,k4,k5⟩ := pI hk q2 k1
                have hL1 := hL.step k2 hsub
                obtain ⟨n1,n2,n3⟩ := jK hT k3.tmp k3.size (by unfold VR; rfl:VR e1 (.raw undef) undef)
                show wpOp c.P ops Q i _ a w
                unfold wpOp
                simp only [ho,k5,Bool.false_eq_true,if_false]
                have hL2:Lnk (gr || g.gr) e0 C0 H0 ch0 e1 C1 (⟨T',st1.H⟩ : St).H := by
                  show Lnk _ _ _ _ _ _ _ st1.H
                  rw [k4]; exact hL1
                exact ⟨fun _=>hL2.Zt k3.mem,yM hc hf hv0 hy hE' q3 ⟨n1,n2,n3.trans k3.defers,k3.mem⟩ hL2 hQ⟩
              · cases h
            · cases h
          · cases h
end Go.Proofs.YtflpefkohpjjpaaGreatDoor
set_option linter.unusedSimpArgs false
set_option linter.unusedVariables false
namespace Go.Proofs.YtflpefkohpjjpaaGreatDoor
open Go Go.RowKit
def heads:RT → List Nat
  | .alt i _ r=>i :: heads r
  | .l i _=>[i]
  | _=>[]
mutual
def rtB (ops:Array Oper) : RT → Array Bool → Bool
  | .fin,listed=>(Region.ready .any ops listed).isEmpty
  | .q i r,listed=>Region.free .any ops listed i && (Region.ready .any ops listed).contains i && rtB ops r (listed.setIfInBounds i true)
  | .l i r,listed=>(Region.ready .any ops listed == [i]) && rtB ops r (listed.setIfInBounds i true)
  | .alt i ri r,listed=>(Region.ready .any ops listed == i :: heads r) && rtB ops ri (listed.setIfInBounds i true) && rtC ops r listed
def rtC (ops:Array Oper) : RT → Array Bool → Bool
  | .l i r,listed=>rtB ops r (listed.setIfInBounds i true)
  | .alt i ri r,listed=>rtB ops ri (listed.setIfInBounds i true) && rtC ops r listed
  | _,_=>false
end
def RT.len:RT → Nat
  | .fin=>0
  | .q _ r=>r.len + 1
  | .l _ r=>r.len + 1
  | .alt _ ri r=>Nat.max (ri.len + 1) r.len
section
variable {P:Program} {ops:Array Oper} {Q:Exit → Act → World → Prop} {S:World → Prop} {L:Nat}
def Nu (P:Program) (ops:Array Oper) (Q:Exit → Act → World → Prop) (S:World → Prop) (L:Nat) : RT → Bool → Act → World → Prop
  | .fin,_,a,w=>Q .normal a w
  | .q i r,b,a,w=>i ≠ L ∧ ∃ o v,ops[i]? = some o ∧ YieldsIf P ops (fun w=>b = false → S w) o v a ∧ Nu P ops Q S L r b (a.put o.dst v) w
  | .l i r,b,a,w=>wpOp P ops Q i (fun a' w'=>((b || Nat.beq i L) = false → S w') ∧ Nu P ops Q S L r (b || Nat.beq i L) a' w') a w
  | .alt i ri r,b,a,w=>wpOp P ops Q i (fun a' w'=>((b || Nat.beq i L) = false → S w') ∧ Nu P ops Q S L ri (b || Nat.beq i L) a' w') a w ∧ Nu P ops Q S L r b a w
/-- Every other operation is waited for by L, or waits for L. -/
def XL (ops:Array Oper) (L:Nat) : Bool := (List.range ops.size).all fun k=>k == L || qR ops ops.size L k || qR ops ops.size k L
theorem Dz {listed:Array Bool} (hc:jS ops listed) {j k:Nat} (hr:j ∈ Region.ready .any ops listed) (h1:qR ops ops.size j k = true) : listed.getD k false = true := by
  obtain ⟨_,o,ho,hall⟩ := mem_ready.1 hr
  cases hn:ops.size with
  | zero=>rw [hn] at h1; cases h1
  | succ n =>
    rw [hn] at h1
    unfold qR at h1
    rw [ho] at h1
    simp only [Option.map_some,Option.getD_some] at h1
    obtain ⟨e,he,hb⟩ := Array.any_eq_true'.1 h1
    simp only [Bool.and_eq_true,Bool.or_eq_true,beq_iff_eq] at hb
    have h2 := hall e he hb.1
    rcases hb.2 with h3 | h3
    · rw [← h3]; exact h2
    · exact qU hc n e.on k h3 h2
/-- S is asked for till L has been. -/
def Till (L:Nat) (listed:Array Bool) (S:World → Prop) (w:World) : Prop := listed.getD L false = false → S w
def BH (P:Program) (ops:Array Oper) (Q:Exit → Act → World → Prop) (S:World → Prop) (L:Nat) : Nat → Array Bool → Act → World → Prop
  | 0,listed,a,w=>Region.ready .any ops listed = [] ∧ Q .normal a w
  | fuel + 1,listed,a,w =>
    (Region.ready .any ops listed = [] → Q .normal a w) ∧
    ∀ i ∈ Region.ready .any ops listed,wpOp P ops Q i (fun a' w'=>Till L (listed.setIfInBounds i true) S w' ∧ BH P ops Q S L fuel (listed.setIfInBounds i true) a' w') a w
theorem E8:∀ (fuel:Nat) (listed:Array Bool) (a:Act) (w:World),BH P ops Q S L fuel listed a w → wpAny P .any ops Q fuel listed a w
  | 0,_,_,_,h=>h
  | fuel + 1,_,_,_,h=>⟨h.1,fun i hi=>wpOp_mono (fun a' w' h'=>E8 fuel _ a' w' h'.2) (h.2 i hi)⟩
theorem getD_set_ne' {listed:Array Bool} {j k:Nat} (h:j ≠ k) : (listed.setIfInBounds j true).getD k false = listed.getD k false := getD_set_ne false h
theorem yN (hL:(XL ops L || decide (ops.size ≤ L)) = true) {i:Nat} (hiL:i ≠ L) {oi:Oper} {v:Value} (hi:ops[i]? = some oi) (hsel:∀ (j:Nat) (o:Oper) cs b,ops[j]? = some o → o.op ≠ .select cs b) (hQ:∀ c a w,Q (.panic c) (a.put oi.dst v) w → Q (.panic c) a w) :
    ∀ (fuel:Nat) (listed:Array Bool) (a:Act) (w:World),jS ops listed →
      (∀ j oj,ops[j]? = some oj → j ≠ i → listed.getD j true = false → (∀ e ∈ oj.after,Region.binds .any e = true → e.on ≠ i) → oi.apart ops oj = true) →
      i ∈ Region.ready .any ops listed → YieldsIf P ops (Till L listed S) oi v a → Till L listed S w →
      BH P ops Q S L fuel (listed.setIfInBounds i true) (a.put oi.dst v) w → BH P ops Q S L (fuel + 1) listed a w
  | fuel,listed,a,w,hcl,hfree,hr,hy,hS,H=>by
    refine ⟨fun h=>absurd hr (by rw [h]; simp),fun j hj=>?_⟩
    by_cases hji:j = i
    · subst hji
      exact hy.wpOp hi hS ⟨fun h=>hS (by rwa [getD_set_ne' hiL] at h),H⟩
    · have hin:j ∈ Region.ready .any ops (listed.setIfInBounds i true) := ready_mono hj hji
      match fuel,H with
      | 0,H=>rw [H.1] at hin; cases hin
      | fuel + 1,H =>
        obtain ⟨hjun,oj,hoj,hall⟩ := mem_ready.1 hj
        have hiun := (mem_ready.1 hr).1
        have hnot:∀ e ∈ oj.after,Region.binds .any e = true → e.on ≠ i := fun e he hb heq=>by
          have h1 := hall e he hb
          rw [heq] at h1
          rcases Nat.lt_or_ge i listed.size with h' | h'
          · simp [h'] at hiun h1; rw [hiun] at h1; cases h1
          · simp [Array.getElem?_eq_none h'] at h1
        have h2 := wpOp_putIf hoj (hfree j oj hoj hji hjun hnot) (fun cs b=>hsel i oi cs b hi) (fun cs b=>hsel j oj cs b hoj) hQ hy (H.2 j hin)
        have hri:i ∈ Region.ready .any ops (listed.setIfInBounds j true) := ready_mono hr (Ne.symm hji)
        have hfree':∀ k ok,ops[k]? = some ok → k ≠ i → (listed.setIfInBounds j true).getD k true = false → (∀ e ∈ ok.after,Region.binds .any e = true → e.on ≠ i) → oi.apart ops ok = true := fun k ok hk hki hun hno=>by
          refine hfree k ok hk hki ?_ hno
          by_cases hjk:j = k
          · subst hjk; exact hjun
          · rw [getD_set_ne true hjk] at hun; exact hun
        have hjL:j ≠ L := by
          rintro rfl
          rw [Bool.or_eq_true] at hL
          rcases hL with hL | hL
          · have h1 := List.all_eq_true.1 hL i (List.mem_range.2 (Array.getElem?_eq_some_iff.1 hi).1)
            simp only [Bool.or_eq_true,beq_iff_eq,hiL,false_or] at h1
            rcases h1 with h1 | h1
            · have := Dz hcl hj h1
              rw [ku] at this
              rw [Array.getD_eq_getD_getElem?,this] at hiun; cases hiun
            · have := Dz hcl hr h1
              rw [ku] at this
              rw [Array.getD_eq_getD_getElem?,this] at hjun; cases hjun
          · have h1 := of_decide_eq_true hL
            have h2 := (Array.getElem?_eq_some_iff.1 hoj).1
            omega
        refine wpOp_mono (fun a' w' h3=>?_) h2
        have e1:Till L (listed.setIfInBounds j true) S = Till L listed S := by unfold Till; rw [getD_set_ne' hjL]
        have hSw:Till L (listed.setIfInBounds j true) S w' := fun h=>h3.2.1 (by rw [getD_set_ne' hjL,getD_set_ne' hiL]; rwa [getD_set_ne' hjL] at h)
        refine ⟨hSw,yN hL hiL hi hsel hQ fuel (listed.setIfInBounds j true) a' w' (hcl.set hj) hfree' hri (by rw [e1]; exact h3.1) hSw ?_⟩
        rw [Array.setIfInBounds_comm _ _ hji]
        exact h3.2.2
theorem Qj {listed:Array Bool} {b:Bool} {i:Nat} (h:listed.getD L false = b) (hi:i ∈ Region.ready .any ops listed) : (listed.setIfInBounds i true).getD L false = (b || Nat.beq i L) := by
  by_cases e:i = L
  · subst e
    have hu := (mem_ready.1 hi).1
    have hlt:i < listed.size := by
      rcases Nat.lt_or_ge i listed.size with h' | h'
      · exact h'
      · simp [Array.getElem?_eq_none h'] at hu
    have e2:Nat.beq i i = true := Nat.beq_refl i
    rw [e2,Bool.or_true,ku,Array.getElem?_setIfInBounds_self_of_lt hlt]
  · have e2:Nat.beq i L = false := by
      cases h2:Nat.beq i L
      · rfl
      · exact absurd (Nat.eq_of_beq_eq_true h2) e
    rw [getD_set_ne' e,h,e2,Bool.or_false]
theorem Qk {listed:Array Bool} {b:Bool} {a:Act} {w:World} {j:Nat} : ∀ {r:RT},rtC ops r listed = true → Nu P ops Q S L r b a w → j ∈ heads r →
    ∃ rj,rtB ops rj (listed.setIfInBounds j true) = true ∧ rj.len + 1 ≤ r.len ∧ wpOp P ops Q j (fun a' w'=>((b || Nat.beq j L) = false → S w') ∧ Nu P ops Q S L rj (b || Nat.beq j L) a' w') a w
  | .fin,h,_,hj=>by cases hj
  | .q i r,h,_,hj=>by cases hj
  | .l i r,h,hw,hj=>by
    obtain rfl:j = i := by simpa [heads] using hj
    simp only [rtC] at h
    exact ⟨r,h,Nat.le_refl _,hw⟩
  | .alt i ri r,h,hw,hj=>by
    simp only [rtC,Bool.and_eq_true] at h
    simp only [heads,List.mem_cons] at hj
    rcases hj with rfl | hj
    · exact ⟨ri,h.1,Nat.le_max_left _ _,hw.1⟩
    · obtain ⟨rj,k1,k3,k5⟩ := Qk (r := r) h.2 hw.2 hj
      exact ⟨rj,k1,Nat.le_trans k3 (Nat.le_max_right _ _),k5⟩
theorem Vz {listed:Array Bool} {a:Act} {w:World} (hb:rtB ops .fin listed = true) (h:Q .normal a w) : ∀ fuel,BH P ops Q S L fuel listed a w
  | 0=>⟨by simpa [rtB] using hb,h⟩
  | _ + 1=>⟨fun _=>h,fun i hi=>by
      have:Region.ready .any ops listed = [] := by simpa [rtB] using hb
      rw [this] at hi; cases hi⟩
theorem nV (hL:(XL ops L || decide (ops.size ≤ L)) = true) (hs:Region.noSelect ops = true) (hQ:∀ c a d v w,Q (.panic c) (Act.put a d v) w → Q (.panic c) a w) :
    ∀ (fuel:Nat) (t:RT) (listed:Array Bool) (b:Bool) (a:Act) (w:World),jS ops listed → listed.getD L false = b → t.len ≤ fuel → rtB ops t listed = true → (b = false → S w) → Nu P ops Q S L t b a w → BH P ops Q S L fuel listed a w
  | fuel,.fin,listed,b,a,w,_,_,_,hb,_,h=>Vz hb h fuel
  | 0,.q i r,listed,b,a,w,_,_,hf,_,_,_=>by simp [RT.len] at hf
  | 0,.l i r,listed,b,a,w,_,_,hf,_,_,_=>by simp [RT.len] at hf
  | 0,.alt i ri r,listed,b,a,w,_,_,hf,_,_,_=>by
    have := Nat.le_trans (Nat.le_max_left (ri.len + 1) r.len) hf
    omega
  | fuel + 1,.q i r,listed,b,a,w,hcl,hg,hf,hb,hS,h=>by
    obtain ⟨hiL,o,v,ho,hy,hr⟩ := h
    simp only [rtB,Bool.and_eq_true] at hb
    have hrd:i ∈ Region.ready .any ops listed := by simpa using hb.1.2
    have e1:Till L listed S = fun w=>b = false → S w := by unfold Till; rw [hg]
    exact yN hL hiL ho (Region.noSelect_spec hs) (fun c a w => hQ c a _ _ w) fuel listed a w hcl (Region.free_spec ho hb.1.1) hrd (by rw [e1]; exact hy) (by rw [e1]; exact hS)
      (nV hL hs hQ fuel r _ b _ _ (hcl.set hrd) (by rw [getD_set_ne' hiL]; exact hg) (by simpa [RT.len] using hf) hb.2 hS hr)
  | fuel + 1,.l i r,listed,b,a,w,hcl,hg,hf,hb,hS,h=>by
    simp only [rtB,Bool.and_eq_true,beq_iff_eq] at hb
    refine ⟨fun h0=>(by rw [hb.1] at h0; cases h0),fun j hj=>?_⟩
    have hj0 := hj
    rw [hb.1] at hj
    obtain rfl:j = i := by simpa using hj
    have hfl := Qj (L := L) hg hj0
    refine wpOp_mono (fun a' w' ⟨h1,h2⟩=>⟨by unfold Till; rw [hfl]; exact h1,?_⟩) h
    exact nV hL hs hQ fuel r _ _ a' w' (hcl.set hj0) hfl (by simpa [RT.len] using hf) hb.2 h1 h2
  | fuel + 1,.alt i ri r,listed,b,a,w,hcl,hg,hf,hb,hS,h=>by
    simp only [rtB,Bool.and_eq_true,beq_iff_eq] at hb
    refine ⟨fun h0=>(by rw [hb.1.1] at h0; cases h0),fun j hj=>?_⟩
    have hj0 := hj
    rw [hb.1.1] at hj
    have hC:rtC ops (.alt i ri r) listed = true := by simp only [rtC,Bool.and_eq_true]; exact ⟨hb.1.2,hb.2⟩
    obtain ⟨rj,k1,k3,k5⟩ := Qk (r := .alt i ri r) hC h hj
    have hfl := Qj (L := L) hg hj0
    refine wpOp_mono (fun a' w' ⟨h1,h2⟩=>⟨by unfold Till; rw [hfl]; exact h1,?_⟩) k5
    exact nV hL hs hQ fuel rj _ _ a' w' (hcl.set hj0) hfl (by omega) k1 h1 h2
theorem Nv (S:World → Prop) (L:Nat) (t:RT) {id:Nat} {a:Act} {w:World} (hm:P.follows .mixedOrders = true) (hs:Region.noSelect ops = true) (hl:Nat.ble t.len ops.size = true) (hb:rtB ops t (Array.replicate ops.size false) = true)
    (hL:(XL ops L || decide (ops.size ≤ L)) = true) (hS:S w.drew) (h:Nu P ops (NoPanic Q) S L t false a w.drew) : (Code.region id ops true).wp P Q a w :=
  wp_region_noPanic (wp_region_any hm (E8 _ _ _ _ (nV hL hs (fun _ _ _ _ _ h=>h) ops.size t _ false a _ (jS.start _ (Nat.le_refl _)) (by
    cases h:(Array.replicate ops.size false).getD L false
    · rfl
    · rw [ku,Array.getElem?_replicate] at h
      split at h <;> cases h) (Nat.le_of_ble_eq_true hl) hb (fun _=>hS) h)))
end
end Go.Proofs.YtflpefkohpjjpaaGreatDoor
set_option linter.unusedSimpArgs false
set_option linter.unusedVariables false
namespace Go.Proofs.YtflpefkohpjjpaaGreatDoor
open Go.RowKit
/-- From st the code comes out by x, in a state that st' tells. -/
def AW (c:Ctx) (code:Code) (x:Exit) (st' st:St) : Prop :=
  ∀ e C a w,Rep c e C st a w → code.wp c.P (fun x' a' w'=>x' = x ∧ ∃ e' C',Rep c e' C' st' a' w') a w
mutual
def AV.bel (k:Nat) : AV → Bool
  | .ptr b _=>Nat.blt b k
  | .oN b _ _ _=>Nat.blt b k
  | .own b=>Nat.blt b k
  | .mp b=>Nat.blt b k
  | .agg l=>Zu k l
  | .tup l=>Zu k l
  | .clo _ l=>Zu k l
  | _=>true
def Zu (k:Nat) : List AV → Bool
  | []=>true
  | x :: r=>AV.bel k x && Zu k r
end
def Env.cut (e:Env) (k:Nat) : Env := { e with ok := fun b=>e.ok b ∧ b < k }
theorem Fa {b k:Nat} (h:Nat.blt b k = true) : b < k := Nat.le_of_ble_eq_true h
mutual
theorem VR.cut {e:Env} {k:Nat} : ∀ (x:AV) (v:Value),AV.bel k x = true → VR e x v → VR (e.cut k) x v
  | .ptr b off,v,hk,hv=>by
    unfold AV.bel at hk; unfold VR at hv ⊢
    exact ⟨⟨hv.1,Fa hk⟩,hv.2⟩
  | .oN b n j off,v,hk,hv=>by
    unfold AV.bel at hk; unfold VR at hv ⊢
    exact ⟨⟨hv.1,Fa hk⟩,hv.2⟩
  | .own b,v,hk,hv=>by
    unfold AV.bel at hk; unfold VR at hv ⊢
    exact ⟨⟨hv.1,Fa hk⟩,hv.2⟩
  | .mp b,v,hk,hv=>by
    unfold AV.bel at hk; unfold VR at hv ⊢
    exact ⟨⟨hv.1,Fa hk⟩,hv.2⟩
  | .agg l,v,hk,hv=>by
    unfold AV.bel at hk
    obtain ⟨cs,e1,h1⟩ := VR.agg.1 hv
    exact VR.agg.2 ⟨cs,e1,VRs.cut l cs hk h1⟩
  | .tup l,v,hk,hv=>by
    unfold AV.bel at hk
    obtain ⟨cs,e1,h1⟩ := VR.tup.1 hv
    exact VR.tup.2 ⟨cs,e1,VRs.cut l cs hk h1⟩
  | .clo f l,v,hk,hv=>by
    unfold AV.bel at hk
    obtain ⟨cs,e1,h1⟩ := VR.clo.1 hv
    exact VR.clo.2 ⟨cs,e1,VRs.cut l cs hk h1⟩
  | .lf x,v,_,hv=>by unfold VR at hv ⊢; exact hv
  | .dat r,v,_,hv=>by unfold VR at hv ⊢; exact hv
  | .dp r off,v,_,hv=>by unfold VR at hv ⊢; exact hv
  | .bU n,v,_,hv=>by unfold VR at hv ⊢; exact hv
  | .raw u,v,_,hv=>by unfold VR at hv ⊢; exact hv
theorem VRs.cut {e:Env} {k:Nat} : ∀ (l:List AV) (cs:List Value),Zu k l = true → VRs e l cs → VRs (e.cut k) l cs
  | [],cs,_,hv=>by unfold VRs at hv ⊢; exact hv
  | x :: r,cs,hk,hv=>by
    unfold Zu at hk
    rw [Bool.and_eq_true] at hk
    unfold VRs at hv ⊢
    obtain ⟨u,q,e1,h1,h2⟩ := hv
    exact ⟨u,q,e1,VR.cut x u hk.1 h1,VRs.cut r q hk.2 h2⟩
end
/-- the temporaries kept -/
def acY (k:Nat) (T:List (Nat × AV)) : List Nat → Option (List (Nat × AV))
  | []=>some []
  | t :: r=>match lk T t with
    | some v=>match AV.bel k v with
      | true=>match acY k T r with
        | some q=>some ((t,v) :: q)
        | none=>none
      | false=>none
    | none=>none
def xA (k:Nat) : List Slot → Bool
  | []=>true
  | .box _ cs :: r=>AV.bel k cs && xA k r
  | _ :: r=>xA k r
def VA (k0:Nat) (keys:List Nat) (k:Nat) (st:St) : Option St := match Nat.ble k0 k && xA k (st.H.take k) with
  | true=>match acY k st.T keys with
    | some T=>some ⟨T,st.H.take k⟩
    | none=>none
  | false=>none
theorem XM {e:Env} {k:Nat} {T:List (Nat × AV)} {tmps:Array Value} (hT:iY e T tmps) : ∀ {keys:List Nat} {T':List (Nat × AV)},acY k T keys = some T' → iY (e.cut k) T' tmps
  | [],T',h=>by
    simp only [acY] at h
    injection h with h
    subst h
    exact fun t v hv=>by cases hv
  | t :: r,T',h=>by
    simp only [acY] at h
    split at h
    · rename_i v hv
      split at h
      · rename_i hk
        split at h
        · rename_i q hq
          injection h with h
          subst h
          intro t' y hy
          unfold lk at hy
          split at hy
          · rename_i hb
            injection hy with hy
            subst hy
            have := eu hb
            subst this
            obtain ⟨u,h1,h2⟩ := hT t v hv
            exact ⟨u,h1,VR.cut v u hk h2⟩
          · exact XM hT hq t' y hy
        · cases h
      · cases h
    · cases h
theorem Ql {k:Nat} : ∀ {H:List Slot} {b:Nat} {ty:TypeId} {cs:AV},xA k H = true → H[b]? = some (.box ty cs) → AV.bel k cs = true
  | [],b,ty,cs,_,h=>by simp at h
  | s :: r,b,ty,cs,hk,h=>by
    cases b with
    | zero =>
      obtain rfl:s = .box ty cs := by simpa using h
      unfold xA at hk
      rw [Bool.and_eq_true] at hk
      exact hk.1
    | succ b =>
      refine Ql (H := r) (b := b) ?_ (by simpa using h)
      cases s with
      | box ty' cs'=>unfold xA at hk; rw [Bool.and_eq_true] at hk; exact hk.2
      | row ty' n l=>unfold xA at hk; exact hk
      | dead=>unfold xA at hk; exact hk
      | free=>unfold xA at hk; exact hk
      | map P1 k1 e1 l1=>unfold xA at hk; exact hk
theorem uP {c:Ctx} (hc:c.Ok) {keys:List Nat} {k:Nat} {st st':St} (h:VA c.k0 keys k st = some st') {e:Env} {C:Nat → List Value} {a:Act} {w:World} (hR:Rep c e C st a w) : Rep c (e.cut k) C st' a w := by
  unfold VA at h
  split at h
  · rename_i hk
    rw [Bool.and_eq_true] at hk
    obtain ⟨hk0,hk⟩ := hk
    split at h
    · rename_i T hT
      injection h with h
      subst h
      have hM := hR.mem
      have key:∀ b s,(st.H.take k)[b]? = some s → st.H[b]? = some s ∧ b < k := fun b s hs=>by
        rw [List.getElem?_take] at hs
        split at hs
        · exact ⟨hs,by assumption⟩
        · cases hs
      refine ⟨XM hR.tmp hT,hR.size,hR.defers,⟨fun b s hs=>?_,fun b s hs=>?_,fun b hb=>?_,fun b b' s s' g h1 h2 k1 k2=>?_,fun b s g hs hg=>?_,fun b s g hs hg=>?_,hM.inv,hM.le,hM.fresh,hM.ch,hM.g,fun b hb=>?_⟩⟩
      rotate_right
      · obtain ⟨q1,q2,q3⟩ := hM.bse b hb
        exact ⟨⟨q1,Nat.lt_of_lt_of_le (hc.k0 b hb) (Nat.le_of_ble_eq_true hk0)⟩,q2,q3⟩
      · obtain ⟨h1,h2⟩ := key b s hs
        have h3 := hM.hv b s h1
        cases s with
        | box ty cs=>exact ⟨⟨h3.1,h2⟩,VR.cut cs _ (Ql hk hs) h3.2⟩
        | row ty n l=>exact ⟨⟨h3.1,h2⟩,h3.2⟩
        | dead=>trivial
        | free=>exact fun h=>h3 h.1
        | map P1 k1 e1 l1=>exact ⟨⟨h3.1,h2⟩,h3.2⟩
      · have h3 := hM.hw b s (key b s hs).1
        cases s <;> exact h3
      · have := hM.bound b hb.1
        have := hb.2
        show b < (st.H.take k).length
        rw [List.length_take]; omega
      · have e1 : eY e b s = some g := by cases s <;> exact k1
        have e2:eY e b' s' = some g := by cases s' <;> exact k2
        exact hM.inj b b' s s' g (key _ _ h1).1 (key _ _ h2).1 e1 e2
      · have e1 : eY e b s = some g := by cases s <;> exact hg
        exact hM.av b s g (key _ _ hs).1 e1
      · have e1 : eY e b s = some g := by cases s <;> exact hg
        exact hM.mine b s g (key _ _ hs).1 e1
    · cases h
  · cases h
end Go.Proofs.YtflpefkohpjjpaaGreatDoor
set_option linter.unusedSimpArgs false
set_option linter.unusedVariables false
namespace Go.Proofs.YtflpefkohpjjpaaGreatDoor
open Go.RowKit
/-- an operation that is not quiet, and what follows -/
def XO (P:Program) (G:Gh → Prop) (tt:TT) (nt:Nat) (ops:Array Oper) (n:Nat) (L:Nat) (ch0:List Nat) (i:Nat) (b:Bool) (k:Bool → St → List Ans → Option (List Prop)) (gr:Bool) (st:St) (qs:List Ans) : Option (List Prop) := match ops[i]? with
  | none=>none
  | some o=>match E5 n i st qs with
    | none=>none
    | some g=>match b || Qi g.ch ch0 with
      | false=>none
      | true=>match gck n ops g.st o g.qs with
        | some (true,st1,qs1,p1)=>match lev P G tt nt st1 o qs1 with
          | some x=>match (b || Nat.beq i L) || Qi x.ch ch0 with
            | true=>match k (gr || (g.gr || x.gr)) x.st x.qs with
              | some y=>some (g.p ++ (p1 ++ (x.p ++ y)))
              | none=>none
            | false=>none
          | none=>none
        | some (false,st1,qs1,p1)=>match jE nt st1.T o.dst (.raw undef) with
          | some T'=>match k (gr || g.gr) ⟨T',st1.H⟩ qs1 with
            | some y=>some (g.p ++ (p1 ++ y))
            | none=>none
          | none=>none
        | none=>none
def runT (P:Program) (G:Gh → Prop) (tt:TT) (nt k0:Nat) (ops:Array Oper) (n:Nat) (H0:List Slot) (L:Nat) (ch0:List Nat) (keys:List Nat) (kk:Nat) (st':St) : RT → Bool → Bool → St → List Ans → Option (List Prop)
  | .fin,_,_,st,qs=>match qs with
    | []=>some [VA k0 keys kk st = some st']
    | _=>none
  | .q i r,b,gr,st,qs=>match Nat.beq i L with
    | true=>none
    | false=>match ops[i]? with
    | none=>none
    | some o=>match gck n ops st o qs with
      | some (true,st1,qs1,p1)=>match qev P tt (!(gr || b)) (!(gr || b)) st1.T H0 o.op qs1 with
        | some (v,qs2,p2)=>match jE nt st1.T o.dst v with
          | some T'=>match runT P G tt nt k0 ops n H0 L ch0 keys kk st' r b gr ⟨T',st1.H⟩ qs2 with
            | some y=>some (p1 ++ (p2 ++ y))
            | none=>none
          | none=>none
        | none=>none
      | some (false,st1,qs1,p1)=>match jE nt st1.T o.dst (.raw undef) with
        | some T'=>match runT P G tt nt k0 ops n H0 L ch0 keys kk st' r b gr ⟨T',st1.H⟩ qs1 with
          | some y=>some (p1 ++ y)
          | none=>none
        | none=>none
      | none=>none
  | .l i r,b,gr,st,qs=>XO P G tt nt ops n L ch0 i b (runT P G tt nt k0 ops n H0 L ch0 keys kk st' r (b || Nat.beq i L)) gr st qs
  | .alt i ri r,b,gr,st,qs=>match qs with
    | [.both q1 q2]=>match XO P G tt nt ops n L ch0 i b (runT P G tt nt k0 ops n H0 L ch0 keys kk st' ri (b || Nat.beq i L)) gr st q1 with
      | some p1=>match runT P G tt nt k0 ops n H0 L ch0 keys kk st' r b gr st q2 with
        | some p2=>some (p1 ++ p2)
        | none=>none
      | none=>none
    | _=>none
/-- what is known of the state at the region's beginning: all of it till L has been -/
structure alQ (b gr:Bool) (e0:Env) (C0:Nat → List Value) (H0:List Slot) (ch0:List Nat) (e:Env) (C:Nat → List Value) (H:List Slot) : Prop where
  le:e0.le e
  lnk:b = false → Lnk gr e0 C0 H0 ch0 e C H
theorem Qm {c:Ctx} (hc:c.Ok) {ops:Array Oper} {n:Nat} {Q:Exit → Act → World → Prop} {e0:Env} {C0:Nat → List Value} {H0:List Slot} {L:Nat} {ch0:List Nat} {i:Nat} {b:Bool} {k:Bool → St → List Ans → Option (List Prop)} {W:Act → World → Prop} {gr:Bool} {st:St} {qs:List Ans} {p:List Prop}
    (h:XO c.P c.G c.tt c.nt ops n L ch0 i b k gr st qs = some p) (hp:dS p) {e:Env} {C:Nat → List Value} {a:Act} {w:World} (hR:Rep c e C st a w) (hL:alQ b gr e0 C0 H0 ch0 e C st.H)
    (hk:∀ gr' st' qs' p',k gr' st' qs' = some p' → dS p' → ∀ e' C' a' w',Rep c e' C' st' a' w' → alQ (b || Nat.beq i L) gr' e0 C0 H0 ch0 e' C' st'.H → W a' w') : wpOp c.P ops Q i (fun a' w'=>((b || Nat.beq i L) = false → Vy e0 C0 H0 w') ∧ W a' w') a w := by
  unfold XO at h
  split at h
  · cases h
  · rename_i o ho
    split at h
    · cases h
    · rename_i g hg
      split at h
      · cases h
      · rename_i hsub
        split at h
        · rename_i st1 qs1 p1 hgk
          split at h
          · rename_i x hx
            split at h
            · rename_i hsx
              split at h
              · rename_i y hy
                injection h with h
                subst h
                obtain ⟨q1,q2⟩ := dS.app hp
                obtain ⟨q2,q3⟩ := dS.app q2
                obtain ⟨q3,q4⟩ := dS.app q3
                obtain ⟨e1,C1,k1,k2⟩ := ng hc hg q1 e C a w hR
                obtain ⟨k3,k4,k5⟩ := pI hgk q2 k1
                have hL1:b = false → Lnk (gr || g.gr) e0 C0 H0 ch0 e1 C1 g.st.H := fun hb=>(hL.lnk hb).step k2 (by rw [hb] at hsub; exact hsub)
                unfold wpOp
                simp only [ho,k5,if_true]
                refine .inl (Nr hc hx q3 e1 C1 a w _ _ k3 fun e2 C2 a2 w2 m1 m2=>?_)
                have hl:(b || Nat.beq i L) = false → Lnk (gr || (g.gr || x.gr)) e0 C0 H0 ch0 e2 C2 x.st.H := fun hiL=>by
                  have hb := (Bool.or_eq_false_iff.1 hiL).1
                  have hsx':Qi x.ch ch0 = true := by
                    rw [hiL,Bool.false_or] at hsx; exact hsx
                  have := (show Lnk (gr || g.gr) e0 C0 H0 ch0 e1 C1 st1.H by rw [k4]; exact hL1 hb).step m2 hsx'
                  rwa [Bool.or_assoc] at this
                exact ⟨fun hiL=>(hl hiL).Zt m1.mem,hk _ _ _ _ hy q4 e2 C2 a2 w2 m1 ⟨(hL.le.trans k2.le).trans m2.le,hl⟩⟩
              · cases h
            · cases h
          · cases h
        · rename_i st1 qs1 p1 hgk
          split at h
          · rename_i T' hT
            split at h
            · rename_i y hy
              injection h with h
              subst h
              obtain ⟨q1,q2⟩ := dS.app hp
              obtain ⟨q2,q3⟩ := dS.app q2
              obtain ⟨e1,C1,k1,k2⟩ := ng hc hg q1 e C a w hR
              obtain ⟨k3,k4,k5⟩ := pI hgk q2 k1
              have hL1:b = false → Lnk (gr || g.gr) e0 C0 H0 ch0 e1 C1 g.st.H := fun hb=>(hL.lnk hb).step k2 (by rw [hb] at hsub; exact hsub)
              obtain ⟨n1,n2,n3⟩ := jK hT k3.tmp k3.size (by unfold VR; rfl:VR e1 (.raw undef) undef)
              unfold wpOp
              simp only [ho,k5,Bool.false_eq_true,if_false]
              have hL2:(b || Nat.beq i L) = false → Lnk (gr || g.gr) e0 C0 H0 ch0 e1 C1 (⟨T',st1.H⟩ : St).H := fun hiL=>by
                show Lnk _ _ _ _ _ _ _ st1.H
                rw [k4]; exact hL1 (Bool.or_eq_false_iff.1 hiL).1
              exact ⟨fun hiL=>(hL2 hiL).Zt k3.mem,hk _ _ _ _ hy q3 e1 C1 _ w ⟨n1,n2,n3.trans k3.defers,k3.mem⟩ ⟨hL.le.trans k2.le,hL2⟩⟩
            · cases h
          · cases h
        · cases h
theorem uQ {c:Ctx} (hc:c.Ok) {ops:Array Oper} {n:Nat} {Q:Exit → Act → World → Prop} {e0:Env} {C0:Nat → List Value} {H0:List Slot} {L:Nat} {ch0:List Nat} {keys:List Nat} {kk:Nat} {st':St} (hf:∀ (b:Nat) (s:Slot),H0[b]? = some s → s ≠ Slot.free) (hv0:HVs e0 C0 H0) (hQ:∀ e' C' a' w',Rep c e' C' st' a' w' → Q .normal a' w') : ∀ {t:RT} {b gr:Bool} {st:St} {qs:List Ans} {p:List Prop},runT c.P c.G c.tt c.nt c.k0 ops n H0 L ch0 keys kk st' t b gr st qs = some p → dS p →
    ∀ {e:Env} {C:Nat → List Value} {a:Act} {w:World},Rep c e C st a w → alQ b gr e0 C0 H0 ch0 e C st.H → Nu c.P ops Q (Vy e0 C0 H0) L t b a w
  | .fin,b,gr,st,qs,p,h,hp,e,C,a,w,hR,hL=>by
    simp only [runT] at h
    split at h
    · injection h with h
      subst h
      exact hQ _ C a w (uP hc hp.1 hR)
    · cases h
  | .q i r,b,gr,st,qs,p,h,hp,e,C,a,w,hR,hL=>by
    simp only [runT] at h
    split at h
    · cases h
    rename_i hiL
    have hiL:i ≠ L := by rintro rfl; rw [Nat.beq_refl] at hiL; cases hiL
    refine ⟨hiL,?_⟩
    split at h
    · cases h
    · rename_i o ho
      split at h
      · rename_i st1 qs1 p1 hk
        split at h
        · rename_i v qs2 p2 hq
          split at h
          · rename_i T' hT
            split at h
            · rename_i y hy
              injection h with h
              subst h
              obtain ⟨q1,q2⟩ := dS.app hp
              obtain ⟨q2,q3⟩ := dS.app q2
              obtain ⟨k3,k4,k5⟩ := pI hk q1 hR
              have hv1:HVs e C0 H0 := fun b s hb=>uM hL.le rfl (hf b s hb) (hv0 b s hb)
              obtain ⟨u,m1,m2⟩ := Vp hc.tt k3.tmp hv1 rfl hq q2
              obtain ⟨n1,n2,n3⟩ := jK hT k3.tmp k3.size m1
              refine ⟨o,u,ho,.inl ⟨k5,fun w' hS=>m2 w' (have hq:(!(gr || b)) = true → Inv e.I w' ∧ HWs e C0 w' H0 := fun hm=>?_; ⟨fun hm=>(hq hm).2,hq⟩)⟩,uQ hc hf hv0 hQ hy q3 ⟨n1,n2,n3.trans k3.defers,k3.mem⟩ (by rw [show (⟨T',st1.H⟩ : St).H = st.H from k4]; exact hL)⟩
              have hm:gr = false ∧ b = false := by simpa using hm
              have hL0 := hL.lnk hm.2
              have hS := hS hm.2
              refine ⟨by rw [hL0.I hm.1]; exact hS.1,fun b s hb=>?_⟩
              by_cases hl:s.live
              · exact (EU hL0.le (Eu (hv0 b s hb) hl) rfl).2 (hS.2 b s hb)
              · cases s with
                | box ty cs=>exact absurd trivial hl
                | row ty n l=>exact absurd trivial hl
                | dead=>trivial
                | free=>trivial
                | map P1 k1 e1 l1=>exact absurd trivial hl
            · cases h
          · cases h
        · cases h
      · rename_i st1 qs1 p1 hk
        split at h
        · rename_i T' hT
          split at h
          · rename_i y hy
            injection h with h
            subst h
            obtain ⟨q1,q2⟩ := dS.app hp
            obtain ⟨k3,k4,k5⟩ := pI hk q1 hR
            obtain ⟨n1,n2,n3⟩ := jK hT k3.tmp k3.size (by unfold VR; rfl:VR e (.raw undef) undef)
            exact ⟨o,undef,ho,.inr ⟨k5,rfl⟩,uQ hc hf hv0 hQ hy q2 ⟨n1,n2,n3.trans k3.defers,k3.mem⟩ (by rw [show (⟨T',st1.H⟩ : St).H = st.H from k4]; exact hL)⟩
          · cases h
        · cases h
      · cases h

  | .l i r,b,gr,st,qs,p,h,hp,e,C,a,w,hR,hL=>by
    simp only [runT] at h
    exact Qm hc h hp hR hL fun gr1 st1 qs1 p1 h1 hp1 e1 C1 a1 w1 hR1 hL1=>uQ hc hf hv0 hQ h1 hp1 hR1 hL1
  | .alt i ri r,b,gr,st,qs,p,h,hp,e,C,a,w,hR,hL=>by
    simp only [runT] at h
    split at h
    · split at h
      · rename_i p1 h1
        split at h
        · rename_i p2 h2
          injection h with h
          subst h
          obtain ⟨q1,q2⟩ := dS.app hp
          exact ⟨Qm hc h1 q1 hR hL fun gr1 st1 qs1 p1 h1 hp1 e1 C1 a1 w1 hR1 hL1=>uQ hc hf hv0 hQ h1 hp1 hR1 hL1,uQ hc hf hv0 hQ h2 q2 hR hL⟩
        · cases h
      · cases h
    · cases h
end Go.Proofs.YtflpefkohpjjpaaGreatDoor
set_option linter.unusedSimpArgs false
set_option linter.unusedVariables false
namespace Go.Proofs.YtflpefkohpjjpaaGreatDoor
open Go.RowKit
structure CR where
  x:Exit
  st:St
  qs:List Ans
  p:List Prop
/-- a part that is shown apart? -/
def Code.kd:Code → Nat
  | .loop _=>0
  | .cond _ _ _=>1
  | .block id _=>6 + 2 * id
  | .region id _ _=>7 + 2 * id
  | .seq _ _=>4
  | _=>5
def pre (A:Code → Exit → St → St → Prop) (k0:Nat) (code:Code) (st:St) (qs:List Ans) (k:Option CR) : Option CR := match qs with
  | .part gs kd keys n x T H :: qs'=>match Nat.beq kd (Code.kd code) with
    | true=>match gos st gs with
      | some ⟨st0,[],p,_,_⟩=>match VA k0 keys n st0 with
        | some st1=>some ⟨x,⟨T,H⟩,qs',p ++ [A code x ⟨T,H⟩ st1]⟩
        | none=>none
      | _=>none
    | false=>k
  | _=>k
def aoa (id:Nat) : List Ans → Bool
  | .seg id' _ _ _ _ _ _ :: _=>Nat.beq id' id
  | _=>false
def BI (B:List Nat → St → St → Prop) (k0:Nat) : List Ans → List Nat → St → Option (St × List Ans × List Prop)
  | .seg _ gs m keys k T H :: qs,l,st=>match gos st gs with
    | some ⟨st0,[],p,_,_⟩=>match VA k0 keys k st0 with
      | some st1=>match l.drop m with
        | []=>some (⟨T,H⟩,qs,p ++ [B (l.take m) ⟨T,H⟩ st1])
        | x :: l'=>match BI B k0 qs (x :: l') ⟨T,H⟩ with
          | some (st',qs',p')=>some (st',qs',p ++ (B (l.take m) ⟨T,H⟩ st1 :: p'))
          | none=>none
      | none=>none
    | _=>none
  | _,_,_=>none
/-- an order along which the region may be walked -/
def acZ (ops:Array Oper) (l:List (Bool × Nat)) (L:Option Nat) : Bool := Region.noSelect ops && Nat.ble l.length ops.size && mZ ops l (Array.replicate ops.size false) && endsB (L.getD ops.size) l && (match L with | some n=>lastT ops n | none=>l.all fun z=>Nat.blt z.2 ops.size)
def opsOf:Code → Array Oper
  | .region _ ops _=>ops
  | _=>#[]
def exec (A:Code → Exit → St → St → Prop) (B:Code → List Nat → St → St → Prop) (P:Program) (G:Gh → Prop) (tt:TT) (nt k0:Nat) : Code → St → List Ans → Option CR
  | .skip,st,qs=>pre A k0 .skip st qs (some ⟨.normal,st,qs,[]⟩)
  | .label l,st,qs=>pre A k0 (.label l) st qs (some ⟨.normal,st,qs,[]⟩)
  | .region id ops draw,st,qs=>pre A k0 (.region id ops draw) st qs (match draw with
    | false=>match aoa id qs with
      | true=>match BI (B (.region id ops draw)) k0 qs (List.range ops.size) st with
        | some (st',qs',p)=>some ⟨.normal,st',qs',p⟩
        | none=>none
      | false=>match Qh P G tt nt ops (2 * id + 2) (List.range ops.size) st qs with
        | some r=>some ⟨.normal,r.st,r.qs,r.p⟩
        | none=>none
    | true=>match qs with
      | .order l L ch :: qs'=>match Region.noSelect ops && Nat.ble l.length ops.size && mZ ops l (Array.replicate ops.size false) && endsB (L.getD ops.size) l && (match L with | some n=>lastT ops n | none=>l.all fun z=>Nat.blt z.2 ops.size) with
        | true=>match runM P G tt nt ops (2 * id + 2) (nT ch 0 st.H) (L.getD ops.size) ch l false st qs' with
          | some r=>some ⟨.normal,r.st,r.qs,r.p⟩
          | none=>none
        | false=>none
      | .Vl l L ch :: qs'=>match runM P G tt nt ops (2 * id + 2) (nT ch 0 st.H) (L.getD ops.size) ch l false st qs' with
        | some r=>some ⟨.normal,r.st,r.qs,(acZ ops l L = true) :: r.p⟩
        | none=>none
      | .jX t L ch aq keys k T H :: qs'=>match Region.noSelect ops && Nat.ble t.len ops.size && rtB ops t (Array.replicate ops.size false) && (match L with | some n=>XL ops n | none=>true) with
        | true=>match runT P G tt nt k0 ops (2 * id + 2) (nT ch 0 st.H) (L.getD ops.size) ch keys k ⟨T,H⟩ t false false st aq with
          | some p=>some ⟨.normal,⟨T,H⟩,qs',p⟩
          | none=>none
        | false=>none
      | _=>none)
  | .seq x y,st,qs=>pre A k0 (.seq x y) st qs (match exec A B P G tt nt k0 x st qs with
    | some r=>match r.x with
      | .normal=>match exec A B P G tt nt k0 y r.st r.qs with
        | some s=>some ⟨s.x,s.st,s.qs,r.p ++ s.p⟩
        | none=>none
      | _=>some r
    | none=>none)
  | .cond o x y,st,qs=>pre A k0 (.cond o x y) st qs (match qs with
    | .br b :: qs'=>match ev st.T o with
      | some (.lf (.bool t))=>match b with
        | true=>match exec A B P G tt nt k0 x st qs' with
          | some r=>some ⟨r.x,r.st,r.qs,(t = true) :: r.p⟩
          | none=>none
        | false=>match exec A B P G tt nt k0 y st qs' with
          | some r=>some ⟨r.x,r.st,r.qs,(t = false) :: r.p⟩
          | none=>none
      | _=>none
    | _=>none)
  | .block id x,st,qs=>pre A k0 (.block id x) st qs (match exec A B P G tt nt k0 x st qs with
    | some r=>match r.x with
      | .exit id'=>match Nat.beq id' id with
        | true=>some ⟨.normal,r.st,r.qs,r.p⟩
        | false=>some r
      | _=>some r
    | none=>none)
  | .loop x,st,qs=>pre A k0 (.loop x) st qs none
  | .exit id,st,qs=>pre A k0 (.exit id) st qs (match E5 1 id st qs with
    | some g=>some ⟨.exit id,g.st,g.qs,g.p⟩
    | none=>none)
  | .scope x,st,qs=>pre A k0 (.scope x) st qs (match exec A B P G tt nt k0 x st qs with
    | some r=>match r.x with
      | .goto _=>none
      | _=>some r
    | none=>none)
  | .ret,st,qs=>pre A k0 .ret st qs (match E5 0 0 st qs with
    | some g=>some ⟨.ret,g.st,g.qs,g.p⟩
    | none=>none)
  | _,_,_=>none
structure Ctx.Full (c:Ctx) : Prop extends c.Ok where
  mixed:c.P.follows .mixedOrders = true
theorem pJ {A:Code → Exit → St → St → Prop} {c:Ctx} (hA:∀ code x st' st,A code x st' st → AW c code x st' st) (hc:c.Ok) {code:Code} {st:St} {qs:List Ans} {k:Option CR} {r:CR} (h:pre A c.k0 code st qs k = some r) (hp:dS r.p) (hk:k = some r → AW c code r.x r.st st) : AW c code r.x r.st st := by
  unfold pre at h
  split at h
  · split at h
    · split at h
      · rename_i st0 p ch gr hg
        split at h
        · rename_i st1 hs
          injection h with h
          subst h
          obtain ⟨p1,p2⟩ := dS.app hp
          intro e C a w hR
          obtain ⟨e',C',k1,_⟩ := BG hc hg p1 e C a w hR
          exact hA _ _ _ _ p2.1 _ C' a w (uP hc hs k1)
        · cases h
      · cases h
    · exact hk h
  · exact hk h
theorem xU {P:Program} {ops:Array Oper} {Q:Exit → Act → World → Prop} {S:World → Prop} {L:Nat} : ∀ {l:List (Bool × Nat)} {a:Act} {w:World},(∀ z ∈ l,z.2 ≠ L) → jZ P ops Q S L l a w → oU P ops Q S l a w
  | [],a,w,_,h=>h
  | (true,i) :: r,a,w,hl,h=>by
    obtain ⟨o,v,h1,h2,h3⟩ := h
    exact ⟨o,v,h1,h2,xU (fun z hz=>hl z (by simp [hz])) h3⟩
  | (false,i) :: r,a,w,hl,h=>wpOp_mono (fun a' w' h1=>⟨h1.1 (hl (false,i) (by simp)),xU (fun z hz=>hl z (by simp [hz])) h1.2⟩) h
theorem Fb {ch:List Nat} {k:Nat} {H:List Slot} {b:Nat} {s:Slot} (h:(nT ch k H)[b]? = some s) : s ≠ Slot.free := by
  rcases pX H k b s h with rfl | ⟨_,h2,_⟩
  · intro h; cases h
  · exact h2
theorem Zv {B:List Nat → St → St → Prop} {c:Ctx} {ops:Array Oper} (hB:∀ l st' st,B l st' st → AWo c ops l st' st) (hc:c.Ok) {Q:Exit → Act → World → Prop} : ∀ {qs:List Ans} {l:List Nat} {st st':St} {qs':List Ans} {p:List Prop},BI B c.k0 qs l st = some (st',qs',p) → dS p → ∀ {e:Env} {C:Nat → List Value} {a:Act} {w:World},Rep c e C st a w →
    (∀ e' C' a' w',Rep c e' C' st' a' w' → Q .normal a' w') → wpOps c.P ops Q l a w := by
  intro qs
  induction qs with
  | nil=>intro l st st' qs' p h; unfold BI at h; cases h
  | cons q qs ih =>
    intro l st st' qs' p h hp e C a w hR hQ
    cases q with
    | seg id gs m keys k T H =>
      simp only [BI] at h
      split at h
      · rename_i st0 p1 ch gr hg
        split at h
        · rename_i st1 hs
          split at h
          · rename_i hd
            injection h with h; injection h with h3 h4; injection h4 with h4 h5
            subst h3 h4 h5
            obtain ⟨q1,q2⟩ := dS.app hp
            obtain ⟨e',C',k1,_⟩ := BG hc hg q1 e C a w hR
            have := hB _ _ _ q2.1 Q [] _ C' a w (uP hc hs k1) hQ
            rw [List.append_nil] at this
            have hl:l.take m = l := by
              have := List.take_append_drop m l
              rw [hd,List.append_nil] at this; exact this
            rwa [hl] at this
          · rename_i x l' hd
            split at h
            · rename_i st2 qs2 p2 hr
              injection h with h; injection h with h3 h4; injection h4 with h4 h5
              subst h3 h4 h5
              obtain ⟨q1,q2⟩ := dS.app hp
              obtain ⟨e',C',k1,_⟩ := BG hc hg q1 e C a w hR
              have := hB _ _ _ q2.1 Q (x :: l') _ C' a w (uP hc hs k1) (fun e2 C2 a2 w2 hR2=>ih hr q2.2 hR2 hQ)
              rw [← hd,List.take_append_drop] at this
              exact this
            · cases h
        · cases h
      · cases h
    | _=>simp only [BI] at h; cases h
theorem XP {c:Ctx} (hc:c.Full) {id:Nat} {ops:Array Oper} {l:List (Bool × Nat)} {L:Option Nat} {ch:List Nat} {st:St} {qs:List Ans} {y:OR} (hb:acZ ops l L = true) (hy:runM c.P c.G c.tt c.nt ops (2 * id + 2) (nT ch 0 st.H) (L.getD ops.size) ch l false st qs = some y) (hp:dS y.p) : AW c (.region id ops true) .normal y.st st := by
  unfold acZ at hb
  simp only [Bool.and_eq_true] at hb
  obtain ⟨⟨⟨⟨b1,b2⟩,b3⟩,b4⟩,b5⟩ := hb
  intro e C a w hR
  have hRd:Rep c e C st a w.drew := ⟨hR.tmp,hR.size,hR.defers,hR.mem.drew⟩
  have hv0:HVs e C (nT ch 0 st.H) := fun b s hs=>by
    rcases pX st.H 0 b s hs with rfl | ⟨h1,_,_⟩
    · trivial
    · exact hR.mem.hv b s h1
  have hL:Lnk false e C (nT ch 0 st.H) ch e C st.H := ⟨Env.le.refl e,fun _=>rfl,fun b s hs hl=>by
    rcases pX st.H 0 b s hs with rfl | ⟨h1,_,h3⟩
    · cases hl
    · exact ⟨by simpa using h3,s,h1,hl,fun _ h=>h⟩⟩
  have hS := hL.Zt hRd.mem
  have hrun := fun Q hQ=>yM hc.toOk (ops := ops) (Q := Q) (fun b s hs=>Fb hs) hv0 hy b4 hp hRd hL hQ
  cases L with
  | some n =>
    exact EZ (Vy e C (nT ch 0 st.H)) n l hc.mixed b1 (decide_eq_true (Nat.le_of_ble_eq_true b2)) b3 b5 b4 hS (hrun _ fun e' C' a' w' h'=>(⟨rfl,e',C',h'⟩ : _ ∧ _))
  | none =>
    refine mQ (Vy e C (nT ch 0 st.H)) l hc.mixed b1 (decide_eq_true (Nat.le_of_ble_eq_true b2)) b3 hS (xU (L := ops.size) (fun z hz=>?_) (hrun _ fun e' C' a' w' h'=>(⟨rfl,e',C',h'⟩ : _ ∧ _)))
    have := Fa (List.all_eq_true.1 b5 z hz)
    omega
theorem oV {A:Code → Exit → St → St → Prop} {B:Code → List Nat → St → St → Prop} {c:Ctx} (hA:∀ code x st' st,A code x st' st → AW c code x st' st) (hB:∀ id ops draw l st' st,B (.region id ops draw) l st' st → AWo c ops l st' st) (hc:c.Full) : ∀ {code:Code} {st:St} {qs:List Ans} {r:CR},exec A B c.P c.G c.tt c.nt c.k0 code st qs = some r → dS r.p → AW c code r.x r.st st
  | .skip,st,qs,r,h,hp=>pJ hA hc.toOk h hp fun h=>by
    injection h with h; subst h
    exact fun e C a w hR=>wp_skip ⟨rfl,e,C,hR⟩
  | .label l,st,qs,r,h,hp=>pJ hA hc.toOk h hp fun h=>by
    injection h with h; subst h
    exact fun e C a w hR=>wp_label ⟨rfl,e,C,hR⟩
  | .ret,st,qs,r,h,hp=>pJ hA hc.toOk h hp fun h=>by
    split at h
    · rename_i g hg
      injection h with h; subst h
      intro e C a w hR
      obtain ⟨e',C',k1,_⟩ := ng hc.toOk hg hp e C a w hR
      exact wp_ret ⟨rfl,e',C',k1⟩
    · cases h
  | .exit id,st,qs,r,h,hp=>pJ hA hc.toOk h hp fun h=>by
    split at h
    · rename_i g hg
      injection h with h; subst h
      intro e C a w hR
      obtain ⟨e',C',k1,_⟩ := ng hc.toOk hg hp e C a w hR
      exact wp_exit ⟨rfl,e',C',k1⟩
    · cases h
  | .loop x,st,qs,r,h,hp=>pJ hA hc.toOk h hp fun h=>by cases h
  | .region id ops draw,st,qs,r,h,hp=>pJ hA hc.toOk h hp fun h=>by
    split at h
    · split at h
      · split at h
        · rename_i st' qs' p hy
          injection h with h; subst h
          exact fun e C a w hR=>wp_region (Zv (hB _ _ _) hc.toOk hy hp hR fun e' C' a' w' h'=>⟨rfl,e',C',h'⟩)
        · cases h
      · split at h
        · rename_i y hy
          injection h with h; subst h
          exact fun e C a w hR=>wp_region (ahT hc.toOk hy hp hR fun e' C' a' w' h'=>⟨rfl,e',C',h'⟩)
        · cases h
    · split at h
      · rename_i l L ch qs' h0
        clear h0
        split at h
        · rename_i hb
          split at h
          · rename_i y hy
            injection h with h; subst h
            exact XP hc hb hy hp
          · cases h
        · cases h
      · rename_i l L ch qs' h0
        clear h0
        split at h
        · rename_i y hy
          injection h with h; subst h
          exact XP hc hp.1 hy hp.2
        · cases h
      · rename_i t L ch aq keys k T H qs' h0
        clear h0
        split at h
        · rename_i hb
          simp only [Bool.and_eq_true] at hb
          obtain ⟨⟨⟨b1,b2⟩,b3⟩,b5⟩ := hb
          split at h
          · rename_i y hy
            injection h with h; subst h
            intro e C a w hR
            have hRd:Rep c e C st a w.drew := ⟨hR.tmp,hR.size,hR.defers,hR.mem.drew⟩
            have hv0:HVs e C (nT ch 0 st.H) := fun b s hs=>by
              rcases pX st.H 0 b s hs with rfl | ⟨h1,_,_⟩
              · trivial
              · exact hR.mem.hv b s h1
            have hL:Lnk false e C (nT ch 0 st.H) ch e C st.H := ⟨Env.le.refl e,fun _=>rfl,fun b s hs hl=>by
              rcases pX st.H 0 b s hs with rfl | ⟨h1,_,h3⟩
              · cases hl
              · exact ⟨by simpa using h3,s,h1,hl,fun _ h=>h⟩⟩
            have hS := hL.Zt hRd.mem
            refine Nv (Vy e C (nT ch 0 st.H)) (L.getD ops.size) t hc.mixed b1 b2 b3 ?_ hS (uQ hc.toOk (fun b s hs=>Fb hs) hv0 (fun e' C' a' w' h'=>(⟨rfl,e',C',h'⟩ : _ ∧ _)) hy hp hRd ⟨hL.le,fun _=>hL⟩)
            cases L with
            | some n=>simp only [Option.getD_some]; rw [Bool.or_eq_true]; exact .inl b5
            | none=>simp
          · cases h
        · cases h
      · cases h
  | .seq x y,st,qs,r,h,hp=>pJ hA hc.toOk h hp fun h=>by
    split at h
    · rename_i r1 h1
      split at h
      · rename_i hx
        split at h
        · rename_i s h2
          injection h with h; subst h
          obtain ⟨p1,p2⟩ := dS.app hp
          have k1 := oV hA hB hc h1 p1
          have k2 := oV hA hB hc h2 p2
          intro e C a w hR
          refine wp_seq (Code.wp_mono ?_ (k1 e C a w hR))
          rintro x' a' w' ⟨rfl,e',C',hR'⟩
          rw [hx]
          exact k2 e' C' a' w' hR'
        · cases h
      · rename_i hx
        injection h with h; subst h
        have k1 := oV hA hB hc h1 hp
        intro e C a w hR
        refine wp_seq (Code.wp_mono ?_ (k1 e C a w hR))
        rintro x' a' w' ⟨rfl,e',C',hR'⟩
        cases hxx:r1.x with
        | normal=>exact absurd hxx hx
        | exit id=>exact ⟨rfl,e',C',hR'⟩
        | goto l=>exact ⟨rfl,e',C',hR'⟩
        | ret=>exact ⟨rfl,e',C',hR'⟩
        | panic ch=>exact ⟨rfl,e',C',hR'⟩
        | outgrown=>exact ⟨rfl,e',C',hR'⟩
    · cases h
  | .cond o x y,st,qs,r,h,hp=>pJ hA hc.toOk h hp fun h=>by
    split at h
    · rename_i b qs'
      split at h
      · rename_i t ht
        split at h
        · split at h
          · rename_i r1 h1
            injection h with h; subst h
            have k1 := oV hA hB hc h1 hp.2
            intro e C a w hR
            have hb := (cO hR.tmp ht).bool
            have htt:t = true := hp.1
            subst htt
            exact wp_cond_true hb (k1 e C a w hR)
          · cases h
        · split at h
          · rename_i r1 h1
            injection h with h; subst h
            have k1 := oV hA hB hc h1 hp.2
            intro e C a w hR
            have hb := (cO hR.tmp ht).bool
            have htt:t = false := hp.1
            subst htt
            exact wp_cond_false hb (k1 e C a w hR)
          · cases h
      · cases h
    · cases h
  | .block id x,st,qs,r,h,hp=>pJ hA hc.toOk h hp fun h=>by
    split at h
    · rename_i r1 h1
      have fin:dS r1.p → (∀ e' C' a' w',Rep c e' C' r1.st a' w' → Exit.inBlock id (fun x' a' w'=>x' = r.x ∧ ∃ e' C',Rep c e' C' r.st a' w') r1.x a' w') → AW c (.block id x) r.x r.st st := fun hp hq e C a w hR=>by
        refine wp_block (Code.wp_mono ?_ (oV hA hB hc h1 hp e C a w hR))
        rintro x' a' w' ⟨rfl,e',C',hR'⟩
        exact hq e' C' a' w' hR'
      split at h
      · rename_i id' hx
        split at h
        · rename_i hb
          have hb := eu hb
          injection h with h; subst h
          refine fin hp fun e' C' a' w' hR'=>?_
          rw [hx]
          simp only [Exit.inBlock,hb,if_true]
          exact ⟨trivial,e',C',hR'⟩
        · rename_i hb
          injection h with h; subst h
          refine fin hp fun e' C' a' w' hR'=>?_
          rw [hx]
          have hne:id' ≠ id := by rintro rfl; simp at hb
          simp only [Exit.inBlock,hne,if_false]
          exact ⟨trivial,e',C',hR'⟩
      · rename_i hx
        injection h with h; subst h
        refine fin hp fun e' C' a' w' hR'=>?_
        cases hxx:r1.x with
        | exit id'=>exact absurd hxx (hx id')
        | normal=>exact ⟨rfl,e',C',hR'⟩
        | goto l=>exact ⟨rfl,e',C',hR'⟩
        | ret=>exact ⟨rfl,e',C',hR'⟩
        | panic ch=>exact ⟨rfl,e',C',hR'⟩
        | outgrown=>exact ⟨rfl,e',C',hR'⟩
    · cases h
  | .scope x,st,qs,r,h,hp=>pJ hA hc.toOk h hp fun h=>by
    split at h
    · rename_i r1 h1
      split at h
      · cases h
      · rename_i hx
        injection h with h; subst h
        intro e C a w hR
        refine wp_scope_straight (Code.wp_mono ?_ (oV hA hB hc h1 hp e C a w hR))
        rintro x' a' w' ⟨rfl,e',C',hR'⟩
        cases hxx:r1.x with
        | goto l=>exact absurd hxx (hx l)
        | exit id'=>exact ⟨rfl,e',C',hR'⟩
        | normal=>exact ⟨rfl,e',C',hR'⟩
        | ret=>exact ⟨rfl,e',C',hR'⟩
        | panic ch=>exact ⟨rfl,e',C',hR'⟩
        | outgrown=>exact ⟨rfl,e',C',hR'⟩
    · cases h
  | .rangeFunc ..,st,qs,r,h,hp=>by simp [exec] at h
  | .goto ..,st,qs,r,h,hp=>by simp [exec] at h
  | .refuse ..,st,qs,r,h,hp=>by simp [exec] at h
end Go.Proofs.YtflpefkohpjjpaaGreatDoor
set_option linter.unusedSimpArgs false
set_option linter.unusedVariables false
namespace Go.Proofs.YtflpefkohpjjpaaGreatDoor
open Go.RowKit
/-- from behind the head of a loop -/
def LoopIn (P:Program) (c:Code) (Q:Exit → Act → World → Prop) (a:Act) (w:World) : Prop :=
  ∀ (b:Frame) (k:List Item) (cs:List Frame),∃ e a' w',Q e a' w' ∧ Arrives P (lone (b.at a (.code c :: .inLoop c :: k)) cs w) b k cs e a' w'
theorem LoopIn.loop {P:Program} {c:Code} {Q:Exit → Act → World → Prop} {a:Act} {w:World} (h:LoopIn P c Q a w) : (Code.loop c).wp P Q a w := fun b k cs=>by
  obtain ⟨e,a',w',hq,harr⟩ := h b k cs
  exact ⟨e,a',w',hq,.of_steps (.one step_loop) harr⟩
theorem LoopIn.step {P:Program} {c:Code} {Q:Exit → Act → World → Prop} {a:Act} {w:World} (h:c.wp P (Exit.then (fun a w=>LoopIn P c Q a w) Q) a w) : LoopIn P c Q a w := fun b k cs=>by
  obtain ⟨e,a₁,w₁,hq,harr⟩ := h b (.inLoop c :: k) cs
  cases e with
  | normal =>
    obtain ⟨e₂,a₂,w₂,hq₂,harr₂⟩ := hq b k cs
    exact ⟨e₂,a₂,w₂,hq₂,.of_steps (Steps.trans harr (.one step_inLoop)) harr₂⟩
  | exit id=>exact ⟨_,a₁,w₁,hq,.pass (x := .inLoop c) rfl (fun _ _=>.inl (by simp)) harr⟩
  | goto l=>exact ⟨_,a₁,w₁,hq,.pass (x := .inLoop c) rfl (fun _ _=>.inl (by simp)) harr⟩
  | ret=>exact ⟨_,a₁,w₁,hq,.pass (x := .inLoop c) rfl (fun _ _=>.inl (by simp)) harr⟩
  | panic ch=>exact ⟨_,a₁,w₁,hq,.pass (x := .inLoop c) rfl (fun _ _=>.inl (by simp)) harr⟩
  | outgrown=>exact ⟨_,a₁,w₁,hq,.pass (x := .inLoop c) rfl (fun _ _=>.inl (by simp)) harr⟩
/-- as AW, from behind the head of the loop over body -/
def AL (c:Ctx) (body:Code) (x:Exit) (st' st:St) : Prop :=
  ∀ e C a w,Rep c e C st a w → LoopIn c.P body (fun x' a' w'=>x' = x ∧ ∃ e' C',Rep c e' C' st' a' w') a w
theorem AL.loop {c:Ctx} {body:Code} {x:Exit} {st' st:St} (h:AL c body x st' st) : AW c (.loop body) x st' st := fun e C a w hR=>(h e C a w hR).loop
theorem AL.next {c:Ctx} {body:Code} {x:Exit} {st' st st1:St} (h:AW c body .normal st1 st) (k:AL c body x st' st1) : AL c body x st' st := fun e C a w hR =>
  LoopIn.step (Code.wp_mono (by
    rintro x' a' w' ⟨rfl,e',C',h'⟩
    exact k e' C' a' w' h') (h e C a w hR))
def alR:Exit → Bool
  | .normal=>false
  | _=>true
theorem AL.stop {c:Ctx} {body:Code} {x:Exit} {st' st:St} (h:AW c body x st' st) (hx:alR x = true) : AL c body x st' st := fun e C a w hR =>
  LoopIn.step (Code.wp_mono (by
    rintro x' a' w' ⟨rfl,e',C',h'⟩
    cases x' with
    | normal=>cases hx
    | exit id=>exact ⟨rfl,e',C',h'⟩
    | goto l=>exact ⟨rfl,e',C',h'⟩
    | ret=>exact ⟨rfl,e',C',h'⟩
    | panic ch=>exact ⟨rfl,e',C',h'⟩
    | outgrown=>exact ⟨rfl,e',C',h'⟩) (h e C a w hR))
/-- a call's surroundings -/
structure Sur (k0:Nat) where
  w0:World
  I0:Gh
  wr:Nat → Prop
  e0:Env
  hk:∀ b,e0.ok b → b < k0
def mkC (P:Program) (G:Gh → Prop) (tt:TT) (nt:Nat) {k0:Nat} (s:Sur k0) : Ctx := ⟨P,tt,s.w0,s.I0,G,s.wr,nt,s.e0,k0⟩
structure Base (P:Program) (G:Gh → Prop) (tt:TT) : Prop where
  tt:ttb P tt = true
  G:∀ I I',Le I I' → G I → G I'
  mixed:P.follows .mixedOrders = true
theorem Base.full {P:Program} {G:Gh → Prop} {tt:TT} (h:Base P G tt) (nt:Nat) {k0:Nat} (s:Sur k0) : (mkC P G tt nt s).Full := { tt := h.tt,G := h.G,k0 := s.hk,mixed := h.mixed }
/-- a part that is shown apart: for any surroundings -/
def AWa (P:Program) (G:Gh → Prop) (tt:TT) (nt k0:Nat) (code:Code) (x:Exit) (st' st:St) : Prop := ∀ s:Sur k0,AW (mkC P G tt nt s) code x st' st
def ahV (P:Program) (G:Gh → Prop) (tt:TT) (nt k0:Nat) (code:Code) (l:List Nat) (st' st:St) : Prop := match code with
  | .region _ ops _=>∀ s:Sur k0,AWo (mkC P G tt nt s) ops l st' st
  | _=>False
def ex (P:Program) (G:Gh → Prop) (tt:TT) (nt k0:Nat) (code:Code) (st:St) (qs:List Ans) : Option CR := exec (AWa P G tt nt k0) (ahV P G tt nt k0) P G tt nt k0 code st qs
theorem akr {P:Program} {G:Gh → Prop} {tt:TT} (hB:Base P G tt) {nt k0:Nat} (s:Sur k0) {code:Code} {st st':St} (qs:List Ans) {x:Exit} (p:List Prop) (h:ex P G tt nt k0 code st qs = some ⟨x,st',[],p⟩) (hp:dS p) : AW (mkC P G tt nt s) code x st' st :=
  oV (c := mkC P G tt nt s) (fun _ _ _ _ h=>h s) (fun _ _ _ _ _ _ h=>h s) (hB.full nt s) (r := ⟨x,st',[],p⟩) h hp
def Code.sub:Code → List Nat → Code
  | c,[]=>c
  | .seq x _,0 :: p=>Code.sub x p
  | .seq _ y,_ :: p=>Code.sub y p
  | .cond _ x _,0 :: p=>Code.sub x p
  | .cond _ _ y,_ :: p=>Code.sub y p
  | .block _ x,_ :: p=>Code.sub x p
  | .loop x,_ :: p=>Code.sub x p
  | .scope x,_ :: p=>Code.sub x p
  | c,_ :: _=>c
def bodyC (fn:Func) : Code := fn.body.getD .skip
def VB (tt:TT) (st:St) : List ResultVar → Option (List AV)
  | []=>some []
  | .tmp t :: r=>match lk st.T t with
    | some v=>match VB tt st r with
      | some l=>some (v.asT :: l)
      | none=>none
    | none=>none
  | .cell a t :: r=>match lk st.T a with
    | some (.ptr b p)=>match jM tt t with
      | some i=>match st.H[b]? with
        | some (.box _ cs)=>match Jp i cs p with
          | some v=>match VB tt st r with
            | some l=>some (v.asT :: l)
            | none=>none
          | none=>none
        | _=>none
      | none=>none
    | _=>none
def resV:List AV → AV
  | [x]=>x
  | l=>.tup l
def Zw (tmps:Array Value) : ResultVar → Sem Value
  | .tmp t=>pure (tmps.getD t undef)
  | .cell a t=>do loadVar t (← asAddr (tmps.getD a undef))
theorem VD (fn:Func) (tmps:Array Value) : results fn tmps = (do
  let vs ← fn.results.mapM (Zw tmps)
  pure (if h:vs.size = 1 then vs[0] else .tuple vs)) := by
  unfold results
  congr 1
theorem Nw {c:Ctx} (hc:c.Ok) {st:St} {e:Env} {C:Nat → List Value} {a:Act} {w:World} (hR:Rep c e C st a w) : ∀ {rs:List ResultVar} {l:List AV},VB c.tt st rs = some l →
    ∃ vs,(rs.mapM (Zw a.tmps)).run c.P w = .ok vs w ∧ VRs e l vs
  | [],l,h=>by
    simp only [VB] at h; injection h with h; subst h
    exact ⟨[],by simp,VRs.nil⟩
  | .tmp t :: r,l,h=>by
    simp only [VB] at h
    split at h
    · rename_i v hv
      split at h
      · rename_i q hq
        injection h with h; subst h
        obtain ⟨vs,h1,h2⟩ := Nw hc hR hq
        obtain ⟨u,k1,k2⟩ := hR.tmp t v hv
        refine ⟨u :: vs,?_,VRs.cons k2.asT h2⟩
        rw [List.mapM_cons]
        have hg:a.tmps.getD t undef = u := by rw [Array.getD_eq_getD_getElem?,k1]; rfl
        simp only [Zw,hg,Sem.run_bind,Sem.run_pure,Result.andThen_ok,h1]
      · cases h
    · cases h
  | .cell x t :: r,l,h=>by
    simp only [VB] at h
    split at h
    · rename_i b p hx
      split at h
      · rename_i i hi
        split at h
        · rename_i ty cs hb
          split at h
          · rename_i v hv
            split at h
            · rename_i q hq
              injection h with h; subst h
              obtain ⟨vs,h1,h2⟩ := Nw hc hR hq
              obtain ⟨u,k1,k2⟩ := hR.tmp x _ hx
              unfold VR at k2
              have hvb := hR.mem.hv b _ hb
              obtain ⟨z,m1,m2⟩ := Et hc.tt hi hv hvb.2 (e.m b) 0
              have hw2 := hR.mem.hw b _ hb
              have := m2 w (fun j v hj=>by rw [Nat.zero_add,bF hw2 j]; simpa using hj)
              rw [Nat.zero_add] at this
              have hld:(loadVar t ⟨e.m b,p,none⟩).run c.P w = .ok z w := by
                simpa [Instr.loadAt,Instr.sureAddr] using this
              refine ⟨z :: vs,?_,VRs.cons m1.asT h2⟩
              rw [List.mapM_cons]
              have hg:a.tmps.getD x undef = .pointer (some ⟨e.m b,p,none⟩) := by rw [Array.getD_eq_getD_getElem?,k1,k2.2]; rfl
              simp only [Zw,hg,asAddr,Sem.run_bind,Sem.run_pure,Result.andThen_ok,hld,h1]
            · cases h
          · cases h
        · cases h
      · cases h
    · cases h
def xW:Nat → List AV → List (Nat × AV)
  | _,[]=>[]
  | k,x :: r=>(k,x) :: xW (k + 1) r
theorem BJ {e:Env} : ∀ {l:List AV} {vs pre post:List Value},VRs e l vs → iY e (xW pre.length l) (pre ++ vs ++ post).toArray
  | [],vs,pre,post,h=>fun t v hv=>by cases hv
  | x :: r,vs,pre,post,h=>by
    unfold VRs at h
    obtain ⟨u,q,rfl,h1,h2⟩ := h
    have ih := BJ (pre := pre ++ [u]) (post := post) h2
    intro t v hv
    unfold xW lk at hv
    split at hv
    · rename_i hb
      injection hv with hv
      subst hv
      have := eu hb
      subst this
      exact ⟨u,by simp,h1⟩
    · rw [List.length_append] at ih
      obtain ⟨z,k1,k2⟩ := ih t v hv
      exact ⟨z,by simpa using k1,k2⟩
def apx:Exit → Bool
  | .normal=>true
  | .ret=>true
  | _=>false
/-- the results' own value -/
theorem Qn {P:Program} {fn:Func} {tmps:Array Value} {w:World} {rs:List Value} (k1:(fn.results.toList.mapM (Zw tmps)).run P w = .ok rs w) : (results fn tmps).run P w = .ok (if h:rs.toArray.size = 1 then rs.toArray[0] else .tuple rs.toArray) w := by
  rw [VD]
  have hfr:fn.results = fn.results.toList.toArray := by simp
  rw [hfr,List.mapM_toArray,map_eq_pure_bind]
  simp only [Sem.run_bind]
  rw [show Sem.run P (List.mapM (Zw tmps) fn.results.toList) w = .ok rs w from k1]
  simp only [Result.andThen_ok,Sem.run_pure]
theorem ac0 {e:Env} {l:List AV} {rs:List Value} (h:VRs e l rs) : VR e (resV l) (if h:rs.toArray.size = 1 then rs.toArray[0] else .tuple rs.toArray) := by
  have hlr := VRs.len _ _ h
  cases l with
  | nil =>
    have:rs = [] := List.eq_nil_of_length_eq_zero (by simpa using hlr)
    subst this
    exact VR.tup.2 ⟨[],rfl,VRs.nil⟩
  | cons y r =>
    cases r with
    | nil =>
      obtain ⟨u,rfl⟩ : ∃ u,rs = [u] := List.length_eq_one_iff.1 (by simpa using hlr)
      obtain ⟨z,h1,h2⟩ := VRs.at_ _ _ h 0 y rfl
      injection h1 with h1
      subst h1
      exact h2
    | cons y2 r =>
      have hne:rs.toArray.size ≠ 1 := by simp at hlr ⊢; omega
      rw [dif_neg hne]
      exact VR.tup.2 ⟨rs,rfl,h⟩
end Go.Proofs.YtflpefkohpjjpaaGreatDoor
set_option linter.unusedSimpArgs false
set_option linter.unusedVariables false
namespace Go.Proofs.YtflpefkohpjjpaaGreatDoor
open Go.RowKit
def mv1 (k0 b b':Nat) (st:St) : Option St := match Nat.ble k0 b' with
  | true=>mvR b b' st
  | false=>none
theorem alS {c:Ctx} (hc:c.Ok) {b b':Nat} {st st':St} (h:mv1 c.k0 b b' st = some st') {e:Env} {C:Nat → List Value} {a:Act} {w:World} (hR:Rep c e C st a w) : ∃ e' C',Rep c e' C' st' a w := by
  unfold mv1 at h
  split at h
  · rename_i hk
    have hk := Nat.le_of_ble_eq_true hk
    exact ⟨_,_,acX (fun x hx=>by have := hc.k0 x hx; omega) h hR⟩
  · cases h
def mvs (k0:Nat) : List (Nat × Nat) → St → Option St
  | [],st=>some st
  | (b,b') :: r,st=>match mv1 k0 b b' st with
    | some st1=>mvs k0 r st1
    | none=>none
theorem ac1 {c:Ctx} (hc:c.Ok) : ∀ {l:List (Nat × Nat)} {st st':St},mvs c.k0 l st = some st' → ∀ {e:Env} {C:Nat → List Value} {a:Act} {w:World},Rep c e C st a w → ∃ e' C',Rep c e' C' st' a w
  | [],st,st',h,e,C,a,w,hR=>by
    simp only [mvs] at h; injection h with h; subst h; exact ⟨e,C,hR⟩
  | (b,b') :: r,st,st',h,e,C,a,w,hR=>by
    simp only [mvs] at h
    split at h
    · rename_i st1 h1
      obtain ⟨e1,C1,k⟩ := alS hc h1 hR
      exact ac1 hc h k
    · cases h
/-- a state is made to fit another: ghosts, what is kept, rows moved, slots dropped -/
structure Fit where
  gs:List Ans
  keys:List Nat
  mv:List (Nat × Nat)
  k:Nat
def VE (k0:Nat) (f:Fit) (st:St) : Option (St × List Prop) := match gos st f.gs with
  | some ⟨st1,[],p,_,_⟩=>match VA k0 f.keys st1.H.length st1 with
    | some st2=>match mvs k0 f.mv st2 with
      | some st3=>match VA k0 f.keys f.k st3 with
        | some st4=>some (st4,p)
        | none=>none
      | none=>none
    | none=>none
  | _=>none
theorem yO {c:Ctx} (hc:c.Ok) {f:Fit} {st st':St} {p:List Prop} (h:VE c.k0 f st = some (st',p)) (hp:dS p) {e:Env} {C:Nat → List Value} {a:Act} {w:World} (hR:Rep c e C st a w) : ∃ e' C',Rep c e' C' st' a w := by
  unfold VE at h
  split at h
  · rename_i st1 p1 ch gr hg
    split at h
    · rename_i st2 h2
      split at h
      · rename_i st3 h3
        split at h
        · rename_i st4 h4
          injection h with h
          injection h with h1 h5
          subst h1 h5
          obtain ⟨e1,C1,k1,_⟩ := BG hc hg hp e C a w hR
          obtain ⟨e3,C3,k3⟩ := ac1 hc h3 (uP hc h2 k1)
          exact ⟨_,C3,uP hc h4 k3⟩
        · cases h
      · cases h
    · cases h
  · cases h
theorem AL.fix {c:Ctx} (hc:c.Ok) {body:Code} {x:Exit} {st' st st1:St} (f:Fit) {p:List Prop} (hs:VE c.k0 f st = some (st1,p)) (hp:dS p) (h:AL c body x st' st1) : AL c body x st' st := fun e C a w hR=>by
  obtain ⟨e',C',hR'⟩ := yO hc hs hp hR
  exact h e' C' a w hR'
theorem AW.fix {c:Ctx} (hc:c.Ok) {code:Code} {x:Exit} {st' st st1:St} (f:Fit) {p:List Prop} (hs:VE c.k0 f st = some (st1,p)) (hp:dS p) (h:AW c code x st' st1) : AW c code x st' st := fun e C a w hR=>by
  obtain ⟨e',C',hR'⟩ := yO hc hs hp hR
  exact h e' C' a w hR'
/-- a part: how it comes out, in a state made to fit, and on what terms -/
def exX (P:Program) (G:Gh → Prop) (tt:TT) (nt k0:Nat) (code:Code) (st:St) (qs:List Ans) (f:Fit) : Option (Exit × St × List Prop) :=
  match ex P G tt nt k0 code st qs with
  | some ⟨x,st1,[],p⟩=>match VE k0 f st1 with
    | some (st2,p2)=>some (x,st2,p ++ p2)
    | none=>none
  | _=>none
theorem VF {P:Program} {G:Gh → Prop} {tt:TT} (hB:Base P G tt) {nt k0:Nat} (s:Sur k0) {code:Code} {st st':St} (qs:List Ans) (f:Fit) {x:Exit} (p:List Prop) (h:exX P G tt nt k0 code st qs f = some (x,st',p)) (hp:dS p) : AW (mkC P G tt nt s) code x st' st := by
  unfold exX at h
  split at h
  · rename_i x1 st1 p1 he
    split at h
    · rename_i st2 p2 hs
      injection h with h
      injection h with h1 h2
      injection h2 with h2 h3
      subst h1 h2 h3
      obtain ⟨q1,q2⟩ := dS.app hp
      intro e C a w hR
      refine Code.wp_mono ?_ (akr hB s qs p1 he q1 e C a w hR)
      rintro x' a' w' ⟨rfl,e',C',h'⟩
      obtain ⟨e2,C2,k⟩ := yO (c := mkC P G tt nt s) (hB.full nt s).toOk hs q2 h'
      exact ⟨rfl,e2,C2,k⟩
    · cases h
  · cases h
/-- a piece of a region -/
def exO (P:Program) (G:Gh → Prop) (tt:TT) (nt k0:Nat) (code:Code) (l:List Nat) (st:St) (qs:List Ans) (f:Fit) : Option (St × List Prop) :=
  match code with
  | .region id ops _=>match Qh P G tt nt ops (2 * id + 2) l st qs with
    | some ⟨st1,[],p,_,_⟩=>match VE k0 f st1 with
      | some (st2,p2)=>some (st2,p ++ p2)
      | none=>none
    | _=>none
  | _=>none
theorem alT {P:Program} {G:Gh → Prop} {tt:TT} (hB:Base P G tt) {nt k0:Nat} {code:Code} {l:List Nat} {st st':St} (qs:List Ans) (f:Fit) (p:List Prop) (h:exO P G tt nt k0 code l st qs f = some (st',p)) (hp:dS p) : ahV P G tt nt k0 code l st' st := by
  unfold exO at h
  split at h
  · rename_i id ops dr
    intro s Q rest e C a w hR hQ
    split at h
    · rename_i st1 p1 ch gr hr
      split at h
      · rename_i st2 p2 hs
        injection h with h
        injection h with h1 h3
        subst h1 h3
        obtain ⟨q1,q2⟩ := dS.app hp
        refine yL (c := mkC P G tt nt s) (hB.full nt s).toOk hr q1 hR fun e' C' a' w' hR'=>?_
        obtain ⟨e2,C2,k⟩ := yO (c := mkC P G tt nt s) (hB.full nt s).toOk hs q2 hR'
        exact hQ e2 C2 a' w' k
      · cases h
    · cases h
  · cases h
/-! ### a whole run: the results, what memory it leaves, and on what terms -/
def XQ (T:List (Nat × AV)) : Nat → Nat → Option (List AV)
  | 0,_=>some []
  | n + 1,i=>match lk T i with
    | some v=>match XQ T n (i + 1) with
      | some l=>some (v :: l)
      | none=>none
    | none=>none
theorem Qo {e:Env} {T:List (Nat × AV)} : ∀ {n:Nat} {pre vs:List Value} {l:List AV},XQ T n pre.length = some l → vs.length = n → iY e T (pre ++ vs).toArray → VRs e l vs
  | 0,pre,vs,l,h,hn,_=>by
    injection h with h; subst h
    obtain rfl := List.eq_nil_of_length_eq_zero hn
    exact VRs.nil
  | n + 1,pre,vs,l,h,hn,hT=>by
    unfold XQ at h
    split at h
    · rename_i v hv
      split at h
      · rename_i q hq
        injection h with h; subst h
        cases vs with
        | nil=>simp at hn
        | cons u vs =>
          obtain ⟨u',h1,h2⟩ := hT _ _ hv
          have:u = u' := by simpa using h1
          subst this
          refine VRs.cons h2 (Qo (pre := pre ++ [u]) (by simpa using hq) (by simpa using hn) (by simpa using hT))
      · cases h
    · cases h
def exF (P:Program) (G:Gh → Prop) (tt:TT) (fn:Func) (args:List AV) (H0:List Slot) (qs:List Ans) (f:Fit) : Option (List AV × List Slot × List Prop) :=
  match ex P G tt fn.ntmps H0.length (bodyC fn) ⟨xW 0 args,H0⟩ qs with
  | some ⟨x,st,[],p⟩=>match apx x with
    | true=>match VB tt st fn.results.toList with
      | some l=>match VE H0.length f ⟨xW 0 l,st.H⟩ with
        | some (st2,p2)=>match XQ st2.T l.length 0 with
          | some l2=>some (l2,st2.H,p ++ p2)
          | none=>none
        | none=>none
      | none=>none
    | false=>none
  | _=>none
theorem Mem.nt {c:Ctx} {e:Env} {C:Nat → List Value} {H:List Slot} {w:World} (h:Mem c e C H w) (n:Nat) : Mem { c with nt := n } e C H w :=
  ⟨h.hv,h.hw,h.bound,h.inj,h.av,h.mine,h.inv,h.le,h.fresh,h.ch,h.g,h.bse⟩
theorem alU {P:Program} {G:Gh → Prop} {tt:TT} (hB:Base P G tt) {f:FuncId} {fn:Func} (hf:P.funcs[f]? = some fn) (hbd:fn.body.isSome = true) (hcall:oQ P f = true) {args:List AV} {H0:List Slot} (hnt:Nat.ble args.length fn.ntmps = true)
    {l:List AV} {H':List Slot} (qs:List Ans) (ft:Fit) (p:List Prop) (h1:exF P G tt fn args H0 qs ft = some (l,H',p)) (hp:dS p) : FnH P G f args H0 (resV l) H' := by
  refine ⟨hcall,fun e C w vs hG hM hvs=>?_⟩
  unfold exF at h1
  split at h1
  · rename_i x st p1 he
    split at h1
    · rename_i hx
      split at h1
      · rename_i l1 hl1
        split at h1
        · rename_i st2 p2 hs
          split at h1
          · rename_i l2 hl2
            injection h1 with h1
            injection h1 with h1 h2
            injection h2 with h2 h3
            subst h1 h2 h3
            obtain ⟨q1,q2⟩ := dS.app hp
            have hlen := VRs.len _ _ hvs
            have hble := Nat.le_of_ble_eq_true hnt
            obtain ⟨code,hcode⟩ := Option.isSome_iff_exists.1 hbd
            obtain ⟨s,hs0⟩ : ∃ s:Sur H0.length,s = ⟨w,e.I,blks e H0,e,hM.bound⟩ := ⟨_,rfl⟩
            have hok:(mkC P G tt fn.ntmps s).Ok := (hB.full fn.ntmps s).toOk
            have hR:Rep (mkC P G tt fn.ntmps s) e C ⟨xW 0 args,H0⟩ { tmps := vs.toArray ++ Array.replicate (fn.ntmps - vs.toArray.size) undef,defers := [] } w := by
              refine ⟨?_,?_,rfl,⟨hM.hv,hM.hw,hM.bound,hM.inj,hM.av,fun b t g k1 k2=>?_,hM.inv,?_,fun b o v k1 k2=>?_,?_,hG,?_⟩⟩
              · have := BJ (pre := []) (post := List.replicate (fn.ntmps - vs.length) undef) hvs
                have e1:vs.toArray ++ Array.replicate (fn.ntmps - vs.toArray.size) undef = ([] ++ vs ++ List.replicate (fn.ntmps - vs.length) undef).toArray := by
                  apply Array.toList_inj.1; simp
                rw [e1]; exact this
              · show (vs.toArray ++ Array.replicate _ undef).size = fn.ntmps
                simp; omega
              · subst hs0; exact .inr ⟨b,t,k1,k2⟩
              · subst hs0; exact Le.refl _
              · subst hs0
                have k2:e.I b o = none := k2
                rw [k2] at k1; cases k1
              · subst hs0; exact Only.refl _ _
              · subst hs0; exact fun b hb=>⟨hb,rfl,rfl⟩
            have hw := akr hB s qs p1 he q1 _ _ _ _ hR
            have hcd:bodyC fn = code := by unfold bodyC; rw [hcode]; rfl
            rw [hcd] at hw
            refine calls_of_wp hf hcode (Code.wp_mono ?_ hw)
            rintro x' a' w' ⟨rfl,e',C',hR'⟩
            obtain ⟨rs,k1,k2⟩ := Nw hok hR' hl1
            have hlr := VRs.len _ _ k2
            have hR2:Rep { mkC P G tt fn.ntmps s with nt := rs.length } e' C' ⟨xW 0 l1,st.H⟩ { tmps := rs.toArray,defers := [] } w' := by
              refine ⟨?_,?_,rfl,hR'.mem.nt rs.length⟩
              · have := BJ (pre := []) (post := []) k2
                simpa using this
              · show rs.toArray.size = rs.length
                simp
            obtain ⟨e2,C2,hR3⟩ := yO (c := { mkC P G tt fn.ntmps s with nt := rs.length }) ⟨hok.tt,hok.G,hok.k0⟩ hs q2 hR2
            have hv2:VRs e2 l2 rs := Qo (pre := []) (vs := rs) (n := l1.length) (by simpa using hl2) hlr (by simpa using hR3.tmp)
            have hM3 := hR3.mem
            have fin:a'.defers = [] ∧ ∃ v,(results fn a'.tmps).run P w' = .ok v w' ∧ ∃ e2' C2' v',Ending.returned v = .returned v' ∧ GrH e H0 e2' st2.H w w' ∧ Zm e2' C2' st2.H w' ∧ VR e2' (resV l2) v' := by
              refine ⟨hR'.defers,_,Qn k1,e2,C2,_,rfl,?_,⟨hM3.hv,hM3.hw,hM3.bound,hM3.inj,hM3.av,hM3.inv⟩,ac0 hv2⟩
              subst hs0
              exact ⟨⟨fun b hb=>(hM3.bse b hb).1,fun b hb=>(hM3.bse b hb).2.1,fun b hb=>(hM3.bse b hb).2.2,hM3.le⟩,hM3.ch,hM3.fresh,fun g ⟨b,t,m1,m2⟩=>hM3.mine b t g m1 m2⟩
            cases x' <;> first | exact fin | cases hx
          · cases h1
        · cases h1
      · cases h1
    · cases h1
  · cases h1
/-- a call that is handed data alone, and leaves data alone -/
theorem Fn.apy {P:Program} {G:Gh → Prop} {f:FuncId} {args:List AV} {res:AV} (h:FnH P G f args [] res []) : Fn P G f args res := by
  refine ⟨h.1,fun I w vs hG hi hvs=>(h.2 (Ea I) (fun _=>[]) w vs hG ⟨fun b s hs=>by simp at hs,fun b s hs=>by simp at hs,fun b hb=>False.elim hb,fun b b' s s' g h1=>by simp at h1,fun b s g h1=>by simp at h1,hi⟩ hvs).mono ?_⟩
  rintro en w' ⟨e',C',v,rfl,g,hM,hv⟩
  have nb:∀ g,¬ blks (Ea I) [] g := fun g ⟨b,s,h1,_⟩=>by simp at h1
  have hle:e'.le (Ea e'.I) := ⟨fun b hb=>by have := hM.bound b hb; simp at this,fun b hb=>by have := hM.bound b hb; simp at this,fun b hb=>by have := hM.bound b hb; simp at this,Le.refl _⟩
  refine ⟨e'.I,v,rfl,⟨g.le.I,fun b o v h1 h2=>?_,hM.inv,⟨g.only.os,g.only.tape,g.only.output,g.only.size,fun i hi=>g.only.block i hi (nb i)⟩⟩,VR.mono hle _ _ hv⟩
  rcases g.fresh b o v h1 h2 with h3 | h3
  · exact h3
  · exact absurd h3 (nb b)
end Go.Proofs.YtflpefkohpjjpaaGreatDoor
set_option linter.unusedSimpArgs false
set_option linter.unusedVariables false
namespace Go.Proofs.YtflpefkohpjjpaaGreatDoor
open Go.RowKit
def lfI (x:Int) : List Lf := [.int .i64 x]
def lfK (k:IntKind) (x:Int) : List Lf := [.int k x]
def lfS (x:ByteArray) : List Lf := [.str x]
def lfB (x:Bool) : List Lf := [.bool x]
mutual
inductive aB where
  | mk (fName:ByteArray) (fValue:aj)
inductive aj where
  | mk (aF:Int) (eU:Int) (fText:ByteArray) (aU:List aj) (aX:List aB)
end
def aB.fName:aB → ByteArray | .mk x _=>x
def aB.fValue:aB → aj | .mk _ x=>x
def aj.aF:aj → Int | .mk x _ _ _ _=>x
def aj.eU:aj → Int | .mk _ x _ _ _=>x
def aj.fText:aj → ByteArray | .mk _ _ x _ _=>x
def aj.aU:aj → List aj | .mk _ _ _ x _=>x
def aj.aX:aj → List aB | .mk _ _ _ _ x=>x
mutual
def aB.lf:aB → List Lf
  | .mk x0 x1=>[.str x0] ++ (aj.lf x1)
def aj.lf:aj → List Lf
  | .mk x0 x1 x2 x3 x4=>[.int .i64 x0,.int .i64 x1,.str x2,.rows 5 (aj.lfs x3),.rows 6 (aB.lfs x4)]
def aj.lfs:List aj → List (List Lf)
  | []=>[]
  | x :: r=>aj.lf x :: aj.lfs r
def aB.lfs:List aB → List (List Lf)
  | []=>[]
  | x :: r=>aB.lf x :: aB.lfs r
end
theorem aj.iM:∀ l:List aj,aj.lfs l = l.map aj.lf
  | []=>by simp [aj.lfs]
  | x :: r=>by simp [aj.lfs,aj.iM r]
theorem aB.iM:∀ l:List aB,aB.lfs l = l.map aB.lf
  | []=>by simp [aB.lfs]
  | x :: r=>by simp [aB.lfs,aB.iM r]
def aj.lf1 (x:aj) : List Lf := [.int .i64 x.aF,.int .i64 x.eU,.str x.fText,.rows 5 (x.aU.map aj.lf),.rows 6 (x.aX.map aB.lf)]
theorem aj.bD (x:aj) : x.lf = x.lf1 := by
  cases x
  simp only [aj.lf,aj.lf1,aj.aF,aj.eU,aj.fText,aj.aU,aj.aX,aj.iM,aB.iM]
def aB.lf1 (x:aB) : List Lf := [.str x.fName] ++ (aj.lf1 x.fValue)
theorem aB.bD (x:aB) : x.lf = x.lf1 := by
  cases x
  simp only [aB.lf,aB.lf1,aB.fName,aB.fValue,aj.iM,aB.iM,aj.bD]
structure aV where
  dh:List ByteArray
  yP:Bool
def aV.lf1 (x:aV) : List Lf := [.rows 1 (x.dh.map lfS),.bool x.yP]
abbrev aV.lf (x:aV) : List Lf := x.lf1
theorem aV.bD (x:aV) : x.lf = x.lf1 := rfl
structure bG where
  fX:Int
  fY:Int
def bG.lf1 (x:bG) : List Lf := [.int .i64 x.fX,.int .i64 x.fY]
abbrev bG.lf (x:bG) : List Lf := x.lf1
theorem bG.bD (x:bG) : x.lf = x.lf1 := rfl
structure fA where
  aF:Int
  dB:List bG
  fR:Int
def fA.lf1 (x:fA) : List Lf := [.int .i64 x.aF,.rows 2 (x.dB.map bG.lf),.int .i64 x.fR]
abbrev fA.lf (x:fA) : List Lf := x.lf1
theorem fA.bD (x:fA) : x.lf = x.lf1 := rfl
inductive aG where
  | mk (fOp:Int) (dh:List ByteArray) (fName:ByteArray) (fB:List ByteArray) (fArg:aj) (fN:Int) (bW:List aG)
def aG.fOp:aG → Int | .mk x _ _ _ _ _ _=>x
def aG.dh:aG → List ByteArray | .mk _ x _ _ _ _ _=>x
def aG.fName:aG → ByteArray | .mk _ _ x _ _ _ _=>x
def aG.fB:aG → List ByteArray | .mk _ _ _ x _ _ _=>x
def aG.fArg:aG → aj | .mk _ _ _ _ x _ _=>x
def aG.fN:aG → Int | .mk _ _ _ _ _ x _=>x
def aG.bW:aG → List aG | .mk _ _ _ _ _ _ x=>x
mutual
def aG.lf:aG → List Lf
  | .mk x0 x1 x2 x3 x4 x5 x6=>[.int .i64 x0,.rows 1 (x1.map lfS),.str x2,.rows 1 (x3.map lfS)] ++ (aj.lf1 x4 ++ ([.int .i64 x5,.rows 11 (aG.lfs x6)]))
def aG.lfs:List aG → List (List Lf)
  | []=>[]
  | x :: r=>aG.lf x :: aG.lfs r
end
theorem aG.iM:∀ l:List aG,aG.lfs l = l.map aG.lf
  | []=>by simp [aG.lfs]
  | x :: r=>by simp [aG.lfs,aG.iM r]
def aG.lf1 (x:aG) : List Lf := [.int .i64 x.fOp,.rows 1 (x.dh.map lfS),.str x.fName,.rows 1 (x.fB.map lfS)] ++ (aj.lf1 x.fArg ++ ([.int .i64 x.fN,.rows 11 (x.bW.map aG.lf)]))
theorem aG.bD (x:aG) : x.lf = x.lf1 := by
  cases x
  simp only [aG.lf,aG.lf1,aG.fOp,aG.dh,aG.fName,aG.fB,aG.fArg,aG.fN,aG.bW,aG.iM]
inductive aC where
  | mk (fOp:Int) (dh:List ByteArray) (fArg:aj) (fArgs:List aj) (fN:Int) (fM:Int) (dH:fA) (fExpr:aG) (bW:List aC)
def aC.fOp:aC → Int | .mk x _ _ _ _ _ _ _ _=>x
def aC.dh:aC → List ByteArray | .mk _ x _ _ _ _ _ _ _=>x
def aC.fArg:aC → aj | .mk _ _ x _ _ _ _ _ _=>x
def aC.fArgs:aC → List aj | .mk _ _ _ x _ _ _ _ _=>x
def aC.fN:aC → Int | .mk _ _ _ _ x _ _ _ _=>x
def aC.fM:aC → Int | .mk _ _ _ _ _ x _ _ _=>x
def aC.dH:aC → fA | .mk _ _ _ _ _ _ x _ _=>x
def aC.fExpr:aC → aG | .mk _ _ _ _ _ _ _ x _=>x
def aC.bW:aC → List aC | .mk _ _ _ _ _ _ _ _ x=>x
mutual
def aC.lf:aC → List Lf
  | .mk x0 x1 x2 x3 x4 x5 x6 x7 x8=>[.int .i64 x0,.rows 1 (x1.map lfS)] ++ (aj.lf1 x2 ++ ([.rows 5 (x3.map aj.lf),.int .i64 x4,.int .i64 x5] ++ (fA.lf1 x6 ++ (aG.lf1 x7 ++ ([.rows 25 (aC.lfs x8)])))))
def aC.lfs:List aC → List (List Lf)
  | []=>[]
  | x :: r=>aC.lf x :: aC.lfs r
end
theorem aC.iM:∀ l:List aC,aC.lfs l = l.map aC.lf
  | []=>by simp [aC.lfs]
  | x :: r=>by simp [aC.lfs,aC.iM r]
def aC.lf1 (x:aC) : List Lf := [.int .i64 x.fOp,.rows 1 (x.dh.map lfS)] ++ (aj.lf1 x.fArg ++ ([.rows 5 (x.fArgs.map aj.lf),.int .i64 x.fN,.int .i64 x.fM] ++ (fA.lf1 x.dH ++ (aG.lf1 x.fExpr ++ ([.rows 25 (x.bW.map aC.lf)])))))
theorem aC.bD (x:aC) : x.lf = x.lf1 := by
  cases x
  simp only [aC.lf,aC.lf1,aC.fOp,aC.dh,aC.fArg,aC.fArgs,aC.fN,aC.fM,aC.dH,aC.fExpr,aC.bW,aC.iM]
structure aK where
  fName:ByteArray
  aF:Int
  gG:List aV
  eP:Bool
  jm:Bool
  iq:Bool
  bn:aC
def aK.lf1 (x:aK) : List Lf := [.str x.fName,.int .i64 x.aF,.rows 2 (x.gG.map aV.lf),.bool x.eP,.bool x.jm,.bool x.iq] ++ (aC.lf1 x.bn)
abbrev aK.lf (x:aK) : List Lf := x.lf1
theorem aK.bD (x:aK) : x.lf = x.lf1 := rfl
mutual
inductive bC where
  | mk (fName:ByteArray) (aW:aA)
inductive aA where
  | mk (jw:Int) (iR:Bool) (jO:aj) (iT:Bool) (jP:aj) (jl:List aj) (iU:Int) (iV:Int) (dN:List ByteArray) (dX:List bC) (jo:Bool) (fC:List aA) (eP:Bool)
end
def bC.fName:bC → ByteArray | .mk x _=>x
def bC.aW:bC → aA | .mk _ x=>x
def aA.jw:aA → Int | .mk x _ _ _ _ _ _ _ _ _ _ _ _=>x
def aA.iR:aA → Bool | .mk _ x _ _ _ _ _ _ _ _ _ _ _=>x
def aA.jO:aA → aj | .mk _ _ x _ _ _ _ _ _ _ _ _ _=>x
def aA.iT:aA → Bool | .mk _ _ _ x _ _ _ _ _ _ _ _ _=>x
def aA.jP:aA → aj | .mk _ _ _ _ x _ _ _ _ _ _ _ _=>x
def aA.jl:aA → List aj | .mk _ _ _ _ _ x _ _ _ _ _ _ _=>x
def aA.iU:aA → Int | .mk _ _ _ _ _ _ x _ _ _ _ _ _=>x
def aA.iV:aA → Int | .mk _ _ _ _ _ _ _ x _ _ _ _ _=>x
def aA.dN:aA → List ByteArray | .mk _ _ _ _ _ _ _ _ x _ _ _ _=>x
def aA.dX:aA → List bC | .mk _ _ _ _ _ _ _ _ _ x _ _ _=>x
def aA.jo:aA → Bool | .mk _ _ _ _ _ _ _ _ _ _ x _ _=>x
def aA.fC:aA → List aA | .mk _ _ _ _ _ _ _ _ _ _ _ x _=>x
def aA.eP:aA → Bool | .mk _ _ _ _ _ _ _ _ _ _ _ _ x=>x
mutual
def bC.lf:bC → List Lf
  | .mk x0 x1=>[.str x0] ++ (aA.lf x1)
def aA.lf:aA → List Lf
  | .mk x0 x1 x2 x3 x4 x5 x6 x7 x8 x9 x10 x11 x12=>[.int .i64 x0,.bool x1] ++ (aj.lf1 x2 ++ ([.bool x3] ++ (aj.lf1 x4 ++ ([.rows 5 (x5.map aj.lf),.int .i64 x6,.int .i64 x7,.rows 1 (x8.map lfS),.rows 22 (bC.lfs x9),.bool x10,.rows 21 (aA.lfs x11),.bool x12]))))
def bC.lfs:List bC → List (List Lf)
  | []=>[]
  | x :: r=>bC.lf x :: bC.lfs r
def aA.lfs:List aA → List (List Lf)
  | []=>[]
  | x :: r=>aA.lf x :: aA.lfs r
end
theorem bC.iM:∀ l:List bC,bC.lfs l = l.map bC.lf
  | []=>by simp [bC.lfs]
  | x :: r=>by simp [bC.lfs,bC.iM r]
theorem aA.iM:∀ l:List aA,aA.lfs l = l.map aA.lf
  | []=>by simp [aA.lfs]
  | x :: r=>by simp [aA.lfs,aA.iM r]
def aA.lf1 (x:aA) : List Lf := [.int .i64 x.jw,.bool x.iR] ++ (aj.lf1 x.jO ++ ([.bool x.iT] ++ (aj.lf1 x.jP ++ ([.rows 5 (x.jl.map aj.lf),.int .i64 x.iU,.int .i64 x.iV,.rows 1 (x.dN.map lfS),.rows 22 (x.dX.map bC.lf),.bool x.jo,.rows 21 (x.fC.map aA.lf),.bool x.eP]))))
theorem aA.bD (x:aA) : x.lf = x.lf1 := by
  cases x
  simp only [aA.lf,aA.lf1,aA.jw,aA.iR,aA.jO,aA.iT,aA.jP,aA.jl,aA.iU,aA.iV,aA.dN,aA.dX,aA.jo,aA.fC,aA.eP,bC.iM,aA.iM]
def bC.lf1 (x:bC) : List Lf := [.str x.fName] ++ (aA.lf1 x.aW)
theorem bC.bD (x:bC) : x.lf = x.lf1 := by
  cases x
  simp only [bC.lf,bC.lf1,bC.fName,bC.aW,bC.iM,aA.iM,aA.bD]
structure bV where
  fName:ByteArray
  cu:List aK
  aW:aA
  kX:Int
  iW:Int
def bV.lf1 (x:bV) : List Lf := [.str x.fName,.rows 31 (x.cu.map aK.lf)] ++ (aA.lf1 x.aW ++ ([.int .i64 x.kX,.int .i64 x.iW]))
abbrev bV.lf (x:bV) : List Lf := x.lf1
theorem bV.bD (x:bV) : x.lf = x.lf1 := rfl
inductive ak where
  | mk (aF:Int) (fQ:ByteArray) (iy:aj) (aX:aj) (dJ:aj) (dD:bV) (aT:aK) (lQ:ByteArray) (eG:Int) (dG:List ak) (dO:List Int) (gq:Bool)
def ak.aF:ak → Int | .mk x _ _ _ _ _ _ _ _ _ _ _=>x
def ak.fQ:ak → ByteArray | .mk _ x _ _ _ _ _ _ _ _ _ _=>x
def ak.iy:ak → aj | .mk _ _ x _ _ _ _ _ _ _ _ _=>x
def ak.aX:ak → aj | .mk _ _ _ x _ _ _ _ _ _ _ _=>x
def ak.dJ:ak → aj | .mk _ _ _ _ x _ _ _ _ _ _ _=>x
def ak.dD:ak → bV | .mk _ _ _ _ _ x _ _ _ _ _ _=>x
def ak.aT:ak → aK | .mk _ _ _ _ _ _ x _ _ _ _ _=>x
def ak.lQ:ak → ByteArray | .mk _ _ _ _ _ _ _ x _ _ _ _=>x
def ak.eG:ak → Int | .mk _ _ _ _ _ _ _ _ x _ _ _=>x
def ak.dG:ak → List ak | .mk _ _ _ _ _ _ _ _ _ x _ _=>x
def ak.dO:ak → List Int | .mk _ _ _ _ _ _ _ _ _ _ x _=>x
def ak.gq:ak → Bool | .mk _ _ _ _ _ _ _ _ _ _ _ x=>x
mutual
def ak.lf:ak → List Lf
  | .mk x0 x1 x2 x3 x4 x5 x6 x7 x8 x9 x10 x11=>[.int .i64 x0,.str x1] ++ (aj.lf1 x2 ++ (aj.lf1 x3 ++ (aj.lf1 x4 ++ (bV.lf1 x5 ++ (aK.lf1 x6 ++ ([.str x7,.int .i64 x8,.rows 78 (ak.lfs x9),.rows 1 (x10.map lfI),.bool x11]))))))
def ak.lfs:List ak → List (List Lf)
  | []=>[]
  | x :: r=>ak.lf x :: ak.lfs r
end
theorem ak.iM:∀ l:List ak,ak.lfs l = l.map ak.lf
  | []=>by simp [ak.lfs]
  | x :: r=>by simp [ak.lfs,ak.iM r]
def ak.lf1 (x:ak) : List Lf := [.int .i64 x.aF,.str x.fQ] ++ (aj.lf1 x.iy ++ (aj.lf1 x.aX ++ (aj.lf1 x.dJ ++ (bV.lf1 x.dD ++ (aK.lf1 x.aT ++ ([.str x.lQ,.int .i64 x.eG,.rows 78 (x.dG.map ak.lf),.rows 1 (x.dO.map lfI),.bool x.gq]))))))
theorem ak.bD (x:ak) : x.lf = x.lf1 := by
  cases x
  simp only [ak.lf,ak.lf1,ak.aF,ak.fQ,ak.iy,ak.aX,ak.dJ,ak.dD,ak.aT,ak.lQ,ak.eG,ak.dG,ak.dO,ak.gq,ak.iM]
structure bM where
  pY:Int
  eG:Int
  kC:ByteArray
  nX:Int
  kD:ak
def bM.lf1 (x:bM) : List Lf := [.int .i64 x.pY,.int .i64 x.eG,.str x.kC,.int .i64 x.nX] ++ (ak.lf1 x.kD)
abbrev bM.lf (x:bM) : List Lf := x.lf1
theorem bM.bD (x:bM) : x.lf = x.lf1 := rfl
structure aH where
  mF:Bool
  yQ:Bool
  Eb:Bool
  Ec:Bool
  nN:Bool
  gW:Bool
  BK:Bool
  mG:Bool
  kS:Bool
  kT:Bool
def aH.lf1 (x:aH) : List Lf := [.bool x.mF,.bool x.yQ,.bool x.Eb,.bool x.Ec,.bool x.nN,.bool x.gW,.bool x.BK,.bool x.mG,.bool x.kS,.bool x.kT]
abbrev aH.lf (x:aH) : List Lf := x.lf1
theorem aH.bD (x:aH) : x.lf = x.lf1 := rfl
structure au where
  aS:List Int
  bH:Bool
def au.lf1 (x:au) : List Lf := [.rows 1 (x.aS.map (lfK .u8)),.bool x.bH]
abbrev au.lf (x:au) : List Lf := x.lf1
theorem au.bD (x:au) : x.lf = x.lf1 := rfl
structure ah where
  dP:ByteArray
  fat:Int
  aY:Int
  bH:Bool
def ah.lf1 (x:ah) : List Lf := [.str x.dP,.int .i64 x.fat,.int .i64 x.aY,.bool x.bH]
abbrev ah.lf (x:ah) : List Lf := x.lf1
theorem ah.bD (x:ah) : x.lf = x.lf1 := rfl
structure jh where
  fs:ByteArray
  fat:Int
  alV:Int
  alW:Int
def jh.lf1 (x:jh) : List Lf := [.str x.fs,.int .i64 x.fat,.int .i64 x.alV,.int .i64 x.alW]
abbrev jh.lf (x:jh) : List Lf := x.lf1
theorem jh.bD (x:jh) : x.lf = x.lf1 := rfl
structure ay where
  fS:ByteArray
  I9:Bool
  Ed:Bool
def ay.lf1 (x:ay) : List Lf := [.str x.fS,.bool x.I9,.bool x.Ed]
abbrev ay.lf (x:ay) : List Lf := x.lf1
theorem ay.bD (x:ay) : x.lf = x.lf1 := rfl
structure ni where
  fS:ByteArray
  fAt:Int
  I9:Bool
def ni.lf1 (x:ni) : List Lf := [.str x.fS,.int .i64 x.fAt,.bool x.I9]
abbrev ni.lf (x:ni) : List Lf := x.lf1
theorem ni.bD (x:ni) : x.lf = x.lf1 := rfl
def aj.z:aj := .mk 0 0 ⟨#[]⟩ [] []
def aB.z:aB := .mk ⟨#[]⟩ aj.z
def aV.z:aV := .mk [] false
def bG.z:bG := .mk 0 0
def fA.z:fA := .mk 0 [] 0
def aG.z:aG := .mk 0 [] ⟨#[]⟩ [] aj.z 0 []
def aG.sOp (x:aG) (v:Int) : aG := .mk v x.dh x.fName x.fB x.fArg x.fN x.bW
def aG.aob (x:aG) (v:List ByteArray) : aG := .mk x.fOp v x.fName x.fB x.fArg x.fN x.bW
def aG.aks (x:aG) (v:ByteArray) : aG := .mk x.fOp x.dh v x.fB x.fArg x.fN x.bW
def aG.sArg (x:aG) (v:aj) : aG := .mk x.fOp x.dh x.fName x.fB v x.fN x.bW
def aG.sN (x:aG) (v:Int) : aG := .mk x.fOp x.dh x.fName x.fB x.fArg v x.bW
def aG.aoc (x:aG) (v:List aG) : aG := .mk x.fOp x.dh x.fName x.fB x.fArg x.fN v
def aC.z:aC := .mk 0 [] aj.z [] 0 0 fA.z aG.z []
def aC.sOp (x:aC) (v:Int) : aC := .mk v x.dh x.fArg x.fArgs x.fN x.fM x.dH x.fExpr x.bW
def aC.aob (x:aC) (v:List ByteArray) : aC := .mk x.fOp v x.fArg x.fArgs x.fN x.fM x.dH x.fExpr x.bW
def aC.sArg (x:aC) (v:aj) : aC := .mk x.fOp x.dh v x.fArgs x.fN x.fM x.dH x.fExpr x.bW
def aC.sN (x:aC) (v:Int) : aC := .mk x.fOp x.dh x.fArg x.fArgs v x.fM x.dH x.fExpr x.bW
def aC.aoc (x:aC) (v:List aC) : aC := .mk x.fOp x.dh x.fArg x.fArgs x.fN x.fM x.dH x.fExpr v
def aK.z:aK := .mk ⟨#[]⟩ 0 [] false false false aC.z
def aK.aks (x:aK) (v:ByteArray) : aK := .mk v x.aF x.gG x.eP x.jm x.iq x.bn
def aK.Jw (x:aK) (v:Int) : aK := .mk x.fName v x.gG x.eP x.jm x.iq x.bn
def aK.aod (x:aK) (v:List aV) : aK := .mk x.fName x.aF v x.eP x.jm x.iq x.bn
def aK.ahW (x:aK) (v:Bool) : aK := .mk x.fName x.aF x.gG v x.jm x.iq x.bn
def aK.alX (x:aK) (v:aC) : aK := .mk x.fName x.aF x.gG x.eP x.jm x.iq v
def aA.z:aA := .mk 0 false aj.z false aj.z [] 0 0 [] [] false [] false
def aA.ahW (x:aA) (v:Bool) : aA := .mk x.jw x.iR x.jO x.iT x.jP x.jl x.iU x.iV x.dN x.dX x.jo x.fC v
def bC.z:bC := .mk ⟨#[]⟩ aA.z
def bV.z:bV := .mk ⟨#[]⟩ [] aA.z 0 0
def ak.z:ak := .mk 0 ⟨#[]⟩ aj.z aj.z aj.z bV.z aK.z ⟨#[]⟩ 0 [] [] false
def ak.Jw (x:ak) (v:Int) : ak := .mk v x.fQ x.iy x.aX x.dJ x.dD x.aT x.lQ x.eG x.dG x.dO x.gq
def ak.ac2 (x:ak) (v:ByteArray) : ak := .mk x.aF v x.iy x.aX x.dJ x.dD x.aT x.lQ x.eG x.dG x.dO x.gq
def ak.aoe (x:ak) (v:aj) : ak := .mk x.aF x.fQ v x.aX x.dJ x.dD x.aT x.lQ x.eG x.dG x.dO x.gq
def ak.aof (x:ak) (v:aj) : ak := .mk x.aF x.fQ x.iy v x.dJ x.dD x.aT x.lQ x.eG x.dG x.dO x.gq
def ak.ahX (x:ak) (v:aj) : ak := .mk x.aF x.fQ x.iy x.aX v x.dD x.aT x.lQ x.eG x.dG x.dO x.gq
def ak.apz (x:ak) (v:bV) : ak := .mk x.aF x.fQ x.iy x.aX x.dJ v x.aT x.lQ x.eG x.dG x.dO x.gq
def ak.ac3 (x:ak) (v:aK) : ak := .mk x.aF x.fQ x.iy x.aX x.dJ x.dD v x.lQ x.eG x.dG x.dO x.gq
def ak.apA (x:ak) (v:ByteArray) : ak := .mk x.aF x.fQ x.iy x.aX x.dJ x.dD x.aT v x.eG x.dG x.dO x.gq
def ak.alY (x:ak) (v:Int) : ak := .mk x.aF x.fQ x.iy x.aX x.dJ x.dD x.aT x.lQ v x.dG x.dO x.gq
def ak.ahY (x:ak) (v:List ak) : ak := .mk x.aF x.fQ x.iy x.aX x.dJ x.dD x.aT x.lQ x.eG v x.dO x.gq
def ak.ahZ (x:ak) (v:List Int) : ak := .mk x.aF x.fQ x.iy x.aX x.dJ x.dD x.aT x.lQ x.eG x.dG v x.gq
def ak.ah0 (x:ak) (v:Bool) : ak := .mk x.aF x.fQ x.iy x.aX x.dJ x.dD x.aT x.lQ x.eG x.dG x.dO v
def bM.z:bM := .mk 0 0 ⟨#[]⟩ 0 ak.z
def aH.z:aH := .mk false false false false false false false false false false
def aH.Fe (x:aH) (v:Bool) : aH := .mk v x.yQ x.Eb x.Ec x.nN x.gW x.BK x.mG x.kS x.kT
def aH.aog (x:aH) (v:Bool) : aH := .mk x.mF v x.Eb x.Ec x.nN x.gW x.BK x.mG x.kS x.kT
def aH.apB (x:aH) (v:Bool) : aH := .mk x.mF x.yQ v x.Ec x.nN x.gW x.BK x.mG x.kS x.kT
def aH.apC (x:aH) (v:Bool) : aH := .mk x.mF x.yQ x.Eb v x.nN x.gW x.BK x.mG x.kS x.kT
def aH.alZ (x:aH) (v:Bool) : aH := .mk x.mF x.yQ x.Eb x.Ec v x.gW x.BK x.mG x.kS x.kT
def aH.VG (x:aH) (v:Bool) : aH := .mk x.mF x.yQ x.Eb x.Ec x.nN v x.BK x.mG x.kS x.kT
def aH.ah1 (x:aH) (v:Bool) : aH := .mk x.mF x.yQ x.Eb x.Ec x.nN x.gW v x.mG x.kS x.kT
def aH.ac4 (x:aH) (v:Bool) : aH := .mk x.mF x.yQ x.Eb x.Ec x.nN x.gW x.BK v x.kS x.kT
def aH.XR (x:aH) (v:Bool) : aH := .mk x.mF x.yQ x.Eb x.Ec x.nN x.gW x.BK x.mG v x.kT
def aH.ah2 (x:aH) (v:Bool) : aH := .mk x.mF x.yQ x.Eb x.Ec x.nN x.gW x.BK x.mG x.kS v
def au.z:au := .mk [] false
def ah.z:ah := .mk ⟨#[]⟩ 0 0 false
def jh.z:jh := .mk ⟨#[]⟩ 0 0 0
def ay.z:ay := .mk ⟨#[]⟩ false false
def ni.z:ni := .mk ⟨#[]⟩ 0 false
def Z25:AV := .agg [.lf (.int .i64 0),.lf (.int .i64 0),.lf (.str ⟨#[]⟩),.bU 5,.bU 6]
def Z31:AV := .agg [.lf (.int .i64 0),.lf (.bool false),.lf (.int .i64 0),.lf (.int .i64 0),.lf (.str ⟨#[]⟩),.bU 5,.bU 6,.lf (.bool false),.lf (.int .i64 0),.lf (.int .i64 0),.lf (.str ⟨#[]⟩),.bU 5,.bU 6,.bU 5,.lf (.int .i64 0),.lf (.int .i64 0),.bU 1,.bU 22,.lf (.bool false),.bU 21,.lf (.bool false)]
def Z33:AV := .agg [.lf (.str ⟨#[]⟩),.bU 31,.lf (.int .i64 0),.lf (.bool false),.lf (.int .i64 0),.lf (.int .i64 0),.lf (.str ⟨#[]⟩),.bU 5,.bU 6,.lf (.bool false),.lf (.int .i64 0),.lf (.int .i64 0),.lf (.str ⟨#[]⟩),.bU 5,.bU 6,.bU 5,.lf (.int .i64 0),.lf (.int .i64 0),.bU 1,.bU 22,.lf (.bool false),.bU 21,.lf (.bool false),.lf (.int .i64 0),.lf (.int .i64 0)]
def Z37:AV := .agg [.lf (.int .i64 0),.bU 2,.lf (.int .i64 0)]
def Z40:AV := .agg [.lf (.int .i64 0),.bU 1,.lf (.str ⟨#[]⟩),.bU 1,.lf (.int .i64 0),.lf (.int .i64 0),.lf (.str ⟨#[]⟩),.bU 5,.bU 6,.lf (.int .i64 0),.bU 11]
def Z43:AV := .agg [.lf (.int .i64 0),.bU 1,.lf (.int .i64 0),.lf (.int .i64 0),.lf (.str ⟨#[]⟩),.bU 5,.bU 6,.bU 5,.lf (.int .i64 0),.lf (.int .i64 0),.lf (.int .i64 0),.bU 2,.lf (.int .i64 0),.lf (.int .i64 0),.bU 1,.lf (.str ⟨#[]⟩),.bU 1,.lf (.int .i64 0),.lf (.int .i64 0),.lf (.str ⟨#[]⟩),.bU 5,.bU 6,.lf (.int .i64 0),.bU 11,.bU 25]
def Z45:AV := .agg [.lf (.str ⟨#[]⟩),.lf (.int .i64 0),.bU 2,.lf (.bool false),.lf (.bool false),.lf (.bool false),.lf (.int .i64 0),.bU 1,.lf (.int .i64 0),.lf (.int .i64 0),.lf (.str ⟨#[]⟩),.bU 5,.bU 6,.bU 5,.lf (.int .i64 0),.lf (.int .i64 0),.lf (.int .i64 0),.bU 2,.lf (.int .i64 0),.lf (.int .i64 0),.bU 1,.lf (.str ⟨#[]⟩),.bU 1,.lf (.int .i64 0),.lf (.int .i64 0),.lf (.str ⟨#[]⟩),.bU 5,.bU 6,.lf (.int .i64 0),.bU 11,.bU 25]
def Z49:AV := .agg [.lf (.int .i64 0),.lf (.str ⟨#[]⟩),.lf (.int .i64 0),.lf (.int .i64 0),.lf (.str ⟨#[]⟩),.bU 5,.bU 6,.lf (.int .i64 0),.lf (.int .i64 0),.lf (.str ⟨#[]⟩),.bU 5,.bU 6,.lf (.int .i64 0),.lf (.int .i64 0),.lf (.str ⟨#[]⟩),.bU 5,.bU 6,.lf (.str ⟨#[]⟩),.bU 31,.lf (.int .i64 0),.lf (.bool false),.lf (.int .i64 0),.lf (.int .i64 0),.lf (.str ⟨#[]⟩),.bU 5,.bU 6,.lf (.bool false),.lf (.int .i64 0),.lf (.int .i64 0),.lf (.str ⟨#[]⟩),.bU 5,.bU 6,.bU 5,.lf (.int .i64 0),.lf (.int .i64 0),.bU 1,.bU 22,.lf (.bool false),.bU 21,.lf (.bool false),.lf (.int .i64 0),.lf (.int .i64 0),.lf (.str ⟨#[]⟩),.lf (.int .i64 0),.bU 2,.lf (.bool false),.lf (.bool false),.lf (.bool false),.lf (.int .i64 0),.bU 1,.lf (.int .i64 0),.lf (.int .i64 0),.lf (.str ⟨#[]⟩),.bU 5,.bU 6,.bU 5,.lf (.int .i64 0),.lf (.int .i64 0),.lf (.int .i64 0),.bU 2,.lf (.int .i64 0),.lf (.int .i64 0),.bU 1,.lf (.str ⟨#[]⟩),.bU 1,.lf (.int .i64 0),.lf (.int .i64 0),.lf (.str ⟨#[]⟩),.bU 5,.bU 6,.lf (.int .i64 0),.bU 11,.bU 25,.lf (.str ⟨#[]⟩),.lf (.int .i64 0),.bU 78,.bU 1,.lf (.bool false)]
def Z51:AV := .agg [.lf (.int .i64 0),.lf (.int .i64 0),.lf (.str ⟨#[]⟩),.lf (.int .i64 0),.lf (.int .i64 0),.lf (.str ⟨#[]⟩),.lf (.int .i64 0),.lf (.int .i64 0),.lf (.str ⟨#[]⟩),.bU 5,.bU 6,.lf (.int .i64 0),.lf (.int .i64 0),.lf (.str ⟨#[]⟩),.bU 5,.bU 6,.lf (.int .i64 0),.lf (.int .i64 0),.lf (.str ⟨#[]⟩),.bU 5,.bU 6,.lf (.str ⟨#[]⟩),.bU 31,.lf (.int .i64 0),.lf (.bool false),.lf (.int .i64 0),.lf (.int .i64 0),.lf (.str ⟨#[]⟩),.bU 5,.bU 6,.lf (.bool false),.lf (.int .i64 0),.lf (.int .i64 0),.lf (.str ⟨#[]⟩),.bU 5,.bU 6,.bU 5,.lf (.int .i64 0),.lf (.int .i64 0),.bU 1,.bU 22,.lf (.bool false),.bU 21,.lf (.bool false),.lf (.int .i64 0),.lf (.int .i64 0),.lf (.str ⟨#[]⟩),.lf (.int .i64 0),.bU 2,.lf (.bool false),.lf (.bool false),.lf (.bool false),.lf (.int .i64 0),.bU 1,.lf (.int .i64 0),.lf (.int .i64 0),.lf (.str ⟨#[]⟩),.bU 5,.bU 6,.bU 5,.lf (.int .i64 0),.lf (.int .i64 0),.lf (.int .i64 0),.bU 2,.lf (.int .i64 0),.lf (.int .i64 0),.bU 1,.lf (.str ⟨#[]⟩),.bU 1,.lf (.int .i64 0),.lf (.int .i64 0),.lf (.str ⟨#[]⟩),.bU 5,.bU 6,.lf (.int .i64 0),.bU 11,.bU 25,.lf (.str ⟨#[]⟩),.lf (.int .i64 0),.bU 78,.bU 1,.lf (.bool false)]
def Z75:AV := .agg [.bU 1,.lf (.bool false)]
def Z80:AV := .agg [.lf (.str ⟨#[]⟩),.lf (.bool false),.lf (.bool false)]
def Z84:AV := .agg [.lf (.str ⟨#[]⟩),.lf (.int .i64 0),.lf (.int .i64 0),.lf (.bool false)]
def Z89:AV := .agg [.lf (.str ⟨#[]⟩),.lf (.int .i64 0),.lf (.bool false)]
def apD:AV := .agg [.lf (.bool false),.lf (.bool false),.lf (.bool false),.lf (.bool false),.lf (.bool false),.lf (.bool false),.lf (.bool false),.lf (.bool false),.lf (.bool false),.lf (.bool false)]
def apE:AV := .agg [.lf (.str ⟨#[]⟩),.lf (.int .i64 0),.lf (.int .i64 0),.lf (.str ⟨#[]⟩),.bU 5,.bU 6]
def apF:AV := .agg [.bU 1,.lf (.bool false)]
def apG:AV := .agg [.lf (.str ⟨#[]⟩),.lf (.int .i64 0),.lf (.bool false),.lf (.int .i64 0),.lf (.int .i64 0),.lf (.str ⟨#[]⟩),.bU 5,.bU 6,.lf (.bool false),.lf (.int .i64 0),.lf (.int .i64 0),.lf (.str ⟨#[]⟩),.bU 5,.bU 6,.bU 5,.lf (.int .i64 0),.lf (.int .i64 0),.bU 1,.bU 22,.lf (.bool false),.bU 21,.lf (.bool false)]
def apH:AV := .agg [.lf (.int .i64 0),.lf (.int .i64 0)]
def apI:AV := .agg [.lf (.str ⟨#[]⟩),.lf (.int .i64 0),.lf (.int .i64 0),.lf (.int .i64 0)]
/-- some cells of an aggregate, set -/
def VH:AV → List (Nat × AV) → AV
  | x,[]=>x
  | .agg l,(i,v) :: r=>VH (.agg (l.set i v)) r
  | x,_=>x
def TTc:TT := [
  ⟨2,.int .i64,1,8,some (.lf (.int .i64 0))⟩,
  ⟨3,.int .i64,1,8,some (.lf (.int .i64 0))⟩,
  ⟨4,.bool,1,1,some (.lf (.bool false))⟩,
  ⟨5,.int .u8,1,1,some (.lf (.int .u8 0))⟩,
  ⟨6,.int .u8,1,1,some (.lf (.int .u8 0))⟩,
  ⟨9,.str,1,16,some (.lf (.str ⟨#[]⟩))⟩,
  ⟨10,.str,1,16,some (.lf (.str ⟨#[]⟩))⟩,
  ⟨11,.str,1,16,some (.lf (.str ⟨#[]⟩))⟩,
  ⟨12,.int .u64,1,8,some (.lf (.int .u64 0))⟩,
  ⟨21,.int .i32,1,4,some (.lf (.int .i32 0))⟩,
  ⟨22,.slice 25,1,24,some (.bU 5)⟩,
  ⟨23,.slice 115,1,24,some (.bU 6)⟩,
  ⟨25,.struct [(0,1,false),(1,1,false),(2,1,false),(3,1,false),(4,1,false)],5,80,some (Z25)⟩,
  ⟨26,.slice 45,1,24,some (.bU 31)⟩,
  ⟨27,.slice 9,1,24,some (.bU 1)⟩,
  ⟨28,.slice 224,1,24,some (.bU 22)⟩,
  ⟨29,.slice 31,1,24,some (.bU 21)⟩,
  ⟨31,.struct [(0,1,false),(1,1,false),(2,5,true),(7,1,false),(8,5,true),(13,1,false),(14,1,false),(15,1,false),(16,1,false),(17,1,false),(18,1,false),(19,1,false),(20,1,false)],21,312,some (Z31)⟩,
  ⟨33,.struct [(0,1,false),(1,1,false),(2,21,true),(23,1,false),(24,1,false)],25,368,some (Z33)⟩,
  ⟨34,.slice 149,1,24,some (.bU 2)⟩,
  ⟨35,.slice 229,1,24,some (.bU 2)⟩,
  ⟨37,.struct [(0,1,false),(1,1,false),(2,1,false)],3,40,some (Z37)⟩,
  ⟨38,.slice 40,1,24,some (.bU 11)⟩,
  ⟨40,.struct [(0,1,false),(1,1,false),(2,1,false),(3,1,false),(4,5,true),(9,1,false),(10,1,false)],11,184,some (Z40)⟩,
  ⟨41,.slice 43,1,24,some (.bU 25)⟩,
  ⟨43,.struct [(0,1,false),(1,1,false),(2,5,true),(7,1,false),(8,1,false),(9,1,false),(10,3,true),(13,11,true),(24,1,false)],25,400,some (Z43)⟩,
  ⟨45,.struct [(0,1,false),(1,1,false),(2,1,false),(3,1,false),(4,1,false),(5,1,false),(6,25,true)],31,456,some (Z45)⟩,
  ⟨46,.slice 49,1,24,some (.bU 78)⟩,
  ⟨47,.slice 3,1,24,some (.bU 1)⟩,
  ⟨49,.struct [(0,1,false),(1,1,false),(2,5,true),(7,5,true),(12,5,true),(17,25,true),(42,31,true),(73,1,false),(74,1,false),(75,1,false),(76,1,false),(77,1,false)],78,1168,some (Z49)⟩,
  ⟨51,.struct [(0,1,false),(1,1,false),(2,1,false),(3,1,false),(4,78,true)],82,1208,some (Z51)⟩,
  ⟨53,.int .i64,1,8,some (.lf (.int .i64 0))⟩,
  ⟨73,.slice 5,1,24,some (.bU 1)⟩,
  ⟨75,.struct [(0,1,false),(1,1,false)],2,32,some (Z75)⟩,
  ⟨80,.struct [(0,1,false),(1,1,false),(2,1,false)],3,24,some (Z80)⟩,
  ⟨84,.struct [(0,1,false),(1,1,false),(2,1,false),(3,1,false)],4,40,some (Z84)⟩,
  ⟨89,.struct [(0,1,false),(1,1,false),(2,1,false)],3,32,some (Z89)⟩,
  ⟨98,.slice 4,1,24,some (.bU 1)⟩,
  ⟨104,.struct [(0,1,false),(1,1,false),(2,1,false),(3,1,false),(4,1,false),(5,1,false),(6,1,false),(7,1,false),(8,1,false),(9,1,false)],10,10,some (apD)⟩,
  ⟨115,.struct [(0,1,false),(1,5,true)],6,96,some (apE)⟩,
  ⟨144,.int .u64,1,8,some (.lf (.int .u64 0))⟩,
  ⟨149,.struct [(0,1,false),(1,1,false)],2,32,some (apF)⟩,
  ⟨166,.int .u64,1,8,some (.lf (.int .u64 0))⟩,
  ⟨186,.int .i64,1,8,some (.lf (.int .i64 0))⟩,
  ⟨195,.int .u32,1,4,some (.lf (.int .u32 0))⟩,
  ⟨224,.struct [(0,1,false),(1,21,true)],22,328,some (apG)⟩,
  ⟨229,.struct [(0,1,false),(1,1,false)],2,16,some (apH)⟩,
  ⟨252,.struct [(0,1,false),(1,1,false),(2,1,false),(3,1,false)],4,40,some (apI)⟩,
  ⟨261,.int .u64,1,8,some (.lf (.int .u64 0))⟩,
  ⟨287,.map 9 4,1,8,some (.raw (.map none))⟩,
  ⟨307,.int .u8,1,1,some (.lf (.int .u8 0))⟩,
  ⟨308,.int .u8,1,1,some (.lf (.int .u8 0))⟩,
  ⟨311,.int .i32,1,4,some (.lf (.int .i32 0))⟩,
  ⟨312,.int .i32,1,4,some (.lf (.int .i32 0))⟩]
theorem al0:ttb Tryz.prog TTc = true := by kernel_rfl
end Go.Proofs.YtflpefkohpjjpaaGreatDoor
