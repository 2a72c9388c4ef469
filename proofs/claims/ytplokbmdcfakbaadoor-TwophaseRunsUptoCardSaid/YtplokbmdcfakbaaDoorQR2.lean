/- One operation, with answers: the function, and that it is right. -/
import Derived.Test.YtplokbmdcfakbaaDoorQR1
import Derived.WalkKit
import Derived.OrdersHeld
import Derived.Deep.RegionHeld3
import Derived.KernelRfl
set_option linter.unusedSimpArgs false
set_option linter.unusedVariables false
namespace Go.Proofs.YtplokbmdcfakbaaDoor
open Go.RowKit
structure OR where
  st : St
  qs : List Ans
  p : List Prop
  ch : List Nat
  gr : Bool
def qlev (P : Program) (tt : TT) (nt : Nat) (st : St) (o : Oper) (qs : List Ans) : Option OR :=
  match qev P tt true st.T st.H o.op qs with
  | some (v, qs', p) => match putT nt st.T o.dst v with
    | some T' => some ⟨⟨T', st.H⟩, qs', p, [], false⟩
    | none => none
  | none => none
def lev (P : Program) (G : Gh → Prop) (tt : TT) (nt : Nat) (st : St) (o : Oper) (qs : List Ans) : Option OR :=
  match o.op with
  | .alloc t => match tyOf tt t with
    | some i => match i.z with
      | some z => match asCells z with
        | some y => match newSlot st.H (.box t y) qs with
          | some (b, H', qs') => match putT nt st.T o.dst (.ptr b 0) with
            | some T' => some ⟨⟨T', H'⟩, qs', [], [], false⟩
            | none => none
          | none => none
        | none => none
      | none => none
    | none => none
  | .box t x => match ev st.T x with
    | some z => match asCells z with
      | some y => match newSlot st.H (.box t y) qs with
        | some (b, H', qs') => match putT nt st.T o.dst (.ptr b 0) with
          | some T' => some ⟨⟨T', H'⟩, qs', [], [], false⟩
          | none => none
        | none => none
      | none => none
    | none => none
  | .store t x y => match tyOf tt t with
    | some i => match ev st.T y with
      | some v => match v.width with
        | some n => match Nat.beq n i.size && v.flatB with
          | true => match putT nt st.T o.dst (.raw undef) with
            | some T' => match ev st.T x with
              | some (.ptr b q) => match st.H[b]? with
                | some (.box ty cs) => match updA cs q v with
                  | some cs' => some ⟨⟨T', st.H.set b (.box ty cs')⟩, qs, [], [b], false⟩
                  | none => none
                | _ => none
              | some (.eptr b m j q) => match qs with
                | .row r :: qs' => match st.H[b]? with
                  | some (.row ty m' l) => match Nat.beq m' m with
                    | true => match updA (.dat r) q v with
                      | some (.dat r') => some ⟨⟨T', st.H.set b (.row ty m (useR (l.set j r') qs').1)⟩, (useR (l.set j r') qs').2.1, (useR (l.set j r') qs').2.2 ++ [l[j]? = some r], [b], false⟩
                      | _ => none
                    | false => none
                  | _ => none
                | _ => none
              | _ => none
            | none => none
          | false => none
        | none => none
      | none => none
    | none => none
  | .makeMap t none => match mapTy tt t with
    | some (kt, et, _, _) => match newSlot st.H (.map P kt et []) qs with
      | some (b, H', qs') => match putT nt st.T o.dst (.mp b) with
        | some T' => some ⟨⟨T', H'⟩, qs', [], [], false⟩
        | none => none
      | none => none
    | none => none
  | .mapUpdate t m k y => match mapTy tt t with
    | some (kt, et, d, _) => match ev st.T m with
      | some (.mp b) => match st.H[b]? with
        | some (.map P' k' e' l) => match Nat.beq k' kt && Nat.beq e' et with
          | true => match ev st.T k with
            | some (.lf (.str s)) => match ev st.T y with
              | some (.lf x) => match zl d x with
                | true => match putT nt st.T o.dst (.raw undef) with
                  | some T' => some ⟨⟨T', st.H.set b (.map P' k' e' ((s, x) :: l))⟩, qs, [P' = P, l.length < maxLen], [b], false⟩
                  | none => none
                | false => none
              | _ => none
            | _ => none
          | false => none
        | _ => none
      | _ => none
    | none => none
  | .buildSlice t len parts => match elemOfT tt t with
    | some (el, n) => match tyOf tt el with
      | some i => match i.z with
        | some _ => match partRows st.T n 0 parts.toList with
          | some l => match Nat.beq l.length len && Nat.ble (len * n) 16777216 && Nat.blt 0 n with
            | true => match newSlot st.H (.row el n l) qs with
              | some (b, H', qs') => match putT nt st.T o.dst (.own b) with
                | some T' => some ⟨⟨T', H'⟩, qs', [], [], false⟩
                | none => none
              | none => none
            | false => none
          | none => none
        | none => none
      | none => none
    | none => none
  | .makeSlice t x y => match elemOfT tt t with
    | some (el, n) => match tyOf tt el with
      | some i => match i.z with
        | some z => match dataRow z with
          | some q => match ev st.T x with
            | some (.lf (.int _ m)) => match ev st.T y with
              | some (.lf (.int _ m')) => match newSlot st.H (.row el n (useR (List.replicate m.toNat q) qs).1) (useR (List.replicate m.toNat q) qs).2.1 with
                | some (b, H', qs') => match putT nt st.T o.dst (.own b) with
                  | some T' => some ⟨⟨T', H'⟩, qs', (useR (List.replicate m.toNat q) qs).2.2 ++ [m' = m ∧ 0 ≤ m ∧ i.bytes * m.toNat ≤ 281474976710656 ∧ m.toNat ≤ maxLen], [], false⟩
                  | none => none
                | none => none
              | _ => none
            | _ => none
          | none => none
        | none => none
      | none => none
    | none => none
  | .call cl => match cl.callee with
    | .builtin .append => match cl.args.toList with
      | [x, y] => match cl.argTypes.toList with
        | [t, t'] => match Nat.beq t t' with
          | true => match elemOfT tt t with
            | some (el, n) => match tyOf tt el with
              | some i => match i.z with
                | some _ => match ev st.T x with
                  | some xa => match ev st.T y with
                    | some ya => match baseRow st.H el n xa with
                      | some (l0, ob) => match newsRow st.H n ya with
                        | some l1 => match Nat.blt 0 n && Nat.blt 0 i.bytes with
                          | true => match newSlot (killO st.H ob) (.row el n (useR (l0 ++ l1) qs).1) (useR (l0 ++ l1) qs).2.1 with
                            | some (b, H', qs') => match putT nt st.T o.dst (.own b) with
                              | some T' => some ⟨⟨T', H'⟩, qs', (useR (l0 ++ l1) qs).2.2 ++ [(l0.length + l1.length) * i.bytes ≤ 140737488355328], ob.toList, false⟩
                              | none => none
                            | none => none
                          | false => none
                        | none => none
                      | none => none
                    | none => none
                  | none => none
                | none => none
              | none => none
            | none => none
          | false => none
        | _ => none
      | _ => none
    | .value (.func f) => match evArgs st.T cl.args.toList with
      | some ds => match qs with
        | .res r :: qs' => match r.isD with
          | true => match putT nt st.T o.dst r with
            | some T' => some ⟨⟨T', st.H⟩, qs', [Fn P G f ds r], [], true⟩
            | none => none
          | false => none
        | _ => none
      | none => none
    | _ => qlev P tt nt st o qs
  | _ => qlev P tt nt st o qs
section
variable {c : Ctx} {o : Oper} {st : St} {qs : List Ans} {r : OR}
theorem qlev_ok (hc : c.Ok) (h : qlev c.P c.tt c.nt st o qs = some r) (hp : AllP r.p) : LOp c o st r.st r.ch r.gr := by
  unfold qlev at h
  split at h
  · rename_i v qs' p hq
    split at h
    · rename_i T' hT
      injection h with h
      subst h
      exact LOp.quiet hc hq hp hT
    · cases h
  · cases h
theorem lev_ok (hc : c.Ok) (h : lev c.P c.G c.tt c.nt st o qs = some r) (hp : AllP r.p) : LOp c o st r.st r.ch r.gr := by
  unfold lev at h
  split at h
  · rename_i t ho
    split at h
    · rename_i i hi
      split at h
      · rename_i z hz
        split at h
        · rename_i y hy
          split at h
          · rename_i b H' qs' hs
            split at h
            · rename_i T' hT
              injection h with h
              subst h
              exact LOp.alloc hc ho hi hz hy hs hT
            · cases h
          · cases h
        · cases h
      · cases h
    · cases h
  · rename_i t x ho
    split at h
    · rename_i z hz
      split at h
      · rename_i y hy
        split at h
        · rename_i b H' qs' hs
          split at h
          · rename_i T' hT
            injection h with h
            subst h
            exact LOp.box ho hz hy hs hT
          · cases h
        · cases h
      · cases h
    · cases h
  · rename_i t x y ho
    split at h
    · rename_i i hi
      split at h
      · rename_i v hy
        split at h
        · rename_i n hn
          split at h
          · rename_i hb
            rw [Bool.and_eq_true] at hb
            split at h
            · rename_i T' hT
              split at h
              · rename_i b q hx
                split at h
                · rename_i ty cs hbx
                  split at h
                  · rename_i cs' hu
                    injection h with h
                    subst h
                    exact LOp.store hc ho hi hx hy hn (beq_nat hb.1) hb.2 hbx hu hT
                  · cases h
                · cases h
              · rename_i b m j q hx
                split at h
                · rename_i r0 qs'
                  split at h
                  · rename_i ty m' l hbx
                    split at h
                    · rename_i hm
                      have hm := beq_nat hm
                      subst hm
                      split at h
                      · rename_i r' hu
                        injection h with h
                        subst h
                        obtain ⟨hp1, hp⟩ := AllP.app hp
                        simp only [useR_ok hp1]
                        exact LOp.storeE hc ho hi hx hy hn (beq_nat hb.1) hb.2 hbx hp.1 hu hT
                      · cases h
                    · cases h
                  · cases h
                · cases h
              · cases h
            · cases h
          · cases h
        · cases h
      · cases h
    · cases h
  · rename_i t ho
    split at h
    · rename_i kt et d z hmt
      split at h
      · rename_i b H' qs' hs
        split at h
        · rename_i T' hT
          injection h with h
          subst h
          exact LOp.mkMap ho hs hT
        · cases h
      · cases h
    · cases h
  · rename_i t m k y ho
    split at h
    · rename_i kt et d z hmt
      split at h
      · rename_i b hm
        split at h
        · rename_i P' k' e' l hb
          split at h
          · rename_i hke
            rw [Bool.and_eq_true] at hke
            have e1 := beq_nat hke.1
            have e2 := beq_nat hke.2
            subst e1 e2
            split at h
            · rename_i s hk
              split at h
              · rename_i x hy
                split at h
                · rename_i hz
                  split at h
                  · rename_i T' hT
                    injection h with h
                    subst h
                    exact LOp.mapUpd hc ho hmt hm hb hp.1 hp.2.1 hk hy hz hT
                  · cases h
                · cases h
              · cases h
            · cases h
          · cases h
        · cases h
      · cases h
    · cases h
  · rename_i t len parts ho
    split at h
    · rename_i el n he
      split at h
      · rename_i i hi
        split at h
        · rename_i z hz
          split at h
          · rename_i l hl
            split at h
            · rename_i hb
              simp only [Bool.and_eq_true] at hb
              split at h
              · rename_i b H' qs' hs
                split at h
                · rename_i T' hT
                  injection h with h
                  subst h
                  exact LOp.buildSlice hc ho he hi hz hl (beq_nat hb.1.1) (Nat.le_of_ble_eq_true hb.1.2) (Nat.le_of_ble_eq_true hb.2) hs hT
                · cases h
              · cases h
            · cases h
          · cases h
        · cases h
      · cases h
    · cases h
  · rename_i t x y ho
    split at h
    · rename_i el n he
      split at h
      · rename_i i hi
        split at h
        · rename_i z hz
          split at h
          · rename_i q hq
            split at h
            · rename_i k1 m hx
              split at h
              · rename_i k2 m' hy
                split at h
                · rename_i b H' qs' hs
                  split at h
                  · rename_i T' hT
                    injection h with h
                    subst h
                    obtain ⟨hp1, hp⟩ := AllP.app hp
                    rw [useR_ok hp1] at hs
                    exact LOp.make hc ho he hi hz hq hx hy hp.1.1 hp.1.2.1 hp.1.2.2.1 hp.1.2.2.2 hs hT
                  · cases h
                · cases h
              · cases h
            · cases h
          · cases h
        · cases h
      · cases h
    · cases h
  · rename_i cl ho
    split at h
    · rename_i hcal
      split at h
      · rename_i x y ha
        split at h
        · rename_i t t' hat
          split at h
          · rename_i ht
            have ht := beq_nat ht
            subst ht
            split at h
            · rename_i el n he
              split at h
              · rename_i i hi
                split at h
                · rename_i z hz
                  split at h
                  · rename_i xa hx
                    split at h
                    · rename_i ya hy
                      split at h
                      · rename_i l0 ob hl0
                        split at h
                        · rename_i l1 hl1
                          split at h
                          · rename_i hb
                            rw [Bool.and_eq_true] at hb
                            split at h
                            · rename_i b H' qs' hs
                              split at h
                              · rename_i T' hT
                                injection h with h
                                subst h
                                obtain ⟨hp1, hp⟩ := AllP.app hp
                                rw [useR_ok hp1] at hs
                                exact LOp.append hc ho hcal ha hat he hi hz hx hy hl0 hl1 (Nat.le_of_ble_eq_true hb.1) (Nat.le_of_ble_eq_true hb.2) hp.1 hs hT
                              · cases h
                            · cases h
                          · cases h
                        · cases h
                      · cases h
                    · cases h
                  · cases h
                · cases h
              · cases h
            · cases h
          · cases h
        · cases h
      · cases h
    · rename_i f hcal
      split at h
      · rename_i ds hd
        split at h
        · rename_i r0 qs'
          split at h
          · rename_i hr
            split at h
            · rename_i T' hT
              injection h with h
              subst h
              exact LOp.call hc ho hcal hd hr hp.1 hT
            · cases h
          · cases h
        · cases h
      · cases h
    · exact qlev_ok hc h hp
  · exact qlev_ok hc h hp
end
/-! ### what changes no memory: slots kept free, nil made a row, a row made data -/
/-- The state may as well be told as st'. -/
def GOp (c : Ctx) (st st' : St) (ch : List Nat) (gr : Bool) : Prop :=
  ∀ e C a w, Rep c e C st a w → ∃ e' C', Rep c e' C' st' a w ∧ Keep1 ch gr e C st.H e' C' st'.H w
structure GR where
  st : St
  qs : List Ans
  p : List Prop
  ch : List Nat
  gr : Bool
def ghost1 (wr : Nat → Prop) (st : St) : Ans → Option GR
  | .frz b => match st.H[b]? with
    | some (.row _ n l) => some ⟨⟨fzT b (.lf (.rows n l)) st.T, (st.H.set b .dead).map (Slot.fz b (.lf (.rows n l)))⟩, [], [∀ g, ¬ wr g], [b], true⟩
    | _ => none
  | .frzr b l' => match st.H[b]? with
    | some (.row _ n l) => some ⟨⟨fzT b (.lf (.rows n l')) st.T, (st.H.set b .dead).map (Slot.fz b (.lf (.rows n l')))⟩, [], [∀ g, ¬ wr g, l' = l], [b], true⟩
    | _ => none
  | .norm b => match st.H[b]? with
    | some (.box ty cs) => match cs.toD with
      | some (.dat r) => some ⟨⟨st.T, st.H.set b (.box ty (.dat r))⟩, [], [], [], false⟩
      | _ => none
    | _ => none
  | .resv k => some ⟨⟨st.T, st.H ++ List.replicate k .free⟩, [], [], [], false⟩
  | .nil t n => match lk st.T t with
    | some (.raw (.slice none 0 0)) => some ⟨⟨(t, .nils n) :: st.T, st.H⟩, [], [], [], false⟩
    | _ => none
  | .nrow t ty n => match lk st.T t with
    | some (.raw (.slice none 0 0)) => some ⟨⟨(t, .own st.H.length) :: st.T, st.H ++ [Slot.row ty n []]⟩, [], [], [], false⟩
    | some (.nils _) => some ⟨⟨(t, .own st.H.length) :: st.T, st.H ++ [Slot.row ty n []]⟩, [], [], [], false⟩
    | _ => none
  | .brow b o ty => match st.H[b]? with
    | some (.box ty' (.agg l)) => match l[o]? with
      | some (.nils n) => some ⟨⟨st.T, (st.H ++ [Slot.row ty n []]).set b (.box ty' (.agg (l.set o (.own st.H.length))))⟩, [], [], [], false⟩
      | _ => none
    | _ => none
  | .tod t => match lk st.T t with
    | some v => match v.toD with
      | some d => some ⟨⟨(t, d) :: st.T, st.H⟩, [], [], [], false⟩
      | none => none
    | none => none
  | .rerow b l' => match st.H[b]? with
    | some (.row ty n l) => some ⟨⟨st.T, st.H.set b (.row ty n l')⟩, [], [l' = l], [], false⟩
    | _ => none
  | .kill b => match st.H[b]? with
    | some (.row _ _ _) => some ⟨⟨st.T, st.H.set b .dead⟩, [], [], [b], false⟩
    | some (.box _ _) => some ⟨⟨st.T, st.H.set b .dead⟩, [], [], [b], false⟩
    | some (.map _ _ _ _) => some ⟨⟨st.T, st.H.set b .dead⟩, [], [], [b], false⟩
    | _ => none
  | _ => none
theorem TRel.put1 {e : Env} {T : List (Nat × AV)} {tmps : Array Value} (h : TRel e T tmps) {t : Nat} {x y : AV} (hx : lk T t = some x) (hy : ∀ v, VR e x v → VR e y v) : TRel e ((t, y) :: T) tmps := fun t' z hz => by
  unfold lk at hz
  split at hz
  · rename_i hb
    injection hz with hz
    subst hz
    have := beq_nat hb
    subst this
    obtain ⟨u, h1, h2⟩ := h t x hx
    exact ⟨u, h1, hy u h2⟩
  · exact h t' z hz
theorem nil_row {c : Ctx} {e : Env} {C : Nat → List Value} {H : List Slot} {w : World} (h : Mem c e C H w) (ty : TypeId) (n : Nat) :
    ∃ e' C', Mem c e' C' (H ++ [Slot.row ty n []]) w ∧ e.le e' ∧ VR e' (.own H.length) (.slice none 0 0) ∧ Keep1 [] false e C H e' C' (H ++ [Slot.row ty n []]) w := by
  refine h.row (qs := []) (qs' := []) (v := .slice none 0 0) (xs := []) (l := []) (b := H.length) rfl (fun r hr => by cases hr) rfl (World.ownsRow_nil w 0 ty n) (fun x hx => by cases hx) (by unfold maxLen; simp)
theorem VRs.set {e : Env} : ∀ (l : List AV) (cs : List Value), VRs e l cs → ∀ (o : Nat) (x y : AV), l[o]? = some x → (∀ v, VR e x v → VR e y v) → VRs e (l.set o y) cs
  | [], cs, h, o, x, y, ho, _ => by simp at ho
  | z :: r, cs, h, o, x, y, ho, hy => by
    unfold VRs at h
    obtain ⟨u, q, rfl, h1, h2⟩ := h
    cases o with
    | zero =>
      obtain rfl : z = x := by simpa using ho
      rw [List.set_cons_zero]
      exact VRs.cons (hy u h1) h2
    | succ o =>
      rw [List.set_cons_succ]
      exact VRs.cons h1 (VRs.set r q h2 o x y (by simpa using ho) hy)
/-- a slot is told otherwise -/
theorem Mem.tell {c : Ctx} {e : Env} {C : Nat → List Value} {H : List Slot} {w : World} (h : Mem c e C H w) {b : Nat} {s s' : Slot} (hb : H[b]? = some s) (hf : s' ≠ .free) (hblk : blkOf e b s' = blkOf e b s) (hv : HV e C b s') (hw : HW e C w b s') : Mem c e C (H.set b s') w := by
  have hlt := (List.getElem?_eq_some_iff.1 hb).1
  have key : ∀ x t, (H.set b s')[x]? = some t → (x = b ∧ t = s') ∨ (x ≠ b ∧ H[x]? = some t) := fun x t hx => by
    by_cases hne : x = b
    · subst hne
      rw [List.getElem?_set_self hlt] at hx
      injection hx with hx; exact .inl ⟨rfl, hx.symm⟩
    · rw [List.getElem?_set_ne (Ne.symm hne)] at hx; exact .inr ⟨hne, hx⟩
  have blk : ∀ x t g, (H.set b s')[x]? = some t → blkOf e x t = some g → ∃ t0, H[x]? = some t0 ∧ blkOf e x t0 = some g := fun x t g hx hg => by
    rcases key x t hx with ⟨rfl, rfl⟩ | ⟨_, h1⟩
    · exact ⟨s, hb, by rw [← hblk]; exact hg⟩
    · exact ⟨t, h1, hg⟩
  refine ⟨fun x t hx => ?_, fun x t hx => ?_, fun x hx => by rw [List.length_set]; exact h.bound x hx, fun x x' t t' g h1 h2 k1 k2 => ?_, fun x t g hx hg => ?_, fun x t g hx hg => ?_, h.inv, h.le, h.fresh, h.ch, h.g⟩
  · rcases key x t hx with ⟨rfl, rfl⟩ | ⟨_, h1⟩
    · exact hv
    · exact h.hv x t h1
  · rcases key x t hx with ⟨rfl, rfl⟩ | ⟨_, h1⟩
    · exact hw
    · exact h.hw x t h1
  · obtain ⟨t0, m1, m2⟩ := blk x t g h1 k1
    obtain ⟨t1, m3, m4⟩ := blk x' t' g h2 k2
    exact h.inj x x' t0 t1 g m1 m3 m2 m4
  · obtain ⟨t0, m1, m2⟩ := blk x t g hx hg
    exact h.av x t0 g m1 m2
  · obtain ⟨t0, m1, m2⟩ := blk x t g hx hg
    exact h.mine x t0 g m1 m2
theorem ghost1_ok {c : Ctx} (hc : c.Ok) {st : St} {q : Ans} {r : GR} (h : ghost1 c.wr st q = some r) (hp : AllP r.p) : GOp c st r.st r.ch r.gr := by
  unfold ghost1 at h
  intro e C a w hR
  split at h
  · rename_i b
    split at h
    · rename_i ty n l hb
      injection h with h
      subst h
      obtain ⟨e', h1, h2, h3, h4⟩ := hR.mem.freeze hc hp.1 hb
      refine ⟨e', C, ⟨fun t v hv => ?_, hR.size, hR.defers, h2⟩, h4⟩
      have hv : lk (fzT b (.lf (.rows n l)) st.T) t = some v := hv
      rw [lk_fzT] at hv
      cases hq : lk st.T t with
      | none => rw [hq] at hv; cases hv
      | some y =>
        rw [hq] at hv
        injection hv with hv
        subst hv
        obtain ⟨u, k1, k2⟩ := hR.tmp t y hq
        exact ⟨u, k1, VR.fz h1 h3 y u k2⟩
    · cases h
  · rename_i b l'
    split at h
    · rename_i ty n l hb
      injection h with h
      subst h
      have hll : l' = l := hp.2.1
      subst hll
      obtain ⟨e', h1, h2, h3, h4⟩ := hR.mem.freeze hc hp.1 hb
      refine ⟨e', C, ⟨fun t v hv => ?_, hR.size, hR.defers, h2⟩, h4⟩
      have hv : lk (fzT b (.lf (.rows n l')) st.T) t = some v := hv
      rw [lk_fzT] at hv
      cases hq : lk st.T t with
      | none => rw [hq] at hv; cases hv
      | some y =>
        rw [hq] at hv
        injection hv with hv
        subst hv
        obtain ⟨u, k1, k2⟩ := hR.tmp t y hq
        exact ⟨u, k1, VR.fz h1 h3 y u k2⟩
    · cases h
  · rename_i b
    split at h
    · rename_i ty cs hb
      split at h
      · rename_i r hr
        injection h with h
        subst h
        have hv := hR.mem.hv b _ hb
        have hw := hR.mem.hw b _ hb
        have hlt := (List.getElem?_eq_some_iff.1 hb).1
        refine ⟨e, C, ⟨hR.tmp, hR.size, hR.defers, hR.mem.tell (s' := .box ty (.dat r)) hb (by simp) rfl ⟨hv.1, VR.toD hr hv.2⟩ hw⟩, Env.le.refl e, fun _ => rfl, fun x s hx hne hl => ?_, hR.mem.inv⟩
        by_cases hxb : x = b
        · subst hxb
          rw [hb] at hx
          injection hx with hx
          subst hx
          exact ⟨_, List.getElem?_set_self hlt, trivial, fun w h => h⟩
        · exact ⟨s, by rw [List.getElem?_set_ne (Ne.symm hxb)]; exact hx, hl, fun _ h => h⟩
      · cases h
    · cases h
  · rename_i k
    injection h with h
    subst h
    have key : ∀ x t, (st.H ++ List.replicate k Slot.free)[x]? = some t → st.H[x]? = some t ∨ (st.H.length ≤ x ∧ t = .free) := fun x t hx => by
      rw [List.getElem?_append] at hx
      split at hx
      · exact .inl hx
      · rename_i hlt
        rw [List.getElem?_replicate] at hx
        split at hx
        · injection hx with hx; exact .inr ⟨by omega, hx.symm⟩
        · cases hx
    have hM := hR.mem
    refine ⟨e, C, ⟨hR.tmp, hR.size, hR.defers, ⟨fun x t hx => ?_, fun x t hx => ?_, fun x hx => ?_, fun x x' t t' g h1 h2 k1 k2 => ?_, fun x t g hx hg => ?_, fun x t g hx hg => ?_, hM.inv, hM.le, hM.fresh, hM.ch, hM.g⟩⟩, Env.le.refl e, fun _ => rfl, fun b s hb _ hl => ⟨s, by rw [List.getElem?_append_left (List.getElem?_eq_some_iff.1 hb).1]; exact hb, hl, fun _ h => h⟩, hM.inv⟩
    · rcases key x t hx with h1 | ⟨h1, rfl⟩
      · exact hM.hv x t h1
      · show ¬ e.ok x
        intro h2; have := hM.bound x h2; omega
    · rcases key x t hx with h1 | ⟨h1, rfl⟩
      · exact hM.hw x t h1
      · trivial
    · have := hM.bound x hx
      show x < (st.H ++ List.replicate k Slot.free).length
      rw [List.length_append]; omega
    · rcases key x t h1 with h1 | ⟨h1, rfl⟩
      · rcases key x' t' h2 with h2 | ⟨h2, rfl⟩
        · exact hM.inj x x' t t' g h1 h2 k1 k2
        · cases k2
      · cases k1
    · rcases key x t hx with h1 | ⟨h1, rfl⟩
      · exact hM.av x t g h1 hg
      · cases hg
    · rcases key x t hx with h1 | ⟨h1, rfl⟩
      · exact hM.mine x t g h1 hg
      · cases hg
  · rename_i t n
    split at h
    · rename_i ht
      injection h with h
      subst h
      exact ⟨e, C, ⟨hR.tmp.put1 ht (fun v hv => by unfold VR at hv ⊢; exact hv), hR.size, hR.defers, hR.mem⟩, Keep1.same hR⟩
    · cases h
  · rename_i t ty n
    obtain ⟨e', C', k1, k2, k3, k4⟩ := nil_row hR.mem ty n
    split at h
    · rename_i ht
      injection h with h
      subst h
      exact ⟨e', C', ⟨(hR.tmp.mono k2).put1 ht (fun v hv => by unfold VR at hv; subst hv; exact k3), hR.size, hR.defers, k1⟩, k4⟩
    · rename_i m ht
      injection h with h
      subst h
      exact ⟨e', C', ⟨(hR.tmp.mono k2).put1 ht (fun v hv => by unfold VR at hv; subst hv; exact k3), hR.size, hR.defers, k1⟩, k4⟩
    · cases h
  · rename_i b o ty
    split at h
    · rename_i ty' l hb
      split at h
      · rename_i n ho
        injection h with h
        subst h
        obtain ⟨e', C', k1, k2, k3, k4⟩ := nil_row hR.mem ty n
        have hlt := (List.getElem?_eq_some_iff.1 hb).1
        have hb' : (st.H ++ [Slot.row ty n []])[b]? = some (.box ty' (.agg l)) := by rw [List.getElem?_append_left hlt]; exact hb
        have hv := k1.hv b _ hb'
        have hw := k1.hw b _ hb'
        obtain ⟨cs, e1, h1⟩ := VR.agg.1 hv.2
        refine ⟨e', C', ⟨hR.tmp.mono k2, hR.size, hR.defers, k1.tell (s' := .box ty' (.agg (l.set o (.own st.H.length)))) hb' (by simp) rfl ⟨hv.1, VR.agg.2 ⟨cs, e1, VRs.set l cs h1 o _ _ ho (fun v hv => by unfold VR at hv; subst hv; exact k3)⟩⟩ hw⟩, k4.le, k4.I, fun x s hx hne hl => ?_, k4.inv⟩
        obtain ⟨s', m1, m2, m3⟩ := k4.lk x s hx (by simp) hl
        by_cases hxb : x = b
        · subst hxb
          rw [hb'] at m1
          injection m1 with m1
          subst m1
          exact ⟨_, List.getElem?_set_self (List.getElem?_eq_some_iff.1 hb').1, trivial, fun w h => m3 w h⟩
        · exact ⟨s', by rw [List.getElem?_set_ne (Ne.symm hxb)]; exact m1, m2, m3⟩
      · cases h
    · cases h
  · rename_i t
    split at h
    · rename_i v ht
      split at h
      · rename_i d hd
        injection h with h
        subst h
        exact ⟨e, C, ⟨hR.tmp.put1 ht (fun u hv => VR.toD hd hv), hR.size, hR.defers, hR.mem⟩, Keep1.same hR⟩
      · cases h
    · cases h
  · rename_i b l'
    split at h
    · rename_i ty n l hb
      injection h with h
      subst h
      have hll : l' = l := hp.1
      subst hll
      have hH : st.H.set b (.row ty n l') = st.H := by
        apply List.ext_getElem?
        intro x
        rw [List.getElem?_set]
        split
        · rename_i hx; subst hx
          rw [if_pos (List.getElem?_eq_some_iff.1 hb).1, hb]
        · rfl
      show ∃ e' C', Rep c e' C' ⟨st.T, st.H.set b (.row ty n l')⟩ a w ∧ Keep1 [] false e C st.H e' C' (st.H.set b (.row ty n l')) w
      rw [hH]
      exact ⟨e, C, hR, Keep1.same hR⟩
    · cases h
  · rename_i b
    have go : ∀ {s0 : Slot}, st.H[b]? = some s0 → s0 ≠ .free → ∃ e' C', Rep c e' C' ⟨st.T, st.H.set b .dead⟩ a w ∧ Keep1 [b] false e C st.H e' C' (st.H.set b .dead) w := fun {s0} hb hs =>
      ⟨e, C, ⟨hR.tmp, hR.size, hR.defers, hR.mem.kill b hb hs⟩, Env.le.refl e, fun _ => rfl, fun x s hx hne hl => ⟨s, by rw [List.getElem?_set_ne (fun e1 => hne (by simp [e1]))]; exact hx, hl, fun _ h => h⟩, hR.mem.inv⟩
    split at h
    · rename_i hb; injection h with h; subst h; exact go hb (by simp)
    · rename_i hb; injection h with h; subst h; exact go hb (by simp)
    · rename_i hb; injection h with h; subst h; exact go hb (by simp)
    · cases h
  · cases h
end Go.Proofs.YtplokbmdcfakbaaDoor
set_option linter.unusedSimpArgs false
set_option linter.unusedVariables false
namespace Go.Proofs.YtplokbmdcfakbaaDoor
open Go

section
variable {P : Program} {ops : Array Oper} {Q : Exit → Act → World → Prop} {S : World → Prop}

/-- The walk in a given order; the tag: the operation yields in every world that meets S. -/
def wpMix (P : Program) (ops : Array Oper) (Q : Exit → Act → World → Prop) (S : World → Prop) : List (Bool × Nat) → Act → World → Prop
  | [], a, w => Q .normal a w
  | (true, i) :: r, a, w => ∃ o v, ops[i]? = some o ∧ YieldsIf P ops S o v a ∧ wpMix P ops Q S r (a.put o.dst v) w
  | (false, i) :: r, a, w => wpOp P ops Q i (fun a' w' => S w' ∧ wpMix P ops Q S r a' w') a w

/-- The order is one in which each quiet operation may be taken first, and each other comes up alone. -/
def mixB (ops : Array Oper) : List (Bool × Nat) → Array Bool → Bool
  | [], listed => (Region.ready .any ops listed).isEmpty
  | (true, i) :: r, listed => Region.free .any ops listed i && (Region.ready .any ops listed).contains i && mixB ops r (listed.setIfInBounds i true)
  | (false, i) :: r, listed => (Region.ready .any ops listed == [i]) && mixB ops r (listed.setIfInBounds i true)

theorem wpAnyH_of_mix (hs : Region.noSelect ops = true) (hQ : ∀ c a d v w, Q (.panic c) (Act.put a d v) w → Q (.panic c) a w) :
    ∀ (l : List (Bool × Nat)) (listed : Array Bool) (a : Act) (w : World) (fuel : Nat), l.length ≤ fuel → mixB ops l listed = true → S w → wpMix P ops Q S l a w → wpAnyH P .any ops Q S fuel listed a w
  | [], listed, a, w, fuel, _, hb, _, h => wpAnyH_done (by simpa [mixB] using hb) h fuel
  | (true, i) :: r, listed, a, w, 0, hf, _, _, _ => by simp at hf
  | (false, i) :: r, listed, a, w, 0, hf, _, _, _ => by simp at hf
  | (true, i) :: r, listed, a, w, fuel + 1, hf, hb, hS, h => by
    obtain ⟨o, v, ho, hy, hr⟩ := h
    simp only [mixB, Bool.and_eq_true] at hb
    exact wpAnyH_take ho hs hb.1.1 hb.1.2 (fun c a w => hQ c a _ _ w) hy hS (wpAnyH_of_mix hs hQ r _ _ _ fuel (by simpa using hf) hb.2 hS hr)
  | (false, i) :: r, listed, a, w, fuel + 1, hf, hb, hS, h => by
    simp only [mixB, Bool.and_eq_true, beq_iff_eq] at hb
    refine wpAnyH_all hb.1 (by simp) (fun j hj => ?_)
    obtain rfl : j = i := by simpa using hj
    exact wpOp_mono (fun a' w' ⟨h1, h2⟩ => ⟨h1, wpAnyH_of_mix hs hQ r _ a' w' fuel (by simpa using hf) hb.2 h1 h2⟩) h

/-- A region that draws its order, walked in the order l. -/
theorem wp_region_mix (S : World → Prop) (l : List (Bool × Nat)) {id : Nat} {a : Act} {w : World} (hm : P.follows .mixedOrders = true) (hs : Region.noSelect ops = true) (hl : decide (l.length ≤ ops.size) = true) (hb : mixB ops l (Array.replicate ops.size false) = true)
    (hS : S w.drew) (h : wpMix P ops (NoPanic Q) S l a w.drew) : (Code.region id ops true).wp P Q a w :=
  wp_region_noPanic (wp_region_held hm (wpAnyH_of_mix hs (fun _ _ _ _ _ h => h) l _ a _ ops.size (of_decide_eq_true hl) hb hS h))

theorem wpMix_nil {a : Act} {w : World} (h : Q .normal a w) : wpMix P ops (NoPanic Q) S [] a w := h

/-- A quiet operation. -/
theorem wpMix_q {i : Nat} {r : List (Bool × Nat)} {a : Act} {w : World} {o : Oper} {v : Value} (ho : ops[i]? = some o) (hw : Region.wanted o (yielded ops a.tmps) = true)
    (hy : ∀ w, S w → (execOp a.eval o).run P w = .ok (.value v) w) (h : wpMix P ops Q S r (a.put o.dst v) w) : wpMix P ops Q S ((true, i) :: r) a w :=
  ⟨o, v, ho, .inl ⟨hw, hy⟩, h⟩
/-- A quiet operation whose guard is false. -/
theorem wpMix_u {i : Nat} {r : List (Bool × Nat)} {a : Act} {w : World} {o : Oper} (ho : ops[i]? = some o) (hw : Region.wanted o (yielded ops a.tmps) = false)
    (h : wpMix P ops Q S r (a.put o.dst undef) w) : wpMix P ops Q S ((true, i) :: r) a w :=
  ⟨o, undef, ho, .inr ⟨hw, rfl⟩, h⟩
/-- Any other operation. -/
theorem wpMix_l {i : Nat} {r : List (Bool × Nat)} {a : Act} {w : World} {o : Oper} (ho : ops[i]? = some o) (hw : Region.wanted o (yielded ops a.tmps) = true)
    (h : ∀ K : Act → World → Prop, (∀ a' w', S w' → wpMix P ops Q S r a' w' → K a' w') → o.wp P a w K Q) : wpMix P ops Q S ((false, i) :: r) a w := by
  show wpOp P ops Q i _ a w
  unfold wpOp
  simp only [ho, hw, if_true]
  exact .inl (h _ (fun _ _ h1 h2 => ⟨h1, h2⟩))
theorem wpMix_n {i : Nat} {r : List (Bool × Nat)} {a : Act} {w : World} {o : Oper} (ho : ops[i]? = some o) (hw : Region.wanted o (yielded ops a.tmps) = false)
    (hS : S w) (h : wpMix P ops Q S r (a.put o.dst undef) w) : wpMix P ops Q S ((false, i) :: r) a w := by
  show wpOp P ops Q i _ a w
  unfold wpOp
  simp only [ho, hw, Bool.false_eq_true, if_false]
  exact ⟨hS, h⟩
end
end Go.Proofs.YtplokbmdcfakbaaDoor
set_option linter.unusedSimpArgs false
set_option linter.unusedVariables false
namespace Go.Proofs.YtplokbmdcfakbaaDoor
open Go
section
variable {P : Program} {ops : Array Oper} {Q : Exit → Act → World → Prop} {S : World → Prop} {L : Nat}
def wpAnyZ (P : Program) (ops : Array Oper) (Q : Exit → Act → World → Prop) (S : World → Prop) (L : Nat) : Nat → Array Bool → Act → World → Prop
  | 0, listed, a, w => Region.ready .any ops listed = [] ∧ Q .normal a w
  | fuel + 1, listed, a, w =>
    (Region.ready .any ops listed = [] → Q .normal a w) ∧
    ∀ i ∈ Region.ready .any ops listed, wpOp P ops Q i (fun a' w' => (i ≠ L → S w') ∧ wpAnyZ P ops Q S L fuel (listed.setIfInBounds i true) a' w') a w
theorem wpAny_of_Z : ∀ (fuel : Nat) (listed : Array Bool) (a : Act) (w : World), wpAnyZ P ops Q S L fuel listed a w → wpAny P .any ops Q fuel listed a w
  | 0, _, _, _, h => h
  | fuel + 1, _, _, _, h => ⟨h.1, fun i hi => wpOp_mono (fun a' w' h' => wpAny_of_Z fuel _ a' w' h'.2) (h.2 i hi)⟩
/-- Number L waits for all others. -/
def lastB (ops : Array Oper) (L : Nat) : Bool := (List.range ops.size).all fun k => k == L || ((ops[L]?).map fun o => o.after.any fun e => Region.binds .any e && e.on == k).getD true
theorem lastB_spec {o : Oper} (h : lastB ops L = true) (ho : ops[L]? = some o) (k : Nat) (hk : k < ops.size) (hne : k ≠ L) : ∃ e ∈ o.after, Region.binds .any e = true ∧ e.on = k := by
  have h1 := List.all_eq_true.1 h k (List.mem_range.2 hk)
  simp only [ho, Option.map_some, Option.getD_some, Bool.or_eq_true, beq_iff_eq, hne, false_or] at h1
  obtain ⟨e, he, hb⟩ := Array.any_eq_true'.1 h1
  simp only [Bool.and_eq_true, beq_iff_eq] at hb
  exact ⟨e, he, hb.1, hb.2⟩
theorem wpAnyZ_first (hL : lastB ops L = true) {i : Nat} {oi : Oper} {v : Value} (hi : ops[i]? = some oi) (hsel : ∀ (j : Nat) (o : Oper) cs b, ops[j]? = some o → o.op ≠ .select cs b) (hQ : ∀ c a w, Q (.panic c) (a.put oi.dst v) w → Q (.panic c) a w) :
    ∀ (fuel : Nat) (listed : Array Bool) (a : Act) (w : World),
      (∀ j oj, ops[j]? = some oj → j ≠ i → listed.getD j true = false → (∀ e ∈ oj.after, Region.binds .any e = true → e.on ≠ i) → oi.apart ops oj = true) →
      i ∈ Region.ready .any ops listed → YieldsIf P ops S oi v a → S w →
      wpAnyZ P ops Q S L fuel (listed.setIfInBounds i true) (a.put oi.dst v) w → wpAnyZ P ops Q S L (fuel + 1) listed a w
  | fuel, listed, a, w, hfree, hr, hy, hS, H => by
    refine ⟨fun h => absurd hr (by rw [h]; simp), fun j hj => ?_⟩
    by_cases hji : j = i
    · subst hji
      exact hy.wpOp hi hS ⟨fun _ => hS, H⟩
    · have hin : j ∈ Region.ready .any ops (listed.setIfInBounds i true) := ready_mono hj hji
      match fuel, H with
      | 0, H => rw [H.1] at hin; cases hin
      | fuel + 1, H =>
        obtain ⟨hjun, oj, hoj, hall⟩ := mem_ready.1 hj
        have hnot : ∀ e ∈ oj.after, Region.binds .any e = true → e.on ≠ i := fun e he hb heq => by
          have h1 := hall e he hb
          have h0 := (mem_ready.1 hr).1
          rw [heq] at h1
          rcases Nat.lt_or_ge i listed.size with h' | h'
          · simp [h'] at h0 h1; rw [h0] at h1; cases h1
          · simp [Array.getElem?_eq_none h'] at h1
        have h2 := wpOp_putIf hoj (hfree j oj hoj hji hjun hnot) (fun cs b => hsel i oi cs b hi) (fun cs b => hsel j oj cs b hoj) hQ hy (H.2 j hin)
        have hri : i ∈ Region.ready .any ops (listed.setIfInBounds j true) := ready_mono hr (Ne.symm hji)
        have hfree' : ∀ k ok, ops[k]? = some ok → k ≠ i → (listed.setIfInBounds j true).getD k true = false → (∀ e ∈ ok.after, Region.binds .any e = true → e.on ≠ i) → oi.apart ops ok = true := fun k ok hk hki hun hno => by
          refine hfree k ok hk hki ?_ hno
          by_cases hjk : j = k
          · subst hjk; exact hjun
          · rw [getD_set_ne true hjk] at hun; exact hun
        have hjL : j ≠ L := by
          rintro rfl
          obtain ⟨e, he, hb, hon⟩ := lastB_spec hL hoj i (Array.getElem?_eq_some_iff.1 hi).1 (Ne.symm hji)
          exact hnot e he hb hon
        refine wpOp_mono (fun a' w' h3 => ?_) h2
        have hSw := h3.2.1 hjL
        refine ⟨fun _ => hSw, wpAnyZ_first hL hi hsel hQ fuel (listed.setIfInBounds j true) a' w' hfree' hri h3.1 hSw ?_⟩
        rw [Array.setIfInBounds_comm _ _ hji]
        exact h3.2.2
def wpMixZ (P : Program) (ops : Array Oper) (Q : Exit → Act → World → Prop) (S : World → Prop) (L : Nat) : List (Bool × Nat) → Act → World → Prop
  | [], a, w => Q .normal a w
  | (true, i) :: r, a, w => ∃ o v, ops[i]? = some o ∧ YieldsIf P ops S o v a ∧ wpMixZ P ops Q S L r (a.put o.dst v) w
  | (false, i) :: r, a, w => wpOp P ops Q i (fun a' w' => (i ≠ L → S w') ∧ wpMixZ P ops Q S L r a' w') a w
/-- In the list number L stands last. -/
def endsB (L : Nat) : List (Bool × Nat) → Bool
  | [] => true
  | [_] => true
  | (_, i) :: r => !(i == L) && endsB L r
theorem wpAnyZ_of_mix (hL : lastB ops L = true) (hs : Region.noSelect ops = true) (hQ : ∀ c a d v w, Q (.panic c) (Act.put a d v) w → Q (.panic c) a w) :
    ∀ (l : List (Bool × Nat)) (listed : Array Bool) (a : Act) (w : World) (fuel : Nat), l.length ≤ fuel → mixB ops l listed = true → endsB L l = true → S w → wpMixZ P ops Q S L l a w → wpAnyZ P ops Q S L fuel listed a w
  | [], listed, a, w, 0, _, hb, _, _, h => ⟨by simpa [mixB] using hb, h⟩
  | [], listed, a, w, _ + 1, _, hb, _, _, h => ⟨fun _ => h, fun i hi => by
      have : Region.ready .any ops listed = [] := by simpa [mixB] using hb
      rw [this] at hi; cases hi⟩
  | (true, i) :: r, listed, a, w, 0, hf, _, _, _, _ => by simp at hf
  | (false, i) :: r, listed, a, w, 0, hf, _, _, _, _ => by simp at hf
  | (true, i) :: r, listed, a, w, fuel + 1, hf, hb, he, hS, h => by
    obtain ⟨o, v, ho, hy, hr⟩ := h
    simp only [mixB, Bool.and_eq_true] at hb
    have he' : endsB L r = true := by
      cases r with
      | nil => rfl
      | cons x r => simp only [endsB, Bool.and_eq_true] at he; exact he.2
    exact wpAnyZ_first hL ho (Region.noSelect_spec hs) (fun c a w => hQ c a _ _ w) fuel listed a w (Region.free_spec ho hb.1.1) (by simpa using hb.1.2) hy hS (wpAnyZ_of_mix hL hs hQ r _ _ _ fuel (by simpa using hf) hb.2 he' hS hr)
  | (false, i) :: r, listed, a, w, fuel + 1, hf, hb, he, hS, h => by
    simp only [mixB, Bool.and_eq_true, beq_iff_eq] at hb
    refine ⟨fun h0 => (by rw [hb.1] at h0; cases h0), fun j hj => ?_⟩
    rw [hb.1] at hj
    obtain rfl : j = i := by simpa using hj
    refine wpOp_mono (fun a' w' ⟨h1, h2⟩ => ⟨h1, ?_⟩) h
    cases r with
    | nil =>
      cases fuel with
      | zero => exact ⟨by simpa [mixB] using hb.2, h2⟩
      | succ n => exact ⟨fun _ => h2, fun i hi => by
          have : Region.ready .any ops (listed.setIfInBounds j true) = [] := by simpa [mixB] using hb.2
          rw [this] at hi; cases hi⟩
    | cons x r =>
      simp only [endsB, Bool.and_eq_true, Bool.not_eq_true', beq_eq_false_iff_ne] at he
      exact wpAnyZ_of_mix hL hs hQ (x :: r) _ a' w' fuel (by simpa using hf) hb.2 he.2 (h1 he.1) h2
/-- A region that draws its order, walked in the order l; its last operation, L, waits for all others. -/
theorem wp_region_mixz (S : World → Prop) (L : Nat) (l : List (Bool × Nat)) {id : Nat} {a : Act} {w : World} (hm : P.follows .mixedOrders = true) (hs : Region.noSelect ops = true) (hl : decide (l.length ≤ ops.size) = true) (hb : mixB ops l (Array.replicate ops.size false) = true)
    (hL : lastB ops L = true) (he : endsB L l = true) (hS : S w.drew) (h : wpMixZ P ops (NoPanic Q) S L l a w.drew) : (Code.region id ops true).wp P Q a w :=
  wp_region_noPanic (wp_region_any hm (wpAny_of_Z _ _ _ _ (wpAnyZ_of_mix hL hs (fun _ _ _ _ _ h => h) l _ a _ ops.size (of_decide_eq_true hl) hb he hS h)))
theorem wpMixZ_nil {a : Act} {w : World} (h : Q .normal a w) : wpMixZ P ops (NoPanic Q) S L [] a w := h
theorem wpMixZ_q {i : Nat} {r : List (Bool × Nat)} {a : Act} {w : World} {o : Oper} {v : Value} (ho : ops[i]? = some o) (hw : Region.wanted o (yielded ops a.tmps) = true)
    (hy : ∀ w, S w → (execOp a.eval o).run P w = .ok (.value v) w) (h : wpMixZ P ops Q S L r (a.put o.dst v) w) : wpMixZ P ops Q S L ((true, i) :: r) a w :=
  ⟨o, v, ho, .inl ⟨hw, hy⟩, h⟩
theorem wpMixZ_u {i : Nat} {r : List (Bool × Nat)} {a : Act} {w : World} {o : Oper} (ho : ops[i]? = some o) (hw : Region.wanted o (yielded ops a.tmps) = false)
    (h : wpMixZ P ops Q S L r (a.put o.dst undef) w) : wpMixZ P ops Q S L ((true, i) :: r) a w :=
  ⟨o, undef, ho, .inr ⟨hw, rfl⟩, h⟩
/-- Any other operation but the last. -/
theorem wpMixZ_l {i : Nat} {r : List (Bool × Nat)} {a : Act} {w : World} {o : Oper} (ho : ops[i]? = some o) (hw : Region.wanted o (yielded ops a.tmps) = true)
    (h : ∀ K : Act → World → Prop, (∀ a' w', S w' → wpMixZ P ops Q S L r a' w' → K a' w') → o.wp P a w K Q) : wpMixZ P ops Q S L ((false, i) :: r) a w := by
  show wpOp P ops Q i _ a w
  unfold wpOp
  simp only [ho, hw, if_true]
  exact .inl (h _ (fun _ _ h1 h2 => ⟨fun _ => h1, h2⟩))
/-- The last. -/
theorem wpMixZ_z {r : List (Bool × Nat)} {a : Act} {w : World} {o : Oper} (ho : ops[L]? = some o) (hw : Region.wanted o (yielded ops a.tmps) = true)
    (h : ∀ K : Act → World → Prop, (∀ a' w', wpMixZ P ops Q S L r a' w' → K a' w') → o.wp P a w K Q) : wpMixZ P ops Q S L ((false, L) :: r) a w := by
  show wpOp P ops Q L _ a w
  unfold wpOp
  simp only [ho, hw, if_true]
  exact .inl (h _ (fun _ _ h2 => ⟨fun hne => absurd rfl hne, h2⟩))
end
end Go.Proofs.YtplokbmdcfakbaaDoor
set_option linter.unusedSimpArgs false
set_option linter.unusedVariables false
namespace Go.Proofs.YtplokbmdcfakbaaDoor
open Go
section
variable {P : Program} {ops : Array Oper} {Q : Exit → Act → World → Prop} {S : World → Prop} {L : Nat}
def reachB (ops : Array Oper) : Nat → Nat → Nat → Bool
  | 0, _, _ => false
  | n + 1, j, k => ((ops[j]?).map fun o => o.after.any fun e => Region.binds .any e && (e.on == k || reachB ops n e.on k)).getD false
def lastT (ops : Array Oper) (L : Nat) : Bool := (List.range ops.size).all fun k => k == L || reachB ops ops.size L k
def ClosedL (ops : Array Oper) (listed : Array Bool) : Prop := ∀ (k : Nat) (o : Oper), ops[k]? = some o → listed.getD k false = true → ∀ e ∈ o.after, Region.binds .any e = true → listed.getD e.on false = true
theorem getD_false {listed : Array Bool} {k : Nat} : listed.getD k false = true ↔ listed[k]? = some true := by
  rw [Array.getD_eq_getD_getElem?]
  cases h : listed[k]? with
  | none => simp
  | some b => simp
theorem getD_set_mono {listed : Array Bool} {j k : Nat} (h : listed.getD k false = true) : (listed.setIfInBounds j true).getD k false = true := by
  rw [getD_false] at h ⊢
  rw [Array.getElem?_setIfInBounds]
  split
  · rename_i hjk; subst hjk
    have := (Array.getElem?_eq_some_iff.1 h).1
    simp [this]
  · exact h
theorem getD_set_back {listed : Array Bool} {j k : Nat} (hjk : j ≠ k) (h : (listed.setIfInBounds j true).getD k false = true) : listed.getD k false = true := by
  rw [getD_false] at h ⊢
  rwa [Array.getElem?_setIfInBounds, if_neg hjk] at h
theorem ClosedL.set {listed : Array Bool} (h : ClosedL ops listed) {j : Nat} (hj : j ∈ Region.ready .any ops listed) : ClosedL ops (listed.setIfInBounds j true) := by
  intro k o ho hk e he hb
  obtain ⟨_, oj, hoj, hall⟩ := mem_ready.1 hj
  by_cases hjk : j = k
  · subst hjk
    rw [hoj] at ho
    injection ho with ho
    subst ho
    exact getD_set_mono (hall e he hb)
  · exact getD_set_mono (h k o ho (getD_set_back hjk hk) e he hb)
theorem ClosedL.start (n : Nat) (hn : ops.size ≤ n) : ClosedL ops (Array.replicate n false) := by
  intro k o ho hk
  have hlt := (Array.getElem?_eq_some_iff.1 ho).1
  rw [getD_false, Array.getElem?_replicate, if_pos (by omega)] at hk
  cases hk
theorem reach_listed {listed : Array Bool} (h : ClosedL ops listed) : ∀ (n j k : Nat), reachB ops n j k = true → listed.getD j false = true → listed.getD k false = true
  | 0, _, _, hr, _ => by cases hr
  | n + 1, j, k, hr, hj => by
    unfold reachB at hr
    cases ho : ops[j]? with
    | none => rw [ho] at hr; cases hr
    | some o =>
      rw [ho] at hr
      simp only [Option.map_some, Option.getD_some] at hr
      obtain ⟨e, he, hb⟩ := Array.any_eq_true'.1 hr
      simp only [Bool.and_eq_true, Bool.or_eq_true, beq_iff_eq] at hb
      have h1 := h j o ho hj e he hb.1
      rcases hb.2 with h2 | h2
      · rw [← h2]; exact h1
      · exact reach_listed h n e.on k h2 h1
/-- While another operation is not listed, L is not ready. -/
theorem lastT_spec (h : lastT ops L = true) {listed : Array Bool} (hc : ClosedL ops listed) (hr : L ∈ Region.ready .any ops listed) (k : Nat) (hk : k < ops.size) (hne : k ≠ L) : listed.getD k false = true := by
  have h1 := List.all_eq_true.1 h k (List.mem_range.2 hk)
  simp only [Bool.or_eq_true, beq_iff_eq, hne, false_or] at h1
  obtain ⟨_, o, ho, hall⟩ := mem_ready.1 hr
  cases hn : ops.size with
  | zero => omega
  | succ n =>
    rw [hn] at h1
    unfold reachB at h1
    rw [ho] at h1
    simp only [Option.map_some, Option.getD_some] at h1
    obtain ⟨e, he, hb⟩ := Array.any_eq_true'.1 h1
    simp only [Bool.and_eq_true, Bool.or_eq_true, beq_iff_eq] at hb
    have h2 := hall e he hb.1
    rcases hb.2 with h3 | h3
    · rw [← h3]; exact h2
    · exact reach_listed hc n e.on k h3 h2
theorem wpAnyT_first (hL : lastT ops L = true) {i : Nat} {oi : Oper} {v : Value} (hi : ops[i]? = some oi) (hsel : ∀ (j : Nat) (o : Oper) cs b, ops[j]? = some o → o.op ≠ .select cs b) (hQ : ∀ c a w, Q (.panic c) (a.put oi.dst v) w → Q (.panic c) a w) :
    ∀ (fuel : Nat) (listed : Array Bool) (a : Act) (w : World), ClosedL ops listed →
      (∀ j oj, ops[j]? = some oj → j ≠ i → listed.getD j true = false → (∀ e ∈ oj.after, Region.binds .any e = true → e.on ≠ i) → oi.apart ops oj = true) →
      i ∈ Region.ready .any ops listed → YieldsIf P ops S oi v a → S w →
      wpAnyZ P ops Q S L fuel (listed.setIfInBounds i true) (a.put oi.dst v) w → wpAnyZ P ops Q S L (fuel + 1) listed a w
  | fuel, listed, a, w, hcl, hfree, hr, hy, hS, H => by
    refine ⟨fun h => absurd hr (by rw [h]; simp), fun j hj => ?_⟩
    by_cases hji : j = i
    · subst hji
      exact hy.wpOp hi hS ⟨fun _ => hS, H⟩
    · have hin : j ∈ Region.ready .any ops (listed.setIfInBounds i true) := ready_mono hj hji
      match fuel, H with
      | 0, H => rw [H.1] at hin; cases hin
      | fuel + 1, H =>
        obtain ⟨hjun, oj, hoj, hall⟩ := mem_ready.1 hj
        have hiun := (mem_ready.1 hr).1
        have hnot : ∀ e ∈ oj.after, Region.binds .any e = true → e.on ≠ i := fun e he hb heq => by
          have h1 := hall e he hb
          rw [heq] at h1
          rcases Nat.lt_or_ge i listed.size with h' | h'
          · simp [h'] at hiun h1; rw [hiun] at h1; cases h1
          · simp [Array.getElem?_eq_none h'] at h1
        have h2 := wpOp_putIf hoj (hfree j oj hoj hji hjun hnot) (fun cs b => hsel i oi cs b hi) (fun cs b => hsel j oj cs b hoj) hQ hy (H.2 j hin)
        have hri : i ∈ Region.ready .any ops (listed.setIfInBounds j true) := ready_mono hr (Ne.symm hji)
        have hfree' : ∀ k ok, ops[k]? = some ok → k ≠ i → (listed.setIfInBounds j true).getD k true = false → (∀ e ∈ ok.after, Region.binds .any e = true → e.on ≠ i) → oi.apart ops ok = true := fun k ok hk hki hun hno => by
          refine hfree k ok hk hki ?_ hno
          by_cases hjk : j = k
          · subst hjk; exact hjun
          · rw [getD_set_ne true hjk] at hun; exact hun
        have hjL : j ≠ L := by
          rintro rfl
          have := lastT_spec hL hcl hj i (Array.getElem?_eq_some_iff.1 hi).1 (Ne.symm hji)
          rw [getD_false] at this
          rw [Array.getD_eq_getD_getElem?, this] at hiun; cases hiun
        refine wpOp_mono (fun a' w' h3 => ?_) h2
        have hSw := h3.2.1 hjL
        refine ⟨fun _ => hSw, wpAnyT_first hL hi hsel hQ fuel (listed.setIfInBounds j true) a' w' (hcl.set hj) hfree' hri h3.1 hSw ?_⟩
        rw [Array.setIfInBounds_comm _ _ hji]
        exact h3.2.2
theorem wpAnyT_of_mix (hL : lastT ops L = true) (hs : Region.noSelect ops = true) (hQ : ∀ c a d v w, Q (.panic c) (Act.put a d v) w → Q (.panic c) a w) :
    ∀ (l : List (Bool × Nat)) (listed : Array Bool) (a : Act) (w : World) (fuel : Nat), ClosedL ops listed → l.length ≤ fuel → mixB ops l listed = true → endsB L l = true → S w → wpMixZ P ops Q S L l a w → wpAnyZ P ops Q S L fuel listed a w
  | [], listed, a, w, 0, _, _, hb, _, _, h => ⟨by simpa [mixB] using hb, h⟩
  | [], listed, a, w, _ + 1, _, _, hb, _, _, h => ⟨fun _ => h, fun i hi => by
      have : Region.ready .any ops listed = [] := by simpa [mixB] using hb
      rw [this] at hi; cases hi⟩
  | (true, i) :: r, listed, a, w, 0, _, hf, _, _, _, _ => by simp at hf
  | (false, i) :: r, listed, a, w, 0, _, hf, _, _, _, _ => by simp at hf
  | (true, i) :: r, listed, a, w, fuel + 1, hcl, hf, hb, he, hS, h => by
    obtain ⟨o, v, ho, hy, hr⟩ := h
    simp only [mixB, Bool.and_eq_true] at hb
    have he' : endsB L r = true := by
      cases r with
      | nil => rfl
      | cons x r => simp only [endsB, Bool.and_eq_true] at he; exact he.2
    have hrd : i ∈ Region.ready .any ops listed := by simpa using hb.1.2
    exact wpAnyT_first hL ho (Region.noSelect_spec hs) (fun c a w => hQ c a _ _ w) fuel listed a w hcl (Region.free_spec ho hb.1.1) hrd hy hS (wpAnyT_of_mix hL hs hQ r _ _ _ fuel (hcl.set hrd) (by simpa using hf) hb.2 he' hS hr)
  | (false, i) :: r, listed, a, w, fuel + 1, hcl, hf, hb, he, hS, h => by
    simp only [mixB, Bool.and_eq_true, beq_iff_eq] at hb
    refine ⟨fun h0 => (by rw [hb.1] at h0; cases h0), fun j hj => ?_⟩
    have hj0 := hj
    rw [hb.1] at hj
    obtain rfl : j = i := by simpa using hj
    refine wpOp_mono (fun a' w' ⟨h1, h2⟩ => ⟨h1, ?_⟩) h
    cases r with
    | nil =>
      cases fuel with
      | zero => exact ⟨by simpa [mixB] using hb.2, h2⟩
      | succ n => exact ⟨fun _ => h2, fun i hi => by
          have : Region.ready .any ops (listed.setIfInBounds j true) = [] := by simpa [mixB] using hb.2
          rw [this] at hi; cases hi⟩
    | cons x r =>
      simp only [endsB, Bool.and_eq_true, Bool.not_eq_true', beq_eq_false_iff_ne] at he
      exact wpAnyT_of_mix hL hs hQ (x :: r) _ a' w' fuel (hcl.set hj0) (by simpa using hf) hb.2 he.2 (h1 he.1) h2
/-- A region that draws its order, walked in the order l; its last operation, L, waits for all others. -/
theorem wp_region_mixt (S : World → Prop) (L : Nat) (l : List (Bool × Nat)) {id : Nat} {a : Act} {w : World} (hm : P.follows .mixedOrders = true) (hs : Region.noSelect ops = true) (hl : decide (l.length ≤ ops.size) = true) (hb : mixB ops l (Array.replicate ops.size false) = true)
    (hL : lastT ops L = true) (he : endsB L l = true) (hS : S w.drew) (h : wpMixZ P ops (NoPanic Q) S L l a w.drew) : (Code.region id ops true).wp P Q a w :=
  wp_region_noPanic (wp_region_any hm (wpAny_of_Z _ _ _ _ (wpAnyT_of_mix hL hs (fun _ _ _ _ _ h => h) l _ a _ ops.size (ClosedL.start _ (Nat.le_refl _)) (of_decide_eq_true hl) hb he hS h)))
end
end Go.Proofs.YtplokbmdcfakbaaDoor
set_option linter.unusedSimpArgs false
set_option linter.unusedVariables false
namespace Go.Proofs.YtplokbmdcfakbaaDoor
open Go.RowKit
def isG : Ans → Bool
  | .frz _ | .frzr _ _ | .norm _ | .resv _ | .nil _ _ | .nrow _ _ _ | .brow _ _ _ | .tod _ | .rerow _ _ | .kill _ => true
  | _ => false
def gos (wr : Nat → Prop) (st : St) : List Ans → Option OR
  | [] => some ⟨st, [], [], [], false⟩
  | q :: r => match isG q with
    | true => match ghost1 wr st q with
      | some g => match gos wr g.st r with
        | some x => some ⟨x.st, x.qs, g.p ++ x.p, g.ch ++ x.ch, g.gr || x.gr⟩
        | none => none
      | none => none
    | false => some ⟨st, q :: r, [], [], false⟩
/-- ghosts that stand ahead of one place -/
def gosAt (wr : Nat → Prop) (n i : Nat) (st : St) : List Ans → Option OR
  | .at_ n' i' :: qs => match Nat.beq n' n && Nat.beq i' i with
    | true => gos wr st qs
    | false => some ⟨st, .at_ n' i' :: qs, [], [], false⟩
  | qs => some ⟨st, qs, [], [], false⟩
def gck0 (st : St) (d : Nat) (want : Bool) (qs : List Ans) : Option (Bool × St × List Ans × List Prop) := match lk st.T d with
  | some (.lf (.bool true)) => some (true == want, st, qs, [])
  | some (.lf (.bool false)) => some (false == want, st, qs, [])
  | some (.raw (.tuple _)) => some (false, st, qs, [])
  | _ => none
/-- is the operation wanted? -/
def gck (n : Nat) (ops : Array Oper) (st : St) (o : Oper) (qs : List Ans) : Option (Bool × St × List Ans × List Prop) :=
  match o.guard with
  | none => some (true, st, qs, [])
  | some (j, want) => match (ops[j]?).bind (·.dst) with
    | none => none
    | some d => match qs with
      | .gd j' b :: qs' => match Nat.beq j' (n * 1000 + j) with
        | true => match lk st.T d with
          | some (.lf (.bool x)) => some (b == want, ⟨(d, .lf (.bool b)) :: st.T, st.H⟩, qs', [x = b])
          | _ => none
        | false => gck0 st d want qs
      | _ => gck0 st d want qs
def runO (P : Program) (G : Gh → Prop) (tt : TT) (nt : Nat) (wr : Nat → Prop) (ops : Array Oper) (n : Nat) : List Nat → St → List Ans → Option OR
  | [], st, qs => some ⟨st, qs, [], [], false⟩
  | i :: r, st, qs => match ops[i]? with
    | none => none
    | some o => match gosAt wr n i st qs with
      | none => none
      | some g => match gck n ops g.st o g.qs with
        | some (true, st1, qs1, p1) => match lev P G tt nt st1 o qs1 with
          | some x => match runO P G tt nt wr ops n r x.st x.qs with
            | some y => some ⟨y.st, y.qs, g.p ++ (p1 ++ (x.p ++ y.p)), [], false⟩
            | none => none
          | none => none
        | some (false, st1, qs1, p1) => match putT nt st1.T o.dst (.raw undef) with
          | some T' => match runO P G tt nt wr ops n r ⟨T', st1.H⟩ qs1 with
            | some y => some ⟨y.st, y.qs, g.p ++ (p1 ++ y.p), [], false⟩
            | none => none
          | none => none
        | none => none
theorem Keep1.trans {ch ch' : List Nat} {gr gr' : Bool} {e e' e'' : Env} {C C' C'' : Nat → List Value} {H H' H'' : List Slot} {w' w'' : World} (h : Keep1 ch gr e C H e' C' H' w') (k : Keep1 ch' gr' e' C' H' e'' C'' H'' w'') (hi : Inv e.I w'') : Keep1 (ch ++ ch') (gr || gr') e C H e'' C'' H'' w'' where
  le := h.le.trans k.le
  I := fun hg => by
    rw [Bool.or_eq_false_iff] at hg
    rw [k.I hg.2, h.I hg.1]
  lk := fun b s hb hne hl => by
    rw [List.mem_append, not_or] at hne
    obtain ⟨s', h1, h2, h3⟩ := h.lk b s hb hne.1 hl
    obtain ⟨s'', k1, k2, k3⟩ := k.lk b s' h1 hne.2 h2
    exact ⟨s'', k1, k2, fun w hw => h3 w (k3 w hw)⟩
  inv := hi
theorem Inv.le {I I' : Gh} {w : World} (h : Inv I' w) (k : Le I I') : Inv I w := fun b o v e => h b o v (k b o v e)
theorem gos_ok {c : Ctx} (hc : c.Ok) : ∀ {qs : List Ans} {st : St} {r : OR}, gos c.wr st qs = some r → AllP r.p → GOp c st r.st r.ch r.gr
  | [], st, r, h, hp => by
    simp only [gos] at h
    injection h with h
    subst h
    exact fun e C a w hR => ⟨e, C, hR, Keep1.same hR⟩
  | q :: qs, st, r, h, hp => by
    simp only [gos] at h
    split at h
    · split at h
      · rename_i g hg
        split at h
        · rename_i x hx
          injection h with h
          subst h
          obtain ⟨h1, h2⟩ := AllP.app hp
          intro e C a w hR
          obtain ⟨e1, C1, k1, k2⟩ := ghost1_ok hc hg h1 e C a w hR
          obtain ⟨e2, C2, k3, k4⟩ := gos_ok hc hx h2 e1 C1 a w k1
          exact ⟨e2, C2, k3, k2.trans k4 hR.mem.inv⟩
        · cases h
      · cases h
    · injection h with h
      subst h
      exact fun e C a w hR => ⟨e, C, hR, Keep1.same hR⟩
theorem gosAt_ok {c : Ctx} (hc : c.Ok) {n i : Nat} {qs : List Ans} {st : St} {r : OR} (h : gosAt c.wr n i st qs = some r) (hp : AllP r.p) : GOp c st r.st r.ch r.gr := by
  unfold gosAt at h
  split at h
  · split at h
    · exact gos_ok hc h hp
    · injection h with h; subst h
      exact fun e C a w hR => ⟨e, C, hR, Keep1.same hR⟩
  · injection h with h; subst h
    exact fun e C a w hR => ⟨e, C, hR, Keep1.same hR⟩
theorem gck_ok {c : Ctx} {n : Nat} {ops : Array Oper} {st st' : St} {o : Oper} {qs qs' : List Ans} {bw : Bool} {p : List Prop} (h : gck n ops st o qs = some (bw, st', qs', p)) (hp : AllP p) {e : Env} {C : Nat → List Value} {a : Act} {w : World} (hR : Rep c e C st a w) :
    Rep c e C st' a w ∧ st'.H = st.H ∧ Region.wanted o (yielded ops a.tmps) = bw := by
  have g0 : ∀ {d : Nat} {j : Nat} {want : Bool}, o.guard = some (j, want) → (ops[j]?).bind (·.dst) = some d → gck0 st d want qs = some (bw, st', qs', p) → Rep c e C st' a w ∧ st'.H = st.H ∧ Region.wanted o (yielded ops a.tmps) = bw := fun {d j want} hg hd h => by
    unfold gck0 at h
    split at h
    · rename_i hl
      injection h with h; injection h with h1 h2; injection h2 with h2 h3
      subst h1 h2
      obtain ⟨u, k1, k2⟩ := hR.tmp d _ hl
      have k2 := k2.bool
      subst k2
      refine ⟨hR, rfl, ?_⟩
      simp only [Region.wanted, hg, yielded, hd, Option.bind_some, k1]
      cases want <;> rfl
    · rename_i hl
      injection h with h; injection h with h1 h2; injection h2 with h2 h3
      subst h1 h2
      obtain ⟨u, k1, k2⟩ := hR.tmp d _ hl
      have k2 := k2.bool
      subst k2
      refine ⟨hR, rfl, ?_⟩
      simp only [Region.wanted, hg, yielded, hd, Option.bind_some, k1]
      cases want <;> rfl
    · rename_i hl
      injection h with h; injection h with h1 h2; injection h2 with h2 h3
      subst h1 h2
      obtain ⟨u, k1, k2⟩ := hR.tmp d _ hl
      unfold VR at k2
      subst k2
      refine ⟨hR, rfl, ?_⟩
      simp only [Region.wanted, hg, yielded, hd, Option.bind_some, k1]
      cases want <;> rfl
    · cases h
  unfold gck at h
  split at h
  · rename_i hg
    injection h with h; injection h with h1 h2; injection h2 with h2 h3
    subst h1 h2
    exact ⟨hR, rfl, by simp only [Region.wanted, hg]⟩
  · rename_i j want hg
    split at h
    · cases h
    · rename_i d hd
      split at h
      · rename_i j' b qs1
        split at h
        · split at h
          · rename_i x hl
            injection h with h; injection h with h1 h2; injection h2 with h2 h3; injection h3 with h3 h4
            subst h1 h2 h4
            obtain ⟨u, k1, k2⟩ := hR.tmp d _ hl
            have hx : x = b := hp.1
            subst hx
            refine ⟨⟨hR.tmp.put1 hl (fun v hv => hv), hR.size, hR.defers, hR.mem⟩, rfl, ?_⟩
            have k2 := k2.bool
            subst k2
            simp only [Region.wanted, hg, yielded, hd, Option.bind_some, k1]
            cases want <;> cases x <;> rfl
          · cases h
        · exact g0 hg hd h
      · exact g0 hg hd h
theorem runO_ok {c : Ctx} (hc : c.Ok) {ops : Array Oper} {n : Nat} {Q : Exit → Act → World → Prop} : ∀ {l : List Nat} {st : St} {qs : List Ans} {r : OR}, runO c.P c.G c.tt c.nt c.wr ops n l st qs = some r → AllP r.p → ∀ {e : Env} {C : Nat → List Value} {a : Act} {w : World}, Rep c e C st a w →
    (∀ e' C' a' w', Rep c e' C' r.st a' w' → Q .normal a' w') → wpOps c.P ops Q l a w
  | [], st, qs, r, h, hp, e, C, a, w, hR, hQ => by
    simp only [runO] at h
    injection h with h
    subst h
    exact hQ e C a w hR
  | i :: l, st, qs, r, h, hp, e, C, a, w, hR, hQ => by
    simp only [runO] at h
    split at h
    · cases h
    · rename_i o ho
      split at h
      · cases h
      · rename_i g hg
        split at h
        · rename_i st1 qs1 p1 hk
          split at h
          · rename_i x hx
            split at h
            · rename_i y hy
              injection h with h
              subst h
              obtain ⟨q1, q2⟩ := AllP.app hp
              obtain ⟨q2, q3⟩ := AllP.app q2
              obtain ⟨q3, q4⟩ := AllP.app q3
              obtain ⟨e1, C1, k1, _⟩ := gosAt_ok hc hg q1 e C a w hR
              obtain ⟨k3, k4, k5⟩ := gck_ok hk q2 k1
              unfold wpOps
              simp only [ho, k5, if_true]
              exact .inl (lev_ok hc hx q3 e1 C1 a w _ _ k3 fun e2 C2 a2 w2 m1 _ => runO_ok hc hy q4 m1 hQ)
            · cases h
          · cases h
        · rename_i st1 qs1 p1 hk
          split at h
          · rename_i T' hT
            split at h
            · rename_i y hy
              injection h with h
              subst h
              obtain ⟨q1, q2⟩ := AllP.app hp
              obtain ⟨q2, q3⟩ := AllP.app q2
              obtain ⟨e1, C1, k1, _⟩ := gosAt_ok hc hg q1 e C a w hR
              obtain ⟨k3, k4, k5⟩ := gck_ok hk q2 k1
              obtain ⟨m1, m2, m3⟩ := putT_rel hT k3.tmp k3.size (by unfold VR; rfl : VR e1 (.raw undef) undef)
              unfold wpOps
              simp only [ho, k5, Bool.false_eq_true, if_false]
              exact runO_ok hc hy q3 ⟨m1, m2, m3.trans k3.defers, k3.mem⟩ hQ
            · cases h
          · cases h
        · cases h
/-! ### regions that draw their order -/
def maskS (ch : List Nat) : Nat → List Slot → List Slot
  | _, [] => []
  | k, s :: r => (match ch.contains k with
    | true => .dead
    | false => match s with
      | .free => .dead
      | s => s) :: maskS ch (k + 1) r
theorem maskS_at {ch : List Nat} : ∀ (H : List Slot) (k b : Nat) (s : Slot), (maskS ch k H)[b]? = some s → s = .dead ∨ (H[b]? = some s ∧ s ≠ .free ∧ ch.contains (k + b) = false)
  | [], k, b, s, h => by simp [maskS] at h
  | x :: r, k, b, s, h => by
    unfold maskS at h
    cases b with
    | zero =>
      simp only [List.getElem?_cons_zero, Option.some.injEq] at h
      split at h
      · exact .inl h.symm
      · rename_i hc
        split at h
        · exact .inl h.symm
        · rename_i hf
          subst h
          exact .inr ⟨rfl, hf, by simpa using hc⟩
    | succ b =>
      simp only [List.getElem?_cons_succ] at h
      rcases maskS_at r (k + 1) b s h with h1 | ⟨h1, h2, h3⟩
      · exact .inl h1
      · exact .inr ⟨by simpa using h1, h2, by rw [show k + (b + 1) = k + 1 + b by omega]; exact h3⟩
def subL (l m : List Nat) : Bool := l.all fun x => m.contains x
def runM (P : Program) (G : Gh → Prop) (tt : TT) (nt : Nat) (wr : Nat → Prop) (ops : Array Oper) (n : Nat) (H0 : List Slot) (L : Nat) (ch0 : List Nat) : List (Bool × Nat) → Bool → St → List Ans → Option OR
  | [], _, st, qs => some ⟨st, qs, [], [], false⟩
  | (true, i) :: r, gr, st, qs => match ops[i]? with
    | none => none
    | some o => match gck n ops st o qs with
      | some (true, st1, qs1, p1) => match qev P tt (!gr) st1.T H0 o.op qs1 with
        | some (v, qs2, p2) => match putT nt st1.T o.dst v with
          | some T' => match runM P G tt nt wr ops n H0 L ch0 r gr ⟨T', st1.H⟩ qs2 with
            | some y => some ⟨y.st, y.qs, p1 ++ (p2 ++ y.p), [], false⟩
            | none => none
          | none => none
        | none => none
      | some (false, st1, qs1, p1) => match putT nt st1.T o.dst (.raw undef) with
        | some T' => match runM P G tt nt wr ops n H0 L ch0 r gr ⟨T', st1.H⟩ qs1 with
          | some y => some ⟨y.st, y.qs, p1 ++ y.p, [], false⟩
          | none => none
        | none => none
      | none => none
  | (false, i) :: r, gr, st, qs => match ops[i]? with
    | none => none
    | some o => match gosAt wr n i st qs with
      | none => none
      | some g => match subL g.ch ch0 with
        | false => none
        | true => match gck n ops g.st o g.qs with
          | some (true, st1, qs1, p1) => match lev P G tt nt st1 o qs1 with
            | some x => match Nat.beq i L || subL x.ch ch0 with
              | true => match runM P G tt nt wr ops n H0 L ch0 r (gr || (g.gr || x.gr)) x.st x.qs with
                | some y => some ⟨y.st, y.qs, g.p ++ (p1 ++ (x.p ++ y.p)), [], false⟩
                | none => none
              | false => none
            | none => none
          | some (false, st1, qs1, p1) => match putT nt st1.T o.dst (.raw undef) with
            | some T' => match runM P G tt nt wr ops n H0 L ch0 r (gr || g.gr) ⟨T', st1.H⟩ qs1 with
              | some y => some ⟨y.st, y.qs, g.p ++ (p1 ++ y.p), [], false⟩
              | none => none
            | none => none
          | none => none
/-- what the region's quiet operations lean on -/
def SReg (e0 : Env) (C0 : Nat → List Value) (H0 : List Slot) (w : World) : Prop := Inv e0.I w ∧ HWs e0 C0 w H0
structure Lnk (gr : Bool) (e0 : Env) (C0 : Nat → List Value) (H0 : List Slot) (ch0 : List Nat) (e : Env) (C : Nat → List Value) (H : List Slot) : Prop where
  le : e0.le e
  I : gr = false → e.I = e0.I
  lk : ∀ b s, H0[b]? = some s → s.live → b ∉ ch0 ∧ ∃ s', H[b]? = some s' ∧ s'.live ∧ ∀ w, HW e C w b s' → HW e0 C0 w b s
theorem subL_ok {l m : List Nat} (h : subL l m = true) {b : Nat} (hb : b ∉ m) : b ∉ l := fun h1 => hb (by
  have := List.all_eq_true.1 h b h1
  simpa using this)
theorem Lnk.step {gr : Bool} {e0 : Env} {C0 : Nat → List Value} {H0 : List Slot} {ch0 : List Nat} {e : Env} {C : Nat → List Value} {H : List Slot} (h : Lnk gr e0 C0 H0 ch0 e C H) {ch : List Nat} {gr' : Bool} {e' : Env} {C' : Nat → List Value} {H' : List Slot} {w' : World} (k : Keep1 ch gr' e C H e' C' H' w') (hs : subL ch ch0 = true) : Lnk (gr || gr') e0 C0 H0 ch0 e' C' H' where
  le := h.le.trans k.le
  I := fun hg => by
    rw [Bool.or_eq_false_iff] at hg
    rw [k.I hg.2, h.I hg.1]
  lk := fun b s hb hl => by
    obtain ⟨h1, s', h2, h3, h4⟩ := h.lk b s hb hl
    obtain ⟨s'', k1, k2, k3⟩ := k.lk b s' h2 (subL_ok hs h1) h3
    exact ⟨h1, s'', k1, k2, fun w hw => h4 w (k3 w hw)⟩
theorem Lnk.sreg {c : Ctx} {gr : Bool} {e0 : Env} {C0 : Nat → List Value} {H0 : List Slot} {ch0 : List Nat} {e : Env} {C : Nat → List Value} {H : List Slot} {w : World} (h : Lnk gr e0 C0 H0 ch0 e C H) (hM : Mem c e C H w) : SReg e0 C0 H0 w := by
  refine ⟨hM.inv.le h.le.I, fun b s hb => ?_⟩
  by_cases hl : s.live
  · obtain ⟨_, s', h2, _, h4⟩ := h.lk b s hb hl
    exact h4 w (hM.hw b s' h2)
  · cases s with
    | box ty cs => exact absurd trivial hl
    | row ty n l => exact absurd trivial hl
    | dead => trivial
    | free => trivial
    | map P1 k1 e1 l1 => exact absurd trivial hl
theorem runM_ok {c : Ctx} (hc : c.Ok) {ops : Array Oper} {n : Nat} {Q : Exit → Act → World → Prop} {e0 : Env} {C0 : Nat → List Value} {H0 : List Slot} {L : Nat} {ch0 : List Nat} (hf : ∀ (b : Nat) (s : Slot), H0[b]? = some s → s ≠ Slot.free) (hv0 : HVs e0 C0 H0) : ∀ {l : List (Bool × Nat)} {gr : Bool} {st : St} {qs : List Ans} {r : OR}, runM c.P c.G c.tt c.nt c.wr ops n H0 L ch0 l gr st qs = some r → endsB L l = true → AllP r.p →
    ∀ {e : Env} {C : Nat → List Value} {a : Act} {w : World}, Rep c e C st a w → Lnk gr e0 C0 H0 ch0 e C st.H → (∀ e' C' a' w', Rep c e' C' r.st a' w' → Q .normal a' w') → wpMixZ c.P ops Q (SReg e0 C0 H0) L l a w
  | [], gr, st, qs, r, h, hE, hp, e, C, a, w, hR, hL, hQ => by
    simp only [runM] at h
    injection h with h
    subst h
    exact hQ e C a w hR
  | (true, i) :: l, gr, st, qs, r, h, hE, hp, e, C, a, w, hR, hL, hQ => by
    have hE' : endsB L l = true := by
      cases l with
      | nil => rfl
      | cons x r => simp only [endsB, Bool.and_eq_true] at hE; exact hE.2
    simp only [runM] at h
    split at h
    · cases h
    · rename_i o ho
      split at h
      · rename_i st1 qs1 p1 hk
        split at h
        · rename_i v qs2 p2 hq
          split at h
          · rename_i T' hT
            split at h
            · rename_i y hy
              injection h with h
              subst h
              obtain ⟨q1, q2⟩ := AllP.app hp
              obtain ⟨q2, q3⟩ := AllP.app q2
              obtain ⟨k3, k4, k5⟩ := gck_ok hk q1 hR
              have hv1 : HVs e C0 H0 := fun b s hb => HV_mono hL.le rfl (hf b s hb) (hv0 b s hb)
              obtain ⟨u, m1, m2⟩ := qev_ok hc.tt k3.tmp hv1 rfl hq q2
              obtain ⟨n1, n2, n3⟩ := putT_rel hT k3.tmp k3.size m1
              refine ⟨o, u, ho, .inl ⟨k5, fun w' hS => m2 w' fun hm => ⟨by rw [hL.I (by simpa using hm)]; exact hS.1, fun b s hb => ?_⟩⟩, runM_ok hc hf hv0 hy hE' q3 ⟨n1, n2, n3.trans k3.defers, k3.mem⟩ (by rw [show (⟨T', st1.H⟩ : St).H = st.H from k4]; exact hL) hQ⟩
              by_cases hl : s.live
              · exact (HW_le hL.le (live_ok (hv0 b s hb) hl) rfl).2 (hS.2 b s hb)
              · cases s with
                | box ty cs => exact absurd trivial hl
                | row ty n l => exact absurd trivial hl
                | dead => trivial
                | free => trivial
                | map P1 k1 e1 l1 => exact absurd trivial hl
            · cases h
          · cases h
        · cases h
      · rename_i st1 qs1 p1 hk
        split at h
        · rename_i T' hT
          split at h
          · rename_i y hy
            injection h with h
            subst h
            obtain ⟨q1, q2⟩ := AllP.app hp
            obtain ⟨k3, k4, k5⟩ := gck_ok hk q1 hR
            obtain ⟨n1, n2, n3⟩ := putT_rel hT k3.tmp k3.size (by unfold VR; rfl : VR e (.raw undef) undef)
            exact ⟨o, undef, ho, .inr ⟨k5, rfl⟩, runM_ok hc hf hv0 hy hE' q2 ⟨n1, n2, n3.trans k3.defers, k3.mem⟩ (by rw [show (⟨T', st1.H⟩ : St).H = st.H from k4]; exact hL) hQ⟩
          · cases h
        · cases h
      · cases h
  | (false, i) :: l, gr, st, qs, r, h, hE, hp, e, C, a, w, hR, hL, hQ => by
    have hE' : endsB L l = true := by
      cases l with
      | nil => rfl
      | cons x r => simp only [endsB, Bool.and_eq_true] at hE; exact hE.2
    simp only [runM] at h
    split at h
    · cases h
    · rename_i o ho
      split at h
      · cases h
      · rename_i g hg
        split at h
        · cases h
        · rename_i hsub
          split at h
          · rename_i st1 qs1 p1 hk
            split at h
            · rename_i x hx
              split at h
              · rename_i hsx
                split at h
                · rename_i y hy
                  injection h with h
                  subst h
                  obtain ⟨q1, q2⟩ := AllP.app hp
                  obtain ⟨q2, q3⟩ := AllP.app q2
                  obtain ⟨q3, q4⟩ := AllP.app q3
                  obtain ⟨e1, C1, k1, k2⟩ := gosAt_ok hc hg q1 e C a w hR
                  obtain ⟨k3, k4, k5⟩ := gck_ok hk q2 k1
                  have hL1 := hL.step k2 hsub
                  by_cases hiL : i = L
                  · subst hiL
                    refine wpMixZ_z ho k5 fun K hK => lev_ok hc hx q3 e1 C1 a w _ _ k3 fun e2 C2 a2 w2 m1 m2 => hK a2 w2 ?_
                    cases l with
                    | nil =>
                      simp only [runM] at hy
                      injection hy with hy
                      subst hy
                      exact hQ e2 C2 a2 w2 m1
                    | cons z l => simp [endsB] at hE
                  · have hsx' : subL x.ch ch0 = true := by
                      rw [Bool.or_eq_true] at hsx
                      rcases hsx with h1 | h1
                      · exact absurd (beq_nat h1) hiL
                      · exact h1
                    refine wpMixZ_l ho k5 fun K hK => lev_ok hc hx q3 e1 C1 a w _ _ k3 fun e2 C2 a2 w2 m1 m2 => ?_
                    have hL2 : Lnk (gr || (g.gr || x.gr)) e0 C0 H0 ch0 e2 C2 x.st.H := by
                      have := (show Lnk (gr || g.gr) e0 C0 H0 ch0 e1 C1 st1.H by rw [k4]; exact hL1).step m2 hsx'
                      rwa [Bool.or_assoc] at this
                    exact hK a2 w2 (hL2.sreg m1.mem) (runM_ok hc hf hv0 hy hE' q4 m1 hL2 hQ)
                · cases h
              · cases h
            · cases h
          · rename_i st1 qs1 p1 hk
            split at h
            · rename_i T' hT
              split at h
              · rename_i y hy
                injection h with h
                subst h
                obtain ⟨q1, q2⟩ := AllP.app hp
                obtain ⟨q2, q3⟩ := AllP.app q2
                obtain ⟨e1, C1, k1, k2⟩ := gosAt_ok hc hg q1 e C a w hR
                obtain ⟨k3, k4, k5⟩ := gck_ok hk q2 k1
                have hL1 := hL.step k2 hsub
                obtain ⟨n1, n2, n3⟩ := putT_rel hT k3.tmp k3.size (by unfold VR; rfl : VR e1 (.raw undef) undef)
                show wpOp c.P ops Q i _ a w
                unfold wpOp
                simp only [ho, k5, Bool.false_eq_true, if_false]
                have hL2 : Lnk (gr || g.gr) e0 C0 H0 ch0 e1 C1 (⟨T', st1.H⟩ : St).H := by
                  show Lnk _ _ _ _ _ _ _ st1.H
                  rw [k4]; exact hL1
                exact ⟨fun _ => hL2.sreg k3.mem, runM_ok hc hf hv0 hy hE' q3 ⟨n1, n2, n3.trans k3.defers, k3.mem⟩ hL2 hQ⟩
              · cases h
            · cases h
          · cases h
end Go.Proofs.YtplokbmdcfakbaaDoor
set_option linter.unusedSimpArgs false
set_option linter.unusedVariables false
namespace Go.Proofs.YtplokbmdcfakbaaDoor
open Go Go.RowKit
def heads : RT → List Nat
  | .alt i _ r => i :: heads r
  | .l i _ => [i]
  | _ => []
mutual
def rtB (ops : Array Oper) : RT → Array Bool → Bool
  | .fin, listed => (Region.ready .any ops listed).isEmpty
  | .q i r, listed => Region.free .any ops listed i && (Region.ready .any ops listed).contains i && rtB ops r (listed.setIfInBounds i true)
  | .l i r, listed => (Region.ready .any ops listed == [i]) && rtB ops r (listed.setIfInBounds i true)
  | .alt i ri r, listed => (Region.ready .any ops listed == i :: heads r) && rtB ops ri (listed.setIfInBounds i true) && rtC ops r listed
def rtC (ops : Array Oper) : RT → Array Bool → Bool
  | .l i r, listed => rtB ops r (listed.setIfInBounds i true)
  | .alt i ri r, listed => rtB ops ri (listed.setIfInBounds i true) && rtC ops r listed
  | _, _ => false
end
def RT.isFin : RT → Bool
  | .fin => true
  | _ => false
def endsT (L : Nat) : RT → Bool
  | .fin => true
  | .q _ r => endsT L r
  | .l i r => (r.isFin || !(Nat.beq i L)) && endsT L r
  | .alt i ri r => (ri.isFin || !(Nat.beq i L)) && endsT L ri && endsT L r
def RT.len : RT → Nat
  | .fin => 0
  | .q _ r => r.len + 1
  | .l _ r => r.len + 1
  | .alt _ ri r => Nat.max (ri.len + 1) r.len
section
variable {P : Program} {ops : Array Oper} {Q : Exit → Act → World → Prop} {S : World → Prop} {L : Nat}
def wpRT (P : Program) (ops : Array Oper) (Q : Exit → Act → World → Prop) (S : World → Prop) (L : Nat) : RT → Bool → Act → World → Prop
  | .fin, _, a, w => Q .normal a w
  | .q i r, b, a, w => i ≠ L ∧ ∃ o v, ops[i]? = some o ∧ YieldsIf P ops (fun w => b = false → S w) o v a ∧ wpRT P ops Q S L r b (a.put o.dst v) w
  | .l i r, b, a, w => wpOp P ops Q i (fun a' w' => ((b || Nat.beq i L) = false → S w') ∧ wpRT P ops Q S L r (b || Nat.beq i L) a' w') a w
  | .alt i ri r, b, a, w => wpOp P ops Q i (fun a' w' => ((b || Nat.beq i L) = false → S w') ∧ wpRT P ops Q S L ri (b || Nat.beq i L) a' w') a w ∧ wpRT P ops Q S L r b a w
/-- Every other operation is waited for by L, or waits for L. -/
def lastU (ops : Array Oper) (L : Nat) : Bool := (List.range ops.size).all fun k => k == L || reachB ops ops.size L k || reachB ops ops.size k L
theorem ready_reach {listed : Array Bool} (hc : ClosedL ops listed) {j k : Nat} (hr : j ∈ Region.ready .any ops listed) (h1 : reachB ops ops.size j k = true) : listed.getD k false = true := by
  obtain ⟨_, o, ho, hall⟩ := mem_ready.1 hr
  cases hn : ops.size with
  | zero => rw [hn] at h1; cases h1
  | succ n =>
    rw [hn] at h1
    unfold reachB at h1
    rw [ho] at h1
    simp only [Option.map_some, Option.getD_some] at h1
    obtain ⟨e, he, hb⟩ := Array.any_eq_true'.1 h1
    simp only [Bool.and_eq_true, Bool.or_eq_true, beq_iff_eq] at hb
    have h2 := hall e he hb.1
    rcases hb.2 with h3 | h3
    · rw [← h3]; exact h2
    · exact reach_listed hc n e.on k h3 h2
/-- S is asked for till L has been. -/
def Till (L : Nat) (listed : Array Bool) (S : World → Prop) (w : World) : Prop := listed.getD L false = false → S w
def wpAnyY (P : Program) (ops : Array Oper) (Q : Exit → Act → World → Prop) (S : World → Prop) (L : Nat) : Nat → Array Bool → Act → World → Prop
  | 0, listed, a, w => Region.ready .any ops listed = [] ∧ Q .normal a w
  | fuel + 1, listed, a, w =>
    (Region.ready .any ops listed = [] → Q .normal a w) ∧
    ∀ i ∈ Region.ready .any ops listed, wpOp P ops Q i (fun a' w' => Till L (listed.setIfInBounds i true) S w' ∧ wpAnyY P ops Q S L fuel (listed.setIfInBounds i true) a' w') a w
theorem wpAny_of_Y : ∀ (fuel : Nat) (listed : Array Bool) (a : Act) (w : World), wpAnyY P ops Q S L fuel listed a w → wpAny P .any ops Q fuel listed a w
  | 0, _, _, _, h => h
  | fuel + 1, _, _, _, h => ⟨h.1, fun i hi => wpOp_mono (fun a' w' h' => wpAny_of_Y fuel _ a' w' h'.2) (h.2 i hi)⟩
theorem getD_set_ne' {listed : Array Bool} {j k : Nat} (h : j ≠ k) : (listed.setIfInBounds j true).getD k false = listed.getD k false := getD_set_ne false h
theorem wpAnyR_first (hL : (lastU ops L || decide (ops.size ≤ L)) = true) {i : Nat} (hiL : i ≠ L) {oi : Oper} {v : Value} (hi : ops[i]? = some oi) (hsel : ∀ (j : Nat) (o : Oper) cs b, ops[j]? = some o → o.op ≠ .select cs b) (hQ : ∀ c a w, Q (.panic c) (a.put oi.dst v) w → Q (.panic c) a w) :
    ∀ (fuel : Nat) (listed : Array Bool) (a : Act) (w : World), ClosedL ops listed →
      (∀ j oj, ops[j]? = some oj → j ≠ i → listed.getD j true = false → (∀ e ∈ oj.after, Region.binds .any e = true → e.on ≠ i) → oi.apart ops oj = true) →
      i ∈ Region.ready .any ops listed → YieldsIf P ops (Till L listed S) oi v a → Till L listed S w →
      wpAnyY P ops Q S L fuel (listed.setIfInBounds i true) (a.put oi.dst v) w → wpAnyY P ops Q S L (fuel + 1) listed a w
  | fuel, listed, a, w, hcl, hfree, hr, hy, hS, H => by
    refine ⟨fun h => absurd hr (by rw [h]; simp), fun j hj => ?_⟩
    by_cases hji : j = i
    · subst hji
      exact hy.wpOp hi hS ⟨fun h => hS (by rwa [getD_set_ne' hiL] at h), H⟩
    · have hin : j ∈ Region.ready .any ops (listed.setIfInBounds i true) := ready_mono hj hji
      match fuel, H with
      | 0, H => rw [H.1] at hin; cases hin
      | fuel + 1, H =>
        obtain ⟨hjun, oj, hoj, hall⟩ := mem_ready.1 hj
        have hiun := (mem_ready.1 hr).1
        have hnot : ∀ e ∈ oj.after, Region.binds .any e = true → e.on ≠ i := fun e he hb heq => by
          have h1 := hall e he hb
          rw [heq] at h1
          rcases Nat.lt_or_ge i listed.size with h' | h'
          · simp [h'] at hiun h1; rw [hiun] at h1; cases h1
          · simp [Array.getElem?_eq_none h'] at h1
        have h2 := wpOp_putIf hoj (hfree j oj hoj hji hjun hnot) (fun cs b => hsel i oi cs b hi) (fun cs b => hsel j oj cs b hoj) hQ hy (H.2 j hin)
        have hri : i ∈ Region.ready .any ops (listed.setIfInBounds j true) := ready_mono hr (Ne.symm hji)
        have hfree' : ∀ k ok, ops[k]? = some ok → k ≠ i → (listed.setIfInBounds j true).getD k true = false → (∀ e ∈ ok.after, Region.binds .any e = true → e.on ≠ i) → oi.apart ops ok = true := fun k ok hk hki hun hno => by
          refine hfree k ok hk hki ?_ hno
          by_cases hjk : j = k
          · subst hjk; exact hjun
          · rw [getD_set_ne true hjk] at hun; exact hun
        have hjL : j ≠ L := by
          rintro rfl
          rw [Bool.or_eq_true] at hL
          rcases hL with hL | hL
          · have h1 := List.all_eq_true.1 hL i (List.mem_range.2 (Array.getElem?_eq_some_iff.1 hi).1)
            simp only [Bool.or_eq_true, beq_iff_eq, hiL, false_or] at h1
            rcases h1 with h1 | h1
            · have := ready_reach hcl hj h1
              rw [getD_false] at this
              rw [Array.getD_eq_getD_getElem?, this] at hiun; cases hiun
            · have := ready_reach hcl hr h1
              rw [getD_false] at this
              rw [Array.getD_eq_getD_getElem?, this] at hjun; cases hjun
          · have h1 := of_decide_eq_true hL
            have h2 := (Array.getElem?_eq_some_iff.1 hoj).1
            omega
        refine wpOp_mono (fun a' w' h3 => ?_) h2
        have e1 : Till L (listed.setIfInBounds j true) S = Till L listed S := by unfold Till; rw [getD_set_ne' hjL]
        have hSw : Till L (listed.setIfInBounds j true) S w' := fun h => h3.2.1 (by rw [getD_set_ne' hjL, getD_set_ne' hiL]; rwa [getD_set_ne' hjL] at h)
        refine ⟨hSw, wpAnyR_first hL hiL hi hsel hQ fuel (listed.setIfInBounds j true) a' w' (hcl.set hj) hfree' hri (by rw [e1]; exact h3.1) hSw ?_⟩
        rw [Array.setIfInBounds_comm _ _ hji]
        exact h3.2.2
theorem flag_set {listed : Array Bool} {b : Bool} {i : Nat} (h : listed.getD L false = b) (hi : i ∈ Region.ready .any ops listed) : (listed.setIfInBounds i true).getD L false = (b || Nat.beq i L) := by
  by_cases e : i = L
  · subst e
    have hu := (mem_ready.1 hi).1
    have hlt : i < listed.size := by
      rcases Nat.lt_or_ge i listed.size with h' | h'
      · exact h'
      · simp [Array.getElem?_eq_none h'] at hu
    have e2 : Nat.beq i i = true := Nat.beq_refl i
    rw [e2, Bool.or_true, getD_false, Array.getElem?_setIfInBounds_self_of_lt hlt]
  · have e2 : Nat.beq i L = false := by
      cases h2 : Nat.beq i L
      · rfl
      · exact absurd (Nat.eq_of_beq_eq_true h2) e
    rw [getD_set_ne' e, h, e2, Bool.or_false]
theorem alt_head {listed : Array Bool} {b : Bool} {a : Act} {w : World} {j : Nat} : ∀ {r : RT}, rtC ops r listed = true → wpRT P ops Q S L r b a w → j ∈ heads r →
    ∃ rj, rtB ops rj (listed.setIfInBounds j true) = true ∧ rj.len + 1 ≤ r.len ∧ wpOp P ops Q j (fun a' w' => ((b || Nat.beq j L) = false → S w') ∧ wpRT P ops Q S L rj (b || Nat.beq j L) a' w') a w
  | .fin, h, _, hj => by cases hj
  | .q i r, h, _, hj => by cases hj
  | .l i r, h, hw, hj => by
    obtain rfl : j = i := by simpa [heads] using hj
    simp only [rtC] at h
    exact ⟨r, h, Nat.le_refl _, hw⟩
  | .alt i ri r, h, hw, hj => by
    simp only [rtC, Bool.and_eq_true] at h
    simp only [heads, List.mem_cons] at hj
    rcases hj with rfl | hj
    · exact ⟨ri, h.1, Nat.le_max_left _ _, hw.1⟩
    · obtain ⟨rj, k1, k3, k5⟩ := alt_head (r := r) h.2 hw.2 hj
      exact ⟨rj, k1, Nat.le_trans k3 (Nat.le_max_right _ _), k5⟩
theorem wpAnyY_fin {listed : Array Bool} {a : Act} {w : World} (hb : rtB ops .fin listed = true) (h : Q .normal a w) : ∀ fuel, wpAnyY P ops Q S L fuel listed a w
  | 0 => ⟨by simpa [rtB] using hb, h⟩
  | _ + 1 => ⟨fun _ => h, fun i hi => by
      have : Region.ready .any ops listed = [] := by simpa [rtB] using hb
      rw [this] at hi; cases hi⟩
theorem wpAnyY_of_rt (hL : (lastU ops L || decide (ops.size ≤ L)) = true) (hs : Region.noSelect ops = true) (hQ : ∀ c a d v w, Q (.panic c) (Act.put a d v) w → Q (.panic c) a w) :
    ∀ (fuel : Nat) (t : RT) (listed : Array Bool) (b : Bool) (a : Act) (w : World), ClosedL ops listed → listed.getD L false = b → t.len ≤ fuel → rtB ops t listed = true → (b = false → S w) → wpRT P ops Q S L t b a w → wpAnyY P ops Q S L fuel listed a w
  | fuel, .fin, listed, b, a, w, _, _, _, hb, _, h => wpAnyY_fin hb h fuel
  | 0, .q i r, listed, b, a, w, _, _, hf, _, _, _ => by simp [RT.len] at hf
  | 0, .l i r, listed, b, a, w, _, _, hf, _, _, _ => by simp [RT.len] at hf
  | 0, .alt i ri r, listed, b, a, w, _, _, hf, _, _, _ => by
    have := Nat.le_trans (Nat.le_max_left (ri.len + 1) r.len) hf
    omega
  | fuel + 1, .q i r, listed, b, a, w, hcl, hg, hf, hb, hS, h => by
    obtain ⟨hiL, o, v, ho, hy, hr⟩ := h
    simp only [rtB, Bool.and_eq_true] at hb
    have hrd : i ∈ Region.ready .any ops listed := by simpa using hb.1.2
    have e1 : Till L listed S = fun w => b = false → S w := by unfold Till; rw [hg]
    exact wpAnyR_first hL hiL ho (Region.noSelect_spec hs) (fun c a w => hQ c a _ _ w) fuel listed a w hcl (Region.free_spec ho hb.1.1) hrd (by rw [e1]; exact hy) (by rw [e1]; exact hS)
      (wpAnyY_of_rt hL hs hQ fuel r _ b _ _ (hcl.set hrd) (by rw [getD_set_ne' hiL]; exact hg) (by simpa [RT.len] using hf) hb.2 hS hr)
  | fuel + 1, .l i r, listed, b, a, w, hcl, hg, hf, hb, hS, h => by
    simp only [rtB, Bool.and_eq_true, beq_iff_eq] at hb
    refine ⟨fun h0 => (by rw [hb.1] at h0; cases h0), fun j hj => ?_⟩
    have hj0 := hj
    rw [hb.1] at hj
    obtain rfl : j = i := by simpa using hj
    have hfl := flag_set (L := L) hg hj0
    refine wpOp_mono (fun a' w' ⟨h1, h2⟩ => ⟨by unfold Till; rw [hfl]; exact h1, ?_⟩) h
    exact wpAnyY_of_rt hL hs hQ fuel r _ _ a' w' (hcl.set hj0) hfl (by simpa [RT.len] using hf) hb.2 h1 h2
  | fuel + 1, .alt i ri r, listed, b, a, w, hcl, hg, hf, hb, hS, h => by
    simp only [rtB, Bool.and_eq_true, beq_iff_eq] at hb
    refine ⟨fun h0 => (by rw [hb.1.1] at h0; cases h0), fun j hj => ?_⟩
    have hj0 := hj
    rw [hb.1.1] at hj
    have hC : rtC ops (.alt i ri r) listed = true := by simp only [rtC, Bool.and_eq_true]; exact ⟨hb.1.2, hb.2⟩
    obtain ⟨rj, k1, k3, k5⟩ := alt_head (r := .alt i ri r) hC h hj
    have hfl := flag_set (L := L) hg hj0
    refine wpOp_mono (fun a' w' ⟨h1, h2⟩ => ⟨by unfold Till; rw [hfl]; exact h1, ?_⟩) k5
    exact wpAnyY_of_rt hL hs hQ fuel rj _ _ a' w' (hcl.set hj0) hfl (by omega) k1 h1 h2
theorem wp_region_rt (S : World → Prop) (L : Nat) (t : RT) {id : Nat} {a : Act} {w : World} (hm : P.follows .mixedOrders = true) (hs : Region.noSelect ops = true) (hl : Nat.ble t.len ops.size = true) (hb : rtB ops t (Array.replicate ops.size false) = true)
    (hL : (lastU ops L || decide (ops.size ≤ L)) = true) (hS : S w.drew) (h : wpRT P ops (NoPanic Q) S L t false a w.drew) : (Code.region id ops true).wp P Q a w :=
  wp_region_noPanic (wp_region_any hm (wpAny_of_Y _ _ _ _ (wpAnyY_of_rt hL hs (fun _ _ _ _ _ h => h) ops.size t _ false a _ (ClosedL.start _ (Nat.le_refl _)) (by
    cases h : (Array.replicate ops.size false).getD L false
    · rfl
    · rw [getD_false, Array.getElem?_replicate] at h
      split at h <;> cases h) (Nat.le_of_ble_eq_true hl) hb (fun _ => hS) h)))
end
end Go.Proofs.YtplokbmdcfakbaaDoor
set_option linter.unusedSimpArgs false
set_option linter.unusedVariables false
namespace Go.Proofs.YtplokbmdcfakbaaDoor
open Go.RowKit
/-- From st the code comes out by x, in a state that st' tells. -/
def AW (c : Ctx) (code : Code) (x : Exit) (st' st : St) : Prop :=
  ∀ e C a w, Rep c e C st a w → code.wp c.P (fun x' a' w' => x' = x ∧ ∃ e' C', Rep c e' C' st' a' w') a w
mutual
def AV.bel (k : Nat) : AV → Bool
  | .ptr b _ => Nat.blt b k
  | .eptr b _ _ _ => Nat.blt b k
  | .own b => Nat.blt b k
  | .mp b => Nat.blt b k
  | .agg l => bels k l
  | .tup l => bels k l
  | _ => true
def bels (k : Nat) : List AV → Bool
  | [] => true
  | x :: r => AV.bel k x && bels k r
end
def Env.cut (e : Env) (k : Nat) : Env := { e with ok := fun b => e.ok b ∧ b < k }
theorem blt_lt {b k : Nat} (h : Nat.blt b k = true) : b < k := Nat.le_of_ble_eq_true h
mutual
theorem VR.cut {e : Env} {k : Nat} : ∀ (x : AV) (v : Value), AV.bel k x = true → VR e x v → VR (e.cut k) x v
  | .ptr b off, v, hk, hv => by
    unfold AV.bel at hk; unfold VR at hv ⊢
    exact ⟨⟨hv.1, blt_lt hk⟩, hv.2⟩
  | .eptr b n j off, v, hk, hv => by
    unfold AV.bel at hk; unfold VR at hv ⊢
    exact ⟨⟨hv.1, blt_lt hk⟩, hv.2⟩
  | .own b, v, hk, hv => by
    unfold AV.bel at hk; unfold VR at hv ⊢
    exact ⟨⟨hv.1, blt_lt hk⟩, hv.2⟩
  | .mp b, v, hk, hv => by
    unfold AV.bel at hk; unfold VR at hv ⊢
    exact ⟨⟨hv.1, blt_lt hk⟩, hv.2⟩
  | .agg l, v, hk, hv => by
    unfold AV.bel at hk
    obtain ⟨cs, e1, h1⟩ := VR.agg.1 hv
    exact VR.agg.2 ⟨cs, e1, VRs.cut l cs hk h1⟩
  | .tup l, v, hk, hv => by
    unfold AV.bel at hk
    obtain ⟨cs, e1, h1⟩ := VR.tup.1 hv
    exact VR.tup.2 ⟨cs, e1, VRs.cut l cs hk h1⟩
  | .lf x, v, _, hv => by unfold VR at hv ⊢; exact hv
  | .dat r, v, _, hv => by unfold VR at hv ⊢; exact hv
  | .dp r off, v, _, hv => by unfold VR at hv ⊢; exact hv
  | .nils n, v, _, hv => by unfold VR at hv ⊢; exact hv
  | .raw u, v, _, hv => by unfold VR at hv ⊢; exact hv
theorem VRs.cut {e : Env} {k : Nat} : ∀ (l : List AV) (cs : List Value), bels k l = true → VRs e l cs → VRs (e.cut k) l cs
  | [], cs, _, hv => by unfold VRs at hv ⊢; exact hv
  | x :: r, cs, hk, hv => by
    unfold bels at hk
    rw [Bool.and_eq_true] at hk
    unfold VRs at hv ⊢
    obtain ⟨u, q, e1, h1, h2⟩ := hv
    exact ⟨u, q, e1, VR.cut x u hk.1 h1, VRs.cut r q hk.2 h2⟩
end
/-- the temporaries kept -/
def cutT (k : Nat) (T : List (Nat × AV)) : List Nat → Option (List (Nat × AV))
  | [] => some []
  | t :: r => match lk T t with
    | some v => match AV.bel k v with
      | true => match cutT k T r with
        | some q => some ((t, v) :: q)
        | none => none
      | false => none
    | none => none
def cutHb (k : Nat) : List Slot → Bool
  | [] => true
  | .box _ cs :: r => AV.bel k cs && cutHb k r
  | _ :: r => cutHb k r
def cutS (keys : List Nat) (k : Nat) (st : St) : Option St := match cutHb k (st.H.take k) with
  | true => match cutT k st.T keys with
    | some T => some ⟨T, st.H.take k⟩
    | none => none
  | false => none
theorem cutT_ok {e : Env} {k : Nat} {T : List (Nat × AV)} {tmps : Array Value} (hT : TRel e T tmps) : ∀ {keys : List Nat} {T' : List (Nat × AV)}, cutT k T keys = some T' → TRel (e.cut k) T' tmps
  | [], T', h => by
    simp only [cutT] at h
    injection h with h
    subst h
    exact fun t v hv => by cases hv
  | t :: r, T', h => by
    simp only [cutT] at h
    split at h
    · rename_i v hv
      split at h
      · rename_i hk
        split at h
        · rename_i q hq
          injection h with h
          subst h
          intro t' y hy
          unfold lk at hy
          split at hy
          · rename_i hb
            injection hy with hy
            subst hy
            have := beq_nat hb
            subst this
            obtain ⟨u, h1, h2⟩ := hT t v hv
            exact ⟨u, h1, VR.cut v u hk h2⟩
          · exact cutT_ok hT hq t' y hy
        · cases h
      · cases h
    · cases h
theorem cutHb_at {k : Nat} : ∀ {H : List Slot} {b : Nat} {ty : TypeId} {cs : AV}, cutHb k H = true → H[b]? = some (.box ty cs) → AV.bel k cs = true
  | [], b, ty, cs, _, h => by simp at h
  | s :: r, b, ty, cs, hk, h => by
    cases b with
    | zero =>
      obtain rfl : s = .box ty cs := by simpa using h
      unfold cutHb at hk
      rw [Bool.and_eq_true] at hk
      exact hk.1
    | succ b =>
      refine cutHb_at (H := r) (b := b) ?_ (by simpa using h)
      cases s with
      | box ty' cs' => unfold cutHb at hk; rw [Bool.and_eq_true] at hk; exact hk.2
      | row ty' n l => unfold cutHb at hk; exact hk
      | dead => unfold cutHb at hk; exact hk
      | free => unfold cutHb at hk; exact hk
      | map P1 k1 e1 l1 => unfold cutHb at hk; exact hk
theorem cutS_ok {c : Ctx} {keys : List Nat} {k : Nat} {st st' : St} (h : cutS keys k st = some st') {e : Env} {C : Nat → List Value} {a : Act} {w : World} (hR : Rep c e C st a w) : Rep c (e.cut k) C st' a w := by
  unfold cutS at h
  split at h
  · rename_i hk
    split at h
    · rename_i T hT
      injection h with h
      subst h
      have hM := hR.mem
      have key : ∀ b s, (st.H.take k)[b]? = some s → st.H[b]? = some s ∧ b < k := fun b s hs => by
        rw [List.getElem?_take] at hs
        split at hs
        · exact ⟨hs, by assumption⟩
        · cases hs
      refine ⟨cutT_ok hR.tmp hT, hR.size, hR.defers, ⟨fun b s hs => ?_, fun b s hs => ?_, fun b hb => ?_, fun b b' s s' g h1 h2 k1 k2 => ?_, fun b s g hs hg => ?_, fun b s g hs hg => ?_, hM.inv, hM.le, hM.fresh, hM.ch, hM.g⟩⟩
      · obtain ⟨h1, h2⟩ := key b s hs
        have h3 := hM.hv b s h1
        cases s with
        | box ty cs => exact ⟨⟨h3.1, h2⟩, VR.cut cs _ (cutHb_at hk hs) h3.2⟩
        | row ty n l => exact ⟨⟨h3.1, h2⟩, h3.2⟩
        | dead => trivial
        | free => exact fun h => h3 h.1
        | map P1 k1 e1 l1 => exact ⟨⟨h3.1, h2⟩, h3.2⟩
      · have h3 := hM.hw b s (key b s hs).1
        cases s <;> exact h3
      · have := hM.bound b hb.1
        have := hb.2
        show b < (st.H.take k).length
        rw [List.length_take]; omega
      · have e1 : blkOf e b s = some g := by cases s <;> exact k1
        have e2 : blkOf e b' s' = some g := by cases s' <;> exact k2
        exact hM.inj b b' s s' g (key _ _ h1).1 (key _ _ h2).1 e1 e2
      · have e1 : blkOf e b s = some g := by cases s <;> exact hg
        exact hM.av b s g (key _ _ hs).1 e1
      · have e1 : blkOf e b s = some g := by cases s <;> exact hg
        exact hM.mine b s g (key _ _ hs).1 e1
    · cases h
  · cases h
end Go.Proofs.YtplokbmdcfakbaaDoor
set_option linter.unusedSimpArgs false
set_option linter.unusedVariables false
namespace Go.Proofs.YtplokbmdcfakbaaDoor
open Go.RowKit
/-- an operation that is not quiet, and what follows -/
def stepL (P : Program) (G : Gh → Prop) (tt : TT) (nt : Nat) (wr : Nat → Prop) (ops : Array Oper) (n : Nat) (L : Nat) (ch0 : List Nat) (i : Nat) (b : Bool) (k : Bool → St → List Ans → Option (List Prop)) (gr : Bool) (st : St) (qs : List Ans) : Option (List Prop) := match ops[i]? with
  | none => none
  | some o => match gosAt wr n i st qs with
    | none => none
    | some g => match b || subL g.ch ch0 with
      | false => none
      | true => match gck n ops g.st o g.qs with
        | some (true, st1, qs1, p1) => match lev P G tt nt st1 o qs1 with
          | some x => match (b || Nat.beq i L) || subL x.ch ch0 with
            | true => match k (gr || (g.gr || x.gr)) x.st x.qs with
              | some y => some (g.p ++ (p1 ++ (x.p ++ y)))
              | none => none
            | false => none
          | none => none
        | some (false, st1, qs1, p1) => match putT nt st1.T o.dst (.raw undef) with
          | some T' => match k (gr || g.gr) ⟨T', st1.H⟩ qs1 with
            | some y => some (g.p ++ (p1 ++ y))
            | none => none
          | none => none
        | none => none
def runT (P : Program) (G : Gh → Prop) (tt : TT) (nt : Nat) (wr : Nat → Prop) (ops : Array Oper) (n : Nat) (H0 : List Slot) (L : Nat) (ch0 : List Nat) (keys : List Nat) (kk : Nat) (st' : St) : RT → Bool → Bool → St → List Ans → Option (List Prop)
  | .fin, _, _, st, qs => match qs with
    | [] => some [cutS keys kk st = some st']
    | _ => none
  | .q i r, b, gr, st, qs => match Nat.beq i L with
    | true => none
    | false => match ops[i]? with
    | none => none
    | some o => match gck n ops st o qs with
      | some (true, st1, qs1, p1) => match qev P tt (!(gr || b)) st1.T H0 o.op qs1 with
        | some (v, qs2, p2) => match putT nt st1.T o.dst v with
          | some T' => match runT P G tt nt wr ops n H0 L ch0 keys kk st' r b gr ⟨T', st1.H⟩ qs2 with
            | some y => some (p1 ++ (p2 ++ y))
            | none => none
          | none => none
        | none => none
      | some (false, st1, qs1, p1) => match putT nt st1.T o.dst (.raw undef) with
        | some T' => match runT P G tt nt wr ops n H0 L ch0 keys kk st' r b gr ⟨T', st1.H⟩ qs1 with
          | some y => some (p1 ++ y)
          | none => none
        | none => none
      | none => none
  | .l i r, b, gr, st, qs => stepL P G tt nt wr ops n L ch0 i b (runT P G tt nt wr ops n H0 L ch0 keys kk st' r (b || Nat.beq i L)) gr st qs
  | .alt i ri r, b, gr, st, qs => match qs with
    | [.both q1 q2] => match stepL P G tt nt wr ops n L ch0 i b (runT P G tt nt wr ops n H0 L ch0 keys kk st' ri (b || Nat.beq i L)) gr st q1 with
      | some p1 => match runT P G tt nt wr ops n H0 L ch0 keys kk st' r b gr st q2 with
        | some p2 => some (p1 ++ p2)
        | none => none
      | none => none
    | _ => none
/-- what is known of the state at the region's beginning: all of it till L has been -/
structure LnkB (b gr : Bool) (e0 : Env) (C0 : Nat → List Value) (H0 : List Slot) (ch0 : List Nat) (e : Env) (C : Nat → List Value) (H : List Slot) : Prop where
  le : e0.le e
  lnk : b = false → Lnk gr e0 C0 H0 ch0 e C H
theorem stepL_ok {c : Ctx} (hc : c.Ok) {ops : Array Oper} {n : Nat} {Q : Exit → Act → World → Prop} {e0 : Env} {C0 : Nat → List Value} {H0 : List Slot} {L : Nat} {ch0 : List Nat} {i : Nat} {b : Bool} {k : Bool → St → List Ans → Option (List Prop)} {W : Act → World → Prop} {gr : Bool} {st : St} {qs : List Ans} {p : List Prop}
    (h : stepL c.P c.G c.tt c.nt c.wr ops n L ch0 i b k gr st qs = some p) (hp : AllP p) {e : Env} {C : Nat → List Value} {a : Act} {w : World} (hR : Rep c e C st a w) (hL : LnkB b gr e0 C0 H0 ch0 e C st.H)
    (hk : ∀ gr' st' qs' p', k gr' st' qs' = some p' → AllP p' → ∀ e' C' a' w', Rep c e' C' st' a' w' → LnkB (b || Nat.beq i L) gr' e0 C0 H0 ch0 e' C' st'.H → W a' w') : wpOp c.P ops Q i (fun a' w' => ((b || Nat.beq i L) = false → SReg e0 C0 H0 w') ∧ W a' w') a w := by
  unfold stepL at h
  split at h
  · cases h
  · rename_i o ho
    split at h
    · cases h
    · rename_i g hg
      split at h
      · cases h
      · rename_i hsub
        split at h
        · rename_i st1 qs1 p1 hgk
          split at h
          · rename_i x hx
            split at h
            · rename_i hsx
              split at h
              · rename_i y hy
                injection h with h
                subst h
                obtain ⟨q1, q2⟩ := AllP.app hp
                obtain ⟨q2, q3⟩ := AllP.app q2
                obtain ⟨q3, q4⟩ := AllP.app q3
                obtain ⟨e1, C1, k1, k2⟩ := gosAt_ok hc hg q1 e C a w hR
                obtain ⟨k3, k4, k5⟩ := gck_ok hgk q2 k1
                have hL1 : b = false → Lnk (gr || g.gr) e0 C0 H0 ch0 e1 C1 g.st.H := fun hb => (hL.lnk hb).step k2 (by rw [hb] at hsub; exact hsub)
                unfold wpOp
                simp only [ho, k5, if_true]
                refine .inl (lev_ok hc hx q3 e1 C1 a w _ _ k3 fun e2 C2 a2 w2 m1 m2 => ?_)
                have hl : (b || Nat.beq i L) = false → Lnk (gr || (g.gr || x.gr)) e0 C0 H0 ch0 e2 C2 x.st.H := fun hiL => by
                  have hb := (Bool.or_eq_false_iff.1 hiL).1
                  have hsx' : subL x.ch ch0 = true := by
                    rw [hiL, Bool.false_or] at hsx; exact hsx
                  have := (show Lnk (gr || g.gr) e0 C0 H0 ch0 e1 C1 st1.H by rw [k4]; exact hL1 hb).step m2 hsx'
                  rwa [Bool.or_assoc] at this
                exact ⟨fun hiL => (hl hiL).sreg m1.mem, hk _ _ _ _ hy q4 e2 C2 a2 w2 m1 ⟨(hL.le.trans k2.le).trans m2.le, hl⟩⟩
              · cases h
            · cases h
          · cases h
        · rename_i st1 qs1 p1 hgk
          split at h
          · rename_i T' hT
            split at h
            · rename_i y hy
              injection h with h
              subst h
              obtain ⟨q1, q2⟩ := AllP.app hp
              obtain ⟨q2, q3⟩ := AllP.app q2
              obtain ⟨e1, C1, k1, k2⟩ := gosAt_ok hc hg q1 e C a w hR
              obtain ⟨k3, k4, k5⟩ := gck_ok hgk q2 k1
              have hL1 : b = false → Lnk (gr || g.gr) e0 C0 H0 ch0 e1 C1 g.st.H := fun hb => (hL.lnk hb).step k2 (by rw [hb] at hsub; exact hsub)
              obtain ⟨n1, n2, n3⟩ := putT_rel hT k3.tmp k3.size (by unfold VR; rfl : VR e1 (.raw undef) undef)
              unfold wpOp
              simp only [ho, k5, Bool.false_eq_true, if_false]
              have hL2 : (b || Nat.beq i L) = false → Lnk (gr || g.gr) e0 C0 H0 ch0 e1 C1 (⟨T', st1.H⟩ : St).H := fun hiL => by
                show Lnk _ _ _ _ _ _ _ st1.H
                rw [k4]; exact hL1 (Bool.or_eq_false_iff.1 hiL).1
              exact ⟨fun hiL => (hL2 hiL).sreg k3.mem, hk _ _ _ _ hy q3 e1 C1 _ w ⟨n1, n2, n3.trans k3.defers, k3.mem⟩ ⟨hL.le.trans k2.le, hL2⟩⟩
            · cases h
          · cases h
        · cases h
theorem runT_ok {c : Ctx} (hc : c.Ok) {ops : Array Oper} {n : Nat} {Q : Exit → Act → World → Prop} {e0 : Env} {C0 : Nat → List Value} {H0 : List Slot} {L : Nat} {ch0 : List Nat} {keys : List Nat} {kk : Nat} {st' : St} (hf : ∀ (b : Nat) (s : Slot), H0[b]? = some s → s ≠ Slot.free) (hv0 : HVs e0 C0 H0) (hQ : ∀ e' C' a' w', Rep c e' C' st' a' w' → Q .normal a' w') : ∀ {t : RT} {b gr : Bool} {st : St} {qs : List Ans} {p : List Prop}, runT c.P c.G c.tt c.nt c.wr ops n H0 L ch0 keys kk st' t b gr st qs = some p → AllP p →
    ∀ {e : Env} {C : Nat → List Value} {a : Act} {w : World}, Rep c e C st a w → LnkB b gr e0 C0 H0 ch0 e C st.H → wpRT c.P ops Q (SReg e0 C0 H0) L t b a w
  | .fin, b, gr, st, qs, p, h, hp, e, C, a, w, hR, hL => by
    simp only [runT] at h
    split at h
    · injection h with h
      subst h
      exact hQ _ C a w (cutS_ok hp.1 hR)
    · cases h
  | .q i r, b, gr, st, qs, p, h, hp, e, C, a, w, hR, hL => by
    simp only [runT] at h
    split at h
    · cases h
    rename_i hiL
    have hiL : i ≠ L := by rintro rfl; rw [Nat.beq_refl] at hiL; cases hiL
    refine ⟨hiL, ?_⟩
    split at h
    · cases h
    · rename_i o ho
      split at h
      · rename_i st1 qs1 p1 hk
        split at h
        · rename_i v qs2 p2 hq
          split at h
          · rename_i T' hT
            split at h
            · rename_i y hy
              injection h with h
              subst h
              obtain ⟨q1, q2⟩ := AllP.app hp
              obtain ⟨q2, q3⟩ := AllP.app q2
              obtain ⟨k3, k4, k5⟩ := gck_ok hk q1 hR
              have hv1 : HVs e C0 H0 := fun b s hb => HV_mono hL.le rfl (hf b s hb) (hv0 b s hb)
              obtain ⟨u, m1, m2⟩ := qev_ok hc.tt k3.tmp hv1 rfl hq q2
              obtain ⟨n1, n2, n3⟩ := putT_rel hT k3.tmp k3.size m1
              refine ⟨o, u, ho, .inl ⟨k5, fun w' hS => m2 w' fun hm => ?_⟩, runT_ok hc hf hv0 hQ hy q3 ⟨n1, n2, n3.trans k3.defers, k3.mem⟩ (by rw [show (⟨T', st1.H⟩ : St).H = st.H from k4]; exact hL)⟩
              have hm : gr = false ∧ b = false := by simpa using hm
              have hL0 := hL.lnk hm.2
              have hS := hS hm.2
              refine ⟨by rw [hL0.I hm.1]; exact hS.1, fun b s hb => ?_⟩
              by_cases hl : s.live
              · exact (HW_le hL0.le (live_ok (hv0 b s hb) hl) rfl).2 (hS.2 b s hb)
              · cases s with
                | box ty cs => exact absurd trivial hl
                | row ty n l => exact absurd trivial hl
                | dead => trivial
                | free => trivial
                | map P1 k1 e1 l1 => exact absurd trivial hl
            · cases h
          · cases h
        · cases h
      · rename_i st1 qs1 p1 hk
        split at h
        · rename_i T' hT
          split at h
          · rename_i y hy
            injection h with h
            subst h
            obtain ⟨q1, q2⟩ := AllP.app hp
            obtain ⟨k3, k4, k5⟩ := gck_ok hk q1 hR
            obtain ⟨n1, n2, n3⟩ := putT_rel hT k3.tmp k3.size (by unfold VR; rfl : VR e (.raw undef) undef)
            exact ⟨o, undef, ho, .inr ⟨k5, rfl⟩, runT_ok hc hf hv0 hQ hy q2 ⟨n1, n2, n3.trans k3.defers, k3.mem⟩ (by rw [show (⟨T', st1.H⟩ : St).H = st.H from k4]; exact hL)⟩
          · cases h
        · cases h
      · cases h

  | .l i r, b, gr, st, qs, p, h, hp, e, C, a, w, hR, hL => by
    simp only [runT] at h
    exact stepL_ok hc h hp hR hL fun gr1 st1 qs1 p1 h1 hp1 e1 C1 a1 w1 hR1 hL1 => runT_ok hc hf hv0 hQ h1 hp1 hR1 hL1
  | .alt i ri r, b, gr, st, qs, p, h, hp, e, C, a, w, hR, hL => by
    simp only [runT] at h
    split at h
    · split at h
      · rename_i p1 h1
        split at h
        · rename_i p2 h2
          injection h with h
          subst h
          obtain ⟨q1, q2⟩ := AllP.app hp
          exact ⟨stepL_ok hc h1 q1 hR hL fun gr1 st1 qs1 p1 h1 hp1 e1 C1 a1 w1 hR1 hL1 => runT_ok hc hf hv0 hQ h1 hp1 hR1 hL1, runT_ok hc hf hv0 hQ h2 q2 hR hL⟩
        · cases h
      · cases h
    · cases h
end Go.Proofs.YtplokbmdcfakbaaDoor
set_option linter.unusedSimpArgs false
set_option linter.unusedVariables false
namespace Go.Proofs.YtplokbmdcfakbaaDoor
open Go.RowKit
structure CR where
  x : Exit
  st : St
  qs : List Ans
  p : List Prop
/-- a part that is shown apart? -/
def Code.kd : Code → Nat
  | .loop _ => 0
  | .cond _ _ _ => 1
  | .block id _ => 6 + 2 * id
  | .region id _ _ => 7 + 2 * id
  | .seq _ _ => 4
  | _ => 5
def pre (A : Code → Exit → St → St → Prop) (wr : Nat → Prop) (code : Code) (st : St) (qs : List Ans) (k : Option CR) : Option CR := match qs with
  | .part gs kd keys n x T H :: qs' => match Nat.beq kd (Code.kd code) with
    | true => match gos wr st gs with
      | some ⟨st0, [], p, _, _⟩ => match cutS keys n st0 with
        | some st1 => some ⟨x, ⟨T, H⟩, qs', p ++ [A code x ⟨T, H⟩ st1]⟩
        | none => none
      | _ => none
    | false => k
  | _ => k
def exec (A : Code → Exit → St → St → Prop) (P : Program) (G : Gh → Prop) (tt : TT) (nt : Nat) (wr : Nat → Prop) : Code → St → List Ans → Option CR
  | .skip, st, qs => pre A wr .skip st qs (some ⟨.normal, st, qs, []⟩)
  | .label l, st, qs => pre A wr (.label l) st qs (some ⟨.normal, st, qs, []⟩)
  | .region id ops draw, st, qs => pre A wr (.region id ops draw) st qs (match draw with
    | false => match runO P G tt nt wr ops (2 * id + 2) (List.range ops.size) st qs with
      | some r => some ⟨.normal, r.st, r.qs, r.p⟩
      | none => none
    | true => match qs with
      | .order l L ch :: qs' => match Region.noSelect ops && Nat.ble l.length ops.size && mixB ops l (Array.replicate ops.size false) && endsB (L.getD ops.size) l && (match L with | some n => lastT ops n | none => l.all fun z => Nat.blt z.2 ops.size) with
        | true => match runM P G tt nt wr ops (2 * id + 2) (maskS ch 0 st.H) (L.getD ops.size) ch l false st qs' with
          | some r => some ⟨.normal, r.st, r.qs, r.p⟩
          | none => none
        | false => none
      | .orderT t L ch aq keys k T H :: qs' => match Region.noSelect ops && Nat.ble t.len ops.size && rtB ops t (Array.replicate ops.size false) && (match L with | some n => lastU ops n | none => true) with
        | true => match runT P G tt nt wr ops (2 * id + 2) (maskS ch 0 st.H) (L.getD ops.size) ch keys k ⟨T, H⟩ t false false st aq with
          | some p => some ⟨.normal, ⟨T, H⟩, qs', p⟩
          | none => none
        | false => none
      | _ => none)
  | .seq x y, st, qs => pre A wr (.seq x y) st qs (match exec A P G tt nt wr x st qs with
    | some r => match r.x with
      | .normal => match exec A P G tt nt wr y r.st r.qs with
        | some s => some ⟨s.x, s.st, s.qs, r.p ++ s.p⟩
        | none => none
      | _ => some r
    | none => none)
  | .cond o x y, st, qs => pre A wr (.cond o x y) st qs (match qs with
    | .br b :: qs' => match ev st.T o with
      | some (.lf (.bool t)) => match b with
        | true => match exec A P G tt nt wr x st qs' with
          | some r => some ⟨r.x, r.st, r.qs, (t = true) :: r.p⟩
          | none => none
        | false => match exec A P G tt nt wr y st qs' with
          | some r => some ⟨r.x, r.st, r.qs, (t = false) :: r.p⟩
          | none => none
      | _ => none
    | _ => none)
  | .block id x, st, qs => pre A wr (.block id x) st qs (match exec A P G tt nt wr x st qs with
    | some r => match r.x with
      | .exit id' => match Nat.beq id' id with
        | true => some ⟨.normal, r.st, r.qs, r.p⟩
        | false => some r
      | _ => some r
    | none => none)
  | .loop x, st, qs => pre A wr (.loop x) st qs none
  | .exit id, st, qs => pre A wr (.exit id) st qs (match gosAt wr 1 id st qs with
    | some g => some ⟨.exit id, g.st, g.qs, g.p⟩
    | none => none)
  | .scope x, st, qs => pre A wr (.scope x) st qs (match exec A P G tt nt wr x st qs with
    | some r => match r.x with
      | .goto _ => none
      | _ => some r
    | none => none)
  | .ret, st, qs => pre A wr .ret st qs (match gosAt wr 0 0 st qs with
    | some g => some ⟨.ret, g.st, g.qs, g.p⟩
    | none => none)
  | _, _, _ => none
structure Ctx.Full (c : Ctx) : Prop extends c.Ok where
  mixed : c.P.follows .mixedOrders = true
theorem pre_ok {A : Code → Exit → St → St → Prop} {c : Ctx} (hA : ∀ code x st' st, A code x st' st → AW c code x st' st) (hc : c.Ok) {code : Code} {st : St} {qs : List Ans} {k : Option CR} {r : CR} (h : pre A c.wr code st qs k = some r) (hp : AllP r.p) (hk : k = some r → AW c code r.x r.st st) : AW c code r.x r.st st := by
  unfold pre at h
  split at h
  · split at h
    · split at h
      · rename_i st0 p ch gr hg
        split at h
        · rename_i st1 hs
          injection h with h
          subst h
          obtain ⟨p1, p2⟩ := AllP.app hp
          intro e C a w hR
          obtain ⟨e', C', k1, _⟩ := gos_ok hc hg p1 e C a w hR
          exact hA _ _ _ _ p2.1 _ C' a w (cutS_ok hs k1)
        · cases h
      · cases h
    · exact hk h
  · exact hk h
theorem wpMix_of_Z {P : Program} {ops : Array Oper} {Q : Exit → Act → World → Prop} {S : World → Prop} {L : Nat} : ∀ {l : List (Bool × Nat)} {a : Act} {w : World}, (∀ z ∈ l, z.2 ≠ L) → wpMixZ P ops Q S L l a w → wpMix P ops Q S l a w
  | [], a, w, _, h => h
  | (true, i) :: r, a, w, hl, h => by
    obtain ⟨o, v, h1, h2, h3⟩ := h
    exact ⟨o, v, h1, h2, wpMix_of_Z (fun z hz => hl z (by simp [hz])) h3⟩
  | (false, i) :: r, a, w, hl, h => wpOp_mono (fun a' w' h1 => ⟨h1.1 (hl (false, i) (by simp)), wpMix_of_Z (fun z hz => hl z (by simp [hz])) h1.2⟩) h
theorem maskS_free {ch : List Nat} {k : Nat} {H : List Slot} {b : Nat} {s : Slot} (h : (maskS ch k H)[b]? = some s) : s ≠ Slot.free := by
  rcases maskS_at H k b s h with rfl | ⟨_, h2, _⟩
  · intro h; cases h
  · exact h2
theorem exec_ok {A : Code → Exit → St → St → Prop} {c : Ctx} (hA : ∀ code x st' st, A code x st' st → AW c code x st' st) (hc : c.Full) : ∀ {code : Code} {st : St} {qs : List Ans} {r : CR}, exec A c.P c.G c.tt c.nt c.wr code st qs = some r → AllP r.p → AW c code r.x r.st st
  | .skip, st, qs, r, h, hp => pre_ok hA hc.toOk h hp fun h => by
    injection h with h; subst h
    exact fun e C a w hR => wp_skip ⟨rfl, e, C, hR⟩
  | .label l, st, qs, r, h, hp => pre_ok hA hc.toOk h hp fun h => by
    injection h with h; subst h
    exact fun e C a w hR => wp_label ⟨rfl, e, C, hR⟩
  | .ret, st, qs, r, h, hp => pre_ok hA hc.toOk h hp fun h => by
    split at h
    · rename_i g hg
      injection h with h; subst h
      intro e C a w hR
      obtain ⟨e', C', k1, _⟩ := gosAt_ok hc.toOk hg hp e C a w hR
      exact wp_ret ⟨rfl, e', C', k1⟩
    · cases h
  | .exit id, st, qs, r, h, hp => pre_ok hA hc.toOk h hp fun h => by
    split at h
    · rename_i g hg
      injection h with h; subst h
      intro e C a w hR
      obtain ⟨e', C', k1, _⟩ := gosAt_ok hc.toOk hg hp e C a w hR
      exact wp_exit ⟨rfl, e', C', k1⟩
    · cases h
  | .loop x, st, qs, r, h, hp => pre_ok hA hc.toOk h hp fun h => by cases h
  | .region id ops draw, st, qs, r, h, hp => pre_ok hA hc.toOk h hp fun h => by
    split at h
    · split at h
      · rename_i y hy
        injection h with h; subst h
        exact fun e C a w hR => wp_region (runO_ok hc.toOk hy hp hR fun e' C' a' w' h' => ⟨rfl, e', C', h'⟩)
      · cases h
    · split at h
      · rename_i l L ch qs' h0
        clear h0
        split at h
        · rename_i hb
          simp only [Bool.and_eq_true] at hb
          obtain ⟨⟨⟨⟨b1, b2⟩, b3⟩, b4⟩, b5⟩ := hb
          split at h
          · rename_i y hy
            injection h with h; subst h
            intro e C a w hR
            have hRd : Rep c e C st a w.drew := ⟨hR.tmp, hR.size, hR.defers, hR.mem.drew⟩
            have hv0 : HVs e C (maskS ch 0 st.H) := fun b s hs => by
              rcases maskS_at st.H 0 b s hs with rfl | ⟨h1, _, _⟩
              · trivial
              · exact hR.mem.hv b s h1
            have hL : Lnk false e C (maskS ch 0 st.H) ch e C st.H := ⟨Env.le.refl e, fun _ => rfl, fun b s hs hl => by
              rcases maskS_at st.H 0 b s hs with rfl | ⟨h1, _, h3⟩
              · cases hl
              · exact ⟨by simpa using h3, s, h1, hl, fun _ h => h⟩⟩
            have hS := hL.sreg hRd.mem
            have hrun := fun Q hQ => runM_ok hc.toOk (ops := ops) (Q := Q) (fun b s hs => maskS_free hs) hv0 hy b4 hp hRd hL hQ
            cases L with
            | some n =>
              exact wp_region_mixt (SReg e C (maskS ch 0 st.H)) n l hc.mixed b1 (decide_eq_true (Nat.le_of_ble_eq_true b2)) b3 b5 b4 hS (hrun _ fun e' C' a' w' h' => (⟨rfl, e', C', h'⟩ : _ ∧ _))
            | none =>
              refine wp_region_mix (SReg e C (maskS ch 0 st.H)) l hc.mixed b1 (decide_eq_true (Nat.le_of_ble_eq_true b2)) b3 hS (wpMix_of_Z (L := ops.size) (fun z hz => ?_) (hrun _ fun e' C' a' w' h' => (⟨rfl, e', C', h'⟩ : _ ∧ _)))
              have := blt_lt (List.all_eq_true.1 b5 z hz)
              omega
          · cases h
        · cases h
      · rename_i t L ch aq keys k T H qs' h0
        clear h0
        split at h
        · rename_i hb
          simp only [Bool.and_eq_true] at hb
          obtain ⟨⟨⟨b1, b2⟩, b3⟩, b5⟩ := hb
          split at h
          · rename_i y hy
            injection h with h; subst h
            intro e C a w hR
            have hRd : Rep c e C st a w.drew := ⟨hR.tmp, hR.size, hR.defers, hR.mem.drew⟩
            have hv0 : HVs e C (maskS ch 0 st.H) := fun b s hs => by
              rcases maskS_at st.H 0 b s hs with rfl | ⟨h1, _, _⟩
              · trivial
              · exact hR.mem.hv b s h1
            have hL : Lnk false e C (maskS ch 0 st.H) ch e C st.H := ⟨Env.le.refl e, fun _ => rfl, fun b s hs hl => by
              rcases maskS_at st.H 0 b s hs with rfl | ⟨h1, _, h3⟩
              · cases hl
              · exact ⟨by simpa using h3, s, h1, hl, fun _ h => h⟩⟩
            have hS := hL.sreg hRd.mem
            refine wp_region_rt (SReg e C (maskS ch 0 st.H)) (L.getD ops.size) t hc.mixed b1 b2 b3 ?_ hS (runT_ok hc.toOk (fun b s hs => maskS_free hs) hv0 (fun e' C' a' w' h' => (⟨rfl, e', C', h'⟩ : _ ∧ _)) hy hp hRd ⟨hL.le, fun _ => hL⟩)
            cases L with
            | some n => simp only [Option.getD_some]; rw [Bool.or_eq_true]; exact .inl b5
            | none => simp
          · cases h
        · cases h
      · cases h
  | .seq x y, st, qs, r, h, hp => pre_ok hA hc.toOk h hp fun h => by
    split at h
    · rename_i r1 h1
      split at h
      · rename_i hx
        split at h
        · rename_i s h2
          injection h with h; subst h
          obtain ⟨p1, p2⟩ := AllP.app hp
          have k1 := exec_ok hA hc h1 p1
          have k2 := exec_ok hA hc h2 p2
          intro e C a w hR
          refine wp_seq (Code.wp_mono ?_ (k1 e C a w hR))
          rintro x' a' w' ⟨rfl, e', C', hR'⟩
          rw [hx]
          exact k2 e' C' a' w' hR'
        · cases h
      · rename_i hx
        injection h with h; subst h
        have k1 := exec_ok hA hc h1 hp
        intro e C a w hR
        refine wp_seq (Code.wp_mono ?_ (k1 e C a w hR))
        rintro x' a' w' ⟨rfl, e', C', hR'⟩
        cases hxx : r1.x with
        | normal => exact absurd hxx hx
        | exit id => exact ⟨rfl, e', C', hR'⟩
        | goto l => exact ⟨rfl, e', C', hR'⟩
        | ret => exact ⟨rfl, e', C', hR'⟩
        | panic ch => exact ⟨rfl, e', C', hR'⟩
        | outgrown => exact ⟨rfl, e', C', hR'⟩
    · cases h
  | .cond o x y, st, qs, r, h, hp => pre_ok hA hc.toOk h hp fun h => by
    split at h
    · rename_i b qs'
      split at h
      · rename_i t ht
        split at h
        · split at h
          · rename_i r1 h1
            injection h with h; subst h
            have k1 := exec_ok hA hc h1 hp.2
            intro e C a w hR
            have hb := (ev_rep hR.tmp ht).bool
            have htt : t = true := hp.1
            subst htt
            exact wp_cond_true hb (k1 e C a w hR)
          · cases h
        · split at h
          · rename_i r1 h1
            injection h with h; subst h
            have k1 := exec_ok hA hc h1 hp.2
            intro e C a w hR
            have hb := (ev_rep hR.tmp ht).bool
            have htt : t = false := hp.1
            subst htt
            exact wp_cond_false hb (k1 e C a w hR)
          · cases h
      · cases h
    · cases h
  | .block id x, st, qs, r, h, hp => pre_ok hA hc.toOk h hp fun h => by
    split at h
    · rename_i r1 h1
      have fin : AllP r1.p → (∀ e' C' a' w', Rep c e' C' r1.st a' w' → Exit.inBlock id (fun x' a' w' => x' = r.x ∧ ∃ e' C', Rep c e' C' r.st a' w') r1.x a' w') → AW c (.block id x) r.x r.st st := fun hp hq e C a w hR => by
        refine wp_block (Code.wp_mono ?_ (exec_ok hA hc h1 hp e C a w hR))
        rintro x' a' w' ⟨rfl, e', C', hR'⟩
        exact hq e' C' a' w' hR'
      split at h
      · rename_i id' hx
        split at h
        · rename_i hb
          have hb := beq_nat hb
          injection h with h; subst h
          refine fin hp fun e' C' a' w' hR' => ?_
          rw [hx]
          simp only [Exit.inBlock, hb, if_true]
          exact ⟨trivial, e', C', hR'⟩
        · rename_i hb
          injection h with h; subst h
          refine fin hp fun e' C' a' w' hR' => ?_
          rw [hx]
          have hne : id' ≠ id := by rintro rfl; simp at hb
          simp only [Exit.inBlock, hne, if_false]
          exact ⟨trivial, e', C', hR'⟩
      · rename_i hx
        injection h with h; subst h
        refine fin hp fun e' C' a' w' hR' => ?_
        cases hxx : r1.x with
        | exit id' => exact absurd hxx (hx id')
        | normal => exact ⟨rfl, e', C', hR'⟩
        | goto l => exact ⟨rfl, e', C', hR'⟩
        | ret => exact ⟨rfl, e', C', hR'⟩
        | panic ch => exact ⟨rfl, e', C', hR'⟩
        | outgrown => exact ⟨rfl, e', C', hR'⟩
    · cases h
  | .scope x, st, qs, r, h, hp => pre_ok hA hc.toOk h hp fun h => by
    split at h
    · rename_i r1 h1
      split at h
      · cases h
      · rename_i hx
        injection h with h; subst h
        intro e C a w hR
        refine wp_scope_straight (Code.wp_mono ?_ (exec_ok hA hc h1 hp e C a w hR))
        rintro x' a' w' ⟨rfl, e', C', hR'⟩
        cases hxx : r1.x with
        | goto l => exact absurd hxx (hx l)
        | exit id' => exact ⟨rfl, e', C', hR'⟩
        | normal => exact ⟨rfl, e', C', hR'⟩
        | ret => exact ⟨rfl, e', C', hR'⟩
        | panic ch => exact ⟨rfl, e', C', hR'⟩
        | outgrown => exact ⟨rfl, e', C', hR'⟩
    · cases h
  | .rangeFunc .., st, qs, r, h, hp => by simp [exec] at h
  | .goto .., st, qs, r, h, hp => by simp [exec] at h
  | .refuse .., st, qs, r, h, hp => by simp [exec] at h
end Go.Proofs.YtplokbmdcfakbaaDoor
set_option linter.unusedSimpArgs false
set_option linter.unusedVariables false
namespace Go.Proofs.YtplokbmdcfakbaaDoor
open Go.RowKit
/-- from behind the head of a loop -/
def LoopIn (P : Program) (c : Code) (Q : Exit → Act → World → Prop) (a : Act) (w : World) : Prop :=
  ∀ (b : Frame) (k : List Item) (cs : List Frame), ∃ e a' w', Q e a' w' ∧ Arrives P (lone (b.at a (.code c :: .inLoop c :: k)) cs w) b k cs e a' w'
theorem LoopIn.loop {P : Program} {c : Code} {Q : Exit → Act → World → Prop} {a : Act} {w : World} (h : LoopIn P c Q a w) : (Code.loop c).wp P Q a w := fun b k cs => by
  obtain ⟨e, a', w', hq, harr⟩ := h b k cs
  exact ⟨e, a', w', hq, .of_steps (.one step_loop) harr⟩
theorem LoopIn.step {P : Program} {c : Code} {Q : Exit → Act → World → Prop} {a : Act} {w : World} (h : c.wp P (Exit.then (fun a w => LoopIn P c Q a w) Q) a w) : LoopIn P c Q a w := fun b k cs => by
  obtain ⟨e, a₁, w₁, hq, harr⟩ := h b (.inLoop c :: k) cs
  cases e with
  | normal =>
    obtain ⟨e₂, a₂, w₂, hq₂, harr₂⟩ := hq b k cs
    exact ⟨e₂, a₂, w₂, hq₂, .of_steps (Steps.trans harr (.one step_inLoop)) harr₂⟩
  | exit id => exact ⟨_, a₁, w₁, hq, .pass (x := .inLoop c) rfl (fun _ _ => .inl (by simp)) harr⟩
  | goto l => exact ⟨_, a₁, w₁, hq, .pass (x := .inLoop c) rfl (fun _ _ => .inl (by simp)) harr⟩
  | ret => exact ⟨_, a₁, w₁, hq, .pass (x := .inLoop c) rfl (fun _ _ => .inl (by simp)) harr⟩
  | panic ch => exact ⟨_, a₁, w₁, hq, .pass (x := .inLoop c) rfl (fun _ _ => .inl (by simp)) harr⟩
  | outgrown => exact ⟨_, a₁, w₁, hq, .pass (x := .inLoop c) rfl (fun _ _ => .inl (by simp)) harr⟩
/-- as AW, from behind the head of the loop over body -/
def AL (c : Ctx) (body : Code) (x : Exit) (st' st : St) : Prop :=
  ∀ e C a w, Rep c e C st a w → LoopIn c.P body (fun x' a' w' => x' = x ∧ ∃ e' C', Rep c e' C' st' a' w') a w
theorem AL.loop {c : Ctx} {body : Code} {x : Exit} {st' st : St} (h : AL c body x st' st) : AW c (.loop body) x st' st := fun e C a w hR => (h e C a w hR).loop
theorem AL.next {c : Ctx} {body : Code} {x : Exit} {st' st st1 : St} (h : AW c body .normal st1 st) (k : AL c body x st' st1) : AL c body x st' st := fun e C a w hR =>
  LoopIn.step (Code.wp_mono (by
    rintro x' a' w' ⟨rfl, e', C', h'⟩
    exact k e' C' a' w' h') (h e C a w hR))
def notN : Exit → Bool
  | .normal => false
  | _ => true
theorem AL.stop {c : Ctx} {body : Code} {x : Exit} {st' st : St} (h : AW c body x st' st) (hx : notN x = true) : AL c body x st' st := fun e C a w hR =>
  LoopIn.step (Code.wp_mono (by
    rintro x' a' w' ⟨rfl, e', C', h'⟩
    cases x' with
    | normal => cases hx
    | exit id => exact ⟨rfl, e', C', h'⟩
    | goto l => exact ⟨rfl, e', C', h'⟩
    | ret => exact ⟨rfl, e', C', h'⟩
    | panic ch => exact ⟨rfl, e', C', h'⟩
    | outgrown => exact ⟨rfl, e', C', h'⟩) (h e C a w hR))
theorem AL.cut {c : Ctx} {body : Code} {x : Exit} {st' st st1 : St} (keys : List Nat) (k : Nat) (hs : cutS keys k st = some st1) (h : AL c body x st' st1) : AL c body x st' st := fun e C a w hR => h _ C a w (cutS_ok hs hR)
theorem AW.cut {c : Ctx} {code : Code} {x : Exit} {st' st st1 : St} (keys : List Nat) (k : Nat) (hs : cutS keys k st = some st1) (h : AW c code x st' st1) : AW c code x st' st := fun e C a w hR => h _ C a w (cutS_ok hs hR)
/-- the state behind may be told more briefly -/
theorem AW.post {c : Ctx} {code : Code} {x : Exit} {st' st st1 : St} (keys : List Nat) (k : Nat) (hs : cutS keys k st' = some st1) (h : AW c code x st' st) : AW c code x st1 st := fun e C a w hR =>
  Code.wp_mono (by
    rintro x' a' w' ⟨rfl, e', C', h'⟩
    exact ⟨rfl, _, C', cutS_ok hs h'⟩) (h e C a w hR)
/-- a call's surroundings, where no old block turns -/
def mkC (P : Program) (G : Gh → Prop) (tt : TT) (nt : Nat) (w0 : World) (I0 : Gh) : Ctx := ⟨P, tt, w0, I0, G, fun _ => False, nt⟩
structure Base (P : Program) (G : Gh → Prop) (tt : TT) : Prop where
  tt : ttb P tt = true
  G : ∀ I I', Le I I' → G I → G I'
  mixed : P.follows .mixedOrders = true
theorem Base.full {P : Program} {G : Gh → Prop} {tt : TT} (h : Base P G tt) (nt : Nat) (w0 : World) (I0 : Gh) : (mkC P G tt nt w0 I0).Full := { tt := h.tt, G := h.G, mixed := h.mixed }
/-- a part that is shown apart: for any surroundings -/
def AWa (P : Program) (G : Gh → Prop) (tt : TT) (nt : Nat) (code : Code) (x : Exit) (st' st : St) : Prop := ∀ w0 I0, AW (mkC P G tt nt w0 I0) code x st' st
def ex (P : Program) (G : Gh → Prop) (tt : TT) (nt : Nat) (code : Code) (st : St) (qs : List Ans) : Option CR := exec (AWa P G tt nt) P G tt nt (fun _ => False) code st qs
theorem aw_ex {P : Program} {G : Gh → Prop} {tt : TT} (hB : Base P G tt) {nt : Nat} {w0 : World} {I0 : Gh} {code : Code} {st st' : St} (qs : List Ans) {x : Exit} (p : List Prop) (h : ex P G tt nt code st qs = some ⟨x, st', [], p⟩) (hp : AllP p) : AW (mkC P G tt nt w0 I0) code x st' st :=
  exec_ok (c := mkC P G tt nt w0 I0) (fun _ _ _ _ h => h w0 I0) (hB.full nt w0 I0) (r := ⟨x, st', [], p⟩) h hp
def Code.sub : Code → List Nat → Code
  | c, [] => c
  | .seq x _, 0 :: p => Code.sub x p
  | .seq _ y, _ :: p => Code.sub y p
  | .cond _ x _, 0 :: p => Code.sub x p
  | .cond _ _ y, _ :: p => Code.sub y p
  | .block _ x, _ :: p => Code.sub x p
  | .loop x, _ :: p => Code.sub x p
  | .scope x, _ :: p => Code.sub x p
  | c, _ :: _ => c
def bodyC (fn : Func) : Code := fn.body.getD .skip
def resA (tt : TT) (st : St) : List ResultVar → Option (List AV)
  | [] => some []
  | .tmp t :: r => match lk st.T t with
    | some v => match v.toD with
      | some d => match resA tt st r with
        | some l => some (d :: l)
        | none => none
      | none => none
    | none => none
  | .cell a t :: r => match lk st.T a with
    | some (.ptr b p) => match tyOf tt t with
      | some i => match st.H[b]? with
        | some (.box _ cs) => match loadA i cs p with
          | some v => match v.toD with
            | some d => match resA tt st r with
              | some l => some (d :: l)
              | none => none
            | none => none
          | none => none
        | _ => none
      | none => none
    | _ => none
def resV : List AV → AV
  | [x] => x
  | l => .tup l
theorem toD_not {x y : AV} (h : x.toD = some y) : y.isD0 = true := by
  unfold AV.toD at h
  split at h
  · injection h with h; subst h; rfl
  · injection h with h; subst h; rfl
  · injection h with h; subst h; rfl
  · split at h
    · injection h with h; subst h; rfl
    · cases h
  · injection h with h; subst h; rfl
  · injection h with h; subst h; rfl
  · cases h
theorem resA_D {tt : TT} {st : St} : ∀ {rs : List ResultVar} {l : List AV}, resA tt st rs = some l → (l.all AV.isD0) = true
  | [], l, h => by simp only [resA] at h; injection h with h; subst h; rfl
  | .tmp t :: r, l, h => by
    simp only [resA] at h
    split at h
    · split at h
      · rename_i d hd
        split at h
        · rename_i q hq
          injection h with h; subst h
          rw [List.all_cons, Bool.and_eq_true]
          exact ⟨toD_not hd, resA_D hq⟩
        · cases h
      · cases h
    · cases h
  | .cell a t :: r, l, h => by
    simp only [resA] at h
    split at h
    · split at h
      · split at h
        · split at h
          · split at h
            · rename_i d hd
              split at h
              · rename_i q hq
                injection h with h; subst h
                rw [List.all_cons, Bool.and_eq_true]
                exact ⟨toD_not hd, resA_D hq⟩
              · cases h
            · cases h
          · cases h
        · cases h
      · cases h
    · cases h
def resF (tmps : Array Value) : ResultVar → Sem Value
  | .tmp t => pure (tmps.getD t undef)
  | .cell a t => do loadVar t (← asAddr (tmps.getD a undef))
theorem results_eq (fn : Func) (tmps : Array Value) : results fn tmps = (do
  let vs ← fn.results.mapM (resF tmps)
  pure (if h : vs.size = 1 then vs[0] else .tuple vs)) := by
  unfold results
  congr 1
theorem resA_ok {c : Ctx} (hc : c.Ok) {st : St} {e : Env} {C : Nat → List Value} {a : Act} {w : World} (hR : Rep c e C st a w) : ∀ {rs : List ResultVar} {l : List AV}, resA c.tt st rs = some l →
    ∃ vs, (rs.mapM (resF a.tmps)).run c.P w = .ok vs w ∧ VRs e l vs
  | [], l, h => by
    simp only [resA] at h; injection h with h; subst h
    exact ⟨[], by simp, VRs.nil⟩
  | .tmp t :: r, l, h => by
    simp only [resA] at h
    split at h
    · rename_i v hv
      split at h
      · rename_i d hd
        split at h
        · rename_i q hq
          injection h with h; subst h
          obtain ⟨vs, h1, h2⟩ := resA_ok hc hR hq
          obtain ⟨u, k1, k2⟩ := hR.tmp t v hv
          refine ⟨u :: vs, ?_, VRs.cons (VR.toD hd k2) h2⟩
          rw [List.mapM_cons]
          have hg : a.tmps.getD t undef = u := by rw [Array.getD_eq_getD_getElem?, k1]; rfl
          simp only [resF, hg, Sem.run_bind, Sem.run_pure, Result.andThen_ok, h1]
        · cases h
      · cases h
    · cases h
  | .cell x t :: r, l, h => by
    simp only [resA] at h
    split at h
    · rename_i b p hx
      split at h
      · rename_i i hi
        split at h
        · rename_i ty cs hb
          split at h
          · rename_i v hv
            split at h
            · rename_i d hd
              split at h
              · rename_i q hq
                injection h with h; subst h
                obtain ⟨vs, h1, h2⟩ := resA_ok hc hR hq
                obtain ⟨u, k1, k2⟩ := hR.tmp x _ hx
                unfold VR at k2
                have hvb := hR.mem.hv b _ hb
                obtain ⟨z, m1, m2⟩ := load_ok hc.tt hi hv hvb.2 (e.m b) 0
                have hw2 := hR.mem.hw b _ hb
                have := m2 w (fun j v hj => by rw [Nat.zero_add, blk_cell hw2 j]; simpa using hj)
                rw [Nat.zero_add] at this
                have hld : (loadVar t ⟨e.m b, p, none⟩).run c.P w = .ok z w := by
                  simpa [Instr.loadAt, Instr.sureAddr] using this
                refine ⟨z :: vs, ?_, VRs.cons (VR.toD hd m1) h2⟩
                rw [List.mapM_cons]
                have hg : a.tmps.getD x undef = .pointer (some ⟨e.m b, p, none⟩) := by rw [Array.getD_eq_getD_getElem?, k1, k2.2]; rfl
                simp only [resF, hg, asAddr, Sem.run_bind, Sem.run_pure, Result.andThen_ok, hld, h1]
              · cases h
            · cases h
          · cases h
        · cases h
      · cases h
    · cases h
def paramT : Nat → List AV → List (Nat × AV)
  | _, [] => []
  | k, x :: r => (k, x) :: paramT (k + 1) r
theorem paramT_ok {e : Env} : ∀ {l : List AV} {vs pre post : List Value}, VRs e l vs → TRel e (paramT pre.length l) (pre ++ vs ++ post).toArray
  | [], vs, pre, post, h => fun t v hv => by cases hv
  | x :: r, vs, pre, post, h => by
    unfold VRs at h
    obtain ⟨u, q, rfl, h1, h2⟩ := h
    have ih := paramT_ok (pre := pre ++ [u]) (post := post) h2
    intro t v hv
    unfold paramT lk at hv
    split at hv
    · rename_i hb
      injection hv with hv
      subst hv
      have := beq_nat hb
      subst this
      exact ⟨u, by simp, h1⟩
    · rw [List.length_append] at ih
      obtain ⟨z, k1, k2⟩ := ih t v hv
      exact ⟨z, by simpa using k1, k2⟩
def retX : Exit → Bool
  | .normal => true
  | .ret => true
  | _ => false
theorem fn_one {P : Program} {G : Gh → Prop} {tt : TT} (hB : Base P G tt) {f : FuncId} {fn : Func} (hf : P.funcs[f]? = some fn) (hbd : fn.body.isSome = true) {args : List AV} (hargs : (args.all AV.isD) = true) (hnt : Nat.ble args.length fn.ntmps = true)
    {x : Exit} {st : St} {w : World} {I : Gh} (h : AW (mkC P G tt fn.ntmps w I) (bodyC fn) x st ⟨paramT 0 args, []⟩) (hx : retX x = true) {l : List AV} (hres : resA tt st fn.results.toList = some l)
    {vs : List Value} (hG : G I) (hi : Inv I w) (hvs : VRs (env0 I) args vs) : Calls P f vs.toArray w fun en w' => ∃ I' v, en = .returned v ∧ Gr I I' w w' ∧ VR (env0 I') (resV l) v := by
  have hlen := VRs.len _ _ hvs
  have hble := Nat.le_of_ble_eq_true hnt
  obtain ⟨code, hcode⟩ := Option.isSome_iff_exists.1 hbd
  have hR : Rep (mkC P G tt fn.ntmps w I) (env0 I) (fun _ => []) ⟨paramT 0 args, []⟩ { tmps := vs.toArray ++ Array.replicate (fn.ntmps - vs.toArray.size) undef, defers := [] } w := by
    refine ⟨?_, ?_, rfl, ⟨fun b s hs => by simp at hs, fun b s hs => by simp at hs, fun b hb => False.elim hb, fun b b' s s' g h1 => by simp at h1, fun b s g h1 => by simp at h1, fun b s g h1 => by simp at h1, hi, Le.refl _, fun b o v h1 h2 => ?_, Only.refl _ _, hG⟩⟩
    · have := paramT_ok (pre := []) (post := List.replicate (fn.ntmps - vs.length) undef) hvs
      have e1 : vs.toArray ++ Array.replicate (fn.ntmps - vs.toArray.size) undef = ([] ++ vs ++ List.replicate (fn.ntmps - vs.length) undef).toArray := by
        apply Array.toList_inj.1; simp
      rw [e1]; exact this
    · show (vs.toArray ++ Array.replicate _ undef).size = fn.ntmps
      simp; omega
    · have h1 : I b o = some v := h1
      have h2 : I b o = none := h2
      rw [h2] at h1; cases h1
  have hw := h _ _ _ _ hR
  have hcd : bodyC fn = code := by unfold bodyC; rw [hcode]; rfl
  rw [hcd] at hw
  refine calls_of_wp hf hcode (Code.wp_mono ?_ hw)
  rintro x' a' w' ⟨rfl, e', C', hR'⟩
  have hok : (mkC P G tt fn.ntmps w I).Ok := (hB.full fn.ntmps w I).toOk
  obtain ⟨rs, k1, k2⟩ := resA_ok hok hR' hres
  have hlr := VRs.len _ _ k2
  have hall := resA_D hres
  have hext : Ext w w' := hR'.mem.ch.ext
  have hgr : Gr I e'.I w w' := ⟨hR'.mem.le, hR'.mem.fresh, hR'.mem.inv, hext⟩
  have k3 := VRs.free1 (e := e') (e' := env0 e'.I) rfl l rs hall k2
  have hrun : ∃ v, (results fn a'.tmps).run P w' = .ok v w' ∧ VR (env0 e'.I) (resV l) v := by
    have hm : (results fn a'.tmps).run P w' = .ok (if h : rs.toArray.size = 1 then rs.toArray[0] else .tuple rs.toArray) w' := by
      rw [results_eq]
      have hfr : fn.results = fn.results.toList.toArray := by simp
      rw [hfr, List.mapM_toArray, map_eq_pure_bind]
      simp only [Sem.run_bind]
      rw [show Sem.run P (List.mapM (resF a'.tmps) fn.results.toList) w' = .ok rs w' from k1]
      simp only [Result.andThen_ok, Sem.run_pure]
    refine ⟨_, hm, ?_⟩
    cases l with
    | nil =>
      have : rs = [] := List.eq_nil_of_length_eq_zero (by simpa using hlr)
      subst this
      exact VR.tup.2 ⟨[], rfl, VRs.nil⟩
    | cons y r =>
      cases r with
      | nil =>
        obtain ⟨u, rfl⟩ : ∃ u, rs = [u] := List.length_eq_one_iff.1 (by simpa using hlr)
        have := (VRs.at_ _ _ k3 0 y rfl)
        obtain ⟨z, h1, h2⟩ := this
        injection h1 with h1
        subst h1
        exact h2
      | cons y2 r =>
        have hne : rs.toArray.size ≠ 1 := by simp at hlr ⊢; omega
        rw [dif_neg hne]
        exact VR.tup.2 ⟨rs, rfl, k3⟩
  obtain ⟨v, m1, m2⟩ := hrun
  have fin : a'.defers = [] ∧ ∃ v, (results fn a'.tmps).run P w' = .ok v w' ∧ ∃ I' v', Ending.returned v = .returned v' ∧ Gr I I' w w' ∧ VR (env0 I') (resV l) v' := ⟨hR'.defers, v, m1, e'.I, v, rfl, hgr, m2⟩
  cases x' <;> first | exact fin | cases hx
theorem fn_ex {P : Program} {G : Gh → Prop} {tt : TT} (hB : Base P G tt) {f : FuncId} {fn : Func} (hf : P.funcs[f]? = some fn) (hbd : fn.body.isSome = true) (hcall : callB P f = true) {args : List AV} (hargs : (args.all AV.isD) = true) (hnt : Nat.ble args.length fn.ntmps = true)
    {x : Exit} {st : St} (h : ∀ w0 I0, AW (mkC P G tt fn.ntmps w0 I0) (bodyC fn) x st ⟨paramT 0 args, []⟩) (hx : retX x = true) {l : List AV} (hres : resA tt st fn.results.toList = some l) : Fn P G f args (resV l) := by
  exact ⟨hcall, fun I w vs hG hi hvs => fn_one hB hf hbd hargs hnt (h w I) hx hres hG hi hvs⟩
/-- a whole run: the results, and on what terms -/
def exF (P : Program) (G : Gh → Prop) (tt : TT) (fn : Func) (args : List AV) (qs : List Ans) : Option (List AV × List Prop) :=
  match ex P G tt fn.ntmps (bodyC fn) ⟨paramT 0 args, []⟩ qs with
  | some ⟨x, st, [], p⟩ => match retX x with
    | true => match resA tt st fn.results.toList with
      | some l => some (l, p)
      | none => none
    | false => none
  | _ => none
theorem fn_exF {P : Program} {G : Gh → Prop} {tt : TT} (hB : Base P G tt) {f : FuncId} {fn : Func} (hf : P.funcs[f]? = some fn) (hbd : fn.body.isSome = true) (hcall : callB P f = true) {args : List AV} (hargs : (args.all AV.isD) = true) (hnt : Nat.ble args.length fn.ntmps = true)
    {l : List AV} (qs : List Ans) (p : List Prop) (h1 : exF P G tt fn args qs = some (l, p)) (hp : AllP p) : Fn P G f args (resV l) := by
  refine ⟨hcall, fun I w vs hG hi hvs => ?_⟩
  unfold exF at h1
  split at h1
  · rename_i x st p' he
    split at h1
    · rename_i hx
      split at h1
      · rename_i l' hl
        injection h1 with h1
        injection h1 with h1 h2
        subst h1 h2
        have haw := aw_ex hB (w0 := w) (I0 := I) qs p' he hp
        exact fn_one hB hf hbd hargs hnt haw hx hl hG hi hvs
      · cases h1
    · cases h1
  · cases h1
end Go.Proofs.YtplokbmdcfakbaaDoor
set_option linter.unusedSimpArgs false
set_option linter.unusedVariables false
namespace Go.Proofs.YtplokbmdcfakbaaDoor
open Go.RowKit
mutual
/-- neither b' is mentioned, nor a cell of row b -/
def AV.nor (b b' : Nat) : AV → Bool
  | .ptr x _ => !Nat.beq x b'
  | .eptr x _ _ _ => !Nat.beq x b' && !Nat.beq x b
  | .own x => !Nat.beq x b'
  | .mp x => !Nat.beq x b'
  | .agg l => nors b b' l
  | .tup l => nors b b' l
  | _ => true
def nors (b b' : Nat) : List AV → Bool
  | [] => true
  | x :: r => AV.nor b b' x && nors b b' r
end
def norT (b b' : Nat) : List (Nat × AV) → Bool
  | [] => true
  | (_, v) :: r => AV.nor b b' v && norT b b' r
def norH (b b' : Nat) : List Slot → Bool
  | [] => true
  | .box _ cs :: r => AV.nor b b' cs && norH b b' r
  | _ :: r => norH b b' r
def mv1 (b b' : Nat) (st : St) : Option St := match st.H[b]? with
  | some (.row ty n l) => match st.H[b']? with
    | some .dead => match norT b b' st.T && norH b b' st.H && !Nat.beq b b' with
      | true => some ⟨fzT b (.own b') st.T, ((st.H.set b' (.row ty n l)).set b .dead).map (Slot.fz b (.own b'))⟩
      | false => none
    | _ => none
  | _ => none
def Env.mv (e : Env) (b b' : Nat) : Env := { ok := fun x => x = b' ∨ e.ok x, m := e.m, sv := fun x => if x = b' then e.sv b else e.sv x, I := e.I }
theorem nbeq {x y : Nat} (h : (!Nat.beq x y) = true) : x ≠ y := by rintro rfl; simp at h
mutual
theorem VR.mv {e : Env} {b b' : Nat} : ∀ (x : AV) (v : Value), AV.nor b b' x = true → VR e x v → VR (e.mv b b') (AV.fz b (.own b') x) v
  | .ptr x off, v, hk, hv => by
    unfold AV.nor at hk; unfold AV.fz; unfold VR at hv ⊢
    exact ⟨.inr hv.1, hv.2⟩
  | .eptr x n j off, v, hk, hv => by
    unfold AV.nor at hk; unfold AV.fz; unfold VR at hv ⊢
    rw [Bool.and_eq_true] at hk
    refine ⟨.inr hv.1, ?_⟩
    rw [show (e.mv b b').sv x = e.sv x from if_neg (nbeq hk.1)]
    exact hv.2
  | .own x, v, hk, hv => by
    unfold AV.nor at hk; unfold AV.fz
    split
    · rename_i hb
      have := beq_nat hb
      subst this
      unfold VR at hv ⊢
      exact ⟨.inl rfl, by rw [show (e.mv x b').sv b' = e.sv x from if_pos rfl]; exact hv.2.1, hv.2.2⟩
    · unfold VR at hv ⊢
      exact ⟨.inr hv.1, by rw [show (e.mv b b').sv x = e.sv x from if_neg (nbeq hk)]; exact hv.2.1, hv.2.2⟩
  | .mp x, v, hk, hv => by
    unfold AV.nor at hk; unfold AV.fz; unfold VR at hv ⊢
    exact ⟨.inr hv.1, hv.2⟩
  | .agg l, v, hk, hv => by
    unfold AV.nor at hk; unfold AV.fz
    obtain ⟨cs, e1, h1⟩ := VR.agg.1 hv
    exact VR.agg.2 ⟨cs, e1, VRs.mv l cs hk h1⟩
  | .tup l, v, hk, hv => by
    unfold AV.nor at hk; unfold AV.fz
    obtain ⟨cs, e1, h1⟩ := VR.tup.1 hv
    exact VR.tup.2 ⟨cs, e1, VRs.mv l cs hk h1⟩
  | .lf x, v, _, hv => by unfold AV.fz; unfold VR at hv ⊢; exact hv
  | .dat r, v, _, hv => by unfold AV.fz; unfold VR at hv ⊢; exact hv
  | .dp r off, v, _, hv => by unfold AV.fz; unfold VR at hv ⊢; exact hv
  | .nils n, v, _, hv => by unfold AV.fz; unfold VR at hv ⊢; exact hv
  | .raw u, v, _, hv => by unfold AV.fz; unfold VR at hv ⊢; exact hv
theorem VRs.mv {e : Env} {b b' : Nat} : ∀ (l : List AV) (cs : List Value), nors b b' l = true → VRs e l cs → VRs (e.mv b b') (fzs b (.own b') l) cs
  | [], cs, _, hv => by unfold fzs; unfold VRs at hv ⊢; exact hv
  | x :: r, cs, hk, hv => by
    unfold nors at hk
    rw [Bool.and_eq_true] at hk
    unfold fzs
    unfold VRs at hv ⊢
    obtain ⟨u, q, e1, h1, h2⟩ := hv
    exact ⟨u, q, e1, VR.mv x u hk.1 h1, VRs.mv r q hk.2 h2⟩
end
theorem norT_at {b b' : Nat} : ∀ {T : List (Nat × AV)} {t : Nat} {v : AV}, norT b b' T = true → lk T t = some v → AV.nor b b' v = true
  | [], t, v, _, h => by cases h
  | (k, x) :: r, t, v, hn, h => by
    unfold norT at hn
    rw [Bool.and_eq_true] at hn
    unfold lk at h
    split at h
    · injection h with h; subst h; exact hn.1
    · exact norT_at hn.2 h
theorem norH_at {b b' : Nat} : ∀ {H : List Slot} {x : Nat} {ty : TypeId} {cs : AV}, norH b b' H = true → H[x]? = some (.box ty cs) → AV.nor b b' cs = true
  | [], x, ty, cs, _, h => by simp at h
  | s :: r, x, ty, cs, hn, h => by
    cases x with
    | zero =>
      obtain rfl : s = .box ty cs := by simpa using h
      unfold norH at hn
      rw [Bool.and_eq_true] at hn
      exact hn.1
    | succ x =>
      refine norH_at (H := r) (x := x) ?_ (by simpa using h)
      cases s with
      | box ty' cs' => unfold norH at hn; rw [Bool.and_eq_true] at hn; exact hn.2
      | row ty' n l => unfold norH at hn; exact hn
      | dead => unfold norH at hn; exact hn
      | free => unfold norH at hn; exact hn
      | map P1 k1 e1 l1 => unfold norH at hn; exact hn
theorem mv1_ok {c : Ctx} {b b' : Nat} {st st' : St} (h : mv1 b b' st = some st') {e : Env} {C : Nat → List Value} {a : Act} {w : World} (hR : Rep c e C st a w) : ∃ e' C', Rep c e' C' st' a w := by
  unfold mv1 at h
  split at h
  · rename_i ty n l hb
    split at h
    · rename_i hb'
      split at h
      · rename_i hk
        simp only [Bool.and_eq_true] at hk
        obtain ⟨⟨hkT, hkH⟩, hne⟩ := hk
        have hne := nbeq hne
        injection h with h
        subst h
        have hM := hR.mem
        have hlt := (List.getElem?_eq_some_iff.1 hb).1
        have hlt' := (List.getElem?_eq_some_iff.1 hb').1
        have hC : ∀ x, x ≠ b' → cset C b' (C b) x = C x := fun x hx => if_neg hx
        have hCb : cset C b' (C b) b' = C b := if_pos rfl
        have hsv : ∀ x, x ≠ b' → (e.mv b b').sv x = e.sv x := fun x hx => if_neg hx
        have hsvb : (e.mv b b').sv b' = e.sv b := if_pos rfl
        have key : ∀ x s, (((st.H.set b' (.row ty n l)).set b .dead).map (Slot.fz b (.own b')))[x]? = some s → (x = b ∧ s = .dead) ∨ (x = b' ∧ s = .row ty n l) ∨ (x ≠ b ∧ x ≠ b' ∧ ∃ s0, st.H[x]? = some s0 ∧ s = s0.fz b (.own b')) := fun x s hs => by
          rw [List.getElem?_map, List.getElem?_set] at hs
          by_cases hx : b = x
          · rw [if_pos hx] at hs
            split at hs
            · simp [Slot.fz] at hs; exact .inl ⟨hx.symm, hs.symm⟩
            · rename_i hf; exact absurd (by rw [List.length_set]; exact hlt) hf
          · rw [if_neg hx, List.getElem?_set] at hs
            by_cases hx' : b' = x
            · rw [if_pos hx'] at hs
              split at hs
              · simp [Slot.fz] at hs; exact .inr (.inl ⟨hx'.symm, hs.symm⟩)
              · rename_i hf; exact absurd hlt' hf
            · rw [if_neg hx'] at hs
              cases hq : st.H[x]? with
              | none => rw [hq] at hs; simp at hs
              | some s0 => rw [hq] at hs; simp at hs; exact .inr (.inr ⟨Ne.symm hx, Ne.symm hx', s0, rfl, hs.symm⟩)
        have hrow := hM.hv b _ hb
        have hroww : w.ownsRow 0 ty n (e.sv b) l.length (C b) := hM.hw b _ hb
        have blk : ∀ x s g, (((st.H.set b' (.row ty n l)).set b .dead).map (Slot.fz b (.own b')))[x]? = some s → blkOf (e.mv b b') x s = some g → ∃ y s0, st.H[y]? = some s0 ∧ blkOf e y s0 = some g ∧ (x = b' ∧ y = b ∨ x ≠ b' ∧ x ≠ b ∧ y = x) := fun x s g hs hg => by
          rcases key x s hs with ⟨rfl, rfl⟩ | ⟨rfl, rfl⟩ | ⟨h1, h2, s0, h3, rfl⟩
          · cases hg
          · refine ⟨b, _, hb, ?_, .inl ⟨rfl, rfl⟩⟩
            have hg : ((e.mv b x).sv x).ownBlock = some g := hg
            rw [hsvb] at hg; exact hg
          · refine ⟨x, s0, h3, ?_, .inr ⟨h2, h1, rfl⟩⟩
            cases s0 with
            | box ty' cs => exact hg
            | row ty' n' l' =>
              have hg : ((e.mv b b').sv x).ownBlock = some g := hg
              rw [hsv x h2] at hg; exact hg
            | dead => cases hg
            | free => cases hg
            | map P1 k1 e1 l1 => exact hg
        refine ⟨e.mv b b', cset C b' (C b), ⟨fun t v hv => ?_, hR.size, hR.defers, ⟨fun x s hs => ?_, fun x s hs => ?_, fun x hx => ?_, fun x x' s s' g h1 h2 k1 k2 => ?_, fun x s g hs hg => ?_, fun x s g hs hg => ?_, hM.inv, hM.le, hM.fresh, hM.ch, hM.g⟩⟩⟩
        · have hv : lk (fzT b (.own b') st.T) t = some v := hv
          rw [lk_fzT] at hv
          cases hq : lk st.T t with
          | none => rw [hq] at hv; cases hv
          | some y =>
            rw [hq] at hv
            injection hv with hv
            subst hv
            obtain ⟨u, k1, k2⟩ := hR.tmp t y hq
            exact ⟨u, k1, VR.mv y u (norT_at hkT hq) k2⟩
        · rcases key x s hs with ⟨rfl, rfl⟩ | ⟨rfl, rfl⟩ | ⟨h1, h2, s0, h3, rfl⟩
          · trivial
          · exact ⟨.inl rfl, by rw [hCb]; exact hrow.2.1, hrow.2.2.1, hrow.2.2.2.1, by rw [hsvb]; exact hrow.2.2.2.2⟩
          · have h4 := hM.hv x s0 h3
            cases s0 with
            | box ty' cs => exact ⟨.inr h4.1, by rw [hC x h2]; exact VR.mv cs _ (norH_at hkH h3) h4.2⟩
            | row ty' n' l' => exact ⟨.inr h4.1, by rw [hC x h2]; exact h4.2.1, h4.2.2.1, h4.2.2.2.1, by rw [hsv x h2]; exact h4.2.2.2.2⟩
            | dead => trivial
            | free =>
              show ¬ (x = b' ∨ e.ok x)
              rintro (h5 | h5)
              · exact h2 h5
              · exact h4 h5
            | map P1 k1 e1 l1 => exact ⟨.inr h4.1, h4.2⟩
        · rcases key x s hs with ⟨rfl, rfl⟩ | ⟨rfl, rfl⟩ | ⟨h1, h2, s0, h3, rfl⟩
          · trivial
          · show w.ownsRow 0 ty n ((e.mv b x).sv x) l.length (cset C x (C b) x)
            rw [hsvb, hCb]; exact hroww
          · have h4 := hM.hw x s0 h3
            cases s0 with
            | box ty' cs => show w.heap[e.m x]? = some (Obj.cells (cset C b' (C b) x).toArray ty' (0, 0)); rw [hC x h2]; exact h4
            | row ty' n' l' => show w.ownsRow 0 ty' n' ((e.mv b b').sv x) l'.length (cset C b' (C b) x); rw [hsv x h2, hC x h2]; exact h4
            | dead => trivial
            | free => trivial
            | map P1 k1 e1 l1 => exact h4
        · show x < (((st.H.set b' (.row ty n l)).set b .dead).map _).length
          rw [List.length_map, List.length_set, List.length_set]
          rcases hx with rfl | hx
          · exact hlt'
          · exact hM.bound x hx
        · obtain ⟨y, s0, m1, m2, m3⟩ := blk x s g h1 k1
          obtain ⟨y', s0', n1, n2, n3⟩ := blk x' s' g h2 k2
          have := hM.inj y y' s0 s0' g m1 n1 m2 n2
          subst this
          rcases m3 with ⟨rfl, rfl⟩ | ⟨h5, h6, rfl⟩ <;> rcases n3 with ⟨rfl, h7⟩ | ⟨h7, h8, h9⟩
          · rfl
          · exact absurd h9.symm h8
          · exact absurd h7 h6
          · exact h9
        · obtain ⟨y, s0, m1, m2, _⟩ := blk x s g hs hg
          exact hM.av y s0 g m1 m2
        · obtain ⟨y, s0, m1, m2, _⟩ := blk x s g hs hg
          exact hM.mine y s0 g m1 m2
      · cases h
    · cases h
  · cases h
def mvs : List (Nat × Nat) → St → Option St
  | [], st => some st
  | (b, b') :: r, st => match mv1 b b' st with
    | some st1 => mvs r st1
    | none => none
theorem mvs_ok {c : Ctx} : ∀ {l : List (Nat × Nat)} {st st' : St}, mvs l st = some st' → ∀ {e : Env} {C : Nat → List Value} {a : Act} {w : World}, Rep c e C st a w → ∃ e' C', Rep c e' C' st' a w
  | [], st, st', h, e, C, a, w, hR => by
    simp only [mvs] at h; injection h with h; subst h; exact ⟨e, C, hR⟩
  | (b, b') :: r, st, st', h, e, C, a, w, hR => by
    simp only [mvs] at h
    split at h
    · rename_i st1 h1
      obtain ⟨e1, C1, k⟩ := mv1_ok h1 hR
      exact mvs_ok h k
    · cases h
/-- a state is made to fit another: ghosts, what is kept, rows moved, slots dropped -/
structure Fit where
  gs : List Ans
  keys : List Nat
  mv : List (Nat × Nat)
  k : Nat
def fixS (wr : Nat → Prop) (f : Fit) (st : St) : Option (St × List Prop) := match gos wr st f.gs with
  | some ⟨st1, [], p, _, _⟩ => match cutS f.keys st1.H.length st1 with
    | some st2 => match mvs f.mv st2 with
      | some st3 => match cutS f.keys f.k st3 with
        | some st4 => some (st4, p)
        | none => none
      | none => none
    | none => none
  | _ => none
theorem fixS_ok {c : Ctx} (hc : c.Ok) {f : Fit} {st st' : St} {p : List Prop} (h : fixS c.wr f st = some (st', p)) (hp : AllP p) {e : Env} {C : Nat → List Value} {a : Act} {w : World} (hR : Rep c e C st a w) : ∃ e' C', Rep c e' C' st' a w := by
  unfold fixS at h
  split at h
  · rename_i st1 p1 ch gr hg
    split at h
    · rename_i st2 h2
      split at h
      · rename_i st3 h3
        split at h
        · rename_i st4 h4
          injection h with h
          injection h with h1 h5
          subst h1 h5
          obtain ⟨e1, C1, k1, _⟩ := gos_ok hc hg hp e C a w hR
          obtain ⟨e3, C3, k3⟩ := mvs_ok h3 (cutS_ok h2 k1)
          exact ⟨_, C3, cutS_ok h4 k3⟩
        · cases h
      · cases h
    · cases h
  · cases h
theorem AL.fix {c : Ctx} (hc : c.Ok) {body : Code} {x : Exit} {st' st st1 : St} (f : Fit) {p : List Prop} (hs : fixS c.wr f st = some (st1, p)) (hp : AllP p) (h : AL c body x st' st1) : AL c body x st' st := fun e C a w hR => by
  obtain ⟨e', C', hR'⟩ := fixS_ok hc hs hp hR
  exact h e' C' a w hR'
theorem AW.fix {c : Ctx} (hc : c.Ok) {code : Code} {x : Exit} {st' st st1 : St} (f : Fit) {p : List Prop} (hs : fixS c.wr f st = some (st1, p)) (hp : AllP p) (h : AW c code x st' st1) : AW c code x st' st := fun e C a w hR => by
  obtain ⟨e', C', hR'⟩ := fixS_ok hc hs hp hR
  exact h e' C' a w hR'
/-- a part: how it comes out, in a state made to fit, and on what terms -/
def exX (P : Program) (G : Gh → Prop) (tt : TT) (nt : Nat) (code : Code) (st : St) (qs : List Ans) (f : Fit) : Option (Exit × St × List Prop) :=
  match ex P G tt nt code st qs with
  | some ⟨x, st1, [], p⟩ => match fixS (fun _ => False) f st1 with
    | some (st2, p2) => some (x, st2, p ++ p2)
    | none => none
  | _ => none
theorem aw_exX {P : Program} {G : Gh → Prop} {tt : TT} (hB : Base P G tt) {nt : Nat} {w0 : World} {I0 : Gh} {code : Code} {st st' : St} (qs : List Ans) (f : Fit) {x : Exit} (p : List Prop) (h : exX P G tt nt code st qs f = some (x, st', p)) (hp : AllP p) : AW (mkC P G tt nt w0 I0) code x st' st := by
  unfold exX at h
  split at h
  · rename_i x1 st1 p1 he
    split at h
    · rename_i st2 p2 hs
      injection h with h
      injection h with h1 h2
      injection h2 with h2 h3
      subst h1 h2 h3
      obtain ⟨q1, q2⟩ := AllP.app hp
      intro e C a w hR
      refine Code.wp_mono ?_ (aw_ex hB qs p1 he q1 e C a w hR)
      rintro x' a' w' ⟨rfl, e', C', h'⟩
      obtain ⟨e2, C2, k⟩ := fixS_ok (c := mkC P G tt nt w0 I0) (hB.full nt w0 I0).toOk hs q2 h'
      exact ⟨rfl, e2, C2, k⟩
    · cases h
  · cases h
end Go.Proofs.YtplokbmdcfakbaaDoor
set_option linter.unusedSimpArgs false
set_option linter.unusedVariables false
namespace Go.Proofs.YtplokbmdcfakbaaDoor
open Go.RowKit
def lfI (x : Int) : List Lf := [.int .i64 x]
def lfK (k : IntKind) (x : Int) : List Lf := [.int k x]
def lfS (x : ByteArray) : List Lf := [.str x]
def lfB (x : Bool) : List Lf := [.bool x]
structure GDecision where
  fID : ByteArray
  fShards : List Int
  fVotes : List Int
  fState : Int
  fCommit : Int
  fAcked : List Bool
def GDecision.lf1 (x : GDecision) : List Lf := [.str x.fID, .rows 1 (x.fShards.map lfI), .rows 1 (x.fVotes.map lfI), .int .i64 x.fState, .int .i64 x.fCommit, .rows 1 (x.fAcked.map lfB)]
abbrev GDecision.lf (x : GDecision) : List Lf := x.lf1
theorem GDecision.lf_eq (x : GDecision) : x.lf = x.lf1 := rfl
structure GLaw54Op where
  fKind : Int
  fShard : Int
  fStamp : Int
def GLaw54Op.lf1 (x : GLaw54Op) : List Lf := [.int .i64 x.fKind, .int .i64 x.fShard, .int .i64 x.fStamp]
abbrev GLaw54Op.lf (x : GLaw54Op) : List Lf := x.lf1
theorem GLaw54Op.lf_eq (x : GLaw54Op) : x.lf = x.lf1 := rfl
mutual
inductive GField where
  | mk (fName : ByteArray) (fValue : GValue)
inductive GValue where
  | mk (fKind : Int) (fInt : Int) (fText : ByteArray) (fList : List GValue) (fDoc : List GField)
end
def GField.fName : GField → ByteArray | .mk x _ => x
def GField.fValue : GField → GValue | .mk _ x => x
def GValue.fKind : GValue → Int | .mk x _ _ _ _ => x
def GValue.fInt : GValue → Int | .mk _ x _ _ _ => x
def GValue.fText : GValue → ByteArray | .mk _ _ x _ _ => x
def GValue.fList : GValue → List GValue | .mk _ _ _ x _ => x
def GValue.fDoc : GValue → List GField | .mk _ _ _ _ x => x
mutual
def GField.lf : GField → List Lf
  | .mk x0 x1 => [.str x0] ++ (GValue.lf x1)
def GValue.lf : GValue → List Lf
  | .mk x0 x1 x2 x3 x4 => [.int .i64 x0, .int .i64 x1, .str x2, .rows 5 (GValue.lfs x3), .rows 6 (GField.lfs x4)]
def GValue.lfs : List GValue → List (List Lf)
  | [] => []
  | x :: r => GValue.lf x :: GValue.lfs r
def GField.lfs : List GField → List (List Lf)
  | [] => []
  | x :: r => GField.lf x :: GField.lfs r
end
theorem GValue.lfs_eq : ∀ l : List GValue, GValue.lfs l = l.map GValue.lf
  | [] => by simp [GValue.lfs]
  | x :: r => by simp [GValue.lfs, GValue.lfs_eq r]
theorem GField.lfs_eq : ∀ l : List GField, GField.lfs l = l.map GField.lf
  | [] => by simp [GField.lfs]
  | x :: r => by simp [GField.lfs, GField.lfs_eq r]
def GValue.lf1 (x : GValue) : List Lf := [.int .i64 x.fKind, .int .i64 x.fInt, .str x.fText, .rows 5 (x.fList.map GValue.lf), .rows 6 (x.fDoc.map GField.lf)]
theorem GValue.lf_eq (x : GValue) : x.lf = x.lf1 := by
  cases x
  simp only [GValue.lf, GValue.lf1, GValue.fKind, GValue.fInt, GValue.fText, GValue.fList, GValue.fDoc, GValue.lfs_eq, GField.lfs_eq]
def GField.lf1 (x : GField) : List Lf := [.str x.fName] ++ (GValue.lf1 x.fValue)
theorem GField.lf_eq (x : GField) : x.lf = x.lf1 := by
  cases x
  simp only [GField.lf, GField.lf1, GField.fName, GField.fValue, GValue.lfs_eq, GField.lfs_eq, GValue.lf_eq]
structure GOrder where
  fPath : List ByteArray
  fDesc : Bool
def GOrder.lf1 (x : GOrder) : List Lf := [.rows 1 (x.fPath.map lfS), .bool x.fDesc]
abbrev GOrder.lf (x : GOrder) : List Lf := x.lf1
theorem GOrder.lf_eq (x : GOrder) : x.lf = x.lf1 := rfl
structure GPoint where
  fX : Int
  fY : Int
def GPoint.lf1 (x : GPoint) : List Lf := [.int .i64 x.fX, .int .i64 x.fY]
abbrev GPoint.lf (x : GPoint) : List Lf := x.lf1
theorem GPoint.lf_eq (x : GPoint) : x.lf = x.lf1 := rfl
structure GShape where
  fKind : Int
  fPoints : List GPoint
  fR : Int
def GShape.lf1 (x : GShape) : List Lf := [.int .i64 x.fKind, .rows 2 (x.fPoints.map GPoint.lf), .int .i64 x.fR]
abbrev GShape.lf (x : GShape) : List Lf := x.lf1
theorem GShape.lf_eq (x : GShape) : x.lf = x.lf1 := rfl
inductive GExpr where
  | mk (fOp : Int) (fPath : List ByteArray) (fName : ByteArray) (fNames : List ByteArray) (fArg : GValue) (fN : Int) (fKids : List GExpr)
def GExpr.fOp : GExpr → Int | .mk x _ _ _ _ _ _ => x
def GExpr.fPath : GExpr → List ByteArray | .mk _ x _ _ _ _ _ => x
def GExpr.fName : GExpr → ByteArray | .mk _ _ x _ _ _ _ => x
def GExpr.fNames : GExpr → List ByteArray | .mk _ _ _ x _ _ _ => x
def GExpr.fArg : GExpr → GValue | .mk _ _ _ _ x _ _ => x
def GExpr.fN : GExpr → Int | .mk _ _ _ _ _ x _ => x
def GExpr.fKids : GExpr → List GExpr | .mk _ _ _ _ _ _ x => x
mutual
def GExpr.lf : GExpr → List Lf
  | .mk x0 x1 x2 x3 x4 x5 x6 => [.int .i64 x0, .rows 1 (x1.map lfS), .str x2, .rows 1 (x3.map lfS)] ++ (GValue.lf1 x4 ++ ([.int .i64 x5, .rows 11 (GExpr.lfs x6)]))
def GExpr.lfs : List GExpr → List (List Lf)
  | [] => []
  | x :: r => GExpr.lf x :: GExpr.lfs r
end
theorem GExpr.lfs_eq : ∀ l : List GExpr, GExpr.lfs l = l.map GExpr.lf
  | [] => by simp [GExpr.lfs]
  | x :: r => by simp [GExpr.lfs, GExpr.lfs_eq r]
def GExpr.lf1 (x : GExpr) : List Lf := [.int .i64 x.fOp, .rows 1 (x.fPath.map lfS), .str x.fName, .rows 1 (x.fNames.map lfS)] ++ (GValue.lf1 x.fArg ++ ([.int .i64 x.fN, .rows 11 (x.fKids.map GExpr.lf)]))
theorem GExpr.lf_eq (x : GExpr) : x.lf = x.lf1 := by
  cases x
  simp only [GExpr.lf, GExpr.lf1, GExpr.fOp, GExpr.fPath, GExpr.fName, GExpr.fNames, GExpr.fArg, GExpr.fN, GExpr.fKids, GExpr.lfs_eq]
inductive GPred where
  | mk (fOp : Int) (fPath : List ByteArray) (fArg : GValue) (fArgs : List GValue) (fN : Int) (fM : Int) (fShape : GShape) (fExpr : GExpr) (fKids : List GPred)
def GPred.fOp : GPred → Int | .mk x _ _ _ _ _ _ _ _ => x
def GPred.fPath : GPred → List ByteArray | .mk _ x _ _ _ _ _ _ _ => x
def GPred.fArg : GPred → GValue | .mk _ _ x _ _ _ _ _ _ => x
def GPred.fArgs : GPred → List GValue | .mk _ _ _ x _ _ _ _ _ => x
def GPred.fN : GPred → Int | .mk _ _ _ _ x _ _ _ _ => x
def GPred.fM : GPred → Int | .mk _ _ _ _ _ x _ _ _ => x
def GPred.fShape : GPred → GShape | .mk _ _ _ _ _ _ x _ _ => x
def GPred.fExpr : GPred → GExpr | .mk _ _ _ _ _ _ _ x _ => x
def GPred.fKids : GPred → List GPred | .mk _ _ _ _ _ _ _ _ x => x
mutual
def GPred.lf : GPred → List Lf
  | .mk x0 x1 x2 x3 x4 x5 x6 x7 x8 => [.int .i64 x0, .rows 1 (x1.map lfS)] ++ (GValue.lf1 x2 ++ ([.rows 5 (x3.map GValue.lf), .int .i64 x4, .int .i64 x5] ++ (GShape.lf1 x6 ++ (GExpr.lf1 x7 ++ ([.rows 25 (GPred.lfs x8)])))))
def GPred.lfs : List GPred → List (List Lf)
  | [] => []
  | x :: r => GPred.lf x :: GPred.lfs r
end
theorem GPred.lfs_eq : ∀ l : List GPred, GPred.lfs l = l.map GPred.lf
  | [] => by simp [GPred.lfs]
  | x :: r => by simp [GPred.lfs, GPred.lfs_eq r]
def GPred.lf1 (x : GPred) : List Lf := [.int .i64 x.fOp, .rows 1 (x.fPath.map lfS)] ++ (GValue.lf1 x.fArg ++ ([.rows 5 (x.fArgs.map GValue.lf), .int .i64 x.fN, .int .i64 x.fM] ++ (GShape.lf1 x.fShape ++ (GExpr.lf1 x.fExpr ++ ([.rows 25 (x.fKids.map GPred.lf)])))))
theorem GPred.lf_eq (x : GPred) : x.lf = x.lf1 := by
  cases x
  simp only [GPred.lf, GPred.lf1, GPred.fOp, GPred.fPath, GPred.fArg, GPred.fArgs, GPred.fN, GPred.fM, GPred.fShape, GPred.fExpr, GPred.fKids, GPred.lfs_eq]
structure GIndex where
  fName : ByteArray
  fKind : Int
  fKeys : List GOrder
  fUnique : Bool
  fSparse : Bool
  fPartial : Bool
  fWhere : GPred
def GIndex.lf1 (x : GIndex) : List Lf := [.str x.fName, .int .i64 x.fKind, .rows 2 (x.fKeys.map GOrder.lf), .bool x.fUnique, .bool x.fSparse, .bool x.fPartial] ++ (GPred.lf1 x.fWhere)
abbrev GIndex.lf (x : GIndex) : List Lf := x.lf1
theorem GIndex.lf_eq (x : GIndex) : x.lf = x.lf1 := rfl
mutual
inductive GProp where
  | mk (fName : ByteArray) (fSchema : GSchema)
inductive GSchema where
  | mk (fKinds : Int) (fHasMin : Bool) (fMin : GValue) (fHasMax : Bool) (fMax : GValue) (fEnum : List GValue) (fMinLen : Int) (fMaxLen : Int) (fRequired : List ByteArray) (fProps : List GProp) (fClosed : Bool) (fItems : List GSchema) (fUnique : Bool)
end
def GProp.fName : GProp → ByteArray | .mk x _ => x
def GProp.fSchema : GProp → GSchema | .mk _ x => x
def GSchema.fKinds : GSchema → Int | .mk x _ _ _ _ _ _ _ _ _ _ _ _ => x
def GSchema.fHasMin : GSchema → Bool | .mk _ x _ _ _ _ _ _ _ _ _ _ _ => x
def GSchema.fMin : GSchema → GValue | .mk _ _ x _ _ _ _ _ _ _ _ _ _ => x
def GSchema.fHasMax : GSchema → Bool | .mk _ _ _ x _ _ _ _ _ _ _ _ _ => x
def GSchema.fMax : GSchema → GValue | .mk _ _ _ _ x _ _ _ _ _ _ _ _ => x
def GSchema.fEnum : GSchema → List GValue | .mk _ _ _ _ _ x _ _ _ _ _ _ _ => x
def GSchema.fMinLen : GSchema → Int | .mk _ _ _ _ _ _ x _ _ _ _ _ _ => x
def GSchema.fMaxLen : GSchema → Int | .mk _ _ _ _ _ _ _ x _ _ _ _ _ => x
def GSchema.fRequired : GSchema → List ByteArray | .mk _ _ _ _ _ _ _ _ x _ _ _ _ => x
def GSchema.fProps : GSchema → List GProp | .mk _ _ _ _ _ _ _ _ _ x _ _ _ => x
def GSchema.fClosed : GSchema → Bool | .mk _ _ _ _ _ _ _ _ _ _ x _ _ => x
def GSchema.fItems : GSchema → List GSchema | .mk _ _ _ _ _ _ _ _ _ _ _ x _ => x
def GSchema.fUnique : GSchema → Bool | .mk _ _ _ _ _ _ _ _ _ _ _ _ x => x
mutual
def GProp.lf : GProp → List Lf
  | .mk x0 x1 => [.str x0] ++ (GSchema.lf x1)
def GSchema.lf : GSchema → List Lf
  | .mk x0 x1 x2 x3 x4 x5 x6 x7 x8 x9 x10 x11 x12 => [.int .i64 x0, .bool x1] ++ (GValue.lf1 x2 ++ ([.bool x3] ++ (GValue.lf1 x4 ++ ([.rows 5 (x5.map GValue.lf), .int .i64 x6, .int .i64 x7, .rows 1 (x8.map lfS), .rows 22 (GProp.lfs x9), .bool x10, .rows 21 (GSchema.lfs x11), .bool x12]))))
def GProp.lfs : List GProp → List (List Lf)
  | [] => []
  | x :: r => GProp.lf x :: GProp.lfs r
def GSchema.lfs : List GSchema → List (List Lf)
  | [] => []
  | x :: r => GSchema.lf x :: GSchema.lfs r
end
theorem GProp.lfs_eq : ∀ l : List GProp, GProp.lfs l = l.map GProp.lf
  | [] => by simp [GProp.lfs]
  | x :: r => by simp [GProp.lfs, GProp.lfs_eq r]
theorem GSchema.lfs_eq : ∀ l : List GSchema, GSchema.lfs l = l.map GSchema.lf
  | [] => by simp [GSchema.lfs]
  | x :: r => by simp [GSchema.lfs, GSchema.lfs_eq r]
def GSchema.lf1 (x : GSchema) : List Lf := [.int .i64 x.fKinds, .bool x.fHasMin] ++ (GValue.lf1 x.fMin ++ ([.bool x.fHasMax] ++ (GValue.lf1 x.fMax ++ ([.rows 5 (x.fEnum.map GValue.lf), .int .i64 x.fMinLen, .int .i64 x.fMaxLen, .rows 1 (x.fRequired.map lfS), .rows 22 (x.fProps.map GProp.lf), .bool x.fClosed, .rows 21 (x.fItems.map GSchema.lf), .bool x.fUnique]))))
theorem GSchema.lf_eq (x : GSchema) : x.lf = x.lf1 := by
  cases x
  simp only [GSchema.lf, GSchema.lf1, GSchema.fKinds, GSchema.fHasMin, GSchema.fMin, GSchema.fHasMax, GSchema.fMax, GSchema.fEnum, GSchema.fMinLen, GSchema.fMaxLen, GSchema.fRequired, GSchema.fProps, GSchema.fClosed, GSchema.fItems, GSchema.fUnique, GProp.lfs_eq, GSchema.lfs_eq]
def GProp.lf1 (x : GProp) : List Lf := [.str x.fName] ++ (GSchema.lf1 x.fSchema)
theorem GProp.lf_eq (x : GProp) : x.lf = x.lf1 := by
  cases x
  simp only [GProp.lf, GProp.lf1, GProp.fName, GProp.fSchema, GProp.lfs_eq, GSchema.lfs_eq, GSchema.lf_eq]
structure GSpace where
  fName : ByteArray
  fIndexes : List GIndex
  fSchema : GSchema
  fLevel : Int
  fAction : Int
def GSpace.lf1 (x : GSpace) : List Lf := [.str x.fName, .rows 31 (x.fIndexes.map GIndex.lf)] ++ (GSchema.lf1 x.fSchema ++ ([.int .i64 x.fLevel, .int .i64 x.fAction]))
abbrev GSpace.lf (x : GSpace) : List Lf := x.lf1
theorem GSpace.lf_eq (x : GSpace) : x.lf = x.lf1 := rfl
inductive GWrite where
  | mk (fKind : Int) (fSpace : ByteArray) (fKey : GValue) (fDoc : GValue) (fBefore : GValue) (fDef : GSpace) (fIndex : GIndex) (fTxn : ByteArray) (fStamp : Int) (fWrites : List GWrite) (fShards : List Int) (fSilent : Bool)
def GWrite.fKind : GWrite → Int | .mk x _ _ _ _ _ _ _ _ _ _ _ => x
def GWrite.fSpace : GWrite → ByteArray | .mk _ x _ _ _ _ _ _ _ _ _ _ => x
def GWrite.fKey : GWrite → GValue | .mk _ _ x _ _ _ _ _ _ _ _ _ => x
def GWrite.fDoc : GWrite → GValue | .mk _ _ _ x _ _ _ _ _ _ _ _ => x
def GWrite.fBefore : GWrite → GValue | .mk _ _ _ _ x _ _ _ _ _ _ _ => x
def GWrite.fDef : GWrite → GSpace | .mk _ _ _ _ _ x _ _ _ _ _ _ => x
def GWrite.fIndex : GWrite → GIndex | .mk _ _ _ _ _ _ x _ _ _ _ _ => x
def GWrite.fTxn : GWrite → ByteArray | .mk _ _ _ _ _ _ _ x _ _ _ _ => x
def GWrite.fStamp : GWrite → Int | .mk _ _ _ _ _ _ _ _ x _ _ _ => x
def GWrite.fWrites : GWrite → List GWrite | .mk _ _ _ _ _ _ _ _ _ x _ _ => x
def GWrite.fShards : GWrite → List Int | .mk _ _ _ _ _ _ _ _ _ _ x _ => x
def GWrite.fSilent : GWrite → Bool | .mk _ _ _ _ _ _ _ _ _ _ _ x => x
mutual
def GWrite.lf : GWrite → List Lf
  | .mk x0 x1 x2 x3 x4 x5 x6 x7 x8 x9 x10 x11 => [.int .i64 x0, .str x1] ++ (GValue.lf1 x2 ++ (GValue.lf1 x3 ++ (GValue.lf1 x4 ++ (GSpace.lf1 x5 ++ (GIndex.lf1 x6 ++ ([.str x7, .int .i64 x8, .rows 78 (GWrite.lfs x9), .rows 1 (x10.map lfI), .bool x11]))))))
def GWrite.lfs : List GWrite → List (List Lf)
  | [] => []
  | x :: r => GWrite.lf x :: GWrite.lfs r
end
theorem GWrite.lfs_eq : ∀ l : List GWrite, GWrite.lfs l = l.map GWrite.lf
  | [] => by simp [GWrite.lfs]
  | x :: r => by simp [GWrite.lfs, GWrite.lfs_eq r]
def GWrite.lf1 (x : GWrite) : List Lf := [.int .i64 x.fKind, .str x.fSpace] ++ (GValue.lf1 x.fKey ++ (GValue.lf1 x.fDoc ++ (GValue.lf1 x.fBefore ++ (GSpace.lf1 x.fDef ++ (GIndex.lf1 x.fIndex ++ ([.str x.fTxn, .int .i64 x.fStamp, .rows 78 (x.fWrites.map GWrite.lf), .rows 1 (x.fShards.map lfI), .bool x.fSilent]))))))
theorem GWrite.lf_eq (x : GWrite) : x.lf = x.lf1 := by
  cases x
  simp only [GWrite.lf, GWrite.lf1, GWrite.fKind, GWrite.fSpace, GWrite.fKey, GWrite.fDoc, GWrite.fBefore, GWrite.fDef, GWrite.fIndex, GWrite.fTxn, GWrite.fStamp, GWrite.fWrites, GWrite.fShards, GWrite.fSilent, GWrite.lfs_eq]
structure GEntry where
  fTerm : Int
  fStamp : Int
  fSession : ByteArray
  fNumber : Int
  fWrite : GWrite
def GEntry.lf1 (x : GEntry) : List Lf := [.int .i64 x.fTerm, .int .i64 x.fStamp, .str x.fSession, .int .i64 x.fNumber] ++ (GWrite.lf1 x.fWrite)
abbrev GEntry.lf (x : GEntry) : List Lf := x.lf1
theorem GEntry.lf_eq (x : GEntry) : x.lf = x.lf1 := rfl
def GDecision.z : GDecision := .mk ⟨#[]⟩ [] [] 0 0 []
def GDecision.sID (x : GDecision) (v : ByteArray) : GDecision := .mk v x.fShards x.fVotes x.fState x.fCommit x.fAcked
def GDecision.sShards (x : GDecision) (v : List Int) : GDecision := .mk x.fID v x.fVotes x.fState x.fCommit x.fAcked
def GDecision.sVotes (x : GDecision) (v : List Int) : GDecision := .mk x.fID x.fShards v x.fState x.fCommit x.fAcked
def GDecision.sState (x : GDecision) (v : Int) : GDecision := .mk x.fID x.fShards x.fVotes v x.fCommit x.fAcked
def GDecision.sCommit (x : GDecision) (v : Int) : GDecision := .mk x.fID x.fShards x.fVotes x.fState v x.fAcked
def GDecision.sAcked (x : GDecision) (v : List Bool) : GDecision := .mk x.fID x.fShards x.fVotes x.fState x.fCommit v
def GLaw54Op.z : GLaw54Op := .mk 0 0 0
def GValue.z : GValue := .mk 0 0 ⟨#[]⟩ [] []
def GField.z : GField := .mk ⟨#[]⟩ GValue.z
def GOrder.z : GOrder := .mk [] false
def GPoint.z : GPoint := .mk 0 0
def GShape.z : GShape := .mk 0 [] 0
def GExpr.z : GExpr := .mk 0 [] ⟨#[]⟩ [] GValue.z 0 []
def GExpr.sOp (x : GExpr) (v : Int) : GExpr := .mk v x.fPath x.fName x.fNames x.fArg x.fN x.fKids
def GExpr.sPath (x : GExpr) (v : List ByteArray) : GExpr := .mk x.fOp v x.fName x.fNames x.fArg x.fN x.fKids
def GExpr.sName (x : GExpr) (v : ByteArray) : GExpr := .mk x.fOp x.fPath v x.fNames x.fArg x.fN x.fKids
def GExpr.sNames (x : GExpr) (v : List ByteArray) : GExpr := .mk x.fOp x.fPath x.fName v x.fArg x.fN x.fKids
def GExpr.sArg (x : GExpr) (v : GValue) : GExpr := .mk x.fOp x.fPath x.fName x.fNames v x.fN x.fKids
def GExpr.sN (x : GExpr) (v : Int) : GExpr := .mk x.fOp x.fPath x.fName x.fNames x.fArg v x.fKids
def GExpr.sKids (x : GExpr) (v : List GExpr) : GExpr := .mk x.fOp x.fPath x.fName x.fNames x.fArg x.fN v
def GPred.z : GPred := .mk 0 [] GValue.z [] 0 0 GShape.z GExpr.z []
def GPred.sOp (x : GPred) (v : Int) : GPred := .mk v x.fPath x.fArg x.fArgs x.fN x.fM x.fShape x.fExpr x.fKids
def GPred.sPath (x : GPred) (v : List ByteArray) : GPred := .mk x.fOp v x.fArg x.fArgs x.fN x.fM x.fShape x.fExpr x.fKids
def GPred.sArg (x : GPred) (v : GValue) : GPred := .mk x.fOp x.fPath v x.fArgs x.fN x.fM x.fShape x.fExpr x.fKids
def GPred.sArgs (x : GPred) (v : List GValue) : GPred := .mk x.fOp x.fPath x.fArg v x.fN x.fM x.fShape x.fExpr x.fKids
def GPred.sN (x : GPred) (v : Int) : GPred := .mk x.fOp x.fPath x.fArg x.fArgs v x.fM x.fShape x.fExpr x.fKids
def GPred.sM (x : GPred) (v : Int) : GPred := .mk x.fOp x.fPath x.fArg x.fArgs x.fN v x.fShape x.fExpr x.fKids
def GPred.sShape (x : GPred) (v : GShape) : GPred := .mk x.fOp x.fPath x.fArg x.fArgs x.fN x.fM v x.fExpr x.fKids
def GPred.sExpr (x : GPred) (v : GExpr) : GPred := .mk x.fOp x.fPath x.fArg x.fArgs x.fN x.fM x.fShape v x.fKids
def GPred.sKids (x : GPred) (v : List GPred) : GPred := .mk x.fOp x.fPath x.fArg x.fArgs x.fN x.fM x.fShape x.fExpr v
def GIndex.z : GIndex := .mk ⟨#[]⟩ 0 [] false false false GPred.z
def GIndex.sName (x : GIndex) (v : ByteArray) : GIndex := .mk v x.fKind x.fKeys x.fUnique x.fSparse x.fPartial x.fWhere
def GIndex.sKind (x : GIndex) (v : Int) : GIndex := .mk x.fName v x.fKeys x.fUnique x.fSparse x.fPartial x.fWhere
def GIndex.sKeys (x : GIndex) (v : List GOrder) : GIndex := .mk x.fName x.fKind v x.fUnique x.fSparse x.fPartial x.fWhere
def GIndex.sUnique (x : GIndex) (v : Bool) : GIndex := .mk x.fName x.fKind x.fKeys v x.fSparse x.fPartial x.fWhere
def GIndex.sSparse (x : GIndex) (v : Bool) : GIndex := .mk x.fName x.fKind x.fKeys x.fUnique v x.fPartial x.fWhere
def GIndex.sPartial (x : GIndex) (v : Bool) : GIndex := .mk x.fName x.fKind x.fKeys x.fUnique x.fSparse v x.fWhere
def GIndex.sWhere (x : GIndex) (v : GPred) : GIndex := .mk x.fName x.fKind x.fKeys x.fUnique x.fSparse x.fPartial v
def GSchema.z : GSchema := .mk 0 false GValue.z false GValue.z [] 0 0 [] [] false [] false
def GSchema.sKinds (x : GSchema) (v : Int) : GSchema := .mk v x.fHasMin x.fMin x.fHasMax x.fMax x.fEnum x.fMinLen x.fMaxLen x.fRequired x.fProps x.fClosed x.fItems x.fUnique
def GSchema.sHasMin (x : GSchema) (v : Bool) : GSchema := .mk x.fKinds v x.fMin x.fHasMax x.fMax x.fEnum x.fMinLen x.fMaxLen x.fRequired x.fProps x.fClosed x.fItems x.fUnique
def GSchema.sMin (x : GSchema) (v : GValue) : GSchema := .mk x.fKinds x.fHasMin v x.fHasMax x.fMax x.fEnum x.fMinLen x.fMaxLen x.fRequired x.fProps x.fClosed x.fItems x.fUnique
def GSchema.sHasMax (x : GSchema) (v : Bool) : GSchema := .mk x.fKinds x.fHasMin x.fMin v x.fMax x.fEnum x.fMinLen x.fMaxLen x.fRequired x.fProps x.fClosed x.fItems x.fUnique
def GSchema.sMax (x : GSchema) (v : GValue) : GSchema := .mk x.fKinds x.fHasMin x.fMin x.fHasMax v x.fEnum x.fMinLen x.fMaxLen x.fRequired x.fProps x.fClosed x.fItems x.fUnique
def GSchema.sEnum (x : GSchema) (v : List GValue) : GSchema := .mk x.fKinds x.fHasMin x.fMin x.fHasMax x.fMax v x.fMinLen x.fMaxLen x.fRequired x.fProps x.fClosed x.fItems x.fUnique
def GSchema.sMinLen (x : GSchema) (v : Int) : GSchema := .mk x.fKinds x.fHasMin x.fMin x.fHasMax x.fMax x.fEnum v x.fMaxLen x.fRequired x.fProps x.fClosed x.fItems x.fUnique
def GSchema.sMaxLen (x : GSchema) (v : Int) : GSchema := .mk x.fKinds x.fHasMin x.fMin x.fHasMax x.fMax x.fEnum x.fMinLen v x.fRequired x.fProps x.fClosed x.fItems x.fUnique
def GSchema.sRequired (x : GSchema) (v : List ByteArray) : GSchema := .mk x.fKinds x.fHasMin x.fMin x.fHasMax x.fMax x.fEnum x.fMinLen x.fMaxLen v x.fProps x.fClosed x.fItems x.fUnique
def GSchema.sProps (x : GSchema) (v : List GProp) : GSchema := .mk x.fKinds x.fHasMin x.fMin x.fHasMax x.fMax x.fEnum x.fMinLen x.fMaxLen x.fRequired v x.fClosed x.fItems x.fUnique
def GSchema.sClosed (x : GSchema) (v : Bool) : GSchema := .mk x.fKinds x.fHasMin x.fMin x.fHasMax x.fMax x.fEnum x.fMinLen x.fMaxLen x.fRequired x.fProps v x.fItems x.fUnique
def GSchema.sItems (x : GSchema) (v : List GSchema) : GSchema := .mk x.fKinds x.fHasMin x.fMin x.fHasMax x.fMax x.fEnum x.fMinLen x.fMaxLen x.fRequired x.fProps x.fClosed v x.fUnique
def GSchema.sUnique (x : GSchema) (v : Bool) : GSchema := .mk x.fKinds x.fHasMin x.fMin x.fHasMax x.fMax x.fEnum x.fMinLen x.fMaxLen x.fRequired x.fProps x.fClosed x.fItems v
def GProp.z : GProp := .mk ⟨#[]⟩ GSchema.z
def GSpace.z : GSpace := .mk ⟨#[]⟩ [] GSchema.z 0 0
def GWrite.z : GWrite := .mk 0 ⟨#[]⟩ GValue.z GValue.z GValue.z GSpace.z GIndex.z ⟨#[]⟩ 0 [] [] false
def GWrite.sKind (x : GWrite) (v : Int) : GWrite := .mk v x.fSpace x.fKey x.fDoc x.fBefore x.fDef x.fIndex x.fTxn x.fStamp x.fWrites x.fShards x.fSilent
def GWrite.sSpace (x : GWrite) (v : ByteArray) : GWrite := .mk x.fKind v x.fKey x.fDoc x.fBefore x.fDef x.fIndex x.fTxn x.fStamp x.fWrites x.fShards x.fSilent
def GWrite.sKey (x : GWrite) (v : GValue) : GWrite := .mk x.fKind x.fSpace v x.fDoc x.fBefore x.fDef x.fIndex x.fTxn x.fStamp x.fWrites x.fShards x.fSilent
def GWrite.sDoc (x : GWrite) (v : GValue) : GWrite := .mk x.fKind x.fSpace x.fKey v x.fBefore x.fDef x.fIndex x.fTxn x.fStamp x.fWrites x.fShards x.fSilent
def GWrite.sBefore (x : GWrite) (v : GValue) : GWrite := .mk x.fKind x.fSpace x.fKey x.fDoc v x.fDef x.fIndex x.fTxn x.fStamp x.fWrites x.fShards x.fSilent
def GWrite.sDef (x : GWrite) (v : GSpace) : GWrite := .mk x.fKind x.fSpace x.fKey x.fDoc x.fBefore v x.fIndex x.fTxn x.fStamp x.fWrites x.fShards x.fSilent
def GWrite.sIndex (x : GWrite) (v : GIndex) : GWrite := .mk x.fKind x.fSpace x.fKey x.fDoc x.fBefore x.fDef v x.fTxn x.fStamp x.fWrites x.fShards x.fSilent
def GWrite.sTxn (x : GWrite) (v : ByteArray) : GWrite := .mk x.fKind x.fSpace x.fKey x.fDoc x.fBefore x.fDef x.fIndex v x.fStamp x.fWrites x.fShards x.fSilent
def GWrite.sStamp (x : GWrite) (v : Int) : GWrite := .mk x.fKind x.fSpace x.fKey x.fDoc x.fBefore x.fDef x.fIndex x.fTxn v x.fWrites x.fShards x.fSilent
def GWrite.sWrites (x : GWrite) (v : List GWrite) : GWrite := .mk x.fKind x.fSpace x.fKey x.fDoc x.fBefore x.fDef x.fIndex x.fTxn x.fStamp v x.fShards x.fSilent
def GWrite.sShards (x : GWrite) (v : List Int) : GWrite := .mk x.fKind x.fSpace x.fKey x.fDoc x.fBefore x.fDef x.fIndex x.fTxn x.fStamp x.fWrites v x.fSilent
def GWrite.sSilent (x : GWrite) (v : Bool) : GWrite := .mk x.fKind x.fSpace x.fKey x.fDoc x.fBefore x.fDef x.fIndex x.fTxn x.fStamp x.fWrites x.fShards v
def GEntry.z : GEntry := .mk 0 0 ⟨#[]⟩ 0 GWrite.z
def Z27 : AV := .agg [.lf (.str ⟨#[]⟩), .nils 1, .nils 1, .lf (.int .i64 0), .lf (.int .i64 0), .nils 1]
def Z33 : AV := .agg [.lf (.int .i64 0), .lf (.int .i64 0), .lf (.int .i64 0)]
def Z37 : AV := .agg [.lf (.int .i64 0), .lf (.int .i64 0), .lf (.str ⟨#[]⟩), .nils 5, .nils 6]
def Z43 : AV := .agg [.lf (.int .i64 0), .lf (.bool false), .lf (.int .i64 0), .lf (.int .i64 0), .lf (.str ⟨#[]⟩), .nils 5, .nils 6, .lf (.bool false), .lf (.int .i64 0), .lf (.int .i64 0), .lf (.str ⟨#[]⟩), .nils 5, .nils 6, .nils 5, .lf (.int .i64 0), .lf (.int .i64 0), .nils 1, .nils 22, .lf (.bool false), .nils 21, .lf (.bool false)]
def Z45 : AV := .agg [.lf (.str ⟨#[]⟩), .nils 31, .lf (.int .i64 0), .lf (.bool false), .lf (.int .i64 0), .lf (.int .i64 0), .lf (.str ⟨#[]⟩), .nils 5, .nils 6, .lf (.bool false), .lf (.int .i64 0), .lf (.int .i64 0), .lf (.str ⟨#[]⟩), .nils 5, .nils 6, .nils 5, .lf (.int .i64 0), .lf (.int .i64 0), .nils 1, .nils 22, .lf (.bool false), .nils 21, .lf (.bool false), .lf (.int .i64 0), .lf (.int .i64 0)]
def Z49 : AV := .agg [.lf (.int .i64 0), .nils 2, .lf (.int .i64 0)]
def Z52 : AV := .agg [.lf (.int .i64 0), .nils 1, .lf (.str ⟨#[]⟩), .nils 1, .lf (.int .i64 0), .lf (.int .i64 0), .lf (.str ⟨#[]⟩), .nils 5, .nils 6, .lf (.int .i64 0), .nils 11]
def Z55 : AV := .agg [.lf (.int .i64 0), .nils 1, .lf (.int .i64 0), .lf (.int .i64 0), .lf (.str ⟨#[]⟩), .nils 5, .nils 6, .nils 5, .lf (.int .i64 0), .lf (.int .i64 0), .lf (.int .i64 0), .nils 2, .lf (.int .i64 0), .lf (.int .i64 0), .nils 1, .lf (.str ⟨#[]⟩), .nils 1, .lf (.int .i64 0), .lf (.int .i64 0), .lf (.str ⟨#[]⟩), .nils 5, .nils 6, .lf (.int .i64 0), .nils 11, .nils 25]
def Z57 : AV := .agg [.lf (.str ⟨#[]⟩), .lf (.int .i64 0), .nils 2, .lf (.bool false), .lf (.bool false), .lf (.bool false), .lf (.int .i64 0), .nils 1, .lf (.int .i64 0), .lf (.int .i64 0), .lf (.str ⟨#[]⟩), .nils 5, .nils 6, .nils 5, .lf (.int .i64 0), .lf (.int .i64 0), .lf (.int .i64 0), .nils 2, .lf (.int .i64 0), .lf (.int .i64 0), .nils 1, .lf (.str ⟨#[]⟩), .nils 1, .lf (.int .i64 0), .lf (.int .i64 0), .lf (.str ⟨#[]⟩), .nils 5, .nils 6, .lf (.int .i64 0), .nils 11, .nils 25]
def Z60 : AV := .agg [.lf (.int .i64 0), .lf (.str ⟨#[]⟩), .lf (.int .i64 0), .lf (.int .i64 0), .lf (.str ⟨#[]⟩), .nils 5, .nils 6, .lf (.int .i64 0), .lf (.int .i64 0), .lf (.str ⟨#[]⟩), .nils 5, .nils 6, .lf (.int .i64 0), .lf (.int .i64 0), .lf (.str ⟨#[]⟩), .nils 5, .nils 6, .lf (.str ⟨#[]⟩), .nils 31, .lf (.int .i64 0), .lf (.bool false), .lf (.int .i64 0), .lf (.int .i64 0), .lf (.str ⟨#[]⟩), .nils 5, .nils 6, .lf (.bool false), .lf (.int .i64 0), .lf (.int .i64 0), .lf (.str ⟨#[]⟩), .nils 5, .nils 6, .nils 5, .lf (.int .i64 0), .lf (.int .i64 0), .nils 1, .nils 22, .lf (.bool false), .nils 21, .lf (.bool false), .lf (.int .i64 0), .lf (.int .i64 0), .lf (.str ⟨#[]⟩), .lf (.int .i64 0), .nils 2, .lf (.bool false), .lf (.bool false), .lf (.bool false), .lf (.int .i64 0), .nils 1, .lf (.int .i64 0), .lf (.int .i64 0), .lf (.str ⟨#[]⟩), .nils 5, .nils 6, .nils 5, .lf (.int .i64 0), .lf (.int .i64 0), .lf (.int .i64 0), .nils 2, .lf (.int .i64 0), .lf (.int .i64 0), .nils 1, .lf (.str ⟨#[]⟩), .nils 1, .lf (.int .i64 0), .lf (.int .i64 0), .lf (.str ⟨#[]⟩), .nils 5, .nils 6, .lf (.int .i64 0), .nils 11, .nils 25, .lf (.str ⟨#[]⟩), .lf (.int .i64 0), .nils 78, .nils 1, .lf (.bool false)]
def Z66 : AV := .agg [.lf (.int .i64 0), .lf (.int .i64 0), .lf (.str ⟨#[]⟩), .lf (.int .i64 0), .lf (.int .i64 0), .lf (.str ⟨#[]⟩), .lf (.int .i64 0), .lf (.int .i64 0), .lf (.str ⟨#[]⟩), .nils 5, .nils 6, .lf (.int .i64 0), .lf (.int .i64 0), .lf (.str ⟨#[]⟩), .nils 5, .nils 6, .lf (.int .i64 0), .lf (.int .i64 0), .lf (.str ⟨#[]⟩), .nils 5, .nils 6, .lf (.str ⟨#[]⟩), .nils 31, .lf (.int .i64 0), .lf (.bool false), .lf (.int .i64 0), .lf (.int .i64 0), .lf (.str ⟨#[]⟩), .nils 5, .nils 6, .lf (.bool false), .lf (.int .i64 0), .lf (.int .i64 0), .lf (.str ⟨#[]⟩), .nils 5, .nils 6, .nils 5, .lf (.int .i64 0), .lf (.int .i64 0), .nils 1, .nils 22, .lf (.bool false), .nils 21, .lf (.bool false), .lf (.int .i64 0), .lf (.int .i64 0), .lf (.str ⟨#[]⟩), .lf (.int .i64 0), .nils 2, .lf (.bool false), .lf (.bool false), .lf (.bool false), .lf (.int .i64 0), .nils 1, .lf (.int .i64 0), .lf (.int .i64 0), .lf (.str ⟨#[]⟩), .nils 5, .nils 6, .nils 5, .lf (.int .i64 0), .lf (.int .i64 0), .lf (.int .i64 0), .nils 2, .lf (.int .i64 0), .lf (.int .i64 0), .nils 1, .lf (.str ⟨#[]⟩), .nils 1, .lf (.int .i64 0), .lf (.int .i64 0), .lf (.str ⟨#[]⟩), .nils 5, .nils 6, .lf (.int .i64 0), .nils 11, .nils 25, .lf (.str ⟨#[]⟩), .lf (.int .i64 0), .nils 78, .nils 1, .lf (.bool false)]
def Z90 : AV := .agg [.lf (.str ⟨#[]⟩), .lf (.int .i64 0), .lf (.int .i64 0), .lf (.str ⟨#[]⟩), .nils 5, .nils 6]
def Z125 : AV := .agg [.nils 1, .lf (.bool false)]
def Z129 : AV := .agg [.lf (.str ⟨#[]⟩), .lf (.int .i64 0), .lf (.bool false), .lf (.int .i64 0), .lf (.int .i64 0), .lf (.str ⟨#[]⟩), .nils 5, .nils 6, .lf (.bool false), .lf (.int .i64 0), .lf (.int .i64 0), .lf (.str ⟨#[]⟩), .nils 5, .nils 6, .nils 5, .lf (.int .i64 0), .lf (.int .i64 0), .nils 1, .nils 22, .lf (.bool false), .nils 21, .lf (.bool false)]
def Z134 : AV := .agg [.lf (.int .i64 0), .lf (.int .i64 0)]
/-- some cells of an aggregate, set -/
def aggS : AV → List (Nat × AV) → AV
  | x, [] => x
  | .agg l, (i, v) :: r => aggS (.agg (l.set i v)) r
  | x, _ => x
def TTc : TT := [
  ⟨2, .int .i64, 1, 8, some (.lf (.int .i64 0))⟩,
  ⟨3, .int .i64, 1, 8, some (.lf (.int .i64 0))⟩,
  ⟨4, .bool, 1, 1, some (.lf (.bool false))⟩,
  ⟨5, .int .u8, 1, 1, some (.lf (.int .u8 0))⟩,
  ⟨6, .int .u8, 1, 1, some (.lf (.int .u8 0))⟩,
  ⟨9, .str, 1, 16, some (.lf (.str ⟨#[]⟩))⟩,
  ⟨10, .str, 1, 16, some (.lf (.str ⟨#[]⟩))⟩,
  ⟨11, .str, 1, 16, some (.lf (.str ⟨#[]⟩))⟩,
  ⟨12, .int .u64, 1, 8, some (.lf (.int .u64 0))⟩,
  ⟨21, .int .i32, 1, 4, some (.lf (.int .i32 0))⟩,
  ⟨22, .slice 3, 1, 24, some (.nils 1)⟩,
  ⟨23, .slice 33, 1, 24, some (.nils 3)⟩,
  ⟨25, .slice 4, 1, 24, some (.nils 1)⟩,
  ⟨27, .struct [(0, 1, false), (1, 1, false), (2, 1, false), (3, 1, false), (4, 1, false), (5, 1, false)], 6, 104, some (Z27)⟩,
  ⟨28, .int .i64, 1, 8, some (.lf (.int .i64 0))⟩,
  ⟨33, .struct [(0, 1, false), (1, 1, false), (2, 1, false)], 3, 24, some (Z33)⟩,
  ⟨34, .slice 37, 1, 24, some (.nils 5)⟩,
  ⟨35, .slice 90, 1, 24, some (.nils 6)⟩,
  ⟨37, .struct [(0, 1, false), (1, 1, false), (2, 1, false), (3, 1, false), (4, 1, false)], 5, 80, some (Z37)⟩,
  ⟨38, .slice 57, 1, 24, some (.nils 31)⟩,
  ⟨39, .slice 9, 1, 24, some (.nils 1)⟩,
  ⟨40, .slice 129, 1, 24, some (.nils 22)⟩,
  ⟨41, .slice 43, 1, 24, some (.nils 21)⟩,
  ⟨43, .struct [(0, 1, false), (1, 1, false), (2, 5, true), (7, 1, false), (8, 5, true), (13, 1, false), (14, 1, false), (15, 1, false), (16, 1, false), (17, 1, false), (18, 1, false), (19, 1, false), (20, 1, false)], 21, 312, some (Z43)⟩,
  ⟨45, .struct [(0, 1, false), (1, 1, false), (2, 21, true), (23, 1, false), (24, 1, false)], 25, 368, some (Z45)⟩,
  ⟨46, .slice 125, 1, 24, some (.nils 2)⟩,
  ⟨47, .slice 134, 1, 24, some (.nils 2)⟩,
  ⟨49, .struct [(0, 1, false), (1, 1, false), (2, 1, false)], 3, 40, some (Z49)⟩,
  ⟨50, .slice 52, 1, 24, some (.nils 11)⟩,
  ⟨52, .struct [(0, 1, false), (1, 1, false), (2, 1, false), (3, 1, false), (4, 5, true), (9, 1, false), (10, 1, false)], 11, 184, some (Z52)⟩,
  ⟨53, .slice 55, 1, 24, some (.nils 25)⟩,
  ⟨55, .struct [(0, 1, false), (1, 1, false), (2, 5, true), (7, 1, false), (8, 1, false), (9, 1, false), (10, 3, true), (13, 11, true), (24, 1, false)], 25, 400, some (Z55)⟩,
  ⟨57, .struct [(0, 1, false), (1, 1, false), (2, 1, false), (3, 1, false), (4, 1, false), (5, 1, false), (6, 25, true)], 31, 456, some (Z57)⟩,
  ⟨58, .slice 60, 1, 24, some (.nils 78)⟩,
  ⟨60, .struct [(0, 1, false), (1, 1, false), (2, 5, true), (7, 5, true), (12, 5, true), (17, 25, true), (42, 31, true), (73, 1, false), (74, 1, false), (75, 1, false), (76, 1, false), (77, 1, false)], 78, 1168, some (Z60)⟩,
  ⟨63, .slice 27, 1, 24, some (.nils 6)⟩,
  ⟨66, .struct [(0, 1, false), (1, 1, false), (2, 1, false), (3, 1, false), (4, 78, true)], 82, 1208, some (Z66)⟩,
  ⟨67, .slice 66, 1, 24, some (.nils 82)⟩,
  ⟨83, .map 9 3, 1, 8, some (.raw (.map none))⟩,
  ⟨90, .struct [(0, 1, false), (1, 5, true)], 6, 96, some (Z90)⟩,
  ⟨115, .int .u64, 1, 8, some (.lf (.int .u64 0))⟩,
  ⟨116, .map 9 4, 1, 8, some (.raw (.map none))⟩,
  ⟨117, .int .u64, 1, 8, some (.lf (.int .u64 0))⟩,
  ⟨118, .slice 5, 1, 24, some (.nils 1)⟩,
  ⟨125, .struct [(0, 1, false), (1, 1, false)], 2, 32, some (Z125)⟩,
  ⟨129, .struct [(0, 1, false), (1, 21, true)], 22, 328, some (Z129)⟩,
  ⟨134, .struct [(0, 1, false), (1, 1, false)], 2, 16, some (Z134)⟩,
  ⟨144, .int .u32, 1, 4, some (.lf (.int .u32 0))⟩,
  ⟨145, .int .u8, 1, 1, some (.lf (.int .u8 0))⟩,
  ⟨146, .int .u8, 1, 1, some (.lf (.int .u8 0))⟩,
  ⟨149, .int .i32, 1, 4, some (.lf (.int .i32 0))⟩,
  ⟨150, .int .i32, 1, 4, some (.lf (.int .i32 0))⟩]
theorem TTc_ok : ttb Tryd.prog TTc = true := by kernel_rfl
end Go.Proofs.YtplokbmdcfakbaaDoor
set_option linter.unusedSimpArgs false
set_option linter.unusedVariables false
namespace Go.Proofs.YtplokbmdcfakbaaDoor
open Go.RowKit
inductive Mo (ρ : Type) : Type 1 where
  | ret (f : Fit) (r : ρ)
  | say (qs : List Ans) {Φ : List Prop} (ok : AllP Φ) (k : Mo ρ)
  | ite (b : Bool) (t : b = true → Mo ρ) (e : b = false → Mo ρ)
  | grd (p : Prop) [Decidable p] (k : p → Mo ρ)
  | ask {α : Type} (m : Option α) (k : (a : α) → m = some a → Mo ρ)
  | ask2 {α β : Type} (m : Option (α ⊕ β)) (k1 : (a : α) → m = some (.inl a) → Mo ρ) (k2 : (b : β) → m = some (.inr b) → Mo ρ)
  | ask3 {α β γ : Type} (m : Option (α ⊕ β ⊕ γ)) (k1 : (a : α) → m = some (.inl a) → Mo ρ) (k2 : (b : β) → m = some (.inr (.inl b)) → Mo ρ) (k3 : (c : γ) → m = some (.inr (.inr c)) → Mo ρ)
def bcase {α : Type} (b : Bool) (t : b = true → α) (e : b = false → α) : α := match b, t, e with
  | true, t, _ => t rfl
  | false, _, e => e rfl
def sbind {α ρ : Type} (m : Option α) (k : (a : α) → m = some a → Option ρ) : Option ρ := match m, k with
  | none, _ => none
  | some a, k => k a rfl
def sbind2 {α β ρ : Type} (m : Option (α ⊕ β)) (k1 : (a : α) → m = some (.inl a) → Option ρ) (k2 : (b : β) → m = some (.inr b) → Option ρ) : Option ρ := match m, k1, k2 with
  | none, _, _ => none
  | some (.inl a), k, _ => k a rfl
  | some (.inr b), _, k => k b rfl
def sbind3 {α β γ ρ : Type} (m : Option (α ⊕ β ⊕ γ)) (k1 : (a : α) → m = some (.inl a) → Option ρ) (k2 : (b : β) → m = some (.inr (.inl b)) → Option ρ) (k3 : (c : γ) → m = some (.inr (.inr c)) → Option ρ) : Option ρ := match m, k1, k2, k3 with
  | none, _, _, _ => none
  | some (.inl a), k, _, _ => k a rfl
  | some (.inr (.inl b)), _, k, _ => k b rfl
  | some (.inr (.inr c)), _, _, k => k c rfl
def gcase {ρ : Type} (p : Prop) [d : Decidable p] (k : p → Option ρ) : Option ρ := match d with
  | .isTrue h => k h
  | .isFalse _ => none
/-- what the tree computes -/
noncomputable def Mo.den {ρ : Type} : Mo ρ → Option ρ
  | .ret _ r => some r
  | .say _ _ k => k.den
  | .ite b t e => bcase b (fun h => (t h).den) (fun h => (e h).den)
  | @Mo.grd _ p d k => @gcase ρ p d fun h => (k h).den
  | .ask m k => sbind m fun a h => (k a h).den
  | .ask2 m k1 k2 => sbind2 m (fun a h => (k1 a h).den) (fun b h => (k2 b h).den)
  | .ask3 m k1 k2 k3 => sbind3 m (fun a h => (k1 a h).den) (fun b h => (k2 b h).den) (fun c h => (k3 c h).den)
theorem bcase_eq {α : Type} (b : Bool) (x y : α) : bcase b (fun _ => x) (fun _ => y) = bif b then x else y := by cases b <;> rfl
theorem gcase_eq {ρ : Type} (p : Prop) [d : Decidable p] (x : Option ρ) : gcase p (fun _ => x) = if p then x else none := by
  unfold gcase; cases d with
  | isTrue h => simp [h]
  | isFalse h => simp [h]
theorem sbind_eq {α ρ : Type} (m : Option α) (k : α → Option ρ) : sbind m (fun a _ => k a) = m.bind k := by cases m <;> rfl
theorem sbind2_eq {α β ρ : Type} (m : Option (α ⊕ β)) (k1 : α → Option ρ) (k2 : β → Option ρ) : sbind2 m (fun a _ => k1 a) (fun b _ => k2 b) = m.bind fun x => match x with
  | .inl a => k1 a
  | .inr b => k2 b := by rcases m with _ | _ | _ <;> rfl
theorem sbind3_eq {α β γ ρ : Type} (m : Option (α ⊕ β ⊕ γ)) (k1 : α → Option ρ) (k2 : β → Option ρ) (k3 : γ → Option ρ) : sbind3 m (fun a _ => k1 a) (fun b _ => k2 b) (fun c _ => k3 c) = m.bind fun x => match x with
  | .inl a => k1 a
  | .inr (.inl b) => k2 b
  | .inr (.inr c) => k3 c := by rcases m with _ | _ | _ | _ <;> rfl
theorem bcase_some {α : Type} {b : Bool} {t : b = true → Option α} {e : b = false → Option α} {r : α} (h : bcase b t e = some r) : (∃ hb, t hb = some r) ∨ ∃ hb, e hb = some r := by
  cases b
  · exact .inr ⟨rfl, h⟩
  · exact .inl ⟨rfl, h⟩
theorem gcase_some {ρ : Type} {p : Prop} {d : Decidable p} {k : p → Option ρ} {r : ρ} (h : gcase p k = some r) : ∃ hp, k hp = some r := by
  cases d with
  | isTrue hh => exact ⟨hh, h⟩
  | isFalse hh => cases h
theorem sbind_some {α ρ : Type} {m : Option α} {k : (a : α) → m = some a → Option ρ} {r : ρ} (h : sbind m k = some r) : ∃ a ha, k a ha = some r := by
  cases m with
  | none => cases h
  | some a => exact ⟨a, rfl, h⟩
theorem sbind2_some {α β ρ : Type} {m : Option (α ⊕ β)} {k1 : (a : α) → m = some (.inl a) → Option ρ} {k2 : (b : β) → m = some (.inr b) → Option ρ} {r : ρ} (h : sbind2 m k1 k2 = some r) : (∃ a ha, k1 a ha = some r) ∨ ∃ b hb, k2 b hb = some r := by
  rcases m with _ | a | b
  · cases h
  · exact .inl ⟨a, rfl, h⟩
  · exact .inr ⟨b, rfl, h⟩
theorem sbind3_some {α β γ ρ : Type} {m : Option (α ⊕ β ⊕ γ)} {k1 : (a : α) → m = some (.inl a) → Option ρ} {k2 : (b : β) → m = some (.inr (.inl b)) → Option ρ} {k3 : (c : γ) → m = some (.inr (.inr c)) → Option ρ} {r : ρ} (h : sbind3 m k1 k2 k3 = some r) : (∃ a ha, k1 a ha = some r) ∨ (∃ b hb, k2 b hb = some r) ∨ ∃ c hc, k3 c hc = some r := by
  rcases m with _ | a | b | c
  · cases h
  · exact .inl ⟨a, rfl, h⟩
  · exact .inr (.inl ⟨b, rfl, h⟩)
  · exact .inr (.inr ⟨c, rfl, h⟩)
inductive Ob (ω : Type) : Type 1 where
  | leaf (o : ω)
  | two (a b : Ob ω)
  | im {p : Prop} (k : p → Ob ω)
  | fn {α : Type} {p : α → Prop} (k : (a : α) → p a → Ob ω)
section
variable {ρ ω : Type}
/-- what the code does, along the tree -/
def Mo.lhs (run : Fit → List Ans → ω) : Mo ρ → List Ans → Ob ω
  | .ret f _, acc => .leaf (run f acc.reverse)
  | .say qs _ k, acc => k.lhs run (qs.reverseAux acc)
  | .ite _ t e, acc => .two (.im fun h => (t h).lhs run acc) (.im fun h => (e h).lhs run acc)
  | @Mo.grd _ _ _ k, acc => .im fun h => (k h).lhs run acc
  | .ask _ k, acc => .fn fun a h => (k a h).lhs run acc
  | .ask2 _ k1 k2, acc => .two (.fn fun a h => (k1 a h).lhs run acc) (.fn fun a h => (k2 a h).lhs run acc)
  | .ask3 _ k1 k2 k3, acc => .two (.fn fun a h => (k1 a h).lhs run acc) (.two (.fn fun a h => (k2 a h).lhs run acc) (.fn fun a h => (k3 a h).lhs run acc))
/-- what it should do -/
def Mo.rhs (exp : ρ → List Prop → ω) : Mo ρ → List Prop → Ob ω
  | .ret _ r, acc => .leaf (exp r acc.reverse)
  | .say (Φ := Φ) _ _ k, acc => k.rhs exp (Φ.reverseAux acc)
  | .ite _ t e, acc => .two (.im fun h => (t h).rhs exp acc) (.im fun h => (e h).rhs exp acc)
  | @Mo.grd _ _ _ k, acc => .im fun h => (k h).rhs exp acc
  | .ask _ k, acc => .fn fun a h => (k a h).rhs exp acc
  | .ask2 _ k1 k2, acc => .two (.fn fun a h => (k1 a h).rhs exp acc) (.fn fun a h => (k2 a h).rhs exp acc)
  | .ask3 _ k1 k2 k3, acc => .two (.fn fun a h => (k1 a h).rhs exp acc) (.two (.fn fun a h => (k2 a h).rhs exp acc) (.fn fun a h => (k3 a h).rhs exp acc))
theorem AllP.rev : ∀ (l m : List Prop), AllP l → AllP m → AllP (l.reverseAux m)
  | [], _, _, h => h
  | _ :: l, m, hl, h => AllP.rev l (_ :: m) hl.2 ⟨hl.1, h⟩
theorem Ob.fn_inj {α : Type} {p : α → Prop} {k k' : (a : α) → p a → Ob ω} (h : Ob.fn k = Ob.fn k') : ∀ a h, k a h = k' a h := by
  injection h with _ _ h; intro a ha; rw [h]
theorem Ob.im_inj {p : Prop} {k k' : p → Ob ω} (h : Ob.im k = Ob.im k') : ∀ h, k h = k' h := by
  injection h with _ h; intro a; rw [h]
theorem Ob.two_inj {a b c d : Ob ω} (h : Ob.two a b = Ob.two c d) : a = c ∧ b = d := by
  injection h with h1 h2; exact ⟨h1, h2⟩
theorem Ob.leaf_inj {a b : ω} (h : Ob.leaf a = Ob.leaf b) : a = b := by injection h
theorem Mo.sound {run : Fit → List Ans → ω} {exp : ρ → List Prop → ω} : ∀ (t : Mo ρ) (qs : List Ans) (ps : List Prop), AllP ps → t.lhs run qs = t.rhs exp ps → ∀ r, t.den = some r → ∃ f qs p, run f qs = exp r p ∧ AllP p
  | .ret f r, qs, ps, hp, h, r', hd => by
    injection hd with hd; subst hd
    exact ⟨f, _, _, Ob.leaf_inj h, AllP.rev ps [] hp trivial⟩
  | .say q ok k, qs, ps, hp, h, r, hd => Mo.sound k _ _ (AllP.rev _ _ ok hp) h r hd
  | .ite b t e, qs, ps, hp, h, r, hd => by
    obtain ⟨h1, h2⟩ := Ob.two_inj h
    rcases bcase_some hd with ⟨hb, hd⟩ | ⟨hb, hd⟩
    · exact Mo.sound (t hb) _ _ hp (Ob.im_inj h1 hb) r hd
    · exact Mo.sound (e hb) _ _ hp (Ob.im_inj h2 hb) r hd
  | @Mo.grd _ p d k, qs, ps, hp, h, r, hd => by
    obtain ⟨hh, hd⟩ := gcase_some hd
    exact Mo.sound (k hh) _ _ hp (Ob.im_inj h hh) r hd
  | .ask m k, qs, ps, hp, h, r, hd => by
    obtain ⟨a, ha, hd⟩ := sbind_some hd
    exact Mo.sound (k a ha) _ _ hp (Ob.fn_inj h a ha) r hd
  | .ask2 m k1 k2, qs, ps, hp, h, r, hd => by
    obtain ⟨h1, h2⟩ := Ob.two_inj h
    rcases sbind2_some hd with ⟨a, ha, hd⟩ | ⟨a, ha, hd⟩
    · exact Mo.sound (k1 a ha) _ _ hp (Ob.fn_inj h1 a ha) r hd
    · exact Mo.sound (k2 a ha) _ _ hp (Ob.fn_inj h2 a ha) r hd
  | .ask3 m k1 k2 k3, qs, ps, hp, h, r, hd => by
    obtain ⟨h1, h2⟩ := Ob.two_inj h
    obtain ⟨h2, h3⟩ := Ob.two_inj h2
    rcases sbind3_some hd with ⟨a, ha, hd⟩ | ⟨a, ha, hd⟩ | ⟨a, ha, hd⟩
    · exact Mo.sound (k1 a ha) _ _ hp (Ob.fn_inj h1 a ha) r hd
    · exact Mo.sound (k2 a ha) _ _ hp (Ob.fn_inj h2 a ha) r hd
    · exact Mo.sound (k3 a ha) _ _ hp (Ob.fn_inj h3 a ha) r hd
end
section
variable {P : Program} {G : Gh → Prop} {tt : TT} {ρ σ : Type}
/-- a part -/
theorem part_T (hB : Base P G tt) {nt : Nat} {code : Code} {st : St} (t : Mo ρ) (X : ρ → Exit) (S : ρ → St) (h : t.lhs (fun f qs => exX P G tt nt code st qs f) [] = t.rhs (fun r p => some (X r, S r, p)) []) {r : ρ} (hm : t.den = some r) : AWa P G tt nt code (X r) (S r) st := fun w0 I0 => by
  obtain ⟨f, qs, p, h1, h2⟩ := Mo.sound t [] [] trivial h r hm
  exact aw_exX hB qs f p h1 h2
/-- a loop's model: the body tells the next head, or the way out -/
def loopM (T : σ → Option (σ ⊕ ρ)) : Nat → σ → Option ρ
  | 0, _ => none
  | n + 1, v => (T v).bind fun x => match x with
    | .inl v' => loopM T n v'
    | .inr r => some r
theorem loop_T (hB : Base P G tt) {nt : Nat} {code body : Code} (hc : code = .loop body) (T : σ → Mo (σ ⊕ ρ)) (S0 : σ → St) (X : ρ → Exit) (S : ρ → St) (hX : ∀ r, notN (X r) = true)
    (h : ∀ v, (T v).lhs (fun f qs => exX P G tt nt body (S0 v) qs f) [] = (T v).rhs (fun x p => match x with | .inl v' => some (.normal, S0 v', p) | .inr r => some (X r, S r, p)) []) :
    ∀ {n : Nat} {v : σ} {r : ρ}, loopM (fun v => (T v).den) n v = some r → AWa P G tt nt code (X r) (S r) (S0 v) := by
  subst hc
  have key : ∀ (n : Nat) (v : σ) (r : ρ), loopM (fun v => (T v).den) n v = some r → ∀ w0 I0, AL (mkC P G tt nt w0 I0) body (X r) (S r) (S0 v) := by
    intro n
    induction n with
    | zero => intro v r hr; cases hr
    | succ n ih =>
      intro v r hr w0 I0
      unfold loopM at hr
      rw [Option.bind_eq_some_iff] at hr
      obtain ⟨x, hx, hr⟩ := hr
      obtain ⟨f, qs, p, h1, h2⟩ := Mo.sound (T v) [] [] trivial (h v) x hx
      cases x with
      | inl v' => exact AL.next (aw_exX hB qs f p h1 h2) (ih v' r hr w0 I0)
      | inr r' =>
        injection hr with hr; subst hr
        exact AL.stop (aw_exX hB qs f p h1 h2) (hX r')
  exact fun {n v r} hr w0 I0 => AL.loop (key n v r hr w0 I0)
/-- a function -/
theorem fn_T (hB : Base P G tt) {f : FuncId} {fn : Func} (hf : P.funcs[f]? = some fn) (hbd : fn.body.isSome = true) (hcall : callB P f = true) {args : List AV} (hargs : (args.all AV.isD) = true) (hnt : Nat.ble args.length fn.ntmps = true)
    (t : Mo ρ) (L : ρ → List AV) (h : t.lhs (fun _ qs => exF P G tt fn args qs) [] = t.rhs (fun r p => some (L r, p)) []) {r : ρ} (hm : t.den = some r) : Fn P G f args (resV (L r)) := by
  obtain ⟨_, qs, p, h1, h2⟩ := Mo.sound t [] [] trivial h r hm
  exact fn_exF hB hf hbd hcall hargs hnt qs p h1 h2
end
theorem ok0 : AllP [] := trivial
theorem ok1 {a : Prop} (h : a) : AllP [a] := ⟨h, trivial⟩
theorem ok2 {a b : Prop} (h : a) (k : b) : AllP [a, b] := ⟨h, k, trivial⟩
theorem okc {a : Prop} {l : List Prop} (h : a) (k : AllP l) : AllP (a :: l) := ⟨h, k⟩
def fit0 : Fit := ⟨[], [], [], 0⟩
end Go.Proofs.YtplokbmdcfakbaaDoor
