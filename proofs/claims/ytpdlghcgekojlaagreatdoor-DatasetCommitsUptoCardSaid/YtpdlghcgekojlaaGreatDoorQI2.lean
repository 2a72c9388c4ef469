/- Calls that are handed slots of the caller's own: rows and boxes that the callee may look at, and write. -/
import Derived.Test.YtpdlghcgekojlaaGreatDoorQI1
import Derived.WalkKit
import Derived.OrdersHeld
import Derived.Deep.RegionHeld3
import Derived.KernelRfl
import Derived.Maps.OwnSet
set_option linter.unusedSimpArgs false
set_option linter.unusedVariables false
namespace Go.Proofs.YtpdlghcgekojlaaGreatDoor
open Go.RowKit
mutual
def AV.ren (ρ:Nat→Nat):AV→AV
 |.ptr b off=>.ptr (ρ b) off
 |.pY b n j off=>.pY (ρ b) n j off
 |.own b=>.own (ρ b)
 |.mp b=>.mp (ρ b)
 |.agg l=>.agg (kX ρ l)
 |.tup l=>.tup (kX ρ l)
 |.clo f l=>.clo f (kX ρ l)
 |.lf x=>.lf x
 |.dat r=>.dat r
 |.dp r off=>.dp r off
 |.bK n=>.bK n
 |.raw v=>.raw v
 |.hnd b o=>.hnd (ρ b) o
 |.any=>.any
def kX (ρ:Nat→Nat):List AV→List AV
 |[]=>[]
 |x::r=>AV.ren ρ x::kX ρ r
end
mutual
def AV.inB (bs:List Nat):AV→Bool
 |.ptr b _=>bs.contains b
 |.pY b _ _ _=>bs.contains b
 |.own b=>bs.contains b
 |.mp b=>bs.contains b
 |.hnd b _=>bs.contains b
 |.agg l=>oO bs l
 |.tup l=>oO bs l
 |.clo _ l=>oO bs l
 |_=>true
def oO (bs:List Nat):List AV→Bool
 |[]=>true
 |x::r=>AV.inB bs x&&oO bs r
end
def Slot.ren(ρ:Nat→Nat):Slot→Slot
 |.box ty cs=>.box ty (cs.ren ρ)
 |.res R lk=>.res R (lk.map ρ)
 |s=>s
def Slot.inB(bs:List Nat):Slot→Bool
 |.box _ cs=>cs.inB bs
 |.res _ (some b)=>bs.contains b
 |_=>true
def Slot.jv:Slot→Bool
 |.free=>false
 |_=>true
structure Moves (e e':Env) (p:Nat→Prop) (ρ:Nat→Nat):Prop where
 ok:∀b,p b→e.ok b→e'.ok (ρ b)
 m:∀b,p b→e.ok b→e'.m (ρ b)=e.m b
 sv:∀b,p b→e.ok b→e'.sv (ρ b)=e.sv b
 I:Le e.I e'.I
 im:∀b,p b→e.ok b→∀j v,e.im b j=some v→e'.im (ρ b) j=some v
mutual
theorem VR.ren {e e':Env} {bs:List Nat} {ρ:Nat→Nat} (h:Moves e e' (fun b=>bs.contains b=true) ρ):∀(x:AV) (v:Value),x.inB bs=true→VR e x v→VR e' (x.ren ρ) v
 |.ptr b off,v,hb,hv=>by
  unfold AV.inB at hb;unfold AV.ren;unfold VR at hv ⊢
  exact⟨h.ok b hb hv.1,by rw[h.m b hb hv.1];exact hv.2⟩
 |.pY b n j off,v,hb,hv=>by
  unfold AV.inB at hb;unfold AV.ren;unfold VR at hv ⊢
  exact⟨h.ok b hb hv.1,by rw[h.sv b hb hv.1];exact hv.2⟩
 |.own b,v,hb,hv=>by
  unfold AV.inB at hb;unfold AV.ren;unfold VR at hv ⊢
  exact⟨h.ok b hb hv.1,by rw[h.sv b hb hv.1];exact hv.2⟩
 |.mp b,v,hb,hv=>by
  unfold AV.inB at hb;unfold AV.ren;unfold VR at hv ⊢
  exact⟨h.ok b hb hv.1,by rw[h.m b hb hv.1];exact hv.2⟩
 |.hnd b o,v,hb,hv=>by
  unfold AV.inB at hb;unfold AV.ren;unfold VR at hv ⊢
  cases o with
  |none=>exact⟨h.ok b hb hv.1,hv.2⟩
  |some j=>obtain⟨k,r,h1,h2⟩:=hv;exact⟨h.ok b hb k,r,h.im b hb k j r h1,h2⟩
 |.any,v,_,hv=>by unfold AV.ren;unfold VR;trivial
 |.agg l,v,hb,hv=>by
  unfold AV.inB at hb;unfold AV.ren
  obtain⟨cs,e1,h1⟩:=VR.agg.1 hv
  exact VR.agg.2 ⟨cs,e1,VRs.ren h l cs hb h1⟩
 |.tup l,v,hb,hv=>by
  unfold AV.inB at hb;unfold AV.ren
  obtain⟨cs,e1,h1⟩:=VR.tup.1 hv
  exact VR.tup.2 ⟨cs,e1,VRs.ren h l cs hb h1⟩
 |.clo f l,v,hb,hv=>by
  unfold AV.inB at hb;unfold AV.ren
  obtain⟨cs,e1,h1⟩:=VR.clo.1 hv
  exact VR.clo.2 ⟨cs,e1,VRs.ren h l cs hb h1⟩
 |.lf x,v,_,hv=>by unfold AV.ren;rw[VR.lf] at hv ⊢;exact LRp.mono h.I _ _ hv
 |.dat r,v,_,hv=>by
  unfold AV.ren
  obtain⟨cs,e1,h1⟩:=VR.dat.1 hv
  exact VR.dat.2 ⟨cs,e1,bV.mono h.I _ _ h1⟩
 |.dp r off,v,_,hv=>by
  unfold AV.ren;unfold VR at hv ⊢
  obtain⟨b,o,e1,h1⟩:=hv
  exact⟨b,o,e1,CRp.mono h.I _ _ _ h1⟩
 |.bK n,v,_,hv=>by unfold AV.ren;unfold VR at hv ⊢;exact hv
 |.raw u,v,_,hv=>by unfold AV.ren;unfold VR at hv ⊢;exact hv
theorem VRs.ren {e e':Env} {bs:List Nat} {ρ:Nat→Nat} (h:Moves e e' (fun b=>bs.contains b=true) ρ):∀(l:List AV) (cs:List Value),oO bs l=true→VRs e l cs→VRs e' (kX ρ l) cs
 |[],cs,_,hv=>by unfold kX;unfold VRs at hv ⊢;exact hv
 |x::r,cs,hb,hv=>by
  unfold oO at hb
  rw[Bool.and_eq_true] at hb
  unfold kX;unfold VRs at hv ⊢
  obtain⟨c,q,e1,h1,h2⟩:=hv
  exact⟨c,q,e1,VR.ren h x c hb.1 h1,VRs.ren h r q hb.2 h2⟩
end
mutual
theorem VR.Ou {e e':Env} {ρ:Nat→Nat} (h:Moves e e' (fun _=>True) ρ):∀(x:AV) (v:Value),VR e x v→VR e' (x.ren ρ) v
 |.ptr b off,v,hv=>by
  unfold AV.ren;unfold VR at hv ⊢
  exact⟨h.ok b trivial hv.1,by rw[h.m b trivial hv.1];exact hv.2⟩
 |.pY b n j off,v,hv=>by
  unfold AV.ren;unfold VR at hv ⊢
  exact⟨h.ok b trivial hv.1,by rw[h.sv b trivial hv.1];exact hv.2⟩
 |.own b,v,hv=>by
  unfold AV.ren;unfold VR at hv ⊢
  exact⟨h.ok b trivial hv.1,by rw[h.sv b trivial hv.1];exact hv.2⟩
 |.mp b,v,hv=>by
  unfold AV.ren;unfold VR at hv ⊢
  exact⟨h.ok b trivial hv.1,by rw[h.m b trivial hv.1];exact hv.2⟩
 |.hnd b o,v,hv=>by
  unfold AV.ren;unfold VR at hv ⊢
  cases o with
  |none=>exact⟨h.ok b trivial hv.1,hv.2⟩
  |some j=>obtain⟨k,r,h1,h2⟩:=hv;exact⟨h.ok b trivial k,r,h.im b trivial k j r h1,h2⟩
 |.any,v,hv=>by unfold AV.ren;unfold VR;trivial
 |.agg l,v,hv=>by
  unfold AV.ren
  obtain⟨cs,e1,h1⟩:=VR.agg.1 hv
  exact VR.agg.2 ⟨cs,e1,VRs.Ou h l cs h1⟩
 |.tup l,v,hv=>by
  unfold AV.ren
  obtain⟨cs,e1,h1⟩:=VR.tup.1 hv
  exact VR.tup.2 ⟨cs,e1,VRs.Ou h l cs h1⟩
 |.clo f l,v,hv=>by
  unfold AV.ren
  obtain⟨cs,e1,h1⟩:=VR.clo.1 hv
  exact VR.clo.2 ⟨cs,e1,VRs.Ou h l cs h1⟩
 |.lf x,v,hv=>by unfold AV.ren;rw[VR.lf] at hv ⊢;exact LRp.mono h.I _ _ hv
 |.dat r,v,hv=>by
  unfold AV.ren
  obtain⟨cs,e1,h1⟩:=VR.dat.1 hv
  exact VR.dat.2 ⟨cs,e1,bV.mono h.I _ _ h1⟩
 |.dp r off,v,hv=>by
  unfold AV.ren;unfold VR at hv ⊢
  obtain⟨b,o,e1,h1⟩:=hv
  exact⟨b,o,e1,CRp.mono h.I _ _ _ h1⟩
 |.bK n,v,hv=>by unfold AV.ren;unfold VR at hv ⊢;exact hv
 |.raw u,v,hv=>by unfold AV.ren;unfold VR at hv ⊢;exact hv
theorem VRs.Ou {e e':Env} {ρ:Nat→Nat} (h:Moves e e' (fun _=>True) ρ):∀(l:List AV) (cs:List Value),VRs e l cs→VRs e' (kX ρ l) cs
 |[],cs,hv=>by unfold kX;unfold VRs at hv ⊢;exact hv
 |x::r,cs,hv=>by
  unfold kX;unfold VRs at hv ⊢
  obtain⟨c,q,e1,h1,h2⟩:=hv
  exact⟨c,q,e1,VR.Ou h x c h1,VRs.Ou h r q h2⟩
end
structure mY (e:Env) (C:Nat→List Value) (H:List Slot) (w:World):Prop where
 hv:HVs e C H
 hw:HWs e C w H
 bound:∀b,e.ok b→b<H.length
 inj:∀b b' s s' g,H[b]?=some s→H[b']?=some s'→dV e b s g→dV e b' s' g→b=b'
 av:∀b s g,H[b]?=some s→dV e b s g→Av e.I g
 inv:Inv e.I w
def blks(e:Env)(H:List Slot)(g:Nat):Prop:=∃b s,H[b]?=some s∧dV e b s g
structure GrH (e:Env) (H:List Slot) (e':Env) (H':List Slot) (w w':World):Prop where
 le:e.le e'
 only:Only (blks e H) w w'
 fresh:∀b o v,e'.I b o=some v→e.I b o=none→w.heap.size≤b∨blks e H b
 mine:∀g,blks e' H' g→w.heap.size≤g∨blks e H g
def FnH(P:Program)(G:Gh→Prop)(f:FuncId)(args:List AV)(H:List Slot)(res:AV)(H':List Slot):Prop:=
 nN P f=true∧∀e C w vs,G e.I→mY e C H w→VRs e args vs→Calls P f vs.toArray w fun en w'=>∃e' C' v,en=.returned v∧GrH e H e' H' w w'∧mY e' C' H' w'∧VR e' res v
def evs(T:List (Nat×AV)):List Operand→Option (List AV)
 |[]=>some []
 |x::r=>match ev T x with
  |some v=>match evs T r with
   |some l=>some (v.asD::l)
   |none=>none
  |none=>none
theorem aaQ{e:Env}{T:List (Nat×AV)}{a:Act}(hT:iP e T a.tmps):∀{l:List Operand} {ds:List AV},evs T l=some ds→VRs e ds (l.map a.eval)
 |[],ds,h=>by injection h with h;subst h;exact VRs.nil
 |x::r,ds,h=>by
  unfold evs at h
  split at h
  ·rename_i v hv
   split at h
   ·rename_i l hl
    injection h with h;subst h
    exact VRs.cons (dh hT hv).asD (aaQ hT hl)
   cases h
  cases h
def posB:List Nat→Nat→Nat
 |[],_=>0
 |x::r,b=>match Nat.beq x b with
  |true=>0
  |false=>posB r b+1
def jw(bs:List Nat)(k0 i:Nat):Nat:=match bs[i]? with
 |some b=>b
 |none=>k0+(i-bs.length)
def kY(bs:List Nat)(H:List Slot):List Slot:=bs.map fun b=>(H.getD b .dead).ren (posB bs)
def oldH(bs:List Nat)(k0:Nat)(Hl:List Slot):Nat→List Slot→List Slot
 |_,[]=>[]
 |b,s::r=>(match bs.contains b with
  |true=>(Hl.getD (posB bs b) .dead).ren (jw bs k0)
  |false=>s)::oldH bs k0 Hl (b+1) r
def newH(bs:List Nat)(H Hl:List Slot):List Slot:=oldH bs H.length Hl 0 H++(Hl.drop bs.length).map (·.ren (jw bs H.length))
def nodupB:List Nat→Bool
 |[]=>true
 |x::r=>!r.contains x&&nodupB r
theorem oD:∀{bs:List Nat} {b:Nat},bs.contains b=true→bs[posB bs b]?=some b
 |[],b,h=>by simp at h
 |x::r,b,h=>by
  unfold posB
  split
  ·rename_i hb;have:=dX hb;subst this;rfl
  rename_i hb
  have hne:x≠b:=by rintro rfl;simp at hb
  rw[List.getElem?_cons_succ]
  exact oD (by
   rw[List.contains_iff_mem] at h ⊢
   rcases List.mem_cons.1 h with h|h
   ·exact absurd h.symm hne
   exact h)
theorem DT:∀{bs:List Nat},nodupB bs=true→∀{i b:Nat},bs[i]?=some b→posB bs b=i
 |[],_,i,b,h=>by simp at h
 |x::r,hn,0,b,h=>by
  obtain rfl:x=b:=by simpa using h
  unfold posB;simp
 |x::r,hn,i+1,b,h=>by
  have h1:r[i]?=some b:=by simpa using h
  unfold nodupB at hn
  rw[Bool.and_eq_true,Bool.not_eq_true'] at hn
  have hne:x≠b:=by
   grind
  unfold posB
  split
  ·simp_all
  rw[DT hn.2 h1]
theorem zf(bs:List Nat)(k0:Nat)(Hl:List Slot):∀(H:List Slot) (k:Nat),(oldH bs k0 Hl k H).length=H.length
 |[],_=>rfl
 |_::r,k=>by unfold oldH;simp[zf bs k0 Hl r (k+1)]
theorem DU(bs:List Nat)(k0:Nat)(Hl:List Slot):∀(H:List Slot) (k b:Nat),(oldH bs k0 Hl k H)[b]?=(H[b]?).map fun s=>(match bs.contains (k+b) with|true=>(Hl.getD (posB bs (k+b)) .dead).ren (jw bs k0)|false=>s)
 |[],k,b=>by simp[oldH]
 |s::r,k,0=>by unfold oldH;simp
 |s::r,k,b+1=>by
  unfold oldH
  rw[List.getElem?_cons_succ,List.getElem?_cons_succ,DU bs k0 Hl r (k+1) b,show k+1+b=k+(b+1) by omega]
theorem VX(e:Env)(ρ:Nat→Nat)(b:Nat)(s:Slot):dV e b (s.ren ρ)=dV e b s:=by cases s<;>rfl
theorem Only.Ef{wr wr':Nat→Prop}{w0 w w':World}(h:Only wr w0 w)(k:Only wr' w w')(hr:∀g,wr' g→w0.heap.size≤g∨wr g):Only wr w0 w':=
 ⟨k.os.trans h.os,k.tape.trans h.tape,k.output.trans h.output,Nat.le_trans h.size k.size,fun i hi hn=>(k.block i (Nat.lt_of_lt_of_le hi h.size) (fun e=>by
  rcases hr i e with h1|h1
  ·omega
  exact hn h1)).trans (h.block i hi hn)⟩
theorem Inv.le2{I I':Gh}{w:World}(h:Inv I' w)(k:Le I I'):Inv I w:=fun b o v e=>h b o v (k b o v e)
theorem X8{P:Program}{ρ:Operand→Value}{o:Oper}{cl:Call}(ho:o.op=.call cl){x:Operand}(hf:cl.callee=.value x){f:FuncId}{cs:Array Value}(hρ:ρ x=.func (.func f) #[] cs)(hb:nN P f=true)(w:World):
 (execOp ρ o).run P w=.ok (.enter f (cl.args.map ρ++cs)) w:=by
 unfold nN at hb
 split at hb
 ·rename_i fn hfn
  simp only[Bool.and_eq_true,Bool.not_eq_true'] at hb
  simp only[execOp,ho,resolve,hf,hρ,Deferred.ofValue,Sem.run_bind,Sem.run_pure,Result.andThen_ok,invoke,callFunc]
  have h1:(program).run P w=.ok P w:=rfl
  simp only[h1,Result.andThen_ok,hfn,hb.1,hb.2,Bool.false_eq_true,if_false,Sem.run_pure]
  simp
 cases hb
theorem X9{P:Program}{ρ:Operand→Value}{o:Oper}{cl:Call}(ho:o.op=.call cl){x:Operand}(hf:cl.callee=.value x){f:FuncId}(hρ:ρ x=.func (.func f) #[] #[])(hb:nN P f=true)(w:World):
 (execOp ρ o).run P w=.ok (.enter f (cl.args.map ρ)) w:=by
 unfold nN at hb
 split at hb
 ·rename_i fn hfn
  simp only[Bool.and_eq_true,Bool.not_eq_true'] at hb
  simp only[execOp,ho,resolve,hf,hρ,Deferred.ofValue,Sem.run_bind,Sem.run_pure,Result.andThen_ok,invoke,callFunc]
  have h1:(program).run P w=.ok P w:=rfl
  have h2 : (if (fn.name == "runtime.NumGoroutine") = true then (pure Next.numGoroutine : Sem Next) else pure (.enter f (#[] ++ Array.map ρ cl.args ++ #[]))) = pure (.enter f (Array.map ρ cl.args)) := by rw [if_neg (by simp [hb.1])]; simp
  simp only[h1,Result.andThen_ok,hfn,hb.1,hb.2,Bool.false_eq_true,if_false,Sem.run_pure]
  simp
 cases hb
def aaR(T:List (Nat×AV)):Operand→Option FuncId
 |.func f=>some f
 |x=>match ev T x with
  |some (.raw (.func (.func f) a b))=>match Nat.beq a.size 0&&Nat.beq b.size 0 with
   |true=>some f
   |false=>none
  |_=>none
theorem Ov{T:List (Nat×AV)}{x:Operand}{f:FuncId}(h:aaR T x=some f)(e:Env)(a:Act)(hT:iP e T a.tmps):a.eval x=.func (.func f) #[] #[]:=by
 unfold aaR at h
 split at h
 ·injection h with h;subst h;rfl
 split at h
 ·rename_i f' p q hv
  split at h
  ·rename_i hb
   injection h with h;subst h
   rw[Bool.and_eq_true] at hb
   have h1:=dh hT hv
   unfold VR at h1
   simp_all
  cases h
 cases h
def slB(bs:List Nat)(H:List Slot):Bool:=bs.all fun b=>match H[b]? with
 |some s=>s.jv&&s.inB bs
 |none=>false
theorem Mem.via{c:Ctx}(hc:c.Ok){e:Env}{C:Nat→List Value}{H:List Slot}{w:World}(hM:Mem c e C H w){bs:List Nat}(hnd:nodupB bs=true)(hsl:slB bs H=true){Hl:List Slot}(hlen:Nat.ble bs.length Hl.length=true)(hnf:Hl.all Slot.jv=true):
 ∃el Cl,el.I=e.I∧mY el Cl (kY bs H) w∧(∀ds vs,oO bs ds=true→VRs e ds vs→VRs el (kX (posB bs) ds) vs)∧
  ∀e2 C2 w',GrH el (kY bs H) e2 Hl w w'→mY e2 C2 Hl w'→∃e' C',Mem c e' C' (newH bs H Hl) w'∧iU bs true e C H e' C' (newH bs H Hl) w'∧(∀r v,VR e2 r v→VR e' (r.ren (jw bs H.length)) v)∧e'.I=e2.I:=by
 have hlen:=Nat.le_of_ble_eq_true hlen
 have hS:∀b,bs.contains b=true→∃s,H[b]?=some s∧s.jv=true∧s.inB bs=true:=fun b hb=>by
  have:=List.all_eq_true.1 hsl b (List.contains_iff_mem.1 hb)
  grind
 have hmem:∀i b,bs[i]?=some b→bs.contains b=true:=fun i b h=>List.contains_iff_mem.2 (List.mem_of_getElem? h)
 have gD:∀i b,bs[i]?=some b→bs.getD i 0=b:=fun i b h=>by rw[List.getD_eq_getElem?_getD,h];rfl
 obtain⟨el,hel⟩:∃el:Env,el=⟨fun i=>∃b,bs[i]?=some b∧e.ok b,fun i=>e.m (bs.getD i 0),fun i=>e.sv (bs.getD i 0),e.I,fun i=>e.im (bs.getD i 0),fun i=>e.fp (bs.getD i 0)⟩:=⟨_,rfl⟩
 obtain⟨Cl,hCl⟩:∃Cl:Nat→List Value,Cl=fun i=>C (bs.getD i 0):=⟨_,rfl⟩
 have elok:∀i b,bs[i]?=some b→(el.ok i↔e.ok b):=fun i b h=>by
  simp_all
 have elm:∀i b,bs[i]?=some b→el.m i=e.m b:=fun i b h=>by subst hel;show e.m (bs.getD i 0)=_;rw[gD i b h]
 have elsv:∀i b,bs[i]?=some b→el.sv i=e.sv b:=fun i b h=>by subst hel;show e.sv (bs.getD i 0)=_;rw[gD i b h]
 have elim:∀i b,bs[i]?=some b→el.im i=e.im b:=fun i b h=>by subst hel;show e.im (bs.getD i 0)=_;rw[gD i b h]
 have elfp:∀i b,bs[i]?=some b→el.fp i=e.fp b:=fun i b h=>by subst hel;show e.fp (bs.getD i 0)=_;rw[gD i b h]
 have elI:el.I=e.I:=by subst hel;rfl
 have hCi:∀i b,bs[i]?=some b→Cl i=C b:=fun i b h=>by subst hCl;show C (bs.getD i 0)=_;rw[gD i b h]
 have elb:∀i,el.ok i→∃b,bs[i]?=some b∧e.ok b:=fun i h=>by subst hel;exact h
 have mv1:Moves e el (fun b=>bs.contains b=true) (posB bs):=⟨fun b hb h=>(elok _ b (oD hb)).2 h,fun b hb _=>elm _ b (oD hb),fun b hb _=>elsv _ b (oD hb),by rw[elI];exact Le.refl _,fun b hb _ j v h=>by rw[elim _ b (oD hb)];exact h⟩
 have hL:∀(i:Nat) (s':Slot),(kY bs H)[i]?=some s'→∃(b:Nat) (s:Slot),bs[i]?=some b∧H[b]?=some s∧s'=s.ren (posB bs)∧s.jv=true∧s.inB bs=true:=fun i s' h=>by
  unfold kY at h
  rw[List.getElem?_map] at h
  cases hb:bs[i]? with
  |none=>grind
  |some b=>
   grind
 have hblk:∀i b s,bs[i]?=some b→dV el i (Slot.ren (posB bs) s)=dV e b s:=fun i b s h=>by
  rw[VX]
  cases s with
  |box ty cs=>show(fun g=>el.m i=g)=fun g=>e.m b=g;rw[elm i b h]
  |row ty n l=>show(fun g=>Value.ownBlock (el.sv i)=some g)=fun g=>Value.ownBlock (e.sv b)=some g;rw[elsv i b h]
  |dead=>rfl
  |free=>rfl
  |res R lk=>show el.fp i=e.fp b;exact elfp i b h
  |map P1 k1 e1 l1=>show(fun g=>el.m i=g)=fun g=>e.m b=g;rw[elm i b h]
 have hML:mY el Cl (kY bs H) w:=by
  refine⟨fun i s' hs=>?_,fun i s' hs=>?_,fun i hi=>?_,fun i i' s s' g h1 h2 k1 k2=>?_,fun i s g hs hg=>?_,by rw[elI];exact hM.inv⟩
  ·obtain⟨b,s,hi,hb,rfl,hf,hin'⟩:=hL i s' hs
   have h2:=hM.hv b s hb
   cases s with
   |box ty cs=>exact⟨(elok i b hi).2 h2.1,by rw[hCi i b hi];exact VR.ren mv1 _ _ hin' h2.2⟩
   |row ty n l=>exact⟨(elok i b hi).2 h2.1,by rw[hCi i b hi,elI];exact h2.2.1,h2.2.2.1,h2.2.2.2.1,by rw[elsv i b hi];exact h2.2.2.2.2⟩
   |dead=>exact True.intro
   |free=>cases hf
   |res R lk=>exact(elok i b hi).2 h2
   |map P1 k1 e1 l1=>exact⟨(elok i b hi).2 h2.1,h2.2⟩
  ·obtain⟨b,s,hi,hb,rfl,hf,hin'⟩:=hL i s' hs
   have h2:=hM.hw b s hb
   cases s with
   |box ty cs=>show w.heap[el.m i]?=some (.cells (Cl i).toArray ty (0,0));rw[elm i b hi,hCi i b hi];exact h2
   |row ty n l=>show w.ownsRow 0 ty n (el.sv i) l.length (Cl i);rw[elsv i b hi,hCi i b hi];exact h2
   |dead=>exact True.intro
   |free=>cases hf
   |res R lk=>
    obtain⟨v,h3,h4⟩:=h2
    have h5:R.At el.I w (el.m i) (el.im i) (el.fp i) v:=by rw[elI,elm i b hi,elim i b hi,elfp i b hi];exact h3
    cases lk with
    |none=>exact⟨v,h5,fun _ h=>by cases h⟩
    |some b'=>
     refine⟨v,h5,fun x hx=>?_⟩
     injection hx with hx;subst hx
     obtain⟨q1,q2⟩:=h4 b' rfl
     have hp:=oD (show bs.contains b'=true from hin')
     grind
   |map P1 k1 e1 l1=>show w.ownsMap P1 k1 (plainElem P1 e1) (el.m i) l1.length (mapD l1);rw[elm i b hi];exact h2
  ·obtain⟨b,h1,_⟩:=elb i hi
   unfold kY;rw[List.length_map];exact(List.getElem?_eq_some_iff.1 h1).1
  ·obtain⟨b,s0,hi,hb,rfl,_,_⟩:=hL i s h1
   obtain⟨b',s0',hi',hb',rfl,_,_⟩:=hL i' s' h2
   rw[hblk i b s0 hi] at k1
   rw[hblk i' b' s0' hi'] at k2
   have:=hM.inj b b' s0 s0' g hb hb' k1 k2
   subst this
   rw[←DT hnd hi,←DT hnd hi']
  obtain⟨b,s0,hi,hb,rfl,_,_⟩:=hL i s hs
  rw[hblk i b s0 hi] at hg
  rw[elI];exact hM.av b s0 g hb hg
 refine⟨el,Cl,elI,hML,fun ds vs hin h=>VRs.ren mv1 ds vs hin h,fun e2 C2 w' g hM2=>?_⟩
 obtain⟨im,him⟩:∃im:Nat→Bool,im=fun b=>bs.contains b||Nat.ble H.length b:=⟨_,rfl⟩
 obtain⟨iv,hiv⟩:∃iv:Nat→Nat,iv=fun b=>bif bs.contains b then posB bs b else bs.length+(b-H.length):=⟨_,rfl⟩
 have imC:∀b,bs.contains b=true→im b=true∧iv b=posB bs b:=fun b hb=>by subst him hiv;simp only[hb,Bool.true_or,cond_true,and_self]
 have blt:∀b,bs.contains b=true→b<H.length:=fun b hb=>by
  grind
 have notC:∀b,H.length≤b→bs.contains b=false:=fun b hb=>by
  cases hq:bs.contains b with
  |true=>grind
  |false=>rfl
 have imN:∀b,H.length≤b→im b=true∧iv b=bs.length+(b-H.length):=fun b hb=>by
  simp_all
 have imF:∀b,im b=false→bs.contains b=false∧b<H.length:=fun b hb=>by
  grind
 have hρ:∀i,i<Hl.length→im (jw bs H.length i)=true∧iv (jw bs H.length i)=i:=fun i hi=>by
  unfold jw
  cases hb:bs[i]? with
  |some b=>
   obtain⟨h1,h2⟩:=imC b (hmem i b hb)
   exact⟨h1,h2.trans (DT hnd hb)⟩
  |none=>
   grind
 obtain⟨e',he'⟩:∃e':Env,e'=⟨fun b=>(im b=true∧e2.ok (iv b))∨(im b=false∧e.ok b),fun b=>bif im b then e2.m (iv b) else e.m b,fun b=>bif im b then e2.sv (iv b) else e.sv b,e2.I,fun b=>bif im b then e2.im (iv b) else e.im b,fun b=>bif im b then e2.fp (iv b) else e.fp b⟩:=⟨_,rfl⟩
 obtain⟨C',hC'⟩:∃C':Nat→List Value,C'=fun b=>bif im b then C2 (iv b) else C b:=⟨_,rfl⟩
 have ok1:∀b,im b=true→(e'.ok b↔e2.ok (iv b)):=fun b h=>by
  subst he'
  grind
 have ok2:∀b,im b=false→(e'.ok b↔e.ok b):=fun b h=>by
  subst he'
  grind
 have m1:∀b,im b=true→e'.m b=e2.m (iv b)∧e'.sv b=e2.sv (iv b)∧C' b=C2 (iv b)∧e'.im b=e2.im (iv b)∧e'.fp b=e2.fp (iv b):=fun b h=>by subst he' hC';simp[h]
 have m2:∀b,im b=false→e'.m b=e.m b∧e'.sv b=e.sv b∧C' b=C b∧e'.im b=e.im b∧e'.fp b=e.fp b:=fun b h=>by subst he' hC';simp[h]
 have eI:e'.I=e2.I:=by subst he';rfl
 have mv2:Moves e2 e' (fun _=>True) (jw bs H.length):=by
  refine⟨fun i _ hi=>?_,fun i _ hi=>?_,fun i _ hi=>?_,by rw[eI];exact Le.refl _,fun i _ hi j v hv=>?_⟩
  all_goals obtain⟨h1,h2⟩:=hρ i (hM2.bound i hi)
  all_goals grind
 have leI:Le e.I e2.I:=by have:=g.le.I;rw[elI] at this;exact this
 have okC:∀b,e.ok b→im b=true→bs.contains b=true:=fun b hb h=>by
  cases hq:bs.contains b with
  |true=>rfl
  |false=>
   subst him
   simp only[hq,Bool.false_or] at h
   have:=hM.bound b hb
   have:=Nat.le_of_ble_eq_true h
   omega
 have hle:e.le e':=by
  refine⟨fun b hb=>?_,fun b hb=>?_,fun b hb=>?_,by rw[eI];exact leI,fun b hb j v hv=>?_⟩
  all_goals cases hi:im b with
  |true=>
   have hcb:=okC b hb hi
   have hp:=oD hcb
   have hk:=(elok _ b hp).2 hb
   have h3:=(imC b hcb).2
   first
    |exact(ok1 b hi).2 (by rw[h3];exact g.le.ok _ hk)
    |(rw[(m1 b hi).1,h3,g.le.m _ hk];exact elm _ b hp)
    |(rw[(m1 b hi).2.1,h3,g.le.sv _ hk];exact elsv _ b hp)
    |(rw[(m1 b hi).2.2.2.1,h3];exact g.le.im _ hk j v (by rw[elim _ b hp];exact hv))
  |false=>
   grind
 have hN:∀b s,(newH bs H Hl)[b]?=some s→(im b=true∧∃s2,Hl[iv b]?=some s2∧s=s2.ren (jw bs H.length))∨(im b=false∧bs.contains b=false∧H[b]?=some s):=fun b s h=>by
  unfold newH at h
  rw[List.getElem?_append,zf] at h
  split at h
  ·rename_i hlt
   rw[DU,Nat.zero_add] at h
   cases hq:bs.contains b with
   |true=>
    left
    obtain⟨h1,h2⟩:=imC b hq
    have hp:=(List.getElem?_eq_some_iff.1 (oD hq)).1
    obtain⟨s0,h3,_,_⟩:=hS b hq
    rw[h3] at h
    simp only[hq,Option.map_some,Option.some.injEq] at h
    have h4:Hl[posB bs b]?=some (Hl[posB bs b]'(by omega)):=List.getElem?_eq_getElem (by omega)
    refine⟨h1,_,by rw[h2];exact h4,?_⟩
    rw[←h,List.getD_eq_getElem?_getD,h4];rfl
   |false=>
    right
    have hi:im b=false:=by
     subst him
     simp only[hq,Bool.false_or]
     cases hk:Nat.ble H.length b with
     |false=>rfl
     |true=>have:=Nat.le_of_ble_eq_true hk;omega
    refine⟨hi,rfl,?_⟩
    cases hs:H[b]? with
    |none=>rw[hs] at h;cases h
    |some s0=>rw[hs] at h;simp only[hq,Option.map_some,Option.some.injEq] at h;rw[h]
  rename_i hge
  left
  obtain⟨h1,h2⟩:=imN b (by omega)
  rw[List.getElem?_map,List.getElem?_drop] at h
  cases hs:Hl[bs.length+(b-H.length)]? with
  |none=>grind
  |some s2=>
   grind
 have b1:∀b s2,im b=true→dV e' b (Slot.ren (jw bs H.length) s2)=dV e2 (iv b) s2:=fun b s2 h=>by
  rw[VX]
  cases s2 with
  |box ty cs=>show(fun g=>e'.m b=g)=fun g=>e2.m (iv b)=g;rw[(m1 b h).1]
  |row ty n l=>show(fun g=>Value.ownBlock (e'.sv b)=some g)=fun g=>Value.ownBlock (e2.sv (iv b))=some g;rw[(m1 b h).2.1]
  |dead=>rfl
  |free=>rfl
  |res R lk=>exact(m1 b h).2.2.2.2
  |map P1 k1 e1 l1=>show(fun g=>e'.m b=g)=fun g=>e2.m (iv b)=g;rw[(m1 b h).1]
 have b2:∀b s,im b=false→dV e' b s=dV e b s:=fun b s h=>by
  cases s with
  |box ty cs=>show(fun g=>e'.m b=g)=fun g=>e.m b=g;rw[(m2 b h).1]
  |row ty n l=>show(fun g=>Value.ownBlock (e'.sv b)=some g)=fun g=>Value.ownBlock (e.sv b)=some g;rw[(m2 b h).2.1]
  |dead=>rfl
  |free=>rfl
  |res R lk=>exact(m2 b h).2.2.2.2
  |map P1 k1 e1 l1=>show(fun g=>e'.m b=g)=fun g=>e.m b=g;rw[(m2 b h).1]
 have hbl:∀y,blks el (kY bs H) y→∃b s,bs.contains b=true∧H[b]?=some s∧dV e b s y:=fun y ⟨i,s',h1,h2⟩=>by
  obtain⟨b,s,hi,hb,rfl,_,_⟩:=hL i s' h1
  exact⟨b,s,hmem i b hi,hb,by rw[←hblk i b s hi];exact h2⟩
 have hmine:∀y,blks el (kY bs H) y→c.w0.heap.size≤y∨c.wr y:=fun y hy=>by
  obtain⟨b,s,_,h1,h2⟩:=hbl y hy
  exact hM.mine b s y h1 h2
 have hfar:∀b s y,bs.contains b=false→H[b]?=some s→dV e b s y→¬blks el (kY bs H) y:=fun b s y hcb hb hy hk=>by
  obtain⟨b',s',hc',h1,h2⟩:=hbl y hk
  have:=hM.inj b b' s s' y hb h1 hy h2
  grind
 have hfar2:∀b s y,bs.contains b=false→H[b]?=some s→dV e b s y→¬blks e2 Hl y:=fun b s y hcb hb hy hk=>by
  rcases g.mine y hk with h1|h1
  ·have:=hM.lt hb hy;omega
  grind
 have hsize:=g.only.size
 have hMem:Mem c e' C' (newH bs H Hl) w':=by
  refine⟨fun b s hs=>?_,fun b s hs=>?_,fun b hb=>?_,fun b b' s s' y h1 h2 k1 k2=>?_,fun b s y hs hy=>?_,fun b s y hs hy=>?_,by rw[eI];exact hM2.inv,hM.le.trans (by rw[eI];exact leI),fun b oo u k1 k2=>?_,hM.ch.Ef g.only hmine,hc.G _ _ (by rw[eI];exact leI) hM.g,hM.bse.le hle⟩
  ·rcases hN b s hs with⟨hi,s2,h1,rfl⟩|⟨hi,hcb,h1⟩
   ·have h2:=hM2.hv _ s2 h1
    cases s2 with
    |box ty cs=>exact⟨(ok1 b hi).2 h2.1,by rw[(m1 b hi).2.2.1];exact VR.Ou mv2 _ _ h2.2⟩
    |row ty n l=>exact⟨(ok1 b hi).2 h2.1,by rw[(m1 b hi).2.2.1,eI];exact h2.2.1,h2.2.2.1,h2.2.2.2.1,by rw[(m1 b hi).2.1];exact h2.2.2.2.2⟩
    |dead=>trivial
    |free=>have:=List.all_eq_true.1 hnf _ (List.mem_of_getElem? h1);cases this
    |res R lk=>exact(ok1 b hi).2 h2
    |map P1 k1 e1 l1=>exact⟨(ok1 b hi).2 h2.1,h2.2⟩
   by_cases hfr:s=.free
   ·subst hfr
    exact fun hk=>hM.hv b _ h1 ((ok2 b hi).1 hk)
   exact rW hle (m2 b hi).2.2.1 hfr (hM.hv b s h1)
  ·rcases hN b s hs with⟨hi,s2,h1,rfl⟩|⟨hi,hcb,h1⟩
   ·have h2:=hM2.hw _ s2 h1
    obtain⟨q1,q2,q3,q4,q5⟩:=m1 b hi
    cases s2 with
    |box ty cs=>show w'.heap[e'.m b]?=some (.cells (C' b).toArray ty (0,0));rw[q1,q3];exact h2
    |row ty n l=>show w'.ownsRow 0 ty n (e'.sv b) l.length (C' b);rw[q2,q3];exact h2
    |dead=>trivial
    |free=>trivial
    |res R lk=>
     obtain⟨v,h3,h4⟩:=h2
     have h5:R.At e'.I w' (e'.m b) (e'.im b) (e'.fp b) v:=by rw[eI,q1,q4,q5];exact h3
     cases lk with
     |none=>exact⟨v,h5,fun _ h=>by cases h⟩
     |some b'=>
      refine⟨v,h5,fun x hx=>?_⟩
      injection hx with hx;subst hx
      obtain⟨r1,r2⟩:=h4 b' rfl
      exact⟨mv2.ok b' trivial r1,(mv2.sv b' trivial r1).trans r2⟩
    |map P1 k1 e1 l1=>show w'.ownsMap P1 k1 (plainElem P1 e1) (e'.m b) l1.length (mapD l1);rw[q1];exact h2
   have h2:=qM (hM.hw b s h1) (w':=w') fun y hy=>g.only.block y (hM.lt h1 hy) (hfar b s y hcb h1 hy)
   obtain⟨q1,q2,q3,q4,q5⟩:=m2 b hi
   cases s with
   |box ty cs=>show w'.heap[e'.m b]?=some (.cells (C' b).toArray ty (0,0));rw[q1,q3];exact h2
   |row ty n l=>show w'.ownsRow 0 ty n (e'.sv b) l.length (C' b);rw[q2,q3];exact h2
   |dead=>trivial
   |free=>trivial
   |res R lk=>
    obtain⟨v,h3,h4⟩:=h2
    exact⟨v,by rw[eI,q1,q4,q5];exact R.mono h3 leI fun _ _=>rfl,fun b' e1=>⟨hle.ok b' (h4 b' e1).1,(hle.sv b' (h4 b' e1).1).trans (h4 b' e1).2⟩⟩
   |map P1 k1 e1 l1=>show w'.ownsMap P1 k1 (plainElem P1 e1) (e'.m b) l1.length (mapD l1);rw[q1];exact h2
  ·unfold newH
   rw[List.length_append,zf,List.length_map,List.length_drop]
   cases hi:im b with
   |true=>
    have h1:=hM2.bound _ ((ok1 b hi).1 hb)
    cases hq:bs.contains b with
    |true=>have:=blt b hq;omega
    |false=>
     have hge:H.length≤b:=by
      subst him
      simp only[hq,Bool.false_or] at hi
      exact Nat.le_of_ble_eq_true hi
     rw[(imN b hge).2] at h1
     omega
   |false=>have:=(imF b hi).2;omega
  ·rcases hN b s h1 with⟨hi,s2,n1,rfl⟩|⟨hi,hcb,n1⟩<;>rcases hN b' s' h2 with⟨hi',s2',n1',rfl⟩|⟨hi',hcb',n1'⟩
   ·rw[b1 b s2 hi] at k1
    rw[b1 b' s2' hi'] at k2
    have hq:=hM2.inj _ _ s2 s2' y n1 n1' k1 k2
    have back:∀z,im z=true→jw bs H.length (iv z)=z:=fun z hz=>by
     cases hq:bs.contains z with
     |true=>rw[(imC z hq).2];unfold jw;rw[oD hq]
     |false=>
      have hge:H.length≤z:=by
       subst him
       simp only[hq,Bool.false_or] at hz
       exact Nat.le_of_ble_eq_true hz
      rw[(imN z hge).2];unfold jw
      rw[List.getElem?_eq_none (by omega)]
      show H.length+(bs.length+(z-H.length)-bs.length)=z
      omega
    rw[←back b hi,←back b' hi',hq]
   ·rw[b1 b s2 hi] at k1
    rw[b2 b' s' hi'] at k2
    exact absurd ⟨_,s2,n1,k1⟩ (hfar2 b' s' y hcb' n1' k2)
   ·rw[b2 b s hi] at k1
    rw[b1 b' s2' hi'] at k2
    exact absurd ⟨_,s2',n1',k2⟩ (hfar2 b s y hcb n1 k1)
   rw[b2 b s hi] at k1
   rw[b2 b' s' hi'] at k2
   exact hM.inj b b' s s' y n1 n1' k1 k2
  ·rcases hN b s hs with⟨hi,s2,n1,rfl⟩|⟨hi,hcb,n1⟩
   ·rw[b1 b s2 hi] at hy
    rw[eI];exact hM2.av _ s2 y n1 hy
   rw[b2 b s hi] at hy
   intro oo
   rw[eI]
   cases hq:e2.I y oo with
   |none=>rfl
   |some u=>
    have h0:el.I y oo=none:=by rw[elI];exact hM.av b s y n1 hy oo
    rcases g.fresh y oo u hq h0 with h1|h1
    ·have:=hM.lt n1 hy;omega
    exact absurd h1 (hfar b s y hcb n1 hy)
  ·rcases hN b s hs with⟨hi,s2,n1,rfl⟩|⟨hi,hcb,n1⟩
   ·rw[b1 b s2 hi] at hy
    rcases g.mine y ⟨_,s2,n1,hy⟩ with h1|h1
    ·exact .inl (Nat.le_trans hM.ch.size h1)
    exact hmine y h1
   rw[b2 b s hi] at hy
   exact hM.mine b s y n1 hy
  rw[eI] at k1
  cases hq:e.I b oo with
  |some u'=>exact hM.fresh b oo u' hq k2
  |none=>
   rcases g.fresh b oo u k1 (by rw[elI];exact hq) with h1|h1
   ·exact .inl (Nat.le_trans hM.ch.size h1)
   grind
 refine⟨e',C',hMem,⟨hle,(fun h=>by cases h),fun b s hb hnb hl=>?_,Inv.le2 hM2.inv leI⟩,fun r v h=>VR.Ou mv2 r v h,eI⟩
 have hcb:bs.contains b=false:=by
  cases hq:bs.contains b with
  |true=>grind
  |false=>rfl
 have hlt:=(List.getElem?_eq_some_iff.1 hb).1
 have hi:im b=false:=by
  subst him
  simp only[hcb,Bool.false_or]
  cases hk:Nat.ble H.length b with
  |false=>rfl
  |true=>have:=Nat.le_of_ble_eq_true hk;omega
 refine⟨s,?_,hl,fun w1 h=>?_⟩
 ·unfold newH
  rw[List.getElem?_append,zf,if_pos hlt,DU,Nat.zero_add,hb]
  grind
 exact ahJ hle (DN (hM.hv b s hb) hl) hl (m2 b hi).2.2.1 h
section
variable {c:Ctx} {o:Oper} {st:St}
theorem LOp.ak5(hc:c.Ok){cl:Call}(ho:o.op=.call cl){x:Operand}(hf:cl.callee=.value x){f:FuncId}(hx:∀(e:Env) (a:Act),iP e st.T a.tmps→a.eval x=.func (.func f) #[] #[]){ds:List AV}(hd:yu st.T cl.args.toList=some ds){r:AV}(hr:r.isD=true)(hF:Fn c.P c.G f ds r){T':List (Nat×AV)}(hT:jq c.nt st.T o.dst r=some T'):LOp c o st ⟨T',st.H⟩ [] true:=by
 intro e C a w next Q hR K
 unfold Oper.wp
 rw[X9 ho hf (hx e a hR.tmp) hF.1 w,Oper.upon_enter]
 have h1:=Bf hR.tmp hd
 have h2:=hF.2 e.I w _ hR.mem.g hR.mem.inv h1
 rw[List.map_toArray.symm,Array.toArray_toList] at h2
 refine Calls.mono h2 ?_
 rintro en w' ⟨I',v,rfl,g,hv⟩
 obtain⟨hM,hle⟩:=hR.mem.grow hc g
 obtain⟨k1,k2,k3⟩:=jr hT (hR.tmp.mono hle) hR.size (VR.free (e:=rZ I') (e':={ e with I:=I' }) rfl hr hv)
 exact K _ C _ w' ⟨k1,k2,k3.trans hR.defers,hM⟩ ⟨hle,(fun h=>by cases h),fun b s hb _ hl=>⟨s,hb,hl,fun w h=>(by cases s<;>first|exact h|cases hl)⟩,hR.mem.inv.ext g.ext⟩
theorem LOp.ahK(hc:c.Ok){cl:Call}(ho:o.op=.call cl){x:Operand}(hf:cl.callee=.value x){f:FuncId}{cap:List AV}(hx:∀(e:Env) (a:Act),iP e st.T a.tmps→∃cs,a.eval x=.func (.func f) #[] cs.toArray∧VRs e cap cs){bs:List Nat}{dg ds:List AV}(hd:evs st.T cl.args.toList=some dg)(hds:ds=dg++cap)(hin:oO bs ds=true)(hnd:nodupB bs=true)
 (hsl:slB bs st.H=true) {r:AV} {Hl:List Slot} (hlen:Nat.ble bs.length Hl.length=true) (hnf:Hl.all Slot.jv=true) (hF:FnH c.P c.G f (kX (posB bs) ds) (kY bs st.H) r Hl)
 {T':List (Nat×AV)} (hT:jq c.nt st.T o.dst (r.ren (jw bs st.H.length))=some T'):LOp c o st ⟨T',newH bs st.H Hl⟩ bs true:=by
 intro e C a w next Q hR K
 unfold Oper.wp
 obtain⟨cv,hcv,hcap⟩:=hx e a hR.tmp
 rw[X8 ho hf hcv hF.1 w,Oper.upon_enter]
 obtain⟨el,Cl,elI,hML,hren,hback⟩:=hR.mem.via hc hnd hsl hlen hnf
 have hvs:VRs el (kX (posB bs) ds) (cl.args.toList.map a.eval++cv):=hren ds _ hin (by rw[hds];exact VRs.app _ _ _ _ (aaQ hR.tmp hd) hcap)
 have h2:=hF.2 el Cl w _ (by rw[elI];exact hR.mem.g) hML hvs
 rw[←List.append_toArray,List.map_toArray.symm,Array.toArray_toList] at h2
 refine Calls.mono h2 ?_
 rintro en w' ⟨e2,C2,v,rfl,g,hM2,hv⟩
 obtain⟨e',C',hMem,hK,hb,_⟩:=hback e2 C2 w' g hM2
 obtain⟨k1,k2,k3⟩:=jr hT (hR.tmp.mono hK.le) hR.size (hb r v hv)
 exact K _ C' _ w' ⟨k1,k2,k3.trans hR.defers,hMem⟩ hK
theorem LOp.ak6(hc:c.Ok){cl:Call}(ho:o.op=.call cl){x:Operand}(hf:cl.callee=.value x){f:FuncId}(hx:∀(e:Env) (a:Act),iP e st.T a.tmps→a.eval x=.func (.func f) #[] #[]){bs:List Nat}{ds:List AV}(hd:evs st.T cl.args.toList=some ds)(hin:oO bs ds=true)(hnd:nodupB bs=true)
 (hsl:slB bs st.H=true) {r:AV} {Hl:List Slot} (hlen:Nat.ble bs.length Hl.length=true) (hnf:Hl.all Slot.jv=true) (hF:FnH c.P c.G f (kX (posB bs) ds) (kY bs st.H) r Hl)
 {T':List (Nat×AV)} (hT:jq c.nt st.T o.dst (r.ren (jw bs st.H.length))=some T'):LOp c o st ⟨T',newH bs st.H Hl⟩ bs true:=
 LOp.ahK hc ho hf (cap:=[]) (fun e a h=>⟨[],hx e a h,VRs.nil⟩) hd (List.append_nil _).symm hin hnd hsl hlen hnf hF hT
end
end Go.Proofs.YtpdlghcgekojlaaGreatDoor
namespace Go.Proofs.YtpdlghcgekojlaaGreatDoor
open Go.RowKit
mutual
def AV.nor (b b':Nat):AV→Bool
 |.ptr x _=>!Nat.beq x b'
 |.pY x _ _ _=>!Nat.beq x b'&&!Nat.beq x b
 |.own x=>!Nat.beq x b'
 |.mp x=>!Nat.beq x b'
 |.hnd x _=>!Nat.beq x b'
 |.agg l=>Ya b b' l
 |.tup l=>Ya b b' l
 |.clo _ l=>Ya b b' l
 |_=>true
def Ya (b b':Nat):List AV→Bool
 |[]=>true
 |x::r=>AV.nor b b' x&&Ya b b' r
end
def afo(b b':Nat):List (Nat×AV)→Bool
 |[]=>true
 |(_,v)::r=>AV.nor b b' v&&afo b b' r
def qc(b b':Nat):List Slot→Bool
 |[]=>true
 |.box _ cs::r=>AV.nor b b' cs&&qc b b' r
 |.res _ (some x)::r=>!Nat.beq x b'&&qc b b' r
 |_::r=>qc b b' r
def mvR(b b':Nat)(st:St):Option St:=match st.H[b]? with
 |some (.row ty n l)=>match st.H[b']? with
  |some .dead=>match afo b b' st.T&&qc b b' st.H&&!Nat.beq b b' with
   |true=>some ⟨fzT b (.own b') st.T,((st.H.set b' (.row ty n l)).set b .dead).map (Slot.fz b (.own b'))⟩
   |false=>none
  |_=>none
 |_=>none
def Env.mv(e:Env)(b b':Nat):Env:={ ok:=fun x=>x=b'∨e.ok x,m:=e.m,sv:=fun x=>if x=b' then e.sv b else e.sv x,I:=e.I,im:=e.im,fp:=e.fp }
theorem afp{x y:Nat}(h:(!Nat.beq x y)=true):x≠y:=by rintro rfl;simp at h
mutual
theorem VR.mv {e:Env} {b b':Nat}:∀(x:AV) (v:Value),AV.nor b b' x=true→VR e x v→VR (e.mv b b') (AV.fz b (.own b') x) v
 |.ptr x off,v,hk,hv=>by
  unfold AV.nor at hk;unfold AV.fz;unfold VR at hv ⊢
  exact⟨.inr hv.1,hv.2⟩
 |.pY x n j off,v,hk,hv=>by
  unfold AV.nor at hk;unfold AV.fz;unfold VR at hv ⊢
  rw[Bool.and_eq_true] at hk
  refine⟨.inr hv.1,?_⟩
  rw[show(e.mv b b').sv x=e.sv x from if_neg (afp hk.1)]
  exact hv.2
 |.own x,v,hk,hv=>by
  unfold AV.nor at hk;unfold AV.fz
  split
  ·rename_i hb
   have:=dX hb
   subst this
   unfold VR at hv ⊢
   exact⟨.inl rfl,by rw[show(e.mv x b').sv b'=e.sv x from if_pos rfl];exact hv.2.1,hv.2.2⟩
  unfold VR at hv ⊢
  exact⟨.inr hv.1,by rw[show(e.mv b b').sv x=e.sv x from if_neg (afp hk)];exact hv.2.1,hv.2.2⟩
 |.mp x,v,hk,hv=>by
  unfold AV.nor at hk;unfold AV.fz;unfold VR at hv ⊢
  exact⟨.inr hv.1,hv.2⟩
 |.hnd x o,v,hk,hv=>by
  unfold AV.fz;unfold VR at hv ⊢
  exact⟨.inr hv.1,hv.2⟩
 |.any,v,hk,hv=>by unfold AV.fz;unfold VR;trivial
 |.agg l,v,hk,hv=>by
  unfold AV.nor at hk;unfold AV.fz
  obtain⟨cs,e1,h1⟩:=VR.agg.1 hv
  exact VR.agg.2 ⟨cs,e1,VRs.mv l cs hk h1⟩
 |.tup l,v,hk,hv=>by
  unfold AV.nor at hk;unfold AV.fz
  obtain⟨cs,e1,h1⟩:=VR.tup.1 hv
  exact VR.tup.2 ⟨cs,e1,VRs.mv l cs hk h1⟩
 |.clo f l,v,hk,hv=>by
  unfold AV.nor at hk;unfold AV.fz
  obtain⟨cs,e1,h1⟩:=VR.clo.1 hv
  exact VR.clo.2 ⟨cs,e1,VRs.mv l cs hk h1⟩
 |.lf x,v,_,hv=>by unfold AV.fz;unfold VR at hv ⊢;exact hv
 |.dat r,v,_,hv=>by unfold AV.fz;unfold VR at hv ⊢;exact hv
 |.dp r off,v,_,hv=>by unfold AV.fz;unfold VR at hv ⊢;exact hv
 |.bK n,v,_,hv=>by unfold AV.fz;unfold VR at hv ⊢;exact hv
 |.raw u,v,_,hv=>by unfold AV.fz;unfold VR at hv ⊢;exact hv
theorem VRs.mv {e:Env} {b b':Nat}:∀(l:List AV) (cs:List Value),Ya b b' l=true→VRs e l cs→VRs (e.mv b b') (fzs b (.own b') l) cs
 |[],cs,_,hv=>by unfold fzs;unfold VRs at hv ⊢;exact hv
 |x::r,cs,hk,hv=>by
  unfold Ya at hk
  rw[Bool.and_eq_true] at hk
  unfold fzs
  unfold VRs at hv ⊢
  obtain⟨u,q,e1,h1,h2⟩:=hv
  exact⟨u,q,e1,VR.mv x u hk.1 h1,VRs.mv r q hk.2 h2⟩
end
theorem VY{b b':Nat}:∀{T:List (Nat×AV)} {t:Nat} {v:AV},afo b b' T=true→lk T t=some v→AV.nor b b' v=true
 |[],t,v,_,h=>by cases h
 |(k,x)::r,t,v,hn,h=>by
  unfold afo at hn
  rw[Bool.and_eq_true] at hn
  unfold lk at h
  split at h
  ·grind
  exact VY hn.2 h
theorem VZ{b b':Nat}:∀{H:List Slot} {x:Nat} {ty:TypeId} {cs:AV},qc b b' H=true→H[x]?=some (.box ty cs)→AV.nor b b' cs=true
 |[],x,ty,cs,_,h=>by simp at h
 |s::r,x,ty,cs,hn,h=>by
  cases x with
  |zero=>
   obtain rfl:s=.box ty cs:=by simpa using h
   unfold qc at hn
   grind
  |succ x=>
   refine VZ (H:=r) (x:=x) ?_ (by simpa using h)
   cases s with
   |box ty' cs'=>unfold qc at hn;rw[Bool.and_eq_true] at hn;exact hn.2
   |row ty' n l=>unfold qc at hn;exact hn
   |dead=>unfold qc at hn;exact hn
   |free=>unfold qc at hn;exact hn
   |res R lk=>
    cases lk with
    |none=>unfold qc at hn;exact hn
    |some y=>unfold qc at hn;rw[Bool.and_eq_true] at hn;exact hn.2
   |map P1 k1 e1 l1=>unfold qc at hn;exact hn
theorem Ox{b b':Nat}:∀{H:List Slot} {x y:Nat} {R:Rsc},qc b b' H=true→H[x]?=some (.res R (some y))→y≠b'
 |[],x,y,R,_,h=>by simp at h
 |s::r,x,y,R,hn,h=>by
  cases x with
  |zero=>
   obtain rfl:s=.res R (some y):=by simpa using h
   unfold qc at hn
   rw[Bool.and_eq_true] at hn
   exact afp hn.1
  |succ x=>
   refine Ox (b:=b) (H:=r) (x:=x) ?_ (by simpa using h)
   cases s with
   |box ty' cs'=>unfold qc at hn;rw[Bool.and_eq_true] at hn;exact hn.2
   |row ty' n l=>unfold qc at hn;exact hn
   |dead=>unfold qc at hn;exact hn
   |free=>unfold qc at hn;exact hn
   |res R lk=>
    cases lk with
    |none=>unfold qc at hn;exact hn
    |some y=>unfold qc at hn;rw[Bool.and_eq_true] at hn;exact hn.2
   |map P1 k1 e1 l1=>unfold qc at hn;exact hn
theorem aaS{c:Ctx}{b b':Nat}(hx0:∀x,c.e0.ok x→x≠b'){st st':St}(h:mvR b b' st=some st'){e:Env}{C:Nat→List Value}{a:Act}{w:World}(hR:Rep c e C st a w):Rep c (e.mv b b') (jB C b' (C b)) st' a w:=by
 unfold mvR at h
 split at h
 ·rename_i ty n l hb
  split at h
  ·rename_i hb'
   split at h
   ·rename_i hk
    simp only[Bool.and_eq_true] at hk
    obtain⟨⟨hkT,hkH⟩,hne⟩:=hk
    have hne:=afp hne
    injection h with h
    subst h
    have hM:=hR.mem
    have hlt:=(List.getElem?_eq_some_iff.1 hb).1
    have hlt':=(List.getElem?_eq_some_iff.1 hb').1
    have hC:∀x,x≠b'→jB C b' (C b) x=C x:=fun x hx=>if_neg hx
    have hCb:jB C b' (C b) b'=C b:=if_pos rfl
    have hsv:∀x,x≠b'→(e.mv b b').sv x=e.sv x:=fun x hx=>if_neg hx
    have hsvb:(e.mv b b').sv b'=e.sv b:=if_pos rfl
    have key:∀x s,(((st.H.set b' (.row ty n l)).set b .dead).map (Slot.fz b (.own b')))[x]?=some s→(x=b∧s=.dead)∨(x=b'∧s=.row ty n l)∨(x≠b∧x≠b'∧∃s0,st.H[x]?=some s0∧s=s0.fz b (.own b')):=fun x s hs=>by
     rw[List.getElem?_map,List.getElem?_set] at hs
     by_cases hx:b=x
     ·rw[if_pos hx] at hs
      split at hs
      ·simp[Slot.fz] at hs;exact .inl ⟨hx.symm,hs.symm⟩
      rename_i hf;exact absurd (by rw[List.length_set];exact hlt) hf
     rw[if_neg hx,List.getElem?_set] at hs
     by_cases hx':b'=x
     ·rw[if_pos hx'] at hs
      split at hs
      ·simp[Slot.fz] at hs;exact .inr (.inl ⟨hx'.symm,hs.symm⟩)
      rename_i hf;exact absurd hlt' hf
     rw[if_neg hx'] at hs
     cases hq:st.H[x]? with
     |none=>grind
     |some s0=>grind
    have hrow:=hM.hv b _ hb
    have hroww:w.ownsRow 0 ty n (e.sv b) l.length (C b):=hM.hw b _ hb
    have blk:∀x s g,(((st.H.set b' (.row ty n l)).set b .dead).map (Slot.fz b (.own b')))[x]?=some s→dV (e.mv b b') x s g→∃y s0,st.H[y]?=some s0∧dV e y s0 g∧(x=b'∧y=b∨x≠b'∧x≠b∧y=x):=fun x s g hs hg=>by
     rcases key x s hs with⟨rfl,rfl⟩|⟨rfl,rfl⟩|⟨h1,h2,s0,h3,rfl⟩
     ·cases hg
     ·refine⟨b,_,hb,?_,.inl ⟨rfl,rfl⟩⟩
      have hg:((e.mv b x).sv x).ownBlock=some g:=hg
      rw[hsvb] at hg;exact hg
     refine⟨x,s0,h3,?_,.inr ⟨h2,h1,rfl⟩⟩
     cases s0 with
     |box ty' cs=>exact hg
     |row ty' n' l'=>
      have hg:((e.mv b b').sv x).ownBlock=some g:=hg
      rw[hsv x h2] at hg;exact hg
     |dead=>cases hg
     |free=>cases hg
     |res R lk=>exact hg
     |map P1 k1 e1 l1=>exact hg
    refine⟨fun t v hv=>?_,hR.size,hR.defers,⟨fun x s hs=>?_,fun x s hs=>?_,fun x hx=>?_,fun x x' s s' g h1 h2 k1 k2=>?_,fun x s g hs hg=>?_,fun x s g hs hg=>?_,hM.inv,hM.le,hM.fresh,hM.ch,hM.g,fun x hx=>?_⟩⟩
    rotate_right
    ·obtain⟨q1,q2,q3,q4⟩:=hM.bse x hx
     have hxb:x≠b':=hx0 x hx
     exact⟨.inr q1,q2,(hsv x hxb).trans q3,q4⟩
    ·have hv:lk (fzT b (.own b') st.T) t=some v:=hv
     rw[Lr] at hv
     cases hq:lk st.T t with
     |none=>grind
     |some y=>
      rw[hq] at hv
      injection hv with hv
      subst hv
      obtain⟨u,k1,k2⟩:=hR.tmp t y hq
      exact⟨u,k1,VR.mv y u (VY hkT hq) k2⟩
    ·rcases key x s hs with⟨rfl,rfl⟩|⟨rfl,rfl⟩|⟨h1,h2,s0,h3,rfl⟩
     ·trivial
     ·exact⟨.inl rfl,by rw[hCb];exact hrow.2.1,hrow.2.2.1,hrow.2.2.2.1,by rw[hsvb];exact hrow.2.2.2.2⟩
     have h4:=hM.hv x s0 h3
     cases s0 with
     |box ty' cs=>exact⟨.inr h4.1,by rw[hC x h2];exact(VR.mv cs _ (VZ hkH h3) h4.2).n1⟩
     |row ty' n' l'=>exact⟨.inr h4.1,by rw[hC x h2];exact h4.2.1,h4.2.2.1,h4.2.2.2.1,by rw[hsv x h2];exact h4.2.2.2.2⟩
     |dead=>trivial
     |free=>
      show ¬(x=b'∨e.ok x)
      rintro(h5|h5)
      ·exact h2 h5
      exact h4 h5
     |res R lk=>exact .inr h4
     |map P1 k1 e1 l1=>exact⟨.inr h4.1,h4.2⟩
    ·rcases key x s hs with⟨rfl,rfl⟩|⟨rfl,rfl⟩|⟨h1,h2,s0,h3,rfl⟩
     ·trivial
     ·show w.ownsRow 0 ty n ((e.mv b x).sv x) l.length (jB C x (C b) x)
      grind
     have h4:=hM.hw x s0 h3
     cases s0 with
     |box ty' cs=>show w.heap[e.m x]?=some (Obj.cells (jB C b' (C b) x).toArray ty' (0,0));rw[hC x h2];exact h4
     |row ty' n' l'=>show w.ownsRow 0 ty' n' ((e.mv b b').sv x) l'.length (jB C b' (C b) x);rw[hsv x h2,hC x h2];exact h4
     |dead=>trivial
     |free=>trivial
     |res R lk=>
      obtain⟨v,h5,h6⟩:=h4
      refine⟨v,h5,fun y e1=>?_⟩
      subst e1
      exact⟨.inr (h6 y rfl).1,(hsv y (Ox hkH h3)).trans (h6 y rfl).2⟩
     |map P1 k1 e1 l1=>exact h4
    ·show x<(((st.H.set b' (.row ty n l)).set b .dead).map _).length
     rw[List.length_map,List.length_set,List.length_set]
     rcases hx with rfl|hx
     ·exact hlt'
     exact hM.bound x hx
    ·obtain⟨y,s0,m1,m2,m3⟩:=blk x s g h1 k1
     obtain⟨y',s0',n1,n2,n3⟩:=blk x' s' g h2 k2
     have:=hM.inj y y' s0 s0' g m1 n1 m2 n2
     omega
    ·obtain⟨y,s0,m1,m2,_⟩:=blk x s g hs hg
     exact hM.av y s0 g m1 m2
    obtain⟨y,s0,m1,m2,_⟩:=blk x s g hs hg
    exact hM.mine y s0 g m1 m2
   cases h
  cases h
 cases h
theorem aiS{c:Ctx}{b:Nat}{st st':St}(h:mvR b st.H.length ⟨st.T,st.H++[.dead]⟩=some st'){e:Env}{C:Nat→List Value}{a:Act}{w:World}(hR:Rep c e C st a w):
 ∃e' C',Rep c e' C' st' a w∧iU [b] false e C st.H e' C' st'.H w:=by
 have hM:=hR.mem
 have hnok:¬e.ok st.H.length:=fun hk=>by have:=hM.bound _ hk;omega
 have key:∀(x:Nat) (t:Slot),(st.H++[Slot.dead])[x]?=some t→st.H[x]?=some t∨t=Slot.dead:=fun x t hx=>by
  grind
 have hR1:Rep c e C ⟨st.T,st.H++[.dead]⟩ a w:=by
  refine⟨hR.tmp,hR.size,hR.defers,⟨fun x t hx=>?_,fun x t hx=>?_,fun x hx=>by have:=hM.bound x hx;show x<(st.H++[Slot.dead]).length;rw[List.length_append];omega,fun x x' t t' g h1 h2 k1 k2=>?_,fun x t g hx hg=>?_,fun x t g hx hg=>?_,hM.inv,hM.le,hM.fresh,hM.ch,hM.g,hM.bse⟩⟩
  ·rcases key x t hx with h1|rfl
   ·exact hM.hv x t h1
   trivial
  ·rcases key x t hx with h1|rfl
   ·exact hM.hw x t h1
   trivial
  ·rcases key x t h1 with h1|rfl
   ·rcases key x' t' h2 with h2|rfl
    ·exact hM.inj x x' t t' g h1 h2 k1 k2
    cases k2
   cases k1
  ·rcases key x t hx with h1|rfl
   ·exact hM.av x t g h1 hg
   cases hg
  rcases key x t hx with h1|rfl
  ·exact hM.mine x t g h1 hg
  cases hg
 have hk:=aaS (c:=c) (fun x hx=>by have:=hM.bound x (hM.bse x hx).1;omega) h hR1
 have hsv:∀x,x≠st.H.length→(e.mv b st.H.length).sv x=e.sv x:=fun x hx=>if_neg hx
 refine⟨_,_,hk,⟨⟨fun x hx=>.inr hx,fun x _=>rfl,fun x hx=>hsv x (fun he=>hnok (he▸hx)),Le.refl _,fun _ _ _ _ h=>h⟩,fun _=>rfl,fun x s hs hnx hl=>?_,hM.inv⟩⟩
 have hxb:x≠b:=by simpa using hnx
 have hlt:=(List.getElem?_eq_some_iff.1 hs).1
 have hxl:x≠st.H.length:=by omega
 have hC:∀z,z≠st.H.length→jB C st.H.length (C b) z=C z:=fun z hz=>if_neg hz
 refine⟨s.fz b (.own st.H.length),?_,(by cases s<;>first|trivial|exact hl.elim),fun w1 h1=>?_⟩
 ·unfold mvR at h
  grind
 cases s with
 |box ty cs=>
  have h1:w1.heap[e.m x]?=some (Obj.cells (jB C st.H.length (C b) x).toArray ty (0,0)):=h1
  rw[hC x hxl] at h1;exact h1
 |row ty n l=>
  have h1:w1.ownsRow 0 ty n ((e.mv b st.H.length).sv x) l.length (jB C st.H.length (C b) x):=h1
  rw[hsv x hxl,hC x hxl] at h1;exact h1
 |dead=>trivial
 |free=>cases hl
 |res R lk=>cases hl
 |map P1 k1 e1 l1=>exact h1
inductive OpK where
 |lk (t:TypeId) (ok:Bool)
 |up (t:TypeId)
 |mk (t:TypeId)
 |del (t u:TypeId)
 |cut (t:TypeId)
 |aaT (t:TypeId)
 |ent
def OpK.run:OpK→List Value→Sem Value
 |.lk t cm,[m,x]=>Instr.lookup t m x cm
 |.up t,[m,x,v]=>do Instr.mapUpdate t m x v;pure undef
 |.mk t,[]=>Instr.makeMap t none
 |.del t u,[m,x]=>Builtin.delete_ #[t,u] 0 #[m,x]
 |.cut t,[x,h]=>Instr.sliceAt t x none (some h) none
 |.aaT t,[x,h]=>Instr.sliceAt t x (some h) none none
 |.ent,[x]=>Instr.entry x
 |_,_=>pure undef
def aaU(o:Oper):Option (OpK×List Operand):=match o.op with
 |.lookup t m x cm=>some (.lk t cm,[m,x])
 |.mapUpdate t m x v=>some (.up t,[m,x,v])
 |.makeMap t none=>some (.mk t,[])
 |.slice t x none (some h) none=>some (.cut t,[x,h])
 |.slice t x (some h) none none=>some (.aaT t,[x,h])
 |.entry x=>some (.ent,[x])
 |.call c=>match c.callee with
  |.builtin .delete=>match c.args.toList with
   |[m,x]=>match c.argTypes.toList with
    |[t,u]=>some (.del t u,[m,x])
    |_=>none
   |_=>none
  |_=>none
 |_=>none
theorem aaV{P:Program}{ρ:Operand→Value}{o:Oper}{k:OpK}{xs:List Operand}(h:aaU o=some (k,xs)){w w':World}{v:Value}(hr:(k.run (xs.map ρ)).run P w=.ok v w'):
 (execOp ρ o).run P w=.ok (.value v) w'∨(execOp ρ o).run P w=.ok .skip w'∧v=undef:=by
 unfold aaU at h
 split at h
 ·rename_i t m x cm ho
  obtain⟨rfl,rfl⟩:=cZ h
  left
  have hr:(Instr.lookup t (ρ m) (ρ x) cm).run P w=.ok v w':=hr
  simp only[execOp,ho,Sem.run_bind,hr,Result.andThen_ok,Sem.run_pure]
 ·rename_i t m x y ho
  obtain⟨rfl,rfl⟩:=cZ h
  right
  have hr:((do Instr.mapUpdate t (ρ m) (ρ x) (ρ y);pure undef:Sem Value)).run P w=.ok v w':=hr
  simp only[execOp,ho,Sem.run_bind] at hr ⊢
  cases hq:(Instr.mapUpdate t (ρ m) (ρ x) (ρ y)).run P w with
  |ok u w1=>
   simp_all
  |_=>simp_all
 ·rename_i t ho
  obtain⟨rfl,rfl⟩:=cZ h
  left
  have hr:(Instr.makeMap t none).run P w=.ok v w':=hr
  simp only[execOp,ho,Option.map_none,Sem.run_bind,hr,Result.andThen_ok,Sem.run_pure]
 ·rename_i t x hi ho
  obtain⟨rfl,rfl⟩:=cZ h
  left
  have hr:(Instr.sliceAt t (ρ x) none (some (ρ hi)) none).run P w=.ok v w':=hr
  simp only[execOp,ho,Option.map_none,Option.map_some,Sem.run_bind,hr,Result.andThen_ok,Sem.run_pure]
 ·rename_i t x lo ho
  obtain⟨rfl,rfl⟩:=cZ h
  left
  have hr:(Instr.sliceAt t (ρ x) (some (ρ lo)) none none).run P w=.ok v w':=hr
  simp only[execOp,ho,Option.map_none,Option.map_some,Sem.run_bind,hr,Result.andThen_ok,Sem.run_pure]
 ·rename_i x ho
  obtain⟨rfl,rfl⟩:=cZ h
  left
  have hr:(Instr.entry (ρ x)).run P w=.ok v w':=hr
  simp only[execOp,ho,Sem.run_bind,hr,Result.andThen_ok,Sem.run_pure]
 ·rename_i c ho
  split at h
  ·rename_i hc
   split at h
   ·rename_i m x ha
    split at h
    ·rename_i t u hat
     obtain⟨rfl,rfl⟩:=cZ h
     left
     have hr:(Builtin.delete_ #[t,u] 0 #[ρ m,ρ x]).run P w=.ok v w':=hr
     rw[execOp_builtin ho hc,nM ha,nM hat]
     have hr2:(Builtin.delete_ #[t,u] o.type #[ρ m,ρ x]).run P w=.ok v w':=hr
     simp only[builtin,List.map_toArray,List.map_cons,List.map_nil,Sem.run_bind,hr2,Result.andThen_ok,Sem.run_pure]
    cases h
   cases h
  cases h
 cases h
def OpH(P:Program)(G:Gh→Prop)(k:OpK)(ds:List AV)(H:List Slot)(res:AV)(H':List Slot):Prop:=
 ∀e C w vs,G e.I→mY e C H w→VRs e ds vs→∃e' C' v w',(k.run vs).run P w=.ok v w'∧GrH e H e' H' w w'∧mY e' C' H' w'∧VR e' res v∧e'.I=e.I
def GhH(H H':List Slot):Prop:=
 ∀e C w,mY e C H w→∃e' C',GrH e H e' H' w w∧mY e' C' H' w
def evR(T:List (Nat×AV)):List Operand→Option (List AV)
 |[]=>some []
 |x::r=>match ev T x with
  |some v=>match evR T r with
   |some l=>some (v::l)
   |none=>none
  |none=>none
theorem aaW{e:Env}{T:List (Nat×AV)}{a:Act}(hT:iP e T a.tmps):∀{l:List Operand} {ds:List AV},evR T l=some ds→VRs e ds (l.map a.eval)
 |[],ds,h=>by injection h with h;subst h;exact VRs.nil
 |x::r,ds,h=>by
  unfold evR at h
  split at h
  ·rename_i v hv
   split at h
   ·rename_i l hl
    injection h with h;subst h
    exact VRs.cons (dh hT hv) (aaW hT hl)
   cases h
  cases h
theorem LOp.opH{c:Ctx}(hc:c.Ok){o:Oper}{st:St}{k:OpK}{xs:List Operand}(ho:aaU o=some (k,xs)){ds:List AV}(hd:evR st.T xs=some ds){bs:List Nat}(hin:oO bs ds=true)(hnd:nodupB bs=true)
 (hsl:slB bs st.H=true) {r:AV} {Hl:List Slot} (hlen:Nat.ble bs.length Hl.length=true) (hnf:Hl.all Slot.jv=true) (hF:OpH c.P c.G k (kX (posB bs) ds) (kY bs st.H) r Hl)
 {T':List (Nat×AV)} (hT:jq c.nt st.T o.dst (r.ren (jw bs st.H.length))=some T'):LOp c o st ⟨T',newH bs st.H Hl⟩ bs false:=by
 intro e C a w next Q hR K
 obtain⟨el,Cl,elI,hML,hren,hback⟩:=hR.mem.via hc hnd hsl hlen hnf
 obtain⟨e2,C2,v,w',hrun,g,hM2,hv,hI⟩:=hF el Cl w _ (by rw[elI];exact hR.mem.g) hML (hren ds _ hin (aaW hR.tmp hd))
 obtain⟨e',C',hMem,hK0,hb,hI2⟩:=hback e2 C2 w' g hM2
 have hK:iU bs false e C st.H e' C' (newH bs st.H Hl) w':=⟨hK0.le,fun _=>hI2.trans (hI.trans elI),hK0.lk,hK0.inv⟩
 obtain⟨k1,k2,k3⟩:=jr hT (hR.tmp.mono hK.le) hR.size (hb r v hv)
 unfold Oper.wp
 rcases aaV (ρ:=a.eval) ho hrun with h1|⟨h1,rfl⟩
 ·rw[h1];exact K _ C' _ w' ⟨k1,k2,k3.trans hR.defers,hMem⟩ hK
 rw[h1];exact K _ C' _ w' ⟨k1,k2,k3.trans hR.defers,hMem⟩ hK
theorem aiT{c:Ctx}(hc:c.Ok){st:St}{bs:List Nat}(hnd:nodupB bs=true)(hsl:slB bs st.H=true){Hl:List Slot}(hlen:Nat.ble bs.length Hl.length=true)(hnf:Hl.all Slot.jv=true)(hF:GhH (kY bs st.H) Hl)
 {e:Env} {C:Nat→List Value} {a:Act} {w:World} (hR:Rep c e C st a w):∃e' C',Rep c e' C' ⟨st.T,newH bs st.H Hl⟩ a w∧iU bs true e C st.H e' C' (newH bs st.H Hl) w:=by
 obtain⟨el,Cl,elI,hML,hren,hback⟩:=hR.mem.via hc hnd hsl hlen hnf
 obtain⟨e2,C2,g,hM2⟩:=hF el Cl w hML
 obtain⟨e',C',hMem,hK,hb,_⟩:=hback e2 C2 w g hM2
 exact⟨e',C',⟨hR.tmp.mono hK.le,hR.size,hR.defers,hMem⟩,hK⟩
end Go.Proofs.YtpdlghcgekojlaaGreatDoor
namespace Go.Proofs.YtpdlghcgekojlaaGreatDoor
open Go.RowKit
structure OR where
 st:St
 qs:List Ans
 p:List Prop
 ch:List Nat
 gr:Bool
def afq(P:Program)(tt:TT)(nt:Nat)(st:St)(o:Oper)(qs:List Ans):Option OR:=
 match qev P tt true true st.T st.H o.op qs with
 |some (v,qs',p)=>match jq nt st.T o.dst v with
  |some T'=>some ⟨⟨T',st.H⟩,qs',p,[],false⟩
  |none=>none
 |none=>none
def aiU(P:Program)(G:Gh→Prop)(nt:Nat)(st:St)(o:Oper)(cl:Call)(x:Operand)(qs:List Ans):Option OR:=
 match ev st.T x with
 |some (.clo f cap)=>match qs with
  |.iO bs r Hl::qs'=>match evs st.T cl.args.toList with
   |some ds=>match oO bs (ds++cap)&&nodupB bs&&slB bs st.H&&Nat.ble bs.length Hl.length&&Hl.all Slot.jv with
    |true=>match jq nt st.T o.dst (r.ren (jw bs st.H.length)) with
     |some T'=>some ⟨⟨T',newH bs st.H Hl⟩,qs',[FnH P G f (kX (posB bs) (ds++cap)) (kY bs st.H) r Hl],bs,true⟩
     |none=>none
    |false=>none
   |none=>none
  |_=>none
 |_=>none
def aiV(tt:TT)(nt:Nat)(st:St)(o:Oper)(x y:Operand)(t u:TypeId)(qs:List Ans):Option OR:=
 match jQ tt t with
 |some (el,n)=>match jm tt el with
  |some i=>match i.z with
   |some z=>match jm tt u with
    |some ti=>match VW z&&ti.isStr&&(Nat.beq n 1&&Nat.beq i.bytes 1) with
     |true=>match ev st.T x with
      |some xa=>match ev st.T y with
       |some (.lf (.str s))=>match wu st.H el n xa with
        |some (l0,ob)=>match iH (qg st.H ob) (.row el n (uh (l0++Bc s) qs).1) (uh (l0++Bc s) qs).2.1 with
         |some (b,H',qs')=>match jq nt st.T o.dst (.own b) with
          |some T'=>some ⟨⟨T',H'⟩,qs',(uh (l0++Bc s) qs).2.2++[l0.length+s.size≤140737488355328],ob.toList,false⟩
          |none=>none
         |none=>none
        |none=>none
       |_=>none
      |none=>none
     |false=>none
    |none=>none
   |none=>none
  |none=>none
 |none=>none
def afr(P:Program)(G:Gh→Prop)(tt:TT)(nt:Nat)(st:St)(o:Oper)(qs:List Ans):Option OR:=
 match o.op with
 |.alloc t=>match jm tt t with
  |some i=>match i.z with
   |some z=>match rX z with
    |some y=>match iH st.H (.box t y) qs with
     |some (b,H',qs')=>match jq nt st.T o.dst (.ptr b 0) with
      |some T'=>some ⟨⟨T',H'⟩,qs',[],[],false⟩
      |none=>none
     |none=>none
    |none=>none
   |none=>none
  |none=>none
 |.box t x=>match ev st.T x with
  |some z=>match rX z with
   |some y=>match iH st.H (.box t y) qs with
    |some (b,H',qs')=>match jq nt st.T o.dst (.ptr b 0) with
     |some T'=>some ⟨⟨T',H'⟩,qs',[],[],false⟩
     |none=>none
    |none=>none
   |none=>none
  |none=>none
 |.store t x y=>match jm tt t with
  |some i=>match evN i.z st.T y with
   |some v=>match v.width with
    |some n=>match Nat.beq n i.size&&v.N8 with
     |true=>match jq nt st.T o.dst (.raw undef) with
      |some T'=>match ev st.T x with
       |some (.ptr b q)=>match st.H[b]? with
        |some (.box ty cs)=>match Tn cs q v with
         |some cs'=>some ⟨⟨T',st.H.set b (.box ty cs'.n1)⟩,qs,[],[b],false⟩
         |none=>none
        |_=>none
       |some (.pY b m j q)=>match qs with
        |.row r::qs'=>match st.H[b]? with
         |some (.row ty m' l)=>match Nat.beq m' m with
          |true=>match Tn (.dat r) q v with
           |some (.dat r')=>some ⟨⟨T',st.H.set b (.row ty m (uh (l.set j r') qs').1)⟩,(uh (l.set j r') qs').2.1,(uh (l.set j r') qs').2.2++[l[j]?=some r],[b],false⟩
           |_=>none
          |false=>none
         |_=>none
        |_=>none
       |_=>none
      |none=>none
     |false=>none
    |none=>none
   |none=>none
  |none=>none
 |.makeMap t none=>match Ie tt t with
  |some (kt,et,_,_)=>match iH st.H (.map P kt et []) qs with
   |some (b,H',qs')=>match jq nt st.T o.dst (.mp b) with
    |some T'=>some ⟨⟨T',H'⟩,qs',[],[],false⟩
    |none=>none
   |none=>none
  |none=>none
 |.mapUpdate t m k y=>match Ie tt t with
  |some (kt,et,d,_)=>match ev st.T m with
   |some (.mp b)=>match st.H[b]? with
    |some (.map P' k' e' l)=>match Nat.beq k' kt&&Nat.beq e' et with
     |true=>match ev st.T k with
      |some (.lf (.str s))=>match ev st.T y with
       |some (.lf x)=>match zl d x with
        |true=>match jq nt st.T o.dst (.raw undef) with
         |some T'=>some ⟨⟨T',st.H.set b (.map P' k' e' ((s,x)::l))⟩,qs,[P'=P,l.length<maxLen],[b],false⟩
         |none=>none
        |false=>none
       |_=>none
      |_=>none
     |false=>none
    |_=>none
   |_=>none
  |none=>none
 |.buildSlice t len parts=>match jQ tt t with
  |some (el,n)=>match jm tt el with
   |some i=>match i.z with
    |some _=>match qN st.T n 0 parts.toList with
     |some l=>match Nat.beq l.length len&&Nat.ble (len*n) 16777216&&Nat.blt 0 n with
      |true=>match iH st.H (.row el n l) qs with
       |some (b,H',qs')=>match jq nt st.T o.dst (.own b) with
        |some T'=>some ⟨⟨T',H'⟩,qs',[],[],false⟩
        |none=>none
       |none=>none
      |false=>none
     |none=>none
    |none=>none
   |none=>none
  |none=>none
 |.makeSlice t x y=>match jQ tt t with
  |some (el,n)=>match jm tt el with
   |some i=>match i.z with
    |some z=>match yZ z with
     |some q=>match ev st.T x with
      |some (.lf (.int _ m))=>match ev st.T y with
       |some (.lf (.int _ m'))=>match iH st.H (.row el n (uh (List.replicate m.toNat q) qs).1) (uh (List.replicate m.toNat q) qs).2.1 with
        |some (b,H',qs')=>match jq nt st.T o.dst (.own b) with
         |some T'=>some ⟨⟨T',H'⟩,qs',(uh (List.replicate m.toNat q) qs).2.2++[m'=m∧0≤m∧i.bytes*m.toNat≤281474976710656∧m.toNat≤maxLen],[],false⟩
         |none=>none
        |none=>none
       |_=>none
      |_=>none
     |none=>none
    |none=>none
   |none=>none
  |none=>none
 |.call cl=>match cl.callee with
  |.builtin .append=>match cl.args.toList with
   |[x,y]=>match cl.argTypes.toList with
    |[t,t']=>match Nat.beq t t' with
     |true=>match jQ tt t with
      |some (el,n)=>match jm tt el with
       |some i=>match i.z with
        |some _=>match ev st.T x with
         |some xa=>match ev st.T y with
          |some ya=>match wu st.H el n xa with
           |some (l0,ob)=>match DR st.H n ya with
            |some l1=>match Nat.blt 0 n&&Nat.blt 0 i.bytes with
             |true=>match iH (qg st.H ob) (.row el n (uh (l0++l1) qs).1) (uh (l0++l1) qs).2.1 with
              |some (b,H',qs')=>match jq nt st.T o.dst (.own b) with
               |some T'=>some ⟨⟨T',H'⟩,qs',(uh (l0++l1) qs).2.2++[(l0.length+l1.length)*i.bytes≤140737488355328],ob.toList,false⟩
               |none=>none
              |none=>none
             |false=>none
            |none=>none
           |none=>none
          |none=>none
         |none=>none
        |none=>none
       |none=>none
      |none=>none
     |false=>aiV tt nt st o x y t t' qs
    |_=>none
   |_=>none
  |.value x=>match aaR st.T x with
   |some f=>match qs with
    |.res r::qs'=>match yu st.T cl.args.toList with
     |some ds=>match r.isD with
      |true=>match jq nt st.T o.dst r with
       |some T'=>some ⟨⟨T',st.H⟩,qs',[Fn P G f ds r],[],true⟩
       |none=>none
      |false=>none
     |none=>none
    |.iO bs r Hl::qs'=>match evs st.T cl.args.toList with
     |some ds=>match oO bs ds&&nodupB bs&&slB bs st.H&&Nat.ble bs.length Hl.length&&Hl.all Slot.jv with
      |true=>match jq nt st.T o.dst (r.ren (jw bs st.H.length)) with
       |some T'=>some ⟨⟨T',newH bs st.H Hl⟩,qs',[FnH P G f (kX (posB bs) ds) (kY bs st.H) r Hl],bs,true⟩
       |none=>none
      |false=>none
     |none=>none
    |_=>none
   |none=>aiU P G nt st o cl x qs
  |_=>afq P tt nt st o qs
 |_=>afq P tt nt st o qs
def aiW(P:Program)(G:Gh→Prop)(nt:Nat)(st:St)(o:Oper)(bs:List Nat)(r:AV)(Hl:List Slot)(qs:List Ans):Option OR:=
 match aaU o with
 |some (k,xs)=>match evR st.T xs with
  |some ds=>match oO bs ds&&nodupB bs&&slB bs st.H&&Nat.ble bs.length Hl.length&&Hl.all Slot.jv with
   |true=>match jq nt st.T o.dst (r.ren (jw bs st.H.length)) with
    |some T'=>some ⟨⟨T',newH bs st.H Hl⟩,qs,[OpH P G k (kX (posB bs) ds) (kY bs st.H) r Hl],bs,false⟩
    |none=>none
   |false=>none
  |none=>none
 |none=>none
def byLaw(T:List (Nat×AV))(o:Oper):Bool:=match o.op with
 |.slice _ x _ _ _=>match ev T x with
  |some (.own _)=>true
  |_=>false
 |_=>(aaU o).isSome
def lev(P:Program)(G:Gh→Prop)(tt:TT)(nt:Nat)(st:St)(o:Oper)(qs:List Ans):Option OR:=
 match qs with
 |.opH bs r Hl::qs'=>match byLaw st.T o with
  |true=>aiW P G nt st o bs r Hl qs'
  |false=>afr P G tt nt st o (.opH bs r Hl::qs')
 |qs=>afr P G tt nt st o qs
section
variable {c:Ctx} {o:Oper} {st:St} {qs:List Ans} {r:OR}
theorem V3(hc:c.Ok)(h:afq c.P c.tt c.nt st o qs=some r)(hp:dN r.p):LOp c o st r.st r.ch r.gr:=by
 unfold afq at h
 split at h
 ·rename_i v qs' p hq
  split at h
  ·rename_i T' hT
   injection h with h
   subst h
   exact LOp.quiet hc hq hp hT
  cases h
 cases h
theorem afs(hc:c.Ok){cl:Call}(ho:o.op=.call cl){x:Operand}(hcal:cl.callee=.value x)(h:aiU c.P c.G c.nt st o cl x qs=some r)(hp:dN r.p):LOp c o st r.st r.ch r.gr:=by
 unfold aiU at h
 split at h
 ·rename_i f cap hx
  split at h
  ·rename_i bs r0 Hl qs'
   split at h
   ·rename_i ds hd
    split at h
    ·rename_i hb
     simp only[Bool.and_eq_true] at hb
     obtain⟨⟨⟨⟨b1,b2⟩,b3⟩,b4⟩,b5⟩:=hb
     split at h
     ·rename_i T' hT
      injection h with h
      subst h
      exact LOp.ahK hc ho hcal (fun e a hR=>VR.clo.1 (dh hR hx)) hd rfl b1 b2 b3 b4 b5 hp.1 hT
     cases h
    cases h
   cases h
  cases h
 cases h
theorem aft(hc:c.Ok){cl:Call}(ho:o.op=.call cl)(hcal:cl.callee=.builtin .append){x y:Operand}(ha:cl.args.toList=[x,y]){t u:TypeId}(hat:cl.argTypes.toList=[t,u])(h:aiV c.tt c.nt st o x y t u qs=some r)(hp:dN r.p):LOp c o st r.st r.ch r.gr:=by
 unfold aiV at h
 split at h
 ·rename_i el n he
  split at h
  ·rename_i i hi
   split at h
   ·rename_i z hz
    split at h
    ·rename_i ti hti
     split at h
     ·rename_i hb
      rw[Bool.and_eq_true,Bool.and_eq_true,Bool.and_eq_true] at hb
      split at h
      ·rename_i xa hx
       split at h
       ·rename_i s hy
        split at h
        ·rename_i l0 ob hl0
         split at h
         ·rename_i b H' qs' hs
          split at h
          ·rename_i T' hT
           injection h with h
           subst h
           obtain⟨hp1,hp⟩:=dN.app hp
           rw[yV hp1] at hs
           exact LOp.afn hc ho hcal ha hat he hi hz hb.1.1 hti hb.1.2 hx hy hl0 (dX hb.2.1) (dX hb.2.2) hp.1 hs hT
          grind
         grind
        grind
       grind
      cases h
     cases h
    cases h
   cases h
  cases h
 cases h
theorem V4(hc:c.Ok)(h:afr c.P c.G c.tt c.nt st o qs=some r)(hp:dN r.p):LOp c o st r.st r.ch r.gr:=by
 unfold afr at h
 split at h
 ·rename_i t ho
  split at h
  ·rename_i i hi
   split at h
   ·rename_i z hz
    split at h
    ·rename_i y hy
     split at h
     ·rename_i b H' qs' hs
      split at h
      ·rename_i T' hT
       injection h with h
       subst h
       exact LOp.alloc hc ho hi hz hy hs hT
      cases h
     cases h
    cases h
   cases h
  cases h
 ·rename_i t x ho
  split at h
  ·rename_i z hz
   split at h
   ·rename_i y hy
    split at h
    ·rename_i b H' qs' hs
     split at h
     ·rename_i T' hT
      injection h with h
      subst h
      exact LOp.box ho hz hy hs hT
     cases h
    cases h
   cases h
  cases h
 ·rename_i t x y ho
  split at h
  ·rename_i i hi
   split at h
   ·rename_i v hy
    split at h
    ·rename_i n hn
     split at h
     ·rename_i hb
      rw[Bool.and_eq_true] at hb
      split at h
      ·rename_i T' hT
       split at h
       ·rename_i b q hx
        split at h
        ·rename_i ty cs hbx
         split at h
         ·rename_i cs' hu
          injection h with h
          subst h
          exact LOp.store hc ho hi hx hy hn (dX hb.1) hb.2 hbx hu hT
         grind
        grind
       ·rename_i b m j q hx
        split at h
        ·rename_i r0 qs'
         split at h
         ·rename_i ty m' l hbx
          split at h
          ·rename_i hm
           have hm:=dX hm
           subst hm
           split at h
           ·rename_i r' hu
            injection h with h
            subst h
            obtain⟨hp1,hp⟩:=dN.app hp
            simp only[yV hp1]
            exact LOp.aiQ hc ho hi hx hy hn (dX hb.1) hb.2 hbx hp.1 hu hT
           grind
          grind
         grind
        grind
       grind
      cases h
     cases h
    cases h
   cases h
  cases h
 ·rename_i t ho
  split at h
  ·rename_i kt et d z hmt
   split at h
   ·rename_i b H' qs' hs
    split at h
    ·rename_i T' hT
     injection h with h
     subst h
     exact LOp.mkMap ho hs hT
    cases h
   cases h
  cases h
 ·rename_i t m k y ho
  split at h
  ·rename_i kt et d z hmt
   split at h
   ·rename_i b hm
    split at h
    ·rename_i P' k' e' l hb
     split at h
     ·rename_i hke
      rw[Bool.and_eq_true] at hke
      have e1:=dX hke.1
      have e2:=dX hke.2
      subst e1 e2
      split at h
      ·rename_i s hk
       split at h
       ·rename_i x hy
        split at h
        ·rename_i hz
         split at h
         ·rename_i T' hT
          injection h with h
          subst h
          exact LOp.aiR hc ho hmt hm hb hp.1 hp.2.1 hk hy hz hT
         grind
        grind
       grind
      cases h
     cases h
    cases h
   cases h
  cases h
 ·rename_i t len parts ho
  split at h
  ·rename_i el n he
   split at h
   ·rename_i i hi
    split at h
    ·rename_i z hz
     split at h
     ·rename_i l hl
      split at h
      ·rename_i hb
       simp only[Bool.and_eq_true] at hb
       split at h
       ·rename_i b H' qs' hs
        split at h
        ·rename_i T' hT
         injection h with h
         subst h
         exact LOp.buildSlice hc ho he hi hz hl (dX hb.1.1) (Nat.le_of_ble_eq_true hb.1.2) (Nat.le_of_ble_eq_true hb.2) hs hT
        grind
       grind
      cases h
     cases h
    cases h
   cases h
  cases h
 ·rename_i t x y ho
  split at h
  ·rename_i el n he
   split at h
   ·rename_i i hi
    split at h
    ·rename_i z hz
     split at h
     ·rename_i q hq
      split at h
      ·rename_i k1 m hx
       split at h
       ·rename_i k2 m' hy
        split at h
        ·rename_i b H' qs' hs
         split at h
         ·rename_i T' hT
          injection h with h
          subst h
          obtain⟨hp1,hp⟩:=dN.app hp
          rw[yV hp1] at hs
          exact LOp.make hc ho he hi hz hq hx hy hp.1.1 hp.1.2.1 hp.1.2.2.1 hp.1.2.2.2 hs hT
         grind
        grind
       grind
      cases h
     cases h
    cases h
   cases h
  cases h
 ·rename_i cl ho
  split at h
  ·rename_i hcal
   split at h
   ·rename_i x y ha
    split at h
    ·rename_i t t' hat
     split at h
     ·rename_i ht
      have ht:=dX ht
      subst ht
      split at h
      ·rename_i el n he
       split at h
       ·rename_i i hi
        split at h
        ·rename_i z hz
         split at h
         ·rename_i xa hx
          split at h
          ·rename_i ya hy
           split at h
           ·rename_i l0 ob hl0
            split at h
            ·rename_i l1 hl1
             split at h
             ·rename_i hb
              rw[Bool.and_eq_true] at hb
              split at h
              ·rename_i b H' qs' hs
               split at h
               ·rename_i T' hT
                injection h with h
                subst h
                obtain⟨hp1,hp⟩:=dN.app hp
                rw[yV hp1] at hs
                exact LOp.append hc ho hcal ha hat he hi hz hx hy hl0 hl1 (Nat.le_of_ble_eq_true hb.1) (Nat.le_of_ble_eq_true hb.2) hp.1 hs hT
               grind
              grind
             grind
            grind
           grind
          grind
         grind
        grind
       grind
      cases h
     exact aft hc ho hcal ha hat h hp
    cases h
   cases h
  ·rename_i x hcal
   split at h
   ·rename_i f hfo
    split at h
    ·rename_i r0 qs'
     split at h
     ·rename_i ds hd
      split at h
      ·rename_i hr
       split at h
       ·rename_i T' hT
        injection h with h
        subst h
        exact LOp.ak5 hc ho hcal (Ov hfo) hd hr hp.1 hT
       grind
      cases h
     cases h
    ·rename_i bs r0 Hl qs'
     split at h
     ·rename_i ds hd
      split at h
      ·rename_i hb
       simp only[Bool.and_eq_true] at hb
       obtain⟨⟨⟨⟨b1,b2⟩,b3⟩,b4⟩,b5⟩:=hb
       split at h
       ·rename_i T' hT
        injection h with h
        subst h
        exact LOp.ak6 hc ho hcal (Ov hfo) hd b1 b2 b3 b4 b5 hp.1 hT
       grind
      cases h
     cases h
    cases h
   exact afs hc ho hcal h hp
  exact V3 hc h hp
 exact V3 hc h hp
theorem afu(hc:c.Ok){bs:List Nat}{v:AV}{Hl:List Slot}(h:aiW c.P c.G c.nt st o bs v Hl qs=some r)(hp:dN r.p):LOp c o st r.st r.ch r.gr:=by
 unfold aiW at h
 split at h
 ·rename_i k xs hk
  split at h
  ·rename_i ds hd
   split at h
   ·rename_i hb
    simp only[Bool.and_eq_true] at hb
    obtain⟨⟨⟨⟨b1,b2⟩,b3⟩,b4⟩,b5⟩:=hb
    split at h
    ·rename_i T' hT
     injection h with h
     subst h
     exact LOp.opH hc hk hd b1 b2 b3 b4 b5 hp.1 hT
    cases h
   cases h
  cases h
 cases h
theorem Ls(hc:c.Ok)(h:lev c.P c.G c.tt c.nt st o qs=some r)(hp:dN r.p):LOp c o st r.st r.ch r.gr:=by
 unfold lev at h
 split at h
 ·split at h
  ·exact afu hc h hp
  exact V4 hc h hp
 exact V4 hc h hp
end
def GOp(c:Ctx)(st st':St)(ch:List Nat)(gr:Bool):Prop:=
 ∀e C a w,Rep c e C st a w→∃e' C',Rep c e' C' st' a w∧iU ch gr e C st.H e' C' st'.H w
structure GR where
 st:St
 qs:List Ans
 p:List Prop
 ch:List Nat
 gr:Bool
def TG(st:St):Ans→Option GR
 |.frz b=>match st.H[b]? with
  |some (.row _ n l)=>some ⟨⟨fzT b (.lf (.rows n l)) st.T,(st.H.set b .dead).map (Slot.fz b (.lf (.rows n l)))⟩,[],[],[b],true⟩
  |_=>none
 |.Tj b l'=>match st.H[b]? with
  |some (.row _ n l)=>some ⟨⟨fzT b (.lf (.rows n l')) st.T,(st.H.set b .dead).map (Slot.fz b (.lf (.rows n l')))⟩,[],[l'=l],[b],true⟩
  |_=>none
 |.norm b=>match st.H[b]? with
  |some (.box ty cs)=>some ⟨⟨st.T,st.H.set b (.box ty cs.asD)⟩,[],[],[],false⟩
  |_=>none
 |.resv k=>some ⟨⟨st.T,st.H++List.replicate k .free⟩,[],[],[],false⟩
 |.nil t n=>match lk st.T t with
  |some (.raw (.slice none 0 0))=>some ⟨⟨(t,.bK n)::st.T,st.H⟩,[],[],[],false⟩
  |_=>none
 |.yU t ty n=>match lk st.T t with
  |some (.raw (.slice none 0 0))=>some ⟨⟨(t,.own st.H.length)::st.T,st.H++[Slot.row ty n []]⟩,[],[],[],false⟩
  |some (.bK _)=>some ⟨⟨(t,.own st.H.length)::st.T,st.H++[Slot.row ty n []]⟩,[],[],[],false⟩
  |_=>none
 |.XW b o ty=>match st.H[b]? with
  |some (.box ty' (.agg l))=>match l[o]? with
   |some (.bK n)=>some ⟨⟨st.T,(st.H++[Slot.row ty n []]).set b (.box ty' (.agg (l.set o (.own st.H.length))))⟩,[],[],[],false⟩
   |_=>none
  |_=>none
 |.tod t=>match lk st.T t with
  |some v=>some ⟨⟨(t,v.asD)::st.T,st.H⟩,[],[],[],false⟩
  |none=>none
 |.lQ b l'=>match st.H[b]? with
  |some (.row ty n l)=>some ⟨⟨st.T,st.H.set b (.row ty n l')⟩,[],[l'=l],[],false⟩
  |_=>none
 |.kill b=>match st.H[b]? with
  |some (.row _ _ _)=>some ⟨⟨st.T,st.H.set b .dead⟩,[],[],[b],false⟩
  |some (.box _ _)=>some ⟨⟨st.T,st.H.set b .dead⟩,[],[],[b],false⟩
  |some (.map _ _ _ _)=>some ⟨⟨st.T,st.H.set b .dead⟩,[],[],[b],false⟩
  |some (.res _ _)=>some ⟨⟨st.T,st.H.set b .dead⟩,[],[],[b],false⟩
  |_=>none
 |.gho bs Hl=>match nodupB bs&&slB bs st.H&&Nat.ble bs.length Hl.length&&Hl.all Slot.jv with
  |true=>some ⟨⟨st.T,newH bs st.H Hl⟩,[],[GhH (kY bs st.H) Hl],bs,true⟩
  |false=>none
 |.mvn b=>match mvR b st.H.length ⟨st.T,st.H++[.dead]⟩ with
  |some st'=>some ⟨st',[],[],[b],false⟩
  |none=>none
 |.akY t o ty=>match lk st.T t with
  |some (.agg l)=>match l[o]? with
   |some (.bK n)=>some ⟨⟨(t,.agg (l.set o (.own st.H.length)))::st.T,st.H++[Slot.row ty n []]⟩,[],[],[],false⟩
   |_=>none
  |_=>none
 |_=>none
theorem iP.Yb{e:Env}{T:List (Nat×AV)}{tmps:Array Value}(h:iP e T tmps){t:Nat}{x y:AV}(hx:lk T t=some x)(hy:∀v,VR e x v→VR e y v):iP e ((t,y)::T) tmps:=fun t' z hz=>by
 unfold lk at hz
 split at hz
 ·rename_i hb
  injection hz with hz
  subst hz
  have:=dX hb
  subst this
  obtain⟨u,h1,h2⟩:=h t x hx
  grind
 exact h t' z hz
theorem Lu{c:Ctx}{e:Env}{C:Nat→List Value}{H:List Slot}{w:World}(h:Mem c e C H w)(ty:TypeId)(n:Nat):
 ∃e' C',Mem c e' C' (H++[Slot.row ty n []]) w∧e.le e'∧VR e' (.own H.length) (.slice none 0 0)∧iU [] false e C H e' C' (H++[Slot.row ty n []]) w:=by
 refine h.row (qs:=[]) (qs':=[]) (v:=.slice none 0 0) (xs:=[]) (l:=[]) (b:=H.length) rfl (fun r hr=>by cases hr) rfl (World.ownsRow_nil w 0 ty n) (fun x hx=>by cases hx) (by unfold maxLen;simp)
theorem VRs.set{e:Env}:∀(l:List AV) (cs:List Value),VRs e l cs→∀(o:Nat) (x y:AV),l[o]?=some x→(∀v,VR e x v→VR e y v)→VRs e (l.set o y) cs
 |[],cs,h,o,x,y,ho,_=>by simp at ho
 |z::r,cs,h,o,x,y,ho,hy=>by
  unfold VRs at h
  obtain⟨u,q,rfl,h1,h2⟩:=h
  cases o with
  |zero=>
   obtain rfl:z=x:=by simpa using ho
   rw[List.set_cons_zero]
   exact VRs.cons (hy u h1) h2
  |succ o=>
   rw[List.set_cons_succ]
   exact VRs.cons h1 (VRs.set r q h2 o x y (by simpa using ho) hy)
theorem Mem.tell{c:Ctx}{e:Env}{C:Nat→List Value}{H:List Slot}{w:World}(h:Mem c e C H w){b:Nat}{s s':Slot}(hb:H[b]?=some s)(hf:s'≠.free)(hblk:dV e b s'=dV e b s)(hv:HV e C b s')(hw:HW e C w b s'):Mem c e C (H.set b s') w:=by
 have hlt:=(List.getElem?_eq_some_iff.1 hb).1
 have key:∀x t,(H.set b s')[x]?=some t→(x=b∧t=s')∨(x≠b∧H[x]?=some t):=fun x t hx=>by
  grind
 have blk:∀x t g,(H.set b s')[x]?=some t→dV e x t g→∃t0,H[x]?=some t0∧dV e x t0 g:=fun x t g hx hg=>by
  rcases key x t hx with⟨rfl,rfl⟩|⟨_,h1⟩
  all_goals simp_all
 refine⟨fun x t hx=>?_,fun x t hx=>?_,fun x hx=>by rw[List.length_set];exact h.bound x hx,fun x x' t t' g h1 h2 k1 k2=>?_,fun x t g hx hg=>?_,fun x t g hx hg=>?_,h.inv,h.le,h.fresh,h.ch,h.g,h.bse⟩
 ·rcases key x t hx with⟨rfl,rfl⟩|⟨_,h1⟩
  ·exact hv
  exact h.hv x t h1
 ·rcases key x t hx with⟨rfl,rfl⟩|⟨_,h1⟩
  ·exact hw
  exact h.hw x t h1
 ·obtain⟨t0,m1,m2⟩:=blk x t g h1 k1
  obtain⟨t1,m3,m4⟩:=blk x' t' g h2 k2
  exact h.inj x x' t0 t1 g m1 m3 m2 m4
 ·obtain⟨t0,m1,m2⟩:=blk x t g hx hg
  exact h.av x t0 g m1 m2
 obtain⟨t0,m1,m2⟩:=blk x t g hx hg
 exact h.mine x t0 g m1 m2
theorem Yc{c:Ctx}(hc:c.Ok){st:St}{q:Ans}{r:GR}(h:TG st q=some r)(hp:dN r.p):GOp c st r.st r.ch r.gr:=by
 unfold TG at h
 intro e C a w hR
 split at h
 ·rename_i b
  split at h
  ·rename_i ty n l hb
   injection h with h
   subst h
   obtain⟨e',h1,h2,h3,h4⟩:=hR.mem.freeze hc hb
   refine⟨e',C,⟨fun t v hv=>?_,hR.size,hR.defers,h2⟩,h4⟩
   have hv:lk (fzT b (.lf (.rows n l)) st.T) t=some v:=hv
   rw[Lr] at hv
   cases hq:lk st.T t with
   |none=>grind
   |some y=>
    rw[hq] at hv
    injection hv with hv
    subst hv
    obtain⟨u,k1,k2⟩:=hR.tmp t y hq
    exact⟨u,k1,VR.fz h1 h3 y u k2⟩
  cases h
 ·rename_i b l'
  split at h
  ·rename_i ty n l hb
   injection h with h
   subst h
   have hll:l'=l:=hp.1
   subst hll
   obtain⟨e',h1,h2,h3,h4⟩:=hR.mem.freeze hc hb
   refine⟨e',C,⟨fun t v hv=>?_,hR.size,hR.defers,h2⟩,h4⟩
   have hv:lk (fzT b (.lf (.rows n l')) st.T) t=some v:=hv
   rw[Lr] at hv
   cases hq:lk st.T t with
   |none=>grind
   |some y=>
    rw[hq] at hv
    injection hv with hv
    subst hv
    obtain⟨u,k1,k2⟩:=hR.tmp t y hq
    exact⟨u,k1,VR.fz h1 h3 y u k2⟩
  cases h
 ·rename_i b
  split at h
  ·rename_i ty cs hb
   injection h with h
   subst h
   have hv:=hR.mem.hv b _ hb
   have hw:=hR.mem.hw b _ hb
   have hlt:=(List.getElem?_eq_some_iff.1 hb).1
   refine⟨e,C,⟨hR.tmp,hR.size,hR.defers,hR.mem.tell (s':=.box ty cs.asD) hb (by simp) rfl ⟨hv.1,hv.2.asD⟩ hw⟩,Env.le.refl e,fun _=>rfl,fun x s hx hne hl=>?_,hR.mem.inv⟩
   by_cases hxb:x=b
   ·subst hxb
    rw[hb] at hx
    injection hx with hx
    subst hx
    exact⟨_,List.getElem?_set_self hlt,trivial,fun w h=>h⟩
   grind
  cases h
 ·rename_i k
  injection h with h
  subst h
  have key:∀x t,(st.H++List.replicate k Slot.free)[x]?=some t→st.H[x]?=some t∨(st.H.length≤x∧t=.free):=fun x t hx=>by
   grind
  have hM:=hR.mem
  refine⟨e,C,⟨hR.tmp,hR.size,hR.defers,⟨fun x t hx=>?_,fun x t hx=>?_,fun x hx=>?_,fun x x' t t' g h1 h2 k1 k2=>?_,fun x t g hx hg=>?_,fun x t g hx hg=>?_,hM.inv,hM.le,hM.fresh,hM.ch,hM.g,hM.bse⟩⟩,Env.le.refl e,fun _=>rfl,fun b s hb _ hl=>⟨s,by rw[List.getElem?_append_left (List.getElem?_eq_some_iff.1 hb).1];exact hb,hl,fun _ h=>h⟩,hM.inv⟩
  ·rcases key x t hx with h1|⟨h1,rfl⟩
   ·exact hM.hv x t h1
   show ¬e.ok x
   intro h2;have:=hM.bound x h2;omega
  ·rcases key x t hx with h1|⟨h1,rfl⟩
   ·exact hM.hw x t h1
   trivial
  ·have:=hM.bound x hx
   grind
  ·rcases key x t h1 with h1|⟨h1,rfl⟩
   ·rcases key x' t' h2 with h2|⟨h2,rfl⟩
    ·exact hM.inj x x' t t' g h1 h2 k1 k2
    cases k2
   cases k1
  ·rcases key x t hx with h1|⟨h1,rfl⟩
   ·exact hM.av x t g h1 hg
   cases hg
  rcases key x t hx with h1|⟨h1,rfl⟩
  ·exact hM.mine x t g h1 hg
  cases hg
 ·rename_i t n
  split at h
  ·rename_i ht
   injection h with h
   subst h
   exact⟨e,C,⟨hR.tmp.Yb ht (fun v hv=>by unfold VR at hv ⊢;exact hv),hR.size,hR.defers,hR.mem⟩,iU.same hR⟩
  cases h
 ·rename_i t ty n
  obtain⟨e',C',k1,k2,k3,k4⟩:=Lu hR.mem ty n
  split at h
  ·rename_i ht
   injection h with h
   subst h
   exact⟨e',C',⟨(hR.tmp.mono k2).Yb ht (fun v hv=>by unfold VR at hv;subst hv;exact k3),hR.size,hR.defers,k1⟩,k4⟩
  ·rename_i m ht
   injection h with h
   subst h
   exact⟨e',C',⟨(hR.tmp.mono k2).Yb ht (fun v hv=>by unfold VR at hv;subst hv;exact k3),hR.size,hR.defers,k1⟩,k4⟩
  cases h
 ·rename_i b o ty
  split at h
  ·rename_i ty' l hb
   split at h
   ·rename_i n ho
    injection h with h
    subst h
    obtain⟨e',C',k1,k2,k3,k4⟩:=Lu hR.mem ty n
    have hlt:=(List.getElem?_eq_some_iff.1 hb).1
    have hb':(st.H++[Slot.row ty n []])[b]?=some (.box ty' (.agg l)):=by rw[List.getElem?_append_left hlt];exact hb
    have hv:=k1.hv b _ hb'
    have hw:=k1.hw b _ hb'
    obtain⟨cs,e1,h1⟩:=VR.agg.1 hv.2
    refine⟨e',C',⟨hR.tmp.mono k2,hR.size,hR.defers,k1.tell (s':=.box ty' (.agg (l.set o (.own st.H.length)))) hb' (by simp) rfl ⟨hv.1,VR.agg.2 ⟨cs,e1,VRs.set l cs h1 o _ _ ho (fun v hv=>by unfold VR at hv;subst hv;exact k3)⟩⟩ hw⟩,k4.le,k4.I,fun x s hx hne hl=>?_,k4.inv⟩
    obtain⟨s',m1,m2,m3⟩:=k4.lk x s hx (by simp) hl
    by_cases hxb:x=b
    ·subst hxb
     rw[hb'] at m1
     injection m1 with m1
     subst m1
     exact⟨_,List.getElem?_set_self (List.getElem?_eq_some_iff.1 hb').1,trivial,fun w h=>m3 w h⟩
    grind
   cases h
  cases h
 ·rename_i t
  split at h
  ·rename_i v ht
   injection h with h
   subst h
   exact⟨e,C,⟨hR.tmp.Yb ht (fun u hv=>hv.asD),hR.size,hR.defers,hR.mem⟩,iU.same hR⟩
  cases h
 ·rename_i b l'
  split at h
  ·rename_i ty n l hb
   injection h with h
   subst h
   have hll:l'=l:=hp.1
   subst hll
   have hH:st.H.set b (.row ty n l')=st.H:=by
    apply List.ext_getElem?
    grind
   show ∃e' C',Rep c e' C' ⟨st.T,st.H.set b (.row ty n l')⟩ a w∧iU [] false e C st.H e' C' (st.H.set b (.row ty n l')) w
   rw[hH]
   exact⟨e,C,hR,iU.same hR⟩
  cases h
 ·rename_i b
  have go:∀{s0:Slot},st.H[b]?=some s0→s0≠.free→∃e' C',Rep c e' C' ⟨st.T,st.H.set b .dead⟩ a w∧iU [b] false e C st.H e' C' (st.H.set b .dead) w:=fun {s0} hb hs=>
   ⟨e,C,⟨hR.tmp,hR.size,hR.defers,hR.mem.kill b hb hs⟩,Env.le.refl e,fun _=>rfl,fun x s hx hne hl=>⟨s,by rw[List.getElem?_set_ne (fun e1=>hne (by simp[e1]))];exact hx,hl,fun _ h=>h⟩,hR.mem.inv⟩
  grind
 ·rename_i bs Hl
  split at h
  ·rename_i hb
   simp only[Bool.and_eq_true] at hb
   obtain⟨⟨⟨b1,b2⟩,b3⟩,b4⟩:=hb
   injection h with h;subst h
   exact aiT hc b1 b2 b3 b4 hp.1 hR
  cases h
 ·rename_i b
  split at h
  ·rename_i st' hs
   injection h with h;subst h
   exact aiS hs hR
  cases h
 ·rename_i t o ty
  split at h
  ·rename_i l ht
   split at h
   ·rename_i n ho
    injection h with h;subst h
    obtain⟨e',C',k1,k2,k3,k4⟩:=Lu hR.mem ty n
    exact⟨e',C',⟨(hR.tmp.mono k2).Yb ht (fun v hv=>by
     obtain⟨cs,e1,h1⟩:=VR.agg.1 hv
     exact VR.agg.2 ⟨cs,e1,VRs.set l cs h1 o _ _ ho (fun v hv=>by unfold VR at hv;subst hv;exact k3)⟩),hR.size,hR.defers,k1⟩,k4⟩
   cases h
  cases h
 cases h
end Go.Proofs.YtpdlghcgekojlaaGreatDoor
namespace Go.Proofs.YtpdlghcgekojlaaGreatDoor
open Go

section
variable {P:Program} {ops:Array Oper} {Q:Exit→Act→World→Prop} {S:World→Prop}

def tX(P:Program)(ops:Array Oper)(Q:Exit→Act→World→Prop)(S:World→Prop):List (Bool×Nat)→Act→World→Prop
 |[],a,w=>Q .normal a w
 |(true,i)::r,a,w=>∃o v,ops[i]?=some o∧YieldsIf P ops S o v a∧tX P ops Q S r (a.put o.dst v) w
 |(false,i)::r,a,w=>wpOp P ops Q i (fun a' w'=>S w'∧tX P ops Q S r a' w') a w

def uI(ops:Array Oper):List (Bool×Nat)→Array Bool→Bool
 |[],listed=>(Region.ready .any ops listed).isEmpty
 |(true,i)::r,listed=>Region.free .any ops listed i&&(Region.ready .any ops listed).contains i&&uI ops r (listed.setIfInBounds i true)
 |(false,i)::r,listed=>(Region.ready .any ops listed==[i])&&uI ops r (listed.setIfInBounds i true)

theorem qA(hs:Region.noSelect ops=true)(hQ:∀c a d v w,Q (.panic c) (Act.put a d v) w→Q (.panic c) a w):
 ∀(l:List (Bool×Nat)) (listed:Array Bool) (a:Act) (w:World) (fuel:Nat),l.length≤fuel→uI ops l listed=true→S w→tX P ops Q S l a w→wpAnyH P .any ops Q S fuel listed a w
 |[],listed,a,w,fuel,_,hb,_,h=>wpAnyH_done (by simpa[uI] using hb) h fuel
 |(true,i)::r,listed,a,w,0,hf,_,_,_=>by simp at hf
 |(false,i)::r,listed,a,w,0,hf,_,_,_=>by simp at hf
 |(true,i)::r,listed,a,w,fuel+1,hf,hb,hS,h=>by
  obtain⟨o,v,ho,hy,hr⟩:=h
  simp only[uI,Bool.and_eq_true] at hb
  exact wpAnyH_take ho hs hb.1.1 hb.1.2 (fun c a w=>hQ c a _ _ w) hy hS (qA hs hQ r _ _ _ fuel (by simpa using hf) hb.2 hS hr)
 |(false,i)::r,listed,a,w,fuel+1,hf,hb,hS,h=>by
  simp only[uI,Bool.and_eq_true,beq_iff_eq] at hb
  refine wpAnyH_all hb.1 (by simp) (fun j hj=>?_)
  obtain rfl:j=i:=by simpa using hj
  exact wpOp_mono (fun a' w' ⟨h1,h2⟩=>⟨h1,qA hs hQ r _ a' w' fuel (by simpa using hf) hb.2 h1 h2⟩) h

theorem xR(S:World→Prop)(l:List (Bool×Nat)){id:Nat}{a:Act}{w:World}(hm:P.follows .mixedOrders=true)(hs:Region.noSelect ops=true)(hl:decide (l.length≤ops.size)=true)(hb:uI ops l (Array.replicate ops.size false)=true)
 (hS:S w.drew) (h:tX P ops (NoPanic Q) S l a w.drew):(Code.region id ops true).wp P Q a w:=
 wp_region_noPanic (wp_region_held hm (qA hs (fun _ _ _ _ _ h=>h) l _ a _ ops.size (of_decide_eq_true hl) hb hS h))

theorem Yd{a:Act}{w:World}(h:Q .normal a w):tX P ops (NoPanic Q) S [] a w:=h

theorem V5{i:Nat}{r:List (Bool×Nat)}{a:Act}{w:World}{o:Oper}{v:Value}(ho:ops[i]?=some o)(hw:Region.wanted o (yielded ops a.tmps)=true)
 (hy:∀w,S w→(execOp a.eval o).run P w=.ok (.value v) w) (h:tX P ops Q S r (a.put o.dst v) w):tX P ops Q S ((true,i)::r) a w:=
 ⟨o,v,ho,.inl ⟨hw,hy⟩,h⟩
theorem V6{i:Nat}{r:List (Bool×Nat)}{a:Act}{w:World}{o:Oper}(ho:ops[i]?=some o)(hw:Region.wanted o (yielded ops a.tmps)=false)
 (h:tX P ops Q S r (a.put o.dst undef) w):tX P ops Q S ((true,i)::r) a w:=
 ⟨o,undef,ho,.inr ⟨hw,rfl⟩,h⟩
theorem afv{i:Nat}{r:List (Bool×Nat)}{a:Act}{w:World}{o:Oper}(ho:ops[i]?=some o)(hw:Region.wanted o (yielded ops a.tmps)=true)
 (h:∀K:Act→World→Prop,(∀a' w',S w'→tX P ops Q S r a' w'→K a' w')→o.wp P a w K Q):tX P ops Q S ((false,i)::r) a w:=by
 show wpOp P ops Q i _ a w
 unfold wpOp
 grind
end
end Go.Proofs.YtpdlghcgekojlaaGreatDoor
namespace Go.Proofs.YtpdlghcgekojlaaGreatDoor
open Go
section
variable {P:Program} {ops:Array Oper} {Q:Exit→Act→World→Prop} {S:World→Prop} {L:Nat}
def Eh(P:Program)(ops:Array Oper)(Q:Exit→Act→World→Prop)(S:World→Prop)(L:Nat):Nat→Array Bool→Act→World→Prop
 |0,listed,a,w=>Region.ready .any ops listed=[]∧Q .normal a w
 |fuel+1,listed,a,w=>
  (Region.ready .any ops listed=[]→Q .normal a w)∧
  ∀i∈Region.ready .any ops listed,wpOp P ops Q i (fun a' w'=>(i≠L→S w')∧Eh P ops Q S L fuel (listed.setIfInBounds i true) a' w') a w
theorem Ei:∀(fuel:Nat) (listed:Array Bool) (a:Act) (w:World),Eh P ops Q S L fuel listed a w→wpAny P .any ops Q fuel listed a w
 |0,_,_,_,h=>h
 |fuel+1,_,_,_,h=>⟨h.1,fun i hi=>wpOp_mono (fun a' w' h'=>Ei fuel _ a' w' h'.2) (h.2 i hi)⟩
def mZ(P:Program)(ops:Array Oper)(Q:Exit→Act→World→Prop)(S:World→Prop)(L:Nat):List (Bool×Nat)→Act→World→Prop
 |[],a,w=>Q .normal a w
 |(true,i)::r,a,w=>∃o v,ops[i]?=some o∧YieldsIf P ops S o v a∧mZ P ops Q S L r (a.put o.dst v) w
 |(false,i)::r,a,w=>wpOp P ops Q i (fun a' w'=>(i≠L→S w')∧mZ P ops Q S L r a' w') a w
def endsB(L:Nat):List (Bool×Nat)→Bool
 |[]=>true
 |[_]=>true
 |(_,i)::r=>!(i==L)&&endsB L r
theorem TJ{a:Act}{w:World}(h:Q .normal a w):mZ P ops (NoPanic Q) S L [] a w:=h
theorem Oy{i:Nat}{r:List (Bool×Nat)}{a:Act}{w:World}{o:Oper}{v:Value}(ho:ops[i]?=some o)(hw:Region.wanted o (yielded ops a.tmps)=true)
 (hy:∀w,S w→(execOp a.eval o).run P w=.ok (.value v) w) (h:mZ P ops Q S L r (a.put o.dst v) w):mZ P ops Q S L ((true,i)::r) a w:=
 ⟨o,v,ho,.inl ⟨hw,hy⟩,h⟩
theorem zh{i:Nat}{r:List (Bool×Nat)}{a:Act}{w:World}{o:Oper}(ho:ops[i]?=some o)(hw:Region.wanted o (yielded ops a.tmps)=true)
 (h:∀K:Act→World→Prop,(∀a' w',S w'→mZ P ops Q S L r a' w'→K a' w')→o.wp P a w K Q):mZ P ops Q S L ((false,i)::r) a w:=by
 show wpOp P ops Q i _ a w
 unfold wpOp
 grind
theorem Oz{r:List (Bool×Nat)}{a:Act}{w:World}{o:Oper}(ho:ops[L]?=some o)(hw:Region.wanted o (yielded ops a.tmps)=true)
 (h:∀K:Act→World→Prop,(∀a' w',mZ P ops Q S L r a' w'→K a' w')→o.wp P a w K Q):mZ P ops Q S L ((false,L)::r) a w:=by
 show wpOp P ops Q L _ a w
 unfold wpOp
 grind
end
end Go.Proofs.YtpdlghcgekojlaaGreatDoor
namespace Go.Proofs.YtpdlghcgekojlaaGreatDoor
open Go
section
variable {P:Program} {ops:Array Oper} {Q:Exit→Act→World→Prop} {S:World→Prop} {L:Nat}
def su(ops:Array Oper):Nat→Nat→Nat→Bool
 |0,_,_=>false
 |n+1,j,k=>((ops[j]?).map fun o=>o.after.any fun e=>Region.binds .any e&&(e.on==k||su ops n e.on k)).getD false
def lastT(ops:Array Oper)(L:Nat):Bool:=(List.range ops.size).all fun k=>k==L||su ops ops.size L k
def jR(ops:Array Oper)(listed:Array Bool):Prop:=∀(k:Nat) (o:Oper),ops[k]?=some o→listed.getD k false=true→∀e∈o.after,Region.binds .any e=true→listed.getD e.on false=true
theorem kE{listed:Array Bool}{k:Nat}:listed.getD k false=true↔listed[k]?=some true:=by
 rw[Array.getD_eq_getD_getElem?]
 grind
theorem xU{listed:Array Bool}{j k:Nat}(h:listed.getD k false=true):(listed.setIfInBounds j true).getD k false=true:=by
 rw[kE] at h ⊢
 grind
theorem Hg{listed:Array Bool}{j k:Nat}(hjk:j≠k)(h:(listed.setIfInBounds j true).getD k false=true):listed.getD k false=true:=by
 simp_all
theorem jR.set{listed:Array Bool}(h:jR ops listed){j:Nat}(hj:j∈Region.ready .any ops listed):jR ops (listed.setIfInBounds j true):=by
 intro k o ho hk e he hb
 obtain⟨_,oj,hoj,hall⟩:=mem_ready.1 hj
 by_cases hjk:j=k
 ·subst hjk
  rw[hoj] at ho
  injection ho with ho
  subst ho
  exact xU (hall e he hb)
 exact xU (h k o ho (Hg hjk hk) e he hb)
theorem jR.start(n:Nat)(hn:ops.size≤n):jR ops (Array.replicate n false):=by
 intro k o ho hk
 have hlt:=(Array.getElem?_eq_some_iff.1 ho).1
 rw[kE,Array.getElem?_replicate,if_pos (by omega)] at hk
 cases hk
theorem sD{listed:Array Bool}(h:jR ops listed):∀(n j k:Nat),su ops n j k=true→listed.getD j false=true→listed.getD k false=true
 |0,_,_,hr,_=>by cases hr
 |n+1,j,k,hr,hj=>by
  unfold su at hr
  cases ho:ops[j]? with
  |none=>grind
  |some o=>
   rw[ho] at hr
   simp only[Option.map_some,Option.getD_some] at hr
   obtain⟨e,he,hb⟩:=Array.any_eq_true'.1 hr
   simp only[Bool.and_eq_true,Bool.or_eq_true,beq_iff_eq] at hb
   have h1:=h j o ho hj e he hb.1
   rcases hb.2 with h2|h2
   ·grind
   exact sD h n e.on k h2 h1
theorem TK(h:lastT ops L=true){listed:Array Bool}(hc:jR ops listed)(hr:L∈Region.ready .any ops listed)(k:Nat)(hk:k<ops.size)(hne:k≠L):listed.getD k false=true:=by
 have h1:=List.all_eq_true.1 h k (List.mem_range.2 hk)
 simp only[Bool.or_eq_true,beq_iff_eq,hne,false_or] at h1
 obtain⟨_,o,ho,hall⟩:=mem_ready.1 hr
 cases hn:ops.size with
 |zero=>omega
 |succ n=>
  rw[hn] at h1
  unfold su at h1
  rw[ho] at h1
  simp only[Option.map_some,Option.getD_some] at h1
  obtain⟨e,he,hb⟩:=Array.any_eq_true'.1 h1
  simp only[Bool.and_eq_true,Bool.or_eq_true,beq_iff_eq] at hb
  have h2:=hall e he hb.1
  rcases hb.2 with h3|h3
  ·grind
  exact sD hc n e.on k h3 h2
theorem zi(hL:lastT ops L=true){i:Nat}{oi:Oper}{v:Value}(hi:ops[i]?=some oi)(hsel:∀(j:Nat) (o:Oper) cs b,ops[j]?=some o→o.op≠.select cs b)(hQ:∀c a w,Q (.panic c) (a.put oi.dst v) w→Q (.panic c) a w):
 ∀(fuel:Nat) (listed:Array Bool) (a:Act) (w:World),jR ops listed→
  (∀j oj,ops[j]?=some oj→j≠i→listed.getD j true=false→(∀e∈oj.after,Region.binds .any e=true→e.on≠i)→oi.apart ops oj=true)→
  i∈Region.ready .any ops listed→YieldsIf P ops S oi v a→S w→
  Eh P ops Q S L fuel (listed.setIfInBounds i true) (a.put oi.dst v) w→Eh P ops Q S L (fuel+1) listed a w
 |fuel,listed,a,w,hcl,hfree,hr,hy,hS,H=>by
  refine⟨fun h=>absurd hr (by rw[h];simp),fun j hj=>?_⟩
  by_cases hji:j=i
  ·subst hji
   exact hy.wpOp hi hS ⟨fun _=>hS,H⟩
  have hin:j∈Region.ready .any ops (listed.setIfInBounds i true):=ready_mono hj hji
  match fuel,H with
  |0,H=>rw[H.1] at hin;cases hin
  |fuel+1,H=>
   obtain⟨hjun,oj,hoj,hall⟩:=mem_ready.1 hj
   have hiun:=(mem_ready.1 hr).1
   have hnot:∀e∈oj.after,Region.binds .any e=true→e.on≠i:=fun e he hb heq=>by
    grind
   have h2:=wpOp_putIf hoj (hfree j oj hoj hji hjun hnot) (fun cs b=>hsel i oi cs b hi) (fun cs b=>hsel j oj cs b hoj) hQ hy (H.2 j hin)
   have hri:i∈Region.ready .any ops (listed.setIfInBounds j true):=ready_mono hr (Ne.symm hji)
   have hfree':∀k ok,ops[k]?=some ok→k≠i→(listed.setIfInBounds j true).getD k true=false→(∀e∈ok.after,Region.binds .any e=true→e.on≠i)→oi.apart ops ok=true:=fun k ok hk hki hun hno=>by
    refine hfree k ok hk hki ?_ hno
    by_cases hjk:j=k
    all_goals simp_all
   have hjL:j≠L:=by
    rintro rfl
    have:=TK hL hcl hj i (Array.getElem?_eq_some_iff.1 hi).1 (Ne.symm hji)
    grind
   refine wpOp_mono (fun a' w' h3=>?_) h2
   have hSw:=h3.2.1 hjL
   refine⟨fun _=>hSw,zi hL hi hsel hQ fuel (listed.setIfInBounds j true) a' w' (hcl.set hj) hfree' hri h3.1 hSw ?_⟩
   rw[Array.setIfInBounds_comm _ _ hji]
   grind
theorem qB(hL:lastT ops L=true)(hs:Region.noSelect ops=true)(hQ:∀c a d v w,Q (.panic c) (Act.put a d v) w→Q (.panic c) a w):
 ∀(l:List (Bool×Nat)) (listed:Array Bool) (a:Act) (w:World) (fuel:Nat),jR ops listed→l.length≤fuel→uI ops l listed=true→endsB L l=true→S w→mZ P ops Q S L l a w→Eh P ops Q S L fuel listed a w
 |[],listed,a,w,0,_,_,hb,_,_,h=>⟨by simpa[uI] using hb,h⟩
 |[],listed,a,w,_+1,_,_,hb,_,_,h=>⟨fun _=>h,fun i hi=>by
  have:Region.ready .any ops listed=[]:=by simpa[uI] using hb
  rw[this] at hi;cases hi⟩
 |(true,i)::r,listed,a,w,0,_,hf,_,_,_,_=>by simp at hf
 |(false,i)::r,listed,a,w,0,_,hf,_,_,_,_=>by simp at hf
 |(true,i)::r,listed,a,w,fuel+1,hcl,hf,hb,he,hS,h=>by
  obtain⟨o,v,ho,hy,hr⟩:=h
  simp only[uI,Bool.and_eq_true] at hb
  have he':endsB L r=true:=by
   cases r with
   |nil=>rfl
   |cons x r=>simp only[endsB,Bool.and_eq_true] at he;exact he.2
  have hrd:i∈Region.ready .any ops listed:=by simpa using hb.1.2
  exact zi hL ho (Region.noSelect_spec hs) (fun c a w=>hQ c a _ _ w) fuel listed a w hcl (Region.free_spec ho hb.1.1) hrd hy hS (qB hL hs hQ r _ _ _ fuel (hcl.set hrd) (by simpa using hf) hb.2 he' hS hr)
 |(false,i)::r,listed,a,w,fuel+1,hcl,hf,hb,he,hS,h=>by
  simp only[uI,Bool.and_eq_true,beq_iff_eq] at hb
  refine⟨fun h0=>(by rw[hb.1] at h0;cases h0),fun j hj=>?_⟩
  have hj0:=hj
  rw[hb.1] at hj
  obtain rfl:j=i:=by simpa using hj
  refine wpOp_mono (fun a' w' ⟨h1,h2⟩=>⟨h1,?_⟩) h
  cases r with
  |nil=>
   cases fuel with
   |zero=>exact⟨by simpa[uI] using hb.2,h2⟩
   |succ n=>exact⟨fun _=>h2,fun i hi=>by
    have:Region.ready .any ops (listed.setIfInBounds j true)=[]:=by simpa[uI] using hb.2
    rw[this] at hi;cases hi⟩
  |cons x r=>
   simp only[endsB,Bool.and_eq_true,Bool.not_eq_true',beq_eq_false_iff_ne] at he
   exact qB hL hs hQ (x::r) _ a' w' fuel (hcl.set hj0) (by simpa using hf) hb.2 he.2 (h1 he.1) h2
theorem uJ(S:World→Prop)(L:Nat)(l:List (Bool×Nat)){id:Nat}{a:Act}{w:World}(hm:P.follows .mixedOrders=true)(hs:Region.noSelect ops=true)(hl:decide (l.length≤ops.size)=true)(hb:uI ops l (Array.replicate ops.size false)=true)
 (hL:lastT ops L=true) (he:endsB L l=true) (hS:S w.drew) (h:mZ P ops (NoPanic Q) S L l a w.drew):(Code.region id ops true).wp P Q a w:=
 wp_region_noPanic (wp_region_any hm (Ei _ _ _ _ (qB hL hs (fun _ _ _ _ _ h=>h) l _ a _ ops.size (jR.start _ (Nat.le_refl _)) (of_decide_eq_true hl) hb he hS h)))
end
end Go.Proofs.YtpdlghcgekojlaaGreatDoor
namespace Go.Proofs.YtpdlghcgekojlaaGreatDoor
open Go.RowKit
def isG:Ans→Bool
 |.frz _|.Tj _ _|.norm _|.resv _|.nil _ _|.yU _ _ _|.XW _ _ _|.tod _|.lQ _ _|.kill _|.mvn _|.akY _ _ _|.gho _ _=>true
 |_=>false
def gos(st:St):List Ans→Option OR
 |[]=>some ⟨st,[],[],[],false⟩
 |q::r=>match isG q with
  |true=>match TG st q with
   |some g=>match gos g.st r with
    |some x=>some ⟨x.st,x.qs,g.p++x.p,g.ch++x.ch,g.gr||x.gr⟩
    |none=>none
   |none=>none
  |false=>some ⟨st,q::r,[],[],false⟩
def Ej(n i:Nat)(st:St):List Ans→Option OR
 |.at_ n' i'::qs=>match Nat.beq n' n&&Nat.beq i' i with
  |true=>gos st qs
  |false=>some ⟨st,.at_ n' i'::qs,[],[],false⟩
 |qs=>some ⟨st,qs,[],[],false⟩
def afw(st:St)(d:Nat)(want:Bool)(qs:List Ans):Option (Bool×St×List Ans×List Prop):=match lk st.T d with
 |some (.lf (.bool true))=>some (true==want,st,qs,[])
 |some (.lf (.bool false))=>some (false==want,st,qs,[])
 |some (.raw (.tuple _))=>some (false,st,qs,[])
 |_=>none
def gck(n:Nat)(ops:Array Oper)(st:St)(o:Oper)(qs:List Ans):Option (Bool×St×List Ans×List Prop):=
 match o.guard with
 |none=>some (true,st,qs,[])
 |some (j,want)=>match (ops[j]?).bind (·.dst) with
  |none=>none
  |some d=>match qs with
   |.gd j' b::qs'=>match Nat.beq j' (n*1000+j) with
    |true=>match lk st.T d with
     |some (.lf (.bool x))=>some (b==want,⟨(d,.lf (.bool b))::st.T,st.H⟩,qs',[x=b])
     |_=>none
    |false=>afw st d want qs
   |_=>afw st d want qs
def OA(P:Program)(G:Gh→Prop)(tt:TT)(nt:Nat)(ops:Array Oper)(n:Nat):List Nat→St→List Ans→Option OR
 |[],st,qs=>some ⟨st,qs,[],[],false⟩
 |i::r,st,qs=>match ops[i]? with
  |none=>none
  |some o=>match Ej n i st qs with
   |none=>none
   |some g=>match gck n ops g.st o g.qs with
    |some (true,st1,qs1,p1)=>match lev P G tt nt st1 o qs1 with
     |some x=>match OA P G tt nt ops n r x.st x.qs with
      |some y=>some ⟨y.st,y.qs,g.p++(p1++(x.p++y.p)),[],false⟩
      |none=>none
     |none=>none
    |some (false,st1,qs1,p1)=>match jq nt st1.T o.dst (.raw undef) with
     |some T'=>match OA P G tt nt ops n r ⟨T',st1.H⟩ qs1 with
      |some y=>some ⟨y.st,y.qs,g.p++(p1++y.p),[],false⟩
      |none=>none
     |none=>none
    |none=>none
theorem iU.trans{ch ch':List Nat}{gr gr':Bool}{e e' e'':Env}{C C' C'':Nat→List Value}{H H' H'':List Slot}{w' w'':World}(h:iU ch gr e C H e' C' H' w')(k:iU ch' gr' e' C' H' e'' C'' H'' w'')(hi:Inv e.I w''):iU (ch++ch') (gr||gr') e C H e'' C'' H'' w'' where
 le:=h.le.trans k.le
 I:=fun hg=>by
  rw[Bool.or_eq_false_iff] at hg
  rw[k.I hg.2,h.I hg.1]
 lk:=fun b s hb hne hl=>by
  rw[List.mem_append,not_or] at hne
  obtain⟨s',h1,h2,h3⟩:=h.lk b s hb hne.1 hl
  obtain⟨s'',k1,k2,k3⟩:=k.lk b s' h1 hne.2 h2
  grind
 inv:=hi
theorem Inv.le{I I':Gh}{w:World}(h:Inv I' w)(k:Le I I'):Inv I w:=fun b o v e=>h b o v (k b o v e)
theorem Bg{c:Ctx}(hc:c.Ok):∀{qs:List Ans} {st:St} {r:OR},gos st qs=some r→dN r.p→GOp c st r.st r.ch r.gr
 |[],st,r,h,hp=>by
  simp only[gos] at h
  injection h with h
  subst h
  exact fun e C a w hR=>⟨e,C,hR,iU.same hR⟩
 |q::qs,st,r,h,hp=>by
  simp only[gos] at h
  split at h
  ·split at h
   ·rename_i g hg
    split at h
    ·rename_i x hx
     injection h with h
     subst h
     obtain⟨h1,h2⟩:=dN.app hp
     intro e C a w hR
     obtain⟨e1,C1,k1,k2⟩:=Yc hc hg h1 e C a w hR
     obtain⟨e2,C2,k3,k4⟩:=Bg hc hx h2 e1 C1 a w k1
     exact⟨e2,C2,k3,k2.trans k4 hR.mem.inv⟩
    cases h
   cases h
  injection h with h
  subst h
  exact fun e C a w hR=>⟨e,C,hR,iU.same hR⟩
theorem nO{c:Ctx}(hc:c.Ok){n i:Nat}{qs:List Ans}{st:St}{r:OR}(h:Ej n i st qs=some r)(hp:dN r.p):GOp c st r.st r.ch r.gr:=by
 unfold Ej at h
 split at h
 ·split at h
  ·exact Bg hc h hp
  injection h with h;subst h
  exact fun e C a w hR=>⟨e,C,hR,iU.same hR⟩
 injection h with h;subst h
 exact fun e C a w hR=>⟨e,C,hR,iU.same hR⟩
theorem qC{c:Ctx}{n:Nat}{ops:Array Oper}{st st':St}{o:Oper}{qs qs':List Ans}{bw:Bool}{p:List Prop}(h:gck n ops st o qs=some (bw,st',qs',p))(hp:dN p){e:Env}{C:Nat→List Value}{a:Act}{w:World}(hR:Rep c e C st a w):
 Rep c e C st' a w∧st'.H=st.H∧Region.wanted o (yielded ops a.tmps)=bw:=by
 have g0:∀{d:Nat} {j:Nat} {want:Bool},o.guard=some (j,want)→(ops[j]?).bind (·.dst)=some d→afw st d want qs=some (bw,st',qs',p)→Rep c e C st' a w∧st'.H=st.H∧Region.wanted o (yielded ops a.tmps)=bw:=fun {d j want} hg hd h=>by
  unfold afw at h
  split at h
  ·rename_i hl
   injection h with h;injection h with h1 h2;injection h2 with h2 h3
   subst h1 h2
   obtain⟨u,k1,k2⟩:=hR.tmp d _ hl
   have k2:=k2.bool
   subst k2
   refine⟨hR,rfl,?_⟩
   simp only[Region.wanted,hg,yielded,hd,Option.bind_some,k1]
   rfl
  ·rename_i hl
   injection h with h;injection h with h1 h2;injection h2 with h2 h3
   subst h1 h2
   obtain⟨u,k1,k2⟩:=hR.tmp d _ hl
   have k2:=k2.bool
   subst k2
   refine⟨hR,rfl,?_⟩
   simp only[Region.wanted,hg,yielded,hd,Option.bind_some,k1]
   rfl
  ·rename_i hl
   injection h with h;injection h with h1 h2;injection h2 with h2 h3
   subst h1 h2
   obtain⟨u,k1,k2⟩:=hR.tmp d _ hl
   unfold VR at k2
   subst k2
   refine⟨hR,rfl,?_⟩
   simp only[Region.wanted,hg,yielded,hd,Option.bind_some,k1]
   rfl
  cases h
 unfold gck at h
 split at h
 ·rename_i hg
  injection h with h;injection h with h1 h2;injection h2 with h2 h3
  subst h1 h2
  exact⟨hR,rfl,by simp only[Region.wanted,hg]⟩
 rename_i j want hg
 split at h
 ·cases h
 rename_i d hd
 split at h
 ·rename_i j' b qs1
  split at h
  ·split at h
   ·rename_i x hl
    injection h with h;injection h with h1 h2;injection h2 with h2 h3;injection h3 with h3 h4
    subst h1 h2 h4
    obtain⟨u,k1,k2⟩:=hR.tmp d _ hl
    have hx:x=b:=hp.1
    subst hx
    refine⟨⟨hR.tmp.Yb hl (fun v hv=>hv),hR.size,hR.defers,hR.mem⟩,rfl,?_⟩
    have k2:=k2.bool
    subst k2
    simp only[Region.wanted,hg,yielded,hd,Option.bind_some,k1]
    rfl
   cases h
  grind
 grind
theorem zk{c:Ctx}(hc:c.Ok){ops:Array Oper}{n:Nat}{Q:Exit→Act→World→Prop}{rest:List Nat}:∀{l:List Nat} {st:St} {qs:List Ans} {r:OR},OA c.P c.G c.tt c.nt ops n l st qs=some r→dN r.p→∀{e:Env} {C:Nat→List Value} {a:Act} {w:World},Rep c e C st a w→
 (∀e' C' a' w',Rep c e' C' r.st a' w'→wpOps c.P ops Q rest a' w')→wpOps c.P ops Q (l++rest) a w
 |[],st,qs,r,h,hp,e,C,a,w,hR,hQ=>by
  simp only[OA] at h
  grind
 |i::l,st,qs,r,h,hp,e,C,a,w,hR,hQ=>by
  simp only[OA] at h
  split at h
  ·cases h
  rename_i o ho
  split at h
  ·cases h
  rename_i g hg
  split at h
  ·rename_i st1 qs1 p1 hk
   split at h
   ·rename_i x hx
    split at h
    ·rename_i y hy
     injection h with h
     subst h
     obtain⟨q1,q2⟩:=dN.app hp
     obtain⟨q2,q3⟩:=dN.app q2
     obtain⟨q3,q4⟩:=dN.app q3
     obtain⟨e1,C1,k1,_⟩:=nO hc hg q1 e C a w hR
     obtain⟨k3,k4,k5⟩:=qC hk q2 k1
     show wpOps c.P ops Q (i::(l++rest)) a w
     unfold wpOps
     simp only[ho,k5,if_true]
     exact .inl (Ls hc hx q3 e1 C1 a w _ _ k3 fun e2 C2 a2 w2 m1 _=>zk hc hy q4 m1 hQ)
    cases h
   cases h
  ·rename_i st1 qs1 p1 hk
   split at h
   ·rename_i T' hT
    split at h
    ·rename_i y hy
     injection h with h
     subst h
     obtain⟨q1,q2⟩:=dN.app hp
     obtain⟨q2,q3⟩:=dN.app q2
     obtain⟨e1,C1,k1,_⟩:=nO hc hg q1 e C a w hR
     obtain⟨k3,k4,k5⟩:=qC hk q2 k1
     obtain⟨m1,m2,m3⟩:=jr hT k3.tmp k3.size (by unfold VR;rfl:VR e1 (.raw undef) undef)
     show wpOps c.P ops Q (i::(l++rest)) a w
     unfold wpOps
     simp only[ho,k5,Bool.false_eq_true,if_false]
     exact zk hc hy q3 ⟨m1,m2,m3.trans k3.defers,k3.mem⟩ hQ
    cases h
   cases h
  cases h
theorem afx{c:Ctx}(hc:c.Ok){ops:Array Oper}{n:Nat}{Q:Exit→Act→World→Prop}{l:List Nat}{st:St}{qs:List Ans}{r:OR}(h:OA c.P c.G c.tt c.nt ops n l st qs=some r)(hp:dN r.p){e:Env}{C:Nat→List Value}{a:Act}{w:World}(hR:Rep c e C st a w)
 (hQ:∀e' C' a' w',Rep c e' C' r.st a' w'→Q .normal a' w'):wpOps c.P ops Q l a w:=by
 have:=zk hc (rest:=[]) h hp hR hQ
 grind
def AWo(c:Ctx)(ops:Array Oper)(l:List Nat)(st' st:St):Prop:=
 ∀(Q:Exit→Act→World→Prop) (rest:List Nat) e C a w,Rep c e C st a w→(∀e' C' a' w',Rep c e' C' st' a' w'→wpOps c.P ops Q rest a' w')→wpOps c.P ops Q (l++rest) a w
def oq(ch:List Nat):Nat→List Slot→List Slot
 |_,[]=>[]
 |k,s::r=>(match ch.contains k with
  |true=>.dead
  |false=>match s with
   |.free=>.dead
   |s=>s)::oq ch (k+1) r
theorem qO{ch:List Nat}:∀(H:List Slot) (k b:Nat) (s:Slot),(oq ch k H)[b]?=some s→s=.dead∨(H[b]?=some s∧s≠.free∧ch.contains (k+b)=false)
 |[],k,b,s,h=>by simp[oq] at h
 |x::r,k,b,s,h=>by
  unfold oq at h
  cases b with
  |zero=>
   grind
  |succ b=>
   simp only[List.getElem?_cons_succ] at h
   rcases qO r (k+1) b s h with h1|⟨h1,h2,h3⟩
   all_goals grind
def OB(l m:List Nat):Bool:=l.all fun x=>m.contains x
def runM(P:Program)(G:Gh→Prop)(tt:TT)(nt:Nat)(ops:Array Oper)(n:Nat)(H0:List Slot)(L:Nat)(ch0:List Nat):List (Bool×Nat)→Bool→St→List Ans→Option OR
 |[],_,st,qs=>some ⟨st,qs,[],[],false⟩
 |(true,i)::r,gr,st,qs=>match ops[i]? with
  |none=>none
  |some o=>match gck n ops st o qs with
   |some (true,st1,qs1,p1)=>match qev P tt (!gr) true st1.T H0 o.op qs1 with
    |some (v,qs2,p2)=>match jq nt st1.T o.dst v with
     |some T'=>match runM P G tt nt ops n H0 L ch0 r gr ⟨T',st1.H⟩ qs2 with
      |some y=>some ⟨y.st,y.qs,p1++(p2++y.p),[],false⟩
      |none=>none
     |none=>none
    |none=>none
   |some (false,st1,qs1,p1)=>match jq nt st1.T o.dst (.raw undef) with
    |some T'=>match runM P G tt nt ops n H0 L ch0 r gr ⟨T',st1.H⟩ qs1 with
     |some y=>some ⟨y.st,y.qs,p1++y.p,[],false⟩
     |none=>none
    |none=>none
   |none=>none
 |(false,i)::r,gr,st,qs=>match ops[i]? with
  |none=>none
  |some o=>match Ej n i st qs with
   |none=>none
   |some g=>match OB g.ch ch0 with
    |false=>none
    |true=>match gck n ops g.st o g.qs with
     |some (true,st1,qs1,p1)=>match lev P G tt nt st1 o qs1 with
      |some x=>match Nat.beq i L||OB x.ch ch0 with
       |true=>match runM P G tt nt ops n H0 L ch0 r (gr||(g.gr||x.gr)) x.st x.qs with
        |some y=>some ⟨y.st,y.qs,g.p++(p1++(x.p++y.p)),[],false⟩
        |none=>none
       |false=>none
      |none=>none
     |some (false,st1,qs1,p1)=>match jq nt st1.T o.dst (.raw undef) with
      |some T'=>match runM P G tt nt ops n H0 L ch0 r (gr||g.gr) ⟨T',st1.H⟩ qs1 with
       |some y=>some ⟨y.st,y.qs,g.p++(p1++y.p),[],false⟩
       |none=>none
      |none=>none
     |none=>none
def TL(e0:Env)(C0:Nat→List Value)(H0:List Slot)(w:World):Prop:=Inv e0.I w∧HWq e0 C0 w H0
structure Lnk (gr:Bool) (e0:Env) (C0:Nat→List Value) (H0:List Slot) (ch0:List Nat) (e:Env) (C:Nat→List Value) (H:List Slot):Prop where
 le:e0.le e
 I:gr=false→e.I=e0.I
 lk:∀b s,H0[b]?=some s→s.live→b ∉ ch0∧∃s',H[b]?=some s'∧s'.live∧∀w,HW e C w b s'→HW e0 C0 w b s
theorem afy{l m:List Nat}(h:OB l m=true){b:Nat}(hb:b ∉ m):b ∉ l:=fun h1=>hb (by
 have:=List.all_eq_true.1 h b h1
 simpa using this)
theorem Lnk.step{gr:Bool}{e0:Env}{C0:Nat→List Value}{H0:List Slot}{ch0:List Nat}{e:Env}{C:Nat→List Value}{H:List Slot}(h:Lnk gr e0 C0 H0 ch0 e C H){ch:List Nat}{gr':Bool}{e':Env}{C':Nat→List Value}{H':List Slot}{w':World}(k:iU ch gr' e C H e' C' H' w')(hs:OB ch ch0=true):Lnk (gr||gr') e0 C0 H0 ch0 e' C' H' where
 le:=h.le.trans k.le
 I:=fun hg=>by
  rw[Bool.or_eq_false_iff] at hg
  rw[k.I hg.2,h.I hg.1]
 lk:=fun b s hb hl=>by
  obtain⟨h1,s',h2,h3,h4⟩:=h.lk b s hb hl
  obtain⟨s'',k1,k2,k3⟩:=k.lk b s' h2 (afy hs h1) h3
  grind
theorem Lnk.Ye{c:Ctx}{gr:Bool}{e0:Env}{C0:Nat→List Value}{H0:List Slot}{ch0:List Nat}{e:Env}{C:Nat→List Value}{H:List Slot}{w:World}(h:Lnk gr e0 C0 H0 ch0 e C H)(hM:Mem c e C H w):TL e0 C0 H0 w:=by
 refine⟨hM.inv.le h.le.I,fun b s hb hl=>?_⟩
 obtain⟨_,s',h2,_,h4⟩:=h.lk b s hb hl
 exact h4 w (hM.hw b s' h2)
theorem zn{c:Ctx}(hc:c.Ok){ops:Array Oper}{n:Nat}{Q:Exit→Act→World→Prop}{e0:Env}{C0:Nat→List Value}{H0:List Slot}{L:Nat}{ch0:List Nat}(hf:∀(b:Nat) (s:Slot),H0[b]?=some s→s≠Slot.free)(hv0:HVs e0 C0 H0):∀{l:List (Bool×Nat)} {gr:Bool} {st:St} {qs:List Ans} {r:OR},runM c.P c.G c.tt c.nt ops n H0 L ch0 l gr st qs=some r→endsB L l=true→dN r.p→
 ∀{e:Env} {C:Nat→List Value} {a:Act} {w:World},Rep c e C st a w→Lnk gr e0 C0 H0 ch0 e C st.H→(∀e' C' a' w',Rep c e' C' r.st a' w'→Q .normal a' w')→mZ c.P ops Q (TL e0 C0 H0) L l a w
 |[],gr,st,qs,r,h,hE,hp,e,C,a,w,hR,hL,hQ=>by
  simp only[runM] at h
  injection h with h
  subst h
  exact hQ e C a w hR
 |(true,i)::l,gr,st,qs,r,h,hE,hp,e,C,a,w,hR,hL,hQ=>by
  have hE':endsB L l=true:=by
   cases l with
   |nil=>rfl
   |cons x r=>simp only[endsB,Bool.and_eq_true] at hE;exact hE.2
  simp only[runM] at h
  split at h
  ·cases h
  rename_i o ho
  split at h
  ·rename_i st1 qs1 p1 hk
   split at h
   ·rename_i v qs2 p2 hq
    split at h
    ·rename_i T' hT
     split at h
     ·rename_i y hy
      injection h with h
      subst h
      obtain⟨q1,q2⟩:=dN.app hp
      obtain⟨q2,q3⟩:=dN.app q2
      obtain⟨k3,k4,k5⟩:=qC hk q1 hR
      have hv1:HVs e C0 H0:=fun b s hb=>rW hL.le rfl (hf b s hb) (hv0 b s hb)
      obtain⟨u,m1,m2⟩:=Tz hc.tt k3.tmp hv1 rfl hq q2
      obtain⟨n1,n2,n3⟩:=jr hT k3.tmp k3.size m1
      refine⟨o,u,ho,.inl ⟨k5,fun w' hS=>m2 w' (have hws:HWq e C0 w' H0:=fun b s hb hl=>?_;⟨fun _=>hws,fun hm=>⟨by rw[hL.I (by simpa using hm)];exact hS.1,hws⟩⟩)⟩,zn hc hf hv0 hy hE' q3 ⟨n1,n2,n3.trans k3.defers,k3.mem⟩ (by rw[show(⟨T',st1.H⟩:St).H=st.H from k4];exact hL) hQ⟩
      exact ahI hL.le (DN (hv0 b s hb) hl) hl rfl (hS.2 b s hb hl)
     cases h
    cases h
   cases h
  ·rename_i st1 qs1 p1 hk
   split at h
   ·rename_i T' hT
    split at h
    ·rename_i y hy
     injection h with h
     subst h
     obtain⟨q1,q2⟩:=dN.app hp
     obtain⟨k3,k4,k5⟩:=qC hk q1 hR
     obtain⟨n1,n2,n3⟩:=jr hT k3.tmp k3.size (by unfold VR;rfl:VR e (.raw undef) undef)
     exact⟨o,undef,ho,.inr ⟨k5,rfl⟩,zn hc hf hv0 hy hE' q2 ⟨n1,n2,n3.trans k3.defers,k3.mem⟩ (by rw[show(⟨T',st1.H⟩:St).H=st.H from k4];exact hL) hQ⟩
    cases h
   cases h
  cases h
 |(false,i)::l,gr,st,qs,r,h,hE,hp,e,C,a,w,hR,hL,hQ=>by
  have hE':endsB L l=true:=by
   cases l with
   |nil=>rfl
   |cons x r=>simp only[endsB,Bool.and_eq_true] at hE;exact hE.2
  simp only[runM] at h
  split at h
  ·cases h
  rename_i o ho
  split at h
  ·cases h
  rename_i g hg
  split at h
  ·cases h
  rename_i hsub
  split at h
  ·rename_i st1 qs1 p1 hk
   split at h
   ·rename_i x hx
    split at h
    ·rename_i hsx
     split at h
     ·rename_i y hy
      injection h with h
      subst h
      obtain⟨q1,q2⟩:=dN.app hp
      obtain⟨q2,q3⟩:=dN.app q2
      obtain⟨q3,q4⟩:=dN.app q3
      obtain⟨e1,C1,k1,k2⟩:=nO hc hg q1 e C a w hR
      obtain⟨k3,k4,k5⟩:=qC hk q2 k1
      have hL1:=hL.step k2 hsub
      by_cases hiL:i=L
      ·subst hiL
       refine Oz ho k5 fun K hK=>Ls hc hx q3 e1 C1 a w _ _ k3 fun e2 C2 a2 w2 m1 m2=>hK a2 w2 ?_
       cases l with
       |nil=>
        simp only[runM] at hy
        injection hy with hy
        subst hy
        exact hQ e2 C2 a2 w2 m1
       |cons z l=>simp[endsB] at hE
      have hsx':OB x.ch ch0=true:=by
       simp_all
      refine zh ho k5 fun K hK=>Ls hc hx q3 e1 C1 a w _ _ k3 fun e2 C2 a2 w2 m1 m2=>?_
      have hL2:Lnk (gr||(g.gr||x.gr)) e0 C0 H0 ch0 e2 C2 x.st.H:=by
       have:=(show Lnk (gr||g.gr) e0 C0 H0 ch0 e1 C1 st1.H by rw[k4];exact hL1).step m2 hsx'
       grind
      exact hK a2 w2 (hL2.Ye m1.mem) (zn hc hf hv0 hy hE' q4 m1 hL2 hQ)
     cases h
    cases h
   cases h
  ·rename_i st1 qs1 p1 hk
   split at h
   ·rename_i T' hT
    split at h
    ·rename_i y hy
     injection h with h
     subst h
     obtain⟨q1,q2⟩:=dN.app hp
     obtain⟨q2,q3⟩:=dN.app q2
     obtain⟨e1,C1,k1,k2⟩:=nO hc hg q1 e C a w hR
     obtain⟨k3,k4,k5⟩:=qC hk q2 k1
     have hL1:=hL.step k2 hsub
     obtain⟨n1,n2,n3⟩:=jr hT k3.tmp k3.size (by unfold VR;rfl:VR e1 (.raw undef) undef)
     show wpOp c.P ops Q i _ a w
     unfold wpOp
     simp only[ho,k5,Bool.false_eq_true,if_false]
     have hL2:Lnk (gr||g.gr) e0 C0 H0 ch0 e1 C1 (⟨T',st1.H⟩:St).H:=by
      grind
     exact⟨fun _=>hL2.Ye k3.mem,zn hc hf hv0 hy hE' q3 ⟨n1,n2,n3.trans k3.defers,k3.mem⟩ hL2 hQ⟩
    cases h
   cases h
  cases h
end Go.Proofs.YtpdlghcgekojlaaGreatDoor
namespace Go.Proofs.YtpdlghcgekojlaaGreatDoor
open Go Go.RowKit
def heads:RT→List Nat
 |.alt i _ r=>i::heads r
 |.l i _=>[i]
 |_=>[]
mutual
def rtB (ops:Array Oper):RT→Array Bool→Bool
 |.fin,listed=>(Region.ready .any ops listed).isEmpty
 |.q i r,listed=>Region.free .any ops listed i&&(Region.ready .any ops listed).contains i&&rtB ops r (listed.setIfInBounds i true)
 |.l i r,listed=>(Region.ready .any ops listed==[i])&&rtB ops r (listed.setIfInBounds i true)
 |.alt i ri r,listed=>(Region.ready .any ops listed==i::heads r)&&rtB ops ri (listed.setIfInBounds i true)&&rtC ops r listed
def rtC (ops:Array Oper):RT→Array Bool→Bool
 |.l i r,listed=>rtB ops r (listed.setIfInBounds i true)
 |.alt i ri r,listed=>rtB ops ri (listed.setIfInBounds i true)&&rtC ops r listed
 |_,_=>false
end
def RT.len:RT→Nat
 |.fin=>0
 |.q _ r=>r.len+1
 |.l _ r=>r.len+1
 |.alt _ ri r=>Nat.max (ri.len+1) r.len
section
variable {P:Program} {ops:Array Oper} {Q:Exit→Act→World→Prop} {S:World→Prop} {L:Nat}
def LC(P:Program)(ops:Array Oper)(Q:Exit→Act→World→Prop)(S:World→Prop)(L:Nat):RT→Bool→Act→World→Prop
 |.fin,_,a,w=>Q .normal a w
 |.q i r,b,a,w=>i≠L∧∃o v,ops[i]?=some o∧YieldsIf P ops (fun w=>b=false→S w) o v a∧LC P ops Q S L r b (a.put o.dst v) w
 |.l i r,b,a,w=>wpOp P ops Q i (fun a' w'=>((b||Nat.beq i L)=false→S w')∧LC P ops Q S L r (b||Nat.beq i L) a' w') a w
 |.alt i ri r,b,a,w=>wpOp P ops Q i (fun a' w'=>((b||Nat.beq i L)=false→S w')∧LC P ops Q S L ri (b||Nat.beq i L) a' w') a w∧LC P ops Q S L r b a w
def V7(ops:Array Oper)(L:Nat):Bool:=(List.range ops.size).all fun k=>k==L||su ops ops.size L k||su ops ops.size k L
theorem CU{listed:Array Bool}(hc:jR ops listed){j k:Nat}(hr:j∈Region.ready .any ops listed)(h1:su ops ops.size j k=true):listed.getD k false=true:=by
 obtain⟨_,o,ho,hall⟩:=mem_ready.1 hr
 cases hn:ops.size with
 |zero=>grind
 |succ n=>
  rw[hn] at h1
  unfold su at h1
  rw[ho] at h1
  simp only[Option.map_some,Option.getD_some] at h1
  obtain⟨e,he,hb⟩:=Array.any_eq_true'.1 h1
  simp only[Bool.and_eq_true,Bool.or_eq_true,beq_iff_eq] at hb
  have h2:=hall e he hb.1
  rcases hb.2 with h3|h3
  ·grind
  exact sD hc n e.on k h3 h2
def Till(L:Nat)(listed:Array Bool)(S:World→Prop)(w:World):Prop:=listed.getD L false=false→S w
def Bh(P:Program)(ops:Array Oper)(Q:Exit→Act→World→Prop)(S:World→Prop)(L:Nat):Nat→Array Bool→Act→World→Prop
 |0,listed,a,w=>Region.ready .any ops listed=[]∧Q .normal a w
 |fuel+1,listed,a,w=>
  (Region.ready .any ops listed=[]→Q .normal a w)∧
  ∀i∈Region.ready .any ops listed,wpOp P ops Q i (fun a' w'=>Till L (listed.setIfInBounds i true) S w'∧Bh P ops Q S L fuel (listed.setIfInBounds i true) a' w') a w
theorem Em:∀(fuel:Nat) (listed:Array Bool) (a:Act) (w:World),Bh P ops Q S L fuel listed a w→wpAny P .any ops Q fuel listed a w
 |0,_,_,_,h=>h
 |fuel+1,_,_,_,h=>⟨h.1,fun i hi=>wpOp_mono (fun a' w' h'=>Em fuel _ a' w' h'.2) (h.2 i hi)⟩
theorem getD_set_ne'{listed:Array Bool}{j k:Nat}(h:j≠k):(listed.setIfInBounds j true).getD k false=listed.getD k false:=by simp_all
theorem zo(hL:(V7 ops L||decide (ops.size≤L))=true){i:Nat}(hiL:i≠L){oi:Oper}{v:Value}(hi:ops[i]?=some oi)(hsel:∀(j:Nat) (o:Oper) cs b,ops[j]?=some o→o.op≠.select cs b)(hQ:∀c a w,Q (.panic c) (a.put oi.dst v) w→Q (.panic c) a w):
 ∀(fuel:Nat) (listed:Array Bool) (a:Act) (w:World),jR ops listed→
  (∀j oj,ops[j]?=some oj→j≠i→listed.getD j true=false→(∀e∈oj.after,Region.binds .any e=true→e.on≠i)→oi.apart ops oj=true)→
  i∈Region.ready .any ops listed→YieldsIf P ops (Till L listed S) oi v a→Till L listed S w→
  Bh P ops Q S L fuel (listed.setIfInBounds i true) (a.put oi.dst v) w→Bh P ops Q S L (fuel+1) listed a w
 |fuel,listed,a,w,hcl,hfree,hr,hy,hS,H=>by
  refine⟨fun h=>absurd hr (by rw[h];simp),fun j hj=>?_⟩
  by_cases hji:j=i
  ·subst hji
   exact hy.wpOp hi hS ⟨fun h=>hS (by rwa [getD_set_ne' hiL] at h),H⟩
  have hin:j∈Region.ready .any ops (listed.setIfInBounds i true):=ready_mono hj hji
  match fuel,H with
  |0,H=>rw[H.1] at hin;cases hin
  |fuel+1,H=>
   obtain⟨hjun,oj,hoj,hall⟩:=mem_ready.1 hj
   have hiun:=(mem_ready.1 hr).1
   have hnot:∀e∈oj.after,Region.binds .any e=true→e.on≠i:=fun e he hb heq=>by
    grind
   have h2:=wpOp_putIf hoj (hfree j oj hoj hji hjun hnot) (fun cs b=>hsel i oi cs b hi) (fun cs b=>hsel j oj cs b hoj) hQ hy (H.2 j hin)
   have hri:i∈Region.ready .any ops (listed.setIfInBounds j true):=ready_mono hr (Ne.symm hji)
   have hfree':∀k ok,ops[k]?=some ok→k≠i→(listed.setIfInBounds j true).getD k true=false→(∀e∈ok.after,Region.binds .any e=true→e.on≠i)→oi.apart ops ok=true:=fun k ok hk hki hun hno=>by
    refine hfree k ok hk hki ?_ hno
    by_cases hjk:j=k
    all_goals simp_all
   have hjL:j≠L:=by
    rintro rfl
    rw[Bool.or_eq_true] at hL
    rcases hL with hL|hL
    ·have h1:=List.all_eq_true.1 hL i (List.mem_range.2 (Array.getElem?_eq_some_iff.1 hi).1)
     simp only[Bool.or_eq_true,beq_iff_eq,hiL,false_or] at h1
     rcases h1 with h1|h1
     ·have:=CU hcl hj h1
      grind
     have:=CU hcl hr h1
     grind
    grind
   refine wpOp_mono (fun a' w' h3=>?_) h2
   have e1:Till L (listed.setIfInBounds j true) S=Till L listed S:=by unfold Till;rw[getD_set_ne' hjL]
   have hSw:Till L (listed.setIfInBounds j true) S w':=fun h=>h3.2.1 (by rw[getD_set_ne' hjL,getD_set_ne' hiL];rwa [getD_set_ne' hjL] at h)
   refine⟨hSw,zo hL hiL hi hsel hQ fuel (listed.setIfInBounds j true) a' w' (hcl.set hj) hfree' hri (by rw[e1];exact h3.1) hSw ?_⟩
   rw[Array.setIfInBounds_comm _ _ hji]
   grind
theorem OC{listed:Array Bool}{b:Bool}{i:Nat}(h:listed.getD L false=b)(hi:i∈Region.ready .any ops listed):(listed.setIfInBounds i true).getD L false=(b||Nat.beq i L):=by
 by_cases e:i=L
 ·subst e
  have hu:=(mem_ready.1 hi).1
  have hlt:i<listed.size:=by
   grind
  simp_all
 simp_all
theorem OD{listed:Array Bool}{b:Bool}{a:Act}{w:World}{j:Nat}:∀{r:RT},rtC ops r listed=true→LC P ops Q S L r b a w→j∈heads r→
 ∃rj,rtB ops rj (listed.setIfInBounds j true)=true∧rj.len+1≤r.len∧wpOp P ops Q j (fun a' w'=>((b||Nat.beq j L)=false→S w')∧LC P ops Q S L rj (b||Nat.beq j L) a' w') a w
 |.fin,h,_,hj=>by cases hj
 |.q i r,h,_,hj=>by cases hj
 |.l i r,h,hw,hj=>by
  obtain rfl:j=i:=by simpa[heads] using hj
  simp only[rtC] at h
  exact⟨r,h,Nat.le_refl _,hw⟩
 |.alt i ri r,h,hw,hj=>by
  simp only[rtC,Bool.and_eq_true] at h
  simp only[heads,List.mem_cons] at hj
  rcases hj with rfl|hj
  ·exact⟨ri,h.1,Nat.le_max_left _ _,hw.1⟩
  obtain⟨rj,k1,k3,k5⟩:=OD (r:=r) h.2 hw.2 hj
  exact⟨rj,k1,Nat.le_trans k3 (Nat.le_max_right _ _),k5⟩
theorem TM{listed:Array Bool}{a:Act}{w:World}(hb:rtB ops .fin listed=true)(h:Q .normal a w):∀fuel,Bh P ops Q S L fuel listed a w
 |0=>⟨by simpa[rtB] using hb,h⟩
 |_+1=>⟨fun _=>h,fun i hi=>by
  have:Region.ready .any ops listed=[]:=by simpa[rtB] using hb
  rw[this] at hi;cases hi⟩
theorem oG(hL:(V7 ops L||decide (ops.size≤L))=true)(hs:Region.noSelect ops=true)(hQ:∀c a d v w,Q (.panic c) (Act.put a d v) w→Q (.panic c) a w):
 ∀(fuel:Nat) (t:RT) (listed:Array Bool) (b:Bool) (a:Act) (w:World),jR ops listed→listed.getD L false=b→t.len≤fuel→rtB ops t listed=true→(b=false→S w)→LC P ops Q S L t b a w→Bh P ops Q S L fuel listed a w
 |fuel,.fin,listed,b,a,w,_,_,_,hb,_,h=>TM hb h fuel
 |0,.q i r,listed,b,a,w,_,_,hf,_,_,_=>by simp[RT.len] at hf
 |0,.l i r,listed,b,a,w,_,_,hf,_,_,_=>by simp[RT.len] at hf
 |0,.alt i ri r,listed,b,a,w,_,_,hf,_,_,_=>by
  have:=Nat.le_trans (Nat.le_max_left (ri.len+1) r.len) hf
  omega
 |fuel+1,.q i r,listed,b,a,w,hcl,hg,hf,hb,hS,h=>by
  obtain⟨hiL,o,v,ho,hy,hr⟩:=h
  simp only[rtB,Bool.and_eq_true] at hb
  have hrd:i∈Region.ready .any ops listed:=by simpa using hb.1.2
  have e1:Till L listed S=fun w=>b=false→S w:=by unfold Till;rw[hg]
  exact zo hL hiL ho (Region.noSelect_spec hs) (fun c a w=>hQ c a _ _ w) fuel listed a w hcl (Region.free_spec ho hb.1.1) hrd (by rw[e1];exact hy) (by rw[e1];exact hS)
   (oG hL hs hQ fuel r _ b _ _ (hcl.set hrd) (by rw[getD_set_ne' hiL];exact hg) (by simpa[RT.len] using hf) hb.2 hS hr)
 |fuel+1,.l i r,listed,b,a,w,hcl,hg,hf,hb,hS,h=>by
  simp only[rtB,Bool.and_eq_true,beq_iff_eq] at hb
  refine⟨fun h0=>(by rw[hb.1] at h0;cases h0),fun j hj=>?_⟩
  have hj0:=hj
  rw[hb.1] at hj
  obtain rfl:j=i:=by simpa using hj
  have hfl:=OC (L:=L) hg hj0
  refine wpOp_mono (fun a' w' ⟨h1,h2⟩=>⟨by unfold Till;rw[hfl];exact h1,?_⟩) h
  exact oG hL hs hQ fuel r _ _ a' w' (hcl.set hj0) hfl (by simpa[RT.len] using hf) hb.2 h1 h2
 |fuel+1,.alt i ri r,listed,b,a,w,hcl,hg,hf,hb,hS,h=>by
  simp only[rtB,Bool.and_eq_true,beq_iff_eq] at hb
  refine⟨fun h0=>(by rw[hb.1.1] at h0;cases h0),fun j hj=>?_⟩
  have hj0:=hj
  rw[hb.1.1] at hj
  have hC:rtC ops (.alt i ri r) listed=true:=by simp only[rtC,Bool.and_eq_true];exact⟨hb.1.2,hb.2⟩
  obtain⟨rj,k1,k3,k5⟩:=OD (r:=.alt i ri r) hC h hj
  have hfl:=OC (L:=L) hg hj0
  refine wpOp_mono (fun a' w' ⟨h1,h2⟩=>⟨by unfold Till;rw[hfl];exact h1,?_⟩) k5
  exact oG hL hs hQ fuel rj _ _ a' w' (hcl.set hj0) hfl (by omega) k1 h1 h2
theorem LD(S:World→Prop)(L:Nat)(t:RT){id:Nat}{a:Act}{w:World}(hm:P.follows .mixedOrders=true)(hs:Region.noSelect ops=true)(hl:Nat.ble t.len ops.size=true)(hb:rtB ops t (Array.replicate ops.size false)=true)
 (hL:(V7 ops L||decide (ops.size≤L))=true) (hS:S w.drew) (h:LC P ops (NoPanic Q) S L t false a w.drew):(Code.region id ops true).wp P Q a w:=
 wp_region_noPanic (wp_region_any hm (Em _ _ _ _ (oG hL hs (fun _ _ _ _ _ h=>h) ops.size t _ false a _ (jR.start _ (Nat.le_refl _)) (by
  cases h:(Array.replicate ops.size false).getD L false
  ·rfl
  rw[kE,Array.getElem?_replicate] at h
  split at h<;>cases h) (Nat.le_of_ble_eq_true hl) hb (fun _=>hS) h)))
end
end Go.Proofs.YtpdlghcgekojlaaGreatDoor
namespace Go.Proofs.YtpdlghcgekojlaaGreatDoor
open Go.RowKit
def AW(c:Ctx)(code:Code)(x:Exit)(st' st:St):Prop:=
 ∀e C a w,Rep c e C st a w→code.wp c.P (fun x' a' w'=>x'=x∧∃e' C',Rep c e' C' st' a' w') a w
mutual
def AV.bel (k:Nat):AV→Bool
 |.ptr b _=>Nat.blt b k
 |.pY b _ _ _=>Nat.blt b k
 |.own b=>Nat.blt b k
 |.mp b=>Nat.blt b k
 |.hnd b _=>Nat.blt b k
 |.agg l=>Yf k l
 |.tup l=>Yf k l
 |.clo _ l=>Yf k l
 |_=>true
def Yf (k:Nat):List AV→Bool
 |[]=>true
 |x::r=>AV.bel k x&&Yf k r
end
def Env.cut(e:Env)(k:Nat):Env:={ e with ok:=fun b=>e.ok b∧b<k }
theorem Bj{b k:Nat}(h:Nat.blt b k=true):b<k:=by simp_all
mutual
theorem VR.cut {e:Env} {k:Nat}:∀(x:AV) (v:Value),AV.bel k x=true→VR e x v→VR (e.cut k) x v
 |.ptr b off,v,hk,hv=>by
  unfold AV.bel at hk;unfold VR at hv ⊢
  exact⟨⟨hv.1,Bj hk⟩,hv.2⟩
 |.pY b n j off,v,hk,hv=>by
  unfold AV.bel at hk;unfold VR at hv ⊢
  exact⟨⟨hv.1,Bj hk⟩,hv.2⟩
 |.own b,v,hk,hv=>by
  unfold AV.bel at hk;unfold VR at hv ⊢
  exact⟨⟨hv.1,Bj hk⟩,hv.2⟩
 |.mp b,v,hk,hv=>by
  unfold AV.bel at hk;unfold VR at hv ⊢
  exact⟨⟨hv.1,Bj hk⟩,hv.2⟩
 |.hnd b o,v,hk,hv=>by
  unfold AV.bel at hk;unfold VR at hv ⊢
  exact⟨⟨hv.1,Bj hk⟩,hv.2⟩
 |.any,v,_,hv=>by unfold VR;trivial
 |.agg l,v,hk,hv=>by
  unfold AV.bel at hk
  obtain⟨cs,e1,h1⟩:=VR.agg.1 hv
  exact VR.agg.2 ⟨cs,e1,VRs.cut l cs hk h1⟩
 |.tup l,v,hk,hv=>by
  unfold AV.bel at hk
  obtain⟨cs,e1,h1⟩:=VR.tup.1 hv
  exact VR.tup.2 ⟨cs,e1,VRs.cut l cs hk h1⟩
 |.clo f l,v,hk,hv=>by
  unfold AV.bel at hk
  obtain⟨cs,e1,h1⟩:=VR.clo.1 hv
  exact VR.clo.2 ⟨cs,e1,VRs.cut l cs hk h1⟩
 |.lf x,v,_,hv=>by unfold VR at hv ⊢;exact hv
 |.dat r,v,_,hv=>by unfold VR at hv ⊢;exact hv
 |.dp r off,v,_,hv=>by unfold VR at hv ⊢;exact hv
 |.bK n,v,_,hv=>by unfold VR at hv ⊢;exact hv
 |.raw u,v,_,hv=>by unfold VR at hv ⊢;exact hv
theorem VRs.cut {e:Env} {k:Nat}:∀(l:List AV) (cs:List Value),Yf k l=true→VRs e l cs→VRs (e.cut k) l cs
 |[],cs,_,hv=>by unfold VRs at hv ⊢;exact hv
 |x::r,cs,hk,hv=>by
  unfold Yf at hk
  rw[Bool.and_eq_true] at hk
  unfold VRs at hv ⊢
  obtain⟨u,q,e1,h1,h2⟩:=hv
  exact⟨u,q,e1,VR.cut x u hk.1 h1,VRs.cut r q hk.2 h2⟩
end
def aaX(k:Nat)(T:List (Nat×AV)):List Nat→Option (List (Nat×AV))
 |[]=>some []
 |t::r=>match lk T t with
  |some v=>match AV.bel k v with
   |true=>match aaX k T r with
    |some q=>some ((t,v)::q)
    |none=>none
   |false=>none
  |none=>none
def kW(k:Nat):List Slot→Bool
 |[]=>true
 |.box _ cs::r=>AV.bel k cs&&kW k r
 |.res _ (some x)::r=>Nat.blt x k&&kW k r
 |_::r=>kW k r
def TN(k0:Nat)(keys:List Nat)(k:Nat)(st:St):Option St:=match Nat.ble k0 k&&kW k (st.H.take k) with
 |true=>match aaX k st.T keys with
  |some T=>some ⟨T,st.H.take k⟩
  |none=>none
 |false=>none
theorem V8{e:Env}{k:Nat}{T:List (Nat×AV)}{tmps:Array Value}(hT:iP e T tmps):∀{keys:List Nat} {T':List (Nat×AV)},aaX k T keys=some T'→iP (e.cut k) T' tmps
 |[],T',h=>by
  simp only[aaX] at h
  injection h with h
  subst h
  exact fun t v hv=>by cases hv
 |t::r,T',h=>by
  simp only[aaX] at h
  split at h
  ·rename_i v hv
   split at h
   ·rename_i hk
    split at h
    ·rename_i q hq
     injection h with h
     subst h
     intro t' y hy
     unfold lk at hy
     split at hy
     ·rename_i hb
      injection hy with hy
      subst hy
      have:=dX hb
      subst this
      obtain⟨u,h1,h2⟩:=hT t v hv
      exact⟨u,h1,VR.cut v u hk h2⟩
     exact V8 hT hq t' y hy
    cases h
   cases h
  cases h
theorem OE{k:Nat}:∀{H:List Slot} {b:Nat} {ty:TypeId} {cs:AV},kW k H=true→H[b]?=some (.box ty cs)→AV.bel k cs=true
 |[],b,ty,cs,_,h=>by simp at h
 |s::r,b,ty,cs,hk,h=>by
  cases b with
  |zero=>
   obtain rfl:s=.box ty cs:=by simpa using h
   unfold kW at hk
   grind
  |succ b=>
   refine OE (H:=r) (b:=b) ?_ (by simpa using h)
   cases s with
   |box ty' cs'=>unfold kW at hk;rw[Bool.and_eq_true] at hk;exact hk.2
   |row ty' n l=>unfold kW at hk;exact hk
   |dead=>unfold kW at hk;exact hk
   |free=>unfold kW at hk;exact hk
   |res R lk=>
    cases lk with
    |none=>unfold kW at hk;exact hk
    |some y=>unfold kW at hk;rw[Bool.and_eq_true] at hk;exact hk.2
   |map P1 k1 e1 l1=>unfold kW at hk;exact hk
theorem Ip{k:Nat}:∀{H:List Slot} {b y:Nat} {R:Rsc},kW k H=true→H[b]?=some (.res R (some y))→y<k
 |[],b,y,R,_,h=>by simp at h
 |s::r,b,y,R,hk,h=>by
  cases b with
  |zero=>
   obtain rfl:s=.res R (some y):=by simpa using h
   unfold kW at hk
   simp_all
  |succ b=>
   refine Ip (H:=r) (b:=b) ?_ (by simpa using h)
   cases s with
   |box ty' cs'=>unfold kW at hk;rw[Bool.and_eq_true] at hk;exact hk.2
   |row ty' n l=>unfold kW at hk;exact hk
   |dead=>unfold kW at hk;exact hk
   |free=>unfold kW at hk;exact hk
   |res R lk=>
    cases lk with
    |none=>unfold kW at hk;exact hk
    |some y=>unfold kW at hk;rw[Bool.and_eq_true] at hk;exact hk.2
   |map P1 k1 e1 l1=>unfold kW at hk;exact hk
theorem sF{c:Ctx}(hc:c.Ok){keys:List Nat}{k:Nat}{st st':St}(h:TN c.k0 keys k st=some st'){e:Env}{C:Nat→List Value}{a:Act}{w:World}(hR:Rep c e C st a w):Rep c (e.cut k) C st' a w:=by
 unfold TN at h
 split at h
 ·rename_i hk
  rw[Bool.and_eq_true] at hk
  obtain⟨hk0,hk⟩:=hk
  split at h
  ·rename_i T hT
   injection h with h
   subst h
   have hM:=hR.mem
   have key:∀b s,(st.H.take k)[b]?=some s→st.H[b]?=some s∧b<k:=fun b s hs=>by
    grind
   refine⟨V8 hR.tmp hT,hR.size,hR.defers,⟨fun b s hs=>?_,fun b s hs=>?_,fun b hb=>?_,fun b b' s s' g h1 h2 k1 k2=>?_,fun b s g hs hg=>?_,fun b s g hs hg=>?_,hM.inv,hM.le,hM.fresh,hM.ch,hM.g,fun b hb=>?_⟩⟩
   rotate_right
   ·obtain⟨q1,q2,q3⟩:=hM.bse b hb
    exact⟨⟨q1,Nat.lt_of_lt_of_le (hc.k0 b hb) (Nat.le_of_ble_eq_true hk0)⟩,q2,q3⟩
   ·obtain⟨h1,h2⟩:=key b s hs
    have h3:=hM.hv b s h1
    cases s with
    |box ty cs=>exact⟨⟨h3.1,h2⟩,VR.cut cs _ (OE hk hs) h3.2⟩
    |row ty n l=>exact⟨⟨h3.1,h2⟩,h3.2⟩
    |dead=>trivial
    |free=>exact fun h=>h3 h.1
    |res R lk=>exact⟨h3,h2⟩
    |map P1 k1 e1 l1=>exact⟨⟨h3.1,h2⟩,h3.2⟩
   ·have h3:=hM.hw b s (key b s hs).1
    cases s with
    |res R lk=>
     obtain⟨v,h5,h6⟩:=h3
     refine⟨v,h5,fun y e1=>?_⟩
     subst e1
     exact⟨⟨(h6 y rfl).1,Ip hk hs⟩,(h6 y rfl).2⟩
    |_=>exact h3
   ·have:=hM.bound b hb.1
    have:=hb.2
    grind
   ·have e1:dV e b s g:=by cases s<;>exact k1
    have e2:dV e b' s' g:=by cases s'<;>exact k2
    exact hM.inj b b' s s' g (key _ _ h1).1 (key _ _ h2).1 e1 e2
   ·have e1:dV e b s g:=by cases s<;>exact hg
    exact hM.av b s g (key _ _ hs).1 e1
   have e1:dV e b s g:=by cases s<;>exact hg
   exact hM.mine b s g (key _ _ hs).1 e1
  cases h
 cases h
def V9(P:Program)(G:Gh→Prop)(tt:TT)(nt:Nat)(ops:Array Oper)(n:Nat)(L:Nat)(ch0:List Nat)(i:Nat)(b:Bool)(k:Bool→St→List Ans→Option (List Prop))(gr:Bool)(st:St)(qs:List Ans):Option (List Prop):=match ops[i]? with
 |none=>none
 |some o=>match Ej n i st qs with
  |none=>none
  |some g=>match b||OB g.ch ch0 with
   |false=>none
   |true=>match gck n ops g.st o g.qs with
    |some (true,st1,qs1,p1)=>match lev P G tt nt st1 o qs1 with
     |some x=>match (b||Nat.beq i L)||OB x.ch ch0 with
      |true=>match k (gr||(g.gr||x.gr)) x.st x.qs with
       |some y=>some (g.p++(p1++(x.p++y)))
       |none=>none
      |false=>none
     |none=>none
    |some (false,st1,qs1,p1)=>match jq nt st1.T o.dst (.raw undef) with
     |some T'=>match k (gr||g.gr) ⟨T',st1.H⟩ qs1 with
      |some y=>some (g.p++(p1++y))
      |none=>none
     |none=>none
    |none=>none
def runT(P:Program)(G:Gh→Prop)(tt:TT)(nt k0:Nat)(ops:Array Oper)(n:Nat)(H0:List Slot)(L:Nat)(ch0:List Nat)(keys:List Nat)(kk:Nat)(st':St):RT→Bool→Bool→St→List Ans→Option (List Prop)
 |.fin,_,_,st,qs=>match qs with
  |[]=>some [TN k0 keys kk st=some st']
  |_=>none
 |.q i r,b,gr,st,qs=>match Nat.beq i L with
  |true=>none
  |false=>match ops[i]? with
  |none=>none
  |some o=>match gck n ops st o qs with
   |some (true,st1,qs1,p1)=>match qev P tt (!(gr||b)) (!(gr||b)) st1.T H0 o.op qs1 with
    |some (v,qs2,p2)=>match jq nt st1.T o.dst v with
     |some T'=>match runT P G tt nt k0 ops n H0 L ch0 keys kk st' r b gr ⟨T',st1.H⟩ qs2 with
      |some y=>some (p1++(p2++y))
      |none=>none
     |none=>none
    |none=>none
   |some (false,st1,qs1,p1)=>match jq nt st1.T o.dst (.raw undef) with
    |some T'=>match runT P G tt nt k0 ops n H0 L ch0 keys kk st' r b gr ⟨T',st1.H⟩ qs1 with
     |some y=>some (p1++y)
     |none=>none
    |none=>none
   |none=>none
 |.l i r,b,gr,st,qs=>V9 P G tt nt ops n L ch0 i b (runT P G tt nt k0 ops n H0 L ch0 keys kk st' r (b||Nat.beq i L)) gr st qs
 |.alt i ri r,b,gr,st,qs=>match qs with
  |[.both q1 q2]=>match V9 P G tt nt ops n L ch0 i b (runT P G tt nt k0 ops n H0 L ch0 keys kk st' ri (b||Nat.beq i L)) gr st q1 with
   |some p1=>match runT P G tt nt k0 ops n H0 L ch0 keys kk st' r b gr st q2 with
    |some p2=>some (p1++p2)
    |none=>none
   |none=>none
  |_=>none
structure aiX (b gr:Bool) (e0:Env) (C0:Nat→List Value) (H0:List Slot) (ch0:List Nat) (e:Env) (C:Nat→List Value) (H:List Slot):Prop where
 le:e0.le e
 lnk:b=false→Lnk gr e0 C0 H0 ch0 e C H
theorem OG{c:Ctx}(hc:c.Ok){ops:Array Oper}{n:Nat}{Q:Exit→Act→World→Prop}{e0:Env}{C0:Nat→List Value}{H0:List Slot}{L:Nat}{ch0:List Nat}{i:Nat}{b:Bool}{k:Bool→St→List Ans→Option (List Prop)}{W:Act→World→Prop}{gr:Bool}{st:St}{qs:List Ans}{p:List Prop}
 (h:V9 c.P c.G c.tt c.nt ops n L ch0 i b k gr st qs=some p) (hp:dN p) {e:Env} {C:Nat→List Value} {a:Act} {w:World} (hR:Rep c e C st a w) (hL:aiX b gr e0 C0 H0 ch0 e C st.H)
 (hk:∀gr' st' qs' p',k gr' st' qs'=some p'→dN p'→∀e' C' a' w',Rep c e' C' st' a' w'→aiX (b||Nat.beq i L) gr' e0 C0 H0 ch0 e' C' st'.H→W a' w'):wpOp c.P ops Q i (fun a' w'=>((b||Nat.beq i L)=false→TL e0 C0 H0 w')∧W a' w') a w:=by
 unfold V9 at h
 split at h
 ·cases h
 rename_i o ho
 split at h
 ·cases h
 rename_i g hg
 split at h
 ·cases h
 rename_i hsub
 split at h
 ·rename_i st1 qs1 p1 hgk
  split at h
  ·rename_i x hx
   split at h
   ·rename_i hsx
    split at h
    ·rename_i y hy
     injection h with h
     subst h
     obtain⟨q1,q2⟩:=dN.app hp
     obtain⟨q2,q3⟩:=dN.app q2
     obtain⟨q3,q4⟩:=dN.app q3
     obtain⟨e1,C1,k1,k2⟩:=nO hc hg q1 e C a w hR
     obtain⟨k3,k4,k5⟩:=qC hgk q2 k1
     have hL1:b=false→Lnk (gr||g.gr) e0 C0 H0 ch0 e1 C1 g.st.H:=fun hb=>(hL.lnk hb).step k2 (by rw[hb] at hsub;exact hsub)
     unfold wpOp
     simp only[ho,k5,if_true]
     refine .inl (Ls hc hx q3 e1 C1 a w _ _ k3 fun e2 C2 a2 w2 m1 m2=>?_)
     have hl:(b||Nat.beq i L)=false→Lnk (gr||(g.gr||x.gr)) e0 C0 H0 ch0 e2 C2 x.st.H:=fun hiL=>by
      have hb:=(Bool.or_eq_false_iff.1 hiL).1
      have hsx':OB x.ch ch0=true:=by
       grind
      have:=(show Lnk (gr||g.gr) e0 C0 H0 ch0 e1 C1 st1.H by rw[k4];exact hL1 hb).step m2 hsx'
      grind
     exact⟨fun hiL=>(hl hiL).Ye m1.mem,hk _ _ _ _ hy q4 e2 C2 a2 w2 m1 ⟨(hL.le.trans k2.le).trans m2.le,hl⟩⟩
    cases h
   cases h
  cases h
 ·rename_i st1 qs1 p1 hgk
  split at h
  ·rename_i T' hT
   split at h
   ·rename_i y hy
    injection h with h
    subst h
    obtain⟨q1,q2⟩:=dN.app hp
    obtain⟨q2,q3⟩:=dN.app q2
    obtain⟨e1,C1,k1,k2⟩:=nO hc hg q1 e C a w hR
    obtain⟨k3,k4,k5⟩:=qC hgk q2 k1
    have hL1:b=false→Lnk (gr||g.gr) e0 C0 H0 ch0 e1 C1 g.st.H:=fun hb=>(hL.lnk hb).step k2 (by rw[hb] at hsub;exact hsub)
    obtain⟨n1,n2,n3⟩:=jr hT k3.tmp k3.size (by unfold VR;rfl:VR e1 (.raw undef) undef)
    unfold wpOp
    simp only[ho,k5,Bool.false_eq_true,if_false]
    have hL2:(b||Nat.beq i L)=false→Lnk (gr||g.gr) e0 C0 H0 ch0 e1 C1 (⟨T',st1.H⟩:St).H:=fun hiL=>by
     grind
    exact⟨fun hiL=>(hL2 hiL).Ye k3.mem,hk _ _ _ _ hy q3 e1 C1 _ w ⟨n1,n2,n3.trans k3.defers,k3.mem⟩ ⟨hL.le.trans k2.le,hL2⟩⟩
   cases h
  cases h
 cases h
theorem wz{c:Ctx}(hc:c.Ok){ops:Array Oper}{n:Nat}{Q:Exit→Act→World→Prop}{e0:Env}{C0:Nat→List Value}{H0:List Slot}{L:Nat}{ch0:List Nat}{keys:List Nat}{kk:Nat}{st':St}(hf:∀(b:Nat) (s:Slot),H0[b]?=some s→s≠Slot.free)(hv0:HVs e0 C0 H0)(hQ:∀e' C' a' w',Rep c e' C' st' a' w'→Q .normal a' w'):∀{t:RT} {b gr:Bool} {st:St} {qs:List Ans} {p:List Prop},runT c.P c.G c.tt c.nt c.k0 ops n H0 L ch0 keys kk st' t b gr st qs=some p→dN p→
 ∀{e:Env} {C:Nat→List Value} {a:Act} {w:World},Rep c e C st a w→aiX b gr e0 C0 H0 ch0 e C st.H→LC c.P ops Q (TL e0 C0 H0) L t b a w
 |.fin,b,gr,st,qs,p,h,hp,e,C,a,w,hR,hL=>by
  simp only[runT] at h
  split at h
  ·injection h with h
   subst h
   exact hQ _ C a w (sF hc hp.1 hR)
  cases h
 |.q i r,b,gr,st,qs,p,h,hp,e,C,a,w,hR,hL=>by
  simp only[runT] at h
  split at h
  ·cases h
  rename_i hiL
  have hiL:i≠L:=by rintro rfl;rw[Nat.beq_refl] at hiL;cases hiL
  refine⟨hiL,?_⟩
  split at h
  ·cases h
  rename_i o ho
  split at h
  ·rename_i st1 qs1 p1 hk
   split at h
   ·rename_i v qs2 p2 hq
    split at h
    ·rename_i T' hT
     split at h
     ·rename_i y hy
      injection h with h
      subst h
      obtain⟨q1,q2⟩:=dN.app hp
      obtain⟨q2,q3⟩:=dN.app q2
      obtain⟨k3,k4,k5⟩:=qC hk q1 hR
      have hv1:HVs e C0 H0:=fun b s hb=>rW hL.le rfl (hf b s hb) (hv0 b s hb)
      obtain⟨u,m1,m2⟩:=Tz hc.tt k3.tmp hv1 rfl hq q2
      obtain⟨n1,n2,n3⟩:=jr hT k3.tmp k3.size m1
      refine⟨o,u,ho,.inl ⟨k5,fun w' hS=>m2 w' (have hq:(!(gr||b))=true→Inv e.I w'∧HWq e C0 w' H0:=fun hm=>?_;⟨fun hm=>(hq hm).2,hq⟩)⟩,wz hc hf hv0 hQ hy q3 ⟨n1,n2,n3.trans k3.defers,k3.mem⟩ (by rw[show(⟨T',st1.H⟩:St).H=st.H from k4];exact hL)⟩
      have hm:gr=false∧b=false:=by simpa using hm
      have hL0:=hL.lnk hm.2
      have hS:=hS hm.2
      exact⟨by rw[hL0.I hm.1];exact hS.1,fun b s hb hl=>ahI hL0.le (DN (hv0 b s hb) hl) hl rfl (hS.2 b s hb hl)⟩
     cases h
    cases h
   cases h
  ·rename_i st1 qs1 p1 hk
   split at h
   ·rename_i T' hT
    split at h
    ·rename_i y hy
     injection h with h
     subst h
     obtain⟨q1,q2⟩:=dN.app hp
     obtain⟨k3,k4,k5⟩:=qC hk q1 hR
     obtain⟨n1,n2,n3⟩:=jr hT k3.tmp k3.size (by unfold VR;rfl:VR e (.raw undef) undef)
     exact⟨o,undef,ho,.inr ⟨k5,rfl⟩,wz hc hf hv0 hQ hy q2 ⟨n1,n2,n3.trans k3.defers,k3.mem⟩ (by rw[show(⟨T',st1.H⟩:St).H=st.H from k4];exact hL)⟩
    cases h
   cases h
  cases h

 |.l i r,b,gr,st,qs,p,h,hp,e,C,a,w,hR,hL=>by
  simp only[runT] at h
  exact OG hc h hp hR hL fun gr1 st1 qs1 p1 h1 hp1 e1 C1 a1 w1 hR1 hL1=>wz hc hf hv0 hQ h1 hp1 hR1 hL1
 |.alt i ri r,b,gr,st,qs,p,h,hp,e,C,a,w,hR,hL=>by
  simp only[runT] at h
  split at h
  ·split at h
   ·rename_i p1 h1
    split at h
    ·rename_i p2 h2
     injection h with h
     subst h
     obtain⟨q1,q2⟩:=dN.app hp
     exact⟨OG hc h1 q1 hR hL fun gr1 st1 qs1 p1 h1 hp1 e1 C1 a1 w1 hR1 hL1=>wz hc hf hv0 hQ h1 hp1 hR1 hL1,wz hc hf hv0 hQ h2 q2 hR hL⟩
    cases h
   cases h
  cases h
structure CR where
 x:Exit
 st:St
 qs:List Ans
 p:List Prop
def Code.kd:Code→Nat
 |.loop _=>0
 |.cond _ _ _=>1
 |.block id _=>6+2*id
 |.region id _ _=>7+2*id
 |.seq _ _=>4
 |_=>5
def pre(A:Code→Exit→St→St→Prop)(k0:Nat)(code:Code)(st:St)(qs:List Ans)(k:Option CR):Option CR:=match qs with
 |.part gs kd keys n x T H::qs'=>match Nat.beq kd (Code.kd code) with
  |true=>match gos st gs with
   |some ⟨st0,[],p,_,_⟩=>match TN k0 keys n st0 with
    |some st1=>some ⟨x,⟨T,H⟩,qs',p++[A code x ⟨T,H⟩ st1]⟩
    |none=>none
   |_=>none
  |false=>k
 |_=>k
def ak7(id:Nat):List Ans→Bool
 |.seg id' _ _ _ _ _ _::_=>Nat.beq id' id
 |_=>false
def Bl(B:List Nat→St→St→Prop)(k0:Nat):List Ans→List Nat→St→Option (St×List Ans×List Prop)
 |.seg _ gs m keys k T H::qs,l,st=>match gos st gs with
  |some ⟨st0,[],p,_,_⟩=>match TN k0 keys k st0 with
   |some st1=>match l.drop m with
    |[]=>some (⟨T,H⟩,qs,p++[B (l.take m) ⟨T,H⟩ st1])
    |x::l'=>match Bl B k0 qs (x::l') ⟨T,H⟩ with
     |some (st',qs',p')=>some (st',qs',p++(B (l.take m) ⟨T,H⟩ st1::p'))
     |none=>none
   |none=>none
  |_=>none
 |_,_,_=>none
def aaY(ops:Array Oper)(l:List (Bool×Nat))(L:Option Nat):Bool:=Region.noSelect ops&&Nat.ble l.length ops.size&&uI ops l (Array.replicate ops.size false)&&endsB (L.getD ops.size) l&&(match L with|some n=>lastT ops n|none=>l.all fun z=>Nat.blt z.2 ops.size)
def opsOf:Code→Array Oper
 |.region _ ops _=>ops
 |_=>#[]
def exec(A:Code→Exit→St→St→Prop)(B:Code→List Nat→St→St→Prop)(P:Program)(G:Gh→Prop)(tt:TT)(nt k0:Nat):Code→St→List Ans→Option CR
 |.skip,st,qs=>pre A k0 .skip st qs (some ⟨.normal,st,qs,[]⟩)
 |.label l,st,qs=>pre A k0 (.label l) st qs (some ⟨.normal,st,qs,[]⟩)
 |.region id ops draw,st,qs=>pre A k0 (.region id ops draw) st qs (match draw with
  |false=>match ak7 id qs with
   |true=>match Bl (B (.region id ops draw)) k0 qs (List.range ops.size) st with
    |some (st',qs',p)=>some ⟨.normal,st',qs',p⟩
    |none=>none
   |false=>match OA P G tt nt ops (2*id+2) (List.range ops.size) st qs with
    |some r=>some ⟨.normal,r.st,r.qs,r.p⟩
    |none=>none
  |true=>match qs with
   |.order l L ch::qs'=>match Region.noSelect ops&&Nat.ble l.length ops.size&&uI ops l (Array.replicate ops.size false)&&endsB (L.getD ops.size) l&&(match L with|some n=>lastT ops n|none=>l.all fun z=>Nat.blt z.2 ops.size) with
    |true=>match runM P G tt nt ops (2*id+2) (oq ch 0 st.H) (L.getD ops.size) ch l false st qs' with
     |some r=>some ⟨.normal,r.st,r.qs,r.p⟩
     |none=>none
    |false=>none
   |.nZ l L ch::qs'=>match runM P G tt nt ops (2*id+2) (oq ch 0 st.H) (L.getD ops.size) ch l false st qs' with
    |some r=>some ⟨.normal,r.st,r.qs,(aaY ops l L=true)::r.p⟩
    |none=>none
   |.eG t L ch aq keys k T H::qs'=>match Region.noSelect ops&&Nat.ble t.len ops.size&&rtB ops t (Array.replicate ops.size false)&&(match L with|some n=>V7 ops n|none=>true) with
    |true=>match runT P G tt nt k0 ops (2*id+2) (oq ch 0 st.H) (L.getD ops.size) ch keys k ⟨T,H⟩ t false false st aq with
     |some p=>some ⟨.normal,⟨T,H⟩,qs',p⟩
     |none=>none
    |false=>none
   |_=>none)
 |.seq x y,st,qs=>pre A k0 (.seq x y) st qs (match exec A B P G tt nt k0 x st qs with
  |some r=>match r.x with
   |.normal=>match exec A B P G tt nt k0 y r.st r.qs with
    |some s=>some ⟨s.x,s.st,s.qs,r.p++s.p⟩
    |none=>none
   |_=>some r
  |none=>none)
 |.cond o x y,st,qs=>pre A k0 (.cond o x y) st qs (match qs with
  |.br b::qs'=>match ev st.T o with
   |some (.lf (.bool t))=>match b with
    |true=>match exec A B P G tt nt k0 x st qs' with
     |some r=>some ⟨r.x,r.st,r.qs,(t=true)::r.p⟩
     |none=>none
    |false=>match exec A B P G tt nt k0 y st qs' with
     |some r=>some ⟨r.x,r.st,r.qs,(t=false)::r.p⟩
     |none=>none
   |_=>none
  |_=>none)
 |.block id x,st,qs=>pre A k0 (.block id x) st qs (match exec A B P G tt nt k0 x st qs with
  |some r=>match r.x with
   |.exit id'=>match Nat.beq id' id with
    |true=>some ⟨.normal,r.st,r.qs,r.p⟩
    |false=>some r
   |_=>some r
  |none=>none)
 |.loop x,st,qs=>pre A k0 (.loop x) st qs none
 |.exit id,st,qs=>pre A k0 (.exit id) st qs (match Ej 1 id st qs with
  |some g=>some ⟨.exit id,g.st,g.qs,g.p⟩
  |none=>none)
 |.scope x,st,qs=>pre A k0 (.scope x) st qs (match exec A B P G tt nt k0 x st qs with
  |some r=>match r.x with
   |.goto _=>none
   |_=>some r
  |none=>none)
 |.ret,st,qs=>pre A k0 .ret st qs (match Ej 0 0 st qs with
  |some g=>some ⟨.ret,g.st,g.qs,g.p⟩
  |none=>none)
 |_,_,_=>none
structure Ctx.Full (c:Ctx):Prop extends c.Ok where
 mixed:c.P.follows .mixedOrders=true
theorem qE{A:Code→Exit→St→St→Prop}{c:Ctx}(hA:∀code x st' st,A code x st' st→AW c code x st' st)(hc:c.Ok){code:Code}{st:St}{qs:List Ans}{k:Option CR}{r:CR}(h:pre A c.k0 code st qs k=some r)(hp:dN r.p)(hk:k=some r→AW c code r.x r.st st):AW c code r.x r.st st:=by
 unfold pre at h
 split at h
 ·split at h
  ·split at h
   ·rename_i st0 p ch gr hg
    split at h
    ·rename_i st1 hs
     injection h with h
     subst h
     obtain⟨p1,p2⟩:=dN.app hp
     intro e C a w hR
     obtain⟨e',C',k1,_⟩:=Bg hc hg p1 e C a w hR
     exact hA _ _ _ _ p2.1 _ C' a w (sF hc hs k1)
    cases h
   cases h
  exact hk h
 exact hk h
theorem yw{P:Program}{ops:Array Oper}{Q:Exit→Act→World→Prop}{S:World→Prop}{L:Nat}:∀{l:List (Bool×Nat)} {a:Act} {w:World},(∀z∈l,z.2≠L)→mZ P ops Q S L l a w→tX P ops Q S l a w
 |[],a,w,_,h=>h
 |(true,i)::r,a,w,hl,h=>by
  obtain⟨o,v,h1,h2,h3⟩:=h
  exact⟨o,v,h1,h2,yw (fun z hz=>hl z (by simp[hz])) h3⟩
 |(false,i)::r,a,w,hl,h=>wpOp_mono (fun a' w' h1=>⟨h1.1 (hl (false,i) (by simp)),yw (fun z hz=>hl z (by simp[hz])) h1.2⟩) h
theorem En{ch:List Nat}{k:Nat}{H:List Slot}{b:Nat}{s:Slot}(h:(oq ch k H)[b]?=some s):s≠Slot.free:=by
 rcases qO H k b s h with rfl|⟨_,h2,_⟩
 all_goals grind
theorem Yg{B:List Nat→St→St→Prop}{c:Ctx}{ops:Array Oper}(hB:∀l st' st,B l st' st→AWo c ops l st' st)(hc:c.Ok){Q:Exit→Act→World→Prop}:∀{qs:List Ans} {l:List Nat} {st st':St} {qs':List Ans} {p:List Prop},Bl B c.k0 qs l st=some (st',qs',p)→dN p→∀{e:Env} {C:Nat→List Value} {a:Act} {w:World},Rep c e C st a w→
 (∀e' C' a' w',Rep c e' C' st' a' w'→Q .normal a' w')→wpOps c.P ops Q l a w:=by
 intro qs
 induction qs with
 |nil=>intro l st st' qs' p h;unfold Bl at h;cases h
 |cons q qs ih=>
  intro l st st' qs' p h hp e C a w hR hQ
  cases q with
  |seg id gs m keys k T H=>
   simp only[Bl] at h
   split at h
   ·rename_i st0 p1 ch gr hg
    split at h
    ·rename_i st1 hs
     split at h
     ·rename_i hd
      injection h with h;injection h with h3 h4;injection h4 with h4 h5
      subst h3 h4 h5
      obtain⟨q1,q2⟩:=dN.app hp
      obtain⟨e',C',k1,_⟩:=Bg hc hg q1 e C a w hR
      have:=hB _ _ _ q2.1 Q [] _ C' a w (sF hc hs k1) hQ
      rw[List.append_nil] at this
      have hl:l.take m=l:=by
       have:=List.take_append_drop m l
       grind
      grind
     rename_i x l' hd
     split at h
     ·rename_i st2 qs2 p2 hr
      injection h with h;injection h with h3 h4;injection h4 with h4 h5
      subst h3 h4 h5
      obtain⟨q1,q2⟩:=dN.app hp
      obtain⟨e',C',k1,_⟩:=Bg hc hg q1 e C a w hR
      have:=hB _ _ _ q2.1 Q (x::l') _ C' a w (sF hc hs k1) (fun e2 C2 a2 w2 hR2=>ih hr q2.2 hR2 hQ)
      rw[←hd,List.take_append_drop] at this
      omega
     cases h
    cases h
   cases h
  |_=>simp only[Bl] at h;cases h
theorem Wh{c:Ctx}(hc:c.Full){id:Nat}{ops:Array Oper}{l:List (Bool×Nat)}{L:Option Nat}{ch:List Nat}{st:St}{qs:List Ans}{y:OR}(hb:aaY ops l L=true)(hy:runM c.P c.G c.tt c.nt ops (2*id+2) (oq ch 0 st.H) (L.getD ops.size) ch l false st qs=some y)(hp:dN y.p):AW c (.region id ops true) .normal y.st st:=by
 unfold aaY at hb
 simp only[Bool.and_eq_true] at hb
 obtain⟨⟨⟨⟨b1,b2⟩,b3⟩,b4⟩,b5⟩:=hb
 intro e C a w hR
 have hRd:Rep c e C st a w.drew:=⟨hR.tmp,hR.size,hR.defers,hR.mem.drew⟩
 have hv0:HVs e C (oq ch 0 st.H):=fun b s hs=>by
  rcases qO st.H 0 b s hs with rfl|⟨h1,_,_⟩
  ·trivial
  exact hR.mem.hv b s h1
 have hL:Lnk false e C (oq ch 0 st.H) ch e C st.H:=⟨Env.le.refl e,fun _=>rfl,fun b s hs hl=>by
  rcases qO st.H 0 b s hs with rfl|⟨h1,_,h3⟩
  ·cases hl
  exact⟨by simpa using h3,s,h1,hl,fun _ h=>h⟩⟩
 have hS:=hL.Ye hRd.mem
 have hrun:=fun Q hQ=>zn hc.toOk (ops:=ops) (Q:=Q) (fun b s hs=>En hs) hv0 hy b4 hp hRd hL hQ
 cases L with
 |some n=>
  exact uJ (TL e C (oq ch 0 st.H)) n l hc.mixed b1 (decide_eq_true (Nat.le_of_ble_eq_true b2)) b3 b5 b4 hS (hrun _ fun e' C' a' w' h'=>(⟨rfl,e',C',h'⟩:_∧_))
 |none=>
  refine xR (TL e C (oq ch 0 st.H)) l hc.mixed b1 (decide_eq_true (Nat.le_of_ble_eq_true b2)) b3 hS (yw (L:=ops.size) (fun z hz=>?_) (hrun _ fun e' C' a' w' h'=>(⟨rfl,e',C',h'⟩:_∧_)))
  have:=Bj (List.all_eq_true.1 b5 z hz)
  omega
theorem qh{A:Code→Exit→St→St→Prop}{B:Code→List Nat→St→St→Prop}{c:Ctx}(hA:∀code x st' st,A code x st' st→AW c code x st' st)(hB:∀id ops draw l st' st,B (.region id ops draw) l st' st→AWo c ops l st' st)(hc:c.Full):∀{code:Code} {st:St} {qs:List Ans} {r:CR},exec A B c.P c.G c.tt c.nt c.k0 code st qs=some r→dN r.p→AW c code r.x r.st st
 |.skip,st,qs,r,h,hp=>qE hA hc.toOk h hp fun h=>by
  injection h with h;subst h
  exact fun e C a w hR=>wp_skip ⟨rfl,e,C,hR⟩
 |.label l,st,qs,r,h,hp=>qE hA hc.toOk h hp fun h=>by
  injection h with h;subst h
  exact fun e C a w hR=>wp_label ⟨rfl,e,C,hR⟩
 |.ret,st,qs,r,h,hp=>qE hA hc.toOk h hp fun h=>by
  split at h
  ·rename_i g hg
   injection h with h;subst h
   intro e C a w hR
   obtain⟨e',C',k1,_⟩:=nO hc.toOk hg hp e C a w hR
   exact wp_ret ⟨rfl,e',C',k1⟩
  cases h
 |.exit id,st,qs,r,h,hp=>qE hA hc.toOk h hp fun h=>by
  split at h
  ·rename_i g hg
   injection h with h;subst h
   intro e C a w hR
   obtain⟨e',C',k1,_⟩:=nO hc.toOk hg hp e C a w hR
   exact wp_exit ⟨rfl,e',C',k1⟩
  cases h
 |.loop x,st,qs,r,h,hp=>qE hA hc.toOk h hp fun h=>by cases h
 |.region id ops draw,st,qs,r,h,hp=>qE hA hc.toOk h hp fun h=>by
  split at h
  ·split at h
   ·split at h
    ·rename_i st' qs' p hy
     injection h with h;subst h
     exact fun e C a w hR=>wp_region (Yg (hB _ _ _) hc.toOk hy hp hR fun e' C' a' w' h'=>⟨rfl,e',C',h'⟩)
    cases h
   split at h
   ·rename_i y hy
    injection h with h;subst h
    exact fun e C a w hR=>wp_region (afx hc.toOk hy hp hR fun e' C' a' w' h'=>⟨rfl,e',C',h'⟩)
   cases h
  split at h
  ·rename_i l L ch qs' h0
   clear h0
   split at h
   ·rename_i hb
    split at h
    ·rename_i y hy
     injection h with h;subst h
     exact Wh hc hb hy hp
    cases h
   cases h
  ·rename_i l L ch qs' h0
   clear h0
   split at h
   ·rename_i y hy
    injection h with h;subst h
    exact Wh hc hp.1 hy hp.2
   cases h
  ·rename_i t L ch aq keys k T H qs' h0
   clear h0
   split at h
   ·rename_i hb
    simp only[Bool.and_eq_true] at hb
    obtain⟨⟨⟨b1,b2⟩,b3⟩,b5⟩:=hb
    split at h
    ·rename_i y hy
     injection h with h;subst h
     intro e C a w hR
     have hRd:Rep c e C st a w.drew:=⟨hR.tmp,hR.size,hR.defers,hR.mem.drew⟩
     have hv0:HVs e C (oq ch 0 st.H):=fun b s hs=>by
      rcases qO st.H 0 b s hs with rfl|⟨h1,_,_⟩
      ·trivial
      exact hR.mem.hv b s h1
     have hL:Lnk false e C (oq ch 0 st.H) ch e C st.H:=⟨Env.le.refl e,fun _=>rfl,fun b s hs hl=>by
      rcases qO st.H 0 b s hs with rfl|⟨h1,_,h3⟩
      ·cases hl
      exact⟨by simpa using h3,s,h1,hl,fun _ h=>h⟩⟩
     have hS:=hL.Ye hRd.mem
     refine LD (TL e C (oq ch 0 st.H)) (L.getD ops.size) t hc.mixed b1 b2 b3 ?_ hS (wz hc.toOk (fun b s hs=>En hs) hv0 (fun e' C' a' w' h'=>(⟨rfl,e',C',h'⟩:_∧_)) hy hp hRd ⟨hL.le,fun _=>hL⟩)
     cases L with
     |some n=>simp only[Option.getD_some];rw[Bool.or_eq_true];exact .inl b5
     |none=>simp
    cases h
   cases h
  cases h
 |.seq x y,st,qs,r,h,hp=>qE hA hc.toOk h hp fun h=>by
  split at h
  ·rename_i r1 h1
   split at h
   ·rename_i hx
    split at h
    ·rename_i s h2
     injection h with h;subst h
     obtain⟨p1,p2⟩:=dN.app hp
     have k1:=qh hA hB hc h1 p1
     have k2:=qh hA hB hc h2 p2
     intro e C a w hR
     refine wp_seq (Code.wp_mono ?_ (k1 e C a w hR))
     rintro x' a' w' ⟨rfl,e',C',hR'⟩
     rw[hx]
     exact k2 e' C' a' w' hR'
    cases h
   rename_i hx
   injection h with h;subst h
   have k1:=qh hA hB hc h1 hp
   intro e C a w hR
   refine wp_seq (Code.wp_mono ?_ (k1 e C a w hR))
   rintro x' a' w' ⟨rfl,e',C',hR'⟩
   cases hxx:r1.x with
   |normal=>exact absurd hxx hx
   |exit id=>exact⟨rfl,e',C',hR'⟩
   |goto l=>exact⟨rfl,e',C',hR'⟩
   |ret=>exact⟨rfl,e',C',hR'⟩
   |panic ch=>exact⟨rfl,e',C',hR'⟩
   |outgrown=>exact⟨rfl,e',C',hR'⟩
  cases h
 |.cond o x y,st,qs,r,h,hp=>qE hA hc.toOk h hp fun h=>by
  split at h
  ·rename_i b qs'
   split at h
   ·rename_i t ht
    split at h
    ·split at h
     ·rename_i r1 h1
      injection h with h;subst h
      have k1:=qh hA hB hc h1 hp.2
      intro e C a w hR
      have hb:=(dh hR.tmp ht).bool
      have htt:t=true:=hp.1
      subst htt
      exact wp_cond_true hb (k1 e C a w hR)
     cases h
    split at h
    ·rename_i r1 h1
     injection h with h;subst h
     have k1:=qh hA hB hc h1 hp.2
     intro e C a w hR
     have hb:=(dh hR.tmp ht).bool
     have htt:t=false:=hp.1
     subst htt
     exact wp_cond_false hb (k1 e C a w hR)
    cases h
   cases h
  cases h
 |.block id x,st,qs,r,h,hp=>qE hA hc.toOk h hp fun h=>by
  split at h
  ·rename_i r1 h1
   have fin:dN r1.p→(∀e' C' a' w',Rep c e' C' r1.st a' w'→Exit.inBlock id (fun x' a' w'=>x'=r.x∧∃e' C',Rep c e' C' r.st a' w') r1.x a' w')→AW c (.block id x) r.x r.st st:=fun hp hq e C a w hR=>by
    refine wp_block (Code.wp_mono ?_ (qh hA hB hc h1 hp e C a w hR))
    rintro x' a' w' ⟨rfl,e',C',hR'⟩
    exact hq e' C' a' w' hR'
   split at h
   ·rename_i id' hx
    split at h
    ·rename_i hb
     have hb:=dX hb
     injection h with h;subst h
     refine fin hp fun e' C' a' w' hR'=>?_
     rw[hx]
     simp only[Exit.inBlock,hb,if_true]
     exact⟨trivial,e',C',hR'⟩
    rename_i hb
    injection h with h;subst h
    refine fin hp fun e' C' a' w' hR'=>?_
    rw[hx]
    have hne:id'≠id:=by rintro rfl;simp at hb
    simp only[Exit.inBlock,hne,if_false]
    exact⟨trivial,e',C',hR'⟩
   rename_i hx
   injection h with h;subst h
   refine fin hp fun e' C' a' w' hR'=>?_
   cases hxx:r1.x with
   |exit id'=>exact absurd hxx (hx id')
   |normal=>exact⟨rfl,e',C',hR'⟩
   |goto l=>exact⟨rfl,e',C',hR'⟩
   |ret=>exact⟨rfl,e',C',hR'⟩
   |panic ch=>exact⟨rfl,e',C',hR'⟩
   |outgrown=>exact⟨rfl,e',C',hR'⟩
  cases h
 |.scope x,st,qs,r,h,hp=>qE hA hc.toOk h hp fun h=>by
  split at h
  ·rename_i r1 h1
   split at h
   ·cases h
   rename_i hx
   injection h with h;subst h
   intro e C a w hR
   refine wp_scope_straight (Code.wp_mono ?_ (qh hA hB hc h1 hp e C a w hR))
   rintro x' a' w' ⟨rfl,e',C',hR'⟩
   cases hxx:r1.x with
   |goto l=>exact absurd hxx (hx l)
   |exit id'=>exact⟨rfl,e',C',hR'⟩
   |normal=>exact⟨rfl,e',C',hR'⟩
   |ret=>exact⟨rfl,e',C',hR'⟩
   |panic ch=>exact⟨rfl,e',C',hR'⟩
   |outgrown=>exact⟨rfl,e',C',hR'⟩
  cases h
 |.rangeFunc ..,st,qs,r,h,hp=>by simp[exec] at h
 |.goto ..,st,qs,r,h,hp=>by simp[exec] at h
 |.refuse ..,st,qs,r,h,hp=>by simp[exec] at h
def LoopIn(P:Program)(c:Code)(Q:Exit→Act→World→Prop)(a:Act)(w:World):Prop:=
 ∀(b:Frame) (k:List Item) (cs:List Frame),∃e a' w',Q e a' w'∧Arrives P (lone (b.at a (.code c::.inLoop c::k)) cs w) b k cs e a' w'
theorem LoopIn.loop{P:Program}{c:Code}{Q:Exit→Act→World→Prop}{a:Act}{w:World}(h:LoopIn P c Q a w):(Code.loop c).wp P Q a w:=fun b k cs=>by
 obtain⟨e,a',w',hq,harr⟩:=h b k cs
 exact⟨e,a',w',hq,.of_steps (.one step_loop) harr⟩
theorem LoopIn.step{P:Program}{c:Code}{Q:Exit→Act→World→Prop}{a:Act}{w:World}(h:c.wp P (Exit.then (fun a w=>LoopIn P c Q a w) Q) a w):LoopIn P c Q a w:=fun b k cs=>by
 obtain⟨e,a₁,w₁,hq,harr⟩:=h b (.inLoop c::k) cs
 cases e with
 |normal=>
  obtain⟨e₂,a₂,w₂,hq₂,harr₂⟩:=hq b k cs
  exact⟨e₂,a₂,w₂,hq₂,.of_steps (Steps.trans harr (.one step_inLoop)) harr₂⟩
 |exit id=>exact⟨_,a₁,w₁,hq,.pass (x:=.inLoop c) rfl (fun _ _=>.inl (by simp)) harr⟩
 |goto l=>exact⟨_,a₁,w₁,hq,.pass (x:=.inLoop c) rfl (fun _ _=>.inl (by simp)) harr⟩
 |ret=>exact⟨_,a₁,w₁,hq,.pass (x:=.inLoop c) rfl (fun _ _=>.inl (by simp)) harr⟩
 |panic ch=>exact⟨_,a₁,w₁,hq,.pass (x:=.inLoop c) rfl (fun _ _=>.inl (by simp)) harr⟩
 |outgrown=>exact⟨_,a₁,w₁,hq,.pass (x:=.inLoop c) rfl (fun _ _=>.inl (by simp)) harr⟩
def AL(c:Ctx)(body:Code)(x:Exit)(st' st:St):Prop:=
 ∀e C a w,Rep c e C st a w→LoopIn c.P body (fun x' a' w'=>x'=x∧∃e' C',Rep c e' C' st' a' w') a w
theorem AL.loop{c:Ctx}{body:Code}{x:Exit}{st' st:St}(h:AL c body x st' st):AW c (.loop body) x st' st:=fun e C a w hR=>(h e C a w hR).loop
theorem AL.next{c:Ctx}{body:Code}{x:Exit}{st' st st1:St}(h:AW c body .normal st1 st)(k:AL c body x st' st1):AL c body x st' st:=fun e C a w hR=>
 LoopIn.step (Code.wp_mono (by
  rintro x' a' w' ⟨rfl,e',C',h'⟩
  exact k e' C' a' w' h') (h e C a w hR))
def zq:Exit→Bool
 |.normal=>false
 |_=>true
theorem AL.stop{c:Ctx}{body:Code}{x:Exit}{st' st:St}(h:AW c body x st' st)(hx:zq x=true):AL c body x st' st:=fun e C a w hR=>
 LoopIn.step (Code.wp_mono (by
  rintro x' a' w' ⟨rfl,e',C',h'⟩
  cases x' with
  |normal=>cases hx
  |exit id=>exact⟨rfl,e',C',h'⟩
  |goto l=>exact⟨rfl,e',C',h'⟩
  |ret=>exact⟨rfl,e',C',h'⟩
  |panic ch=>exact⟨rfl,e',C',h'⟩
  |outgrown=>exact⟨rfl,e',C',h'⟩) (h e C a w hR))
structure Sur (k0:Nat) where
 w0:World
 I0:Gh
 wr:Nat→Prop
 e0:Env
 hk:∀b,e0.ok b→b<k0
 df:List Deferred
def mkC(P:Program)(G:Gh→Prop)(tt:TT)(nt:Nat){k0:Nat}(s:Sur k0):Ctx:=⟨P,tt,s.w0,s.I0,G,s.wr,nt,s.e0,k0,s.df⟩
structure Base (P:Program) (G:Gh→Prop) (tt:TT):Prop where
 tt:ttb P tt=true
 G:∀I I',Le I I'→G I→G I'
 mixed:P.follows .mixedOrders=true
theorem Base.full{P:Program}{G:Gh→Prop}{tt:TT}(h:Base P G tt)(nt:Nat){k0:Nat}(s:Sur k0):(mkC P G tt nt s).Full:={ tt:=h.tt,G:=h.G,k0:=s.hk,mixed:=h.mixed }
def AWa(P:Program)(G:Gh→Prop)(tt:TT)(nt k0:Nat)(code:Code)(x:Exit)(st' st:St):Prop:=∀s:Sur k0,AW (mkC P G tt nt s) code x st' st
def afz(P:Program)(G:Gh→Prop)(tt:TT)(nt k0:Nat)(code:Code)(l:List Nat)(st' st:St):Prop:=match code with
 |.region _ ops _=>∀s:Sur k0,AWo (mkC P G tt nt s) ops l st' st
 |_=>False
def ex(P:Program)(G:Gh→Prop)(tt:TT)(nt k0:Nat)(code:Code)(st:St)(qs:List Ans):Option CR:=exec (AWa P G tt nt k0) (afz P G tt nt k0) P G tt nt k0 code st qs
theorem ahL{P:Program}{G:Gh→Prop}{tt:TT}(hB:Base P G tt){nt k0:Nat}(s:Sur k0){code:Code}{st st':St}(qs:List Ans){x:Exit}(p:List Prop)(h:ex P G tt nt k0 code st qs=some ⟨x,st',[],p⟩)(hp:dN p):AW (mkC P G tt nt s) code x st' st:=
 qh (c:=mkC P G tt nt s) (fun _ _ _ _ h=>h s) (fun _ _ _ _ _ _ h=>h s) (hB.full nt s) (r:=⟨x,st',[],p⟩) h hp
def Code.sub:Code→List Nat→Code
 |c,[]=>c
 |.seq x _,0::p=>Code.sub x p
 |.seq _ y,_::p=>Code.sub y p
 |.cond _ x _,0::p=>Code.sub x p
 |.cond _ _ y,_::p=>Code.sub y p
 |.block _ x,_::p=>Code.sub x p
 |.loop x,_::p=>Code.sub x p
 |.scope x,_::p=>Code.sub x p
 |c,_::_=>c
def bodyC(fn:Func):Code:=fn.body.getD .skip
def OH(tt:TT)(st:St):List ResultVar→Option (List AV)
 |[]=>some []
 |.tmp t::r=>match lk st.T t with
  |some v=>match OH tt st r with
   |some l=>some (v.asT::l)
   |none=>none
  |none=>none
 |.cell a t::r=>match lk st.T a with
  |some (.ptr b p)=>match jm tt t with
   |some i=>match st.H[b]? with
    |some (.box _ cs)=>match Ic i cs p with
     |some v=>match OH tt st r with
      |some l=>some (v.asT::l)
      |none=>none
     |none=>none
    |_=>none
   |none=>none
  |_=>none
def resV:List AV→AV
 |[x]=>x
 |l=>.tup l
def Yh(tmps:Array Value):ResultVar→Sem Value
 |.tmp t=>pure (tmps.getD t undef)
 |.cell a t=>do loadVar t (←asAddr (tmps.getD a undef))
theorem TP(fn:Func)(tmps:Array Value):results fn tmps=(do
 let vs ←fn.results.mapM (Yh tmps)
 pure (if h:vs.size=1 then vs[0] else .tuple vs)):=by
 rfl
theorem LG{c:Ctx}(hc:c.Ok){st:St}{e:Env}{C:Nat→List Value}{a:Act}{w:World}(hR:Rep c e C st a w):∀{rs:List ResultVar} {l:List AV},OH c.tt st rs=some l→
 ∃vs,(rs.mapM (Yh a.tmps)).run c.P w=.ok vs w∧VRs e l vs
 |[],l,h=>by
  simp only[OH] at h;injection h with h;subst h
  exact⟨[],by simp,VRs.nil⟩
 |.tmp t::r,l,h=>by
  simp only[OH] at h
  split at h
  ·rename_i v hv
   split at h
   ·rename_i q hq
    injection h with h;subst h
    obtain⟨vs,h1,h2⟩:=LG hc hR hq
    obtain⟨u,k1,k2⟩:=hR.tmp t v hv
    refine⟨u::vs,?_,VRs.cons k2.asT h2⟩
    rw[List.mapM_cons]
    have hg:a.tmps.getD t undef=u:=by rw[Array.getD_eq_getD_getElem?,k1];rfl
    simp only[Yh,hg,Sem.run_bind,Sem.run_pure,Result.andThen_ok,h1]
   cases h
  cases h
 |.cell x t::r,l,h=>by
  simp only[OH] at h
  split at h
  ·rename_i b p hx
   split at h
   ·rename_i i hi
    split at h
    ·rename_i ty cs hb
     split at h
     ·rename_i v hv
      split at h
      ·rename_i q hq
       injection h with h;subst h
       obtain⟨vs,h1,h2⟩:=LG hc hR hq
       obtain⟨u,k1,k2⟩:=hR.tmp x _ hx
       unfold VR at k2
       have hvb:=hR.mem.hv b _ hb
       obtain⟨z,m1,m2⟩:=DL hc.tt hi hv hvb.2 (e.m b) 0
       have hw2:=hR.mem.hw b _ hb
       have:=m2 w (fun j v hj=>by rw[Nat.zero_add,lq hw2 j];simpa using hj)
       rw[Nat.zero_add] at this
       have hld:(loadVar t ⟨e.m b,p,none⟩).run c.P w=.ok z w:=by
        simpa[Instr.loadAt,Instr.sureAddr] using this
       refine⟨z::vs,?_,VRs.cons m1.asT h2⟩
       rw[List.mapM_cons]
       have hg:a.tmps.getD x undef=.pointer (some ⟨e.m b,p,none⟩):=by rw[Array.getD_eq_getD_getElem?,k1,k2.2];rfl
       simp only[Yh,hg,asAddr,Sem.run_bind,Sem.run_pure,Result.andThen_ok,hld,h1]
      cases h
     cases h
    cases h
   cases h
  cases h
def uK:Nat→List AV→List (Nat×AV)
 |_,[]=>[]
 |k,x::r=>(k,x)::uK (k+1) r
theorem Bo{e:Env}:∀{l:List AV} {vs pre post:List Value},VRs e l vs→iP e (uK pre.length l) (pre++vs++post).toArray
 |[],vs,pre,post,h=>fun t v hv=>by cases hv
 |x::r,vs,pre,post,h=>by
  unfold VRs at h
  obtain⟨u,q,rfl,h1,h2⟩:=h
  have ih:=Bo (pre:=pre++[u]) (post:=post) h2
  intro t v hv
  unfold uK lk at hv
  split at hv
  ·simp_all
  rw[List.length_append] at ih
  obtain⟨z,k1,k2⟩:=ih t v hv
  grind
def amR:Exit→Bool
 |.normal=>true
 |.ret=>true
 |_=>false
theorem OI{P:Program}{fn:Func}{tmps:Array Value}{w:World}{rs:List Value}(k1:(fn.results.toList.mapM (Yh tmps)).run P w=.ok rs w):(results fn tmps).run P w=.ok (if h:rs.toArray.size=1 then rs.toArray[0] else .tuple rs.toArray) w:=by
 rw[TP]
 have hfr:fn.results=fn.results.toList.toArray:=by simp
 rw[hfr,List.mapM_toArray,map_eq_pure_bind]
 simp only[Sem.run_bind]
 rw[show Sem.run P (List.mapM (Yh tmps) fn.results.toList) w=.ok rs w from k1]
 rfl
theorem aaZ{e:Env}{l:List AV}{rs:List Value}(h:VRs e l rs):VR e (resV l) (if h:rs.toArray.size=1 then rs.toArray[0] else .tuple rs.toArray):=by
 have hlr:=VRs.len _ _ h
 cases l with
 |nil=>
  have:rs=[]:=List.eq_nil_of_length_eq_zero (by simpa using hlr)
  subst this
  exact VR.tup.2 ⟨[],rfl,VRs.nil⟩
 |cons y r=>
  cases r with
  |nil=>
   obtain⟨u,rfl⟩:∃u,rs=[u]:=List.length_eq_one_iff.1 (by simpa using hlr)
   obtain⟨z,h1,h2⟩:=VRs.at_ _ _ h 0 y rfl
   injection h1 with h1
   subst h1
   exact h2
  |cons y2 r=>
   have hne:rs.toArray.size≠1:=by simp at hlr ⊢;omega
   rw[dif_neg hne]
   exact VR.tup.2 ⟨rs,rfl,h⟩
def mv1(k0 b b':Nat)(st:St):Option St:=match Nat.ble k0 b' with
 |true=>mvR b b' st
 |false=>none
theorem aiY{c:Ctx}(hc:c.Ok){b b':Nat}{st st':St}(h:mv1 c.k0 b b' st=some st'){e:Env}{C:Nat→List Value}{a:Act}{w:World}(hR:Rep c e C st a w):∃e' C',Rep c e' C' st' a w:=by
 unfold mv1 at h
 split at h
 ·rename_i hk
  have hk:=Nat.le_of_ble_eq_true hk
  exact⟨_,_,aaS (fun x hx=>by have:=hc.k0 x hx;omega) h hR⟩
 cases h
def mvs(k0:Nat):List (Nat×Nat)→St→Option St
 |[],st=>some st
 |(b,b')::r,st=>match mv1 k0 b b' st with
  |some st1=>mvs k0 r st1
  |none=>none
theorem aa0{c:Ctx}(hc:c.Ok):∀{l:List (Nat×Nat)} {st st':St},mvs c.k0 l st=some st'→∀{e:Env} {C:Nat→List Value} {a:Act} {w:World},Rep c e C st a w→∃e' C',Rep c e' C' st' a w
 |[],st,st',h,e,C,a,w,hR=>by
  simp only[mvs] at h;injection h with h;subst h;exact⟨e,C,hR⟩
 |(b,b')::r,st,st',h,e,C,a,w,hR=>by
  simp only[mvs] at h
  split at h
  ·rename_i st1 h1
   obtain⟨e1,C1,k⟩:=aiY hc h1 hR
   exact aa0 hc h k
  cases h
structure Fit where
 gs:List Ans
 keys:List Nat
 mv:List (Nat×Nat)
 k:Nat
def OJ(k0:Nat)(f:Fit)(st:St):Option (St×List Prop):=match gos st f.gs with
 |some ⟨st1,[],p,_,_⟩=>match TN k0 f.keys st1.H.length st1 with
  |some st2=>match mvs k0 f.mv st2 with
   |some st3=>match TN k0 f.keys f.k st3 with
    |some st4=>some (st4,p)
    |none=>none
   |none=>none
  |none=>none
 |_=>none
theorem zu{c:Ctx}(hc:c.Ok){f:Fit}{st st':St}{p:List Prop}(h:OJ c.k0 f st=some (st',p))(hp:dN p){e:Env}{C:Nat→List Value}{a:Act}{w:World}(hR:Rep c e C st a w):∃e' C',Rep c e' C' st' a w:=by
 unfold OJ at h
 split at h
 ·rename_i st1 p1 ch gr hg
  split at h
  ·rename_i st2 h2
   split at h
   ·rename_i st3 h3
    split at h
    ·rename_i st4 h4
     injection h with h
     injection h with h1 h5
     subst h1 h5
     obtain⟨e1,C1,k1,_⟩:=Bg hc hg hp e C a w hR
     obtain⟨e3,C3,k3⟩:=aa0 hc h3 (sF hc h2 k1)
     exact⟨_,C3,sF hc h4 k3⟩
    cases h
   cases h
  cases h
 cases h
theorem AL.fix{c:Ctx}(hc:c.Ok){body:Code}{x:Exit}{st' st st1:St}(f:Fit){p:List Prop}(hs:OJ c.k0 f st=some (st1,p))(hp:dN p)(h:AL c body x st' st1):AL c body x st' st:=fun e C a w hR=>by
 obtain⟨e',C',hR'⟩:=zu hc hs hp hR
 exact h e' C' a w hR'
theorem AW.fix{c:Ctx}(hc:c.Ok){code:Code}{x:Exit}{st' st st1:St}(f:Fit){p:List Prop}(hs:OJ c.k0 f st=some (st1,p))(hp:dN p)(h:AW c code x st' st1):AW c code x st' st:=fun e C a w hR=>by
 obtain⟨e',C',hR'⟩:=zu hc hs hp hR
 exact h e' C' a w hR'
def exX(P:Program)(G:Gh→Prop)(tt:TT)(nt k0:Nat)(code:Code)(st:St)(qs:List Ans)(f:Fit):Option (Exit×St×List Prop):=
 match ex P G tt nt k0 code st qs with
 |some ⟨x,st1,[],p⟩=>match OJ k0 f st1 with
  |some (st2,p2)=>some (x,st2,p++p2)
  |none=>none
 |_=>none
theorem TQ{P:Program}{G:Gh→Prop}{tt:TT}(hB:Base P G tt){nt k0:Nat}(s:Sur k0){code:Code}{st st':St}(qs:List Ans)(f:Fit){x:Exit}(p:List Prop)(h:exX P G tt nt k0 code st qs f=some (x,st',p))(hp:dN p):AW (mkC P G tt nt s) code x st' st:=by
 unfold exX at h
 split at h
 ·rename_i x1 st1 p1 he
  split at h
  ·rename_i st2 p2 hs
   injection h with h
   injection h with h1 h2
   injection h2 with h2 h3
   subst h1 h2 h3
   obtain⟨q1,q2⟩:=dN.app hp
   intro e C a w hR
   refine Code.wp_mono ?_ (ahL hB s qs p1 he q1 e C a w hR)
   rintro x' a' w' ⟨rfl,e',C',h'⟩
   obtain⟨e2,C2,k⟩:=zu (c:=mkC P G tt nt s) (hB.full nt s).toOk hs q2 h'
   grind
  cases h
 cases h
def exO(P:Program)(G:Gh→Prop)(tt:TT)(nt k0:Nat)(code:Code)(l:List Nat)(st:St)(qs:List Ans)(f:Fit):Option (St×List Prop):=
 match code with
 |.region id ops _=>match OA P G tt nt ops (2*id+2) l st qs with
  |some ⟨st1,[],p,_,_⟩=>match OJ k0 f st1 with
   |some (st2,p2)=>some (st2,p++p2)
   |none=>none
  |_=>none
 |_=>none
theorem aiZ{P:Program}{G:Gh→Prop}{tt:TT}(hB:Base P G tt){nt k0:Nat}{code:Code}{l:List Nat}{st st':St}(qs:List Ans)(f:Fit)(p:List Prop)(h:exO P G tt nt k0 code l st qs f=some (st',p))(hp:dN p):afz P G tt nt k0 code l st' st:=by
 unfold exO at h
 split at h
 ·rename_i id ops dr
  intro s Q rest e C a w hR hQ
  split at h
  ·rename_i st1 p1 ch gr hr
   split at h
   ·rename_i st2 p2 hs
    injection h with h
    injection h with h1 h3
    subst h1 h3
    obtain⟨q1,q2⟩:=dN.app hp
    refine zk (c:=mkC P G tt nt s) (hB.full nt s).toOk hr q1 hR fun e' C' a' w' hR'=>?_
    obtain⟨e2,C2,k⟩:=zu (c:=mkC P G tt nt s) (hB.full nt s).toOk hs q2 hR'
    grind
   cases h
  cases h
 cases h
def OL(T:List (Nat×AV)):Nat→Nat→Option (List AV)
 |0,_=>some []
 |n+1,i=>match lk T i with
  |some v=>match OL T n (i+1) with
   |some l=>some (v::l)
   |none=>none
  |none=>none
theorem OM{e:Env}{T:List (Nat×AV)}:∀{n:Nat} {pre vs:List Value} {l:List AV},OL T n pre.length=some l→vs.length=n→iP e T (pre++vs).toArray→VRs e l vs
 |0,pre,vs,l,h,hn,_=>by
  injection h with h;subst h
  obtain rfl:=List.eq_nil_of_length_eq_zero hn
  rfl
 |n+1,pre,vs,l,h,hn,hT=>by
  unfold OL at h
  split at h
  ·rename_i v hv
   split at h
   ·rename_i q hq
    injection h with h;subst h
    cases vs with
    |nil=>simp at hn
    |cons u vs=>
     obtain⟨u',h1,h2⟩:=hT _ _ hv
     have:u=u':=by simpa using h1
     subst this
     refine VRs.cons h2 (OM (pre:=pre++[u]) (by simpa using hq) (by simpa using hn) (by simpa using hT))
   cases h
  cases h
def exF(P:Program)(G:Gh→Prop)(tt:TT)(fn:Func)(args:List AV)(H0:List Slot)(qs:List Ans)(f:Fit):Option (List AV×List Slot×List Prop):=
 match ex P G tt fn.ntmps H0.length (bodyC fn) ⟨uK 0 args,H0⟩ qs with
 |some ⟨x,st,[],p⟩=>match amR x with
  |true=>match OH tt st fn.results.toList with
   |some l=>match OJ H0.length f ⟨uK 0 l,st.H⟩ with
    |some (st2,p2)=>match OL st2.T l.length 0 with
     |some l2=>some (l2,st2.H,p++p2)
     |none=>none
    |none=>none
   |none=>none
  |false=>none
 |_=>none
theorem Mem.nt{c:Ctx}{e:Env}{C:Nat→List Value}{H:List Slot}{w:World}(h:Mem c e C H w)(n:Nat):Mem { c with nt:=n } e C H w:=
 ⟨h.hv,h.hw,h.bound,h.inj,h.av,h.mine,h.inv,h.le,h.fresh,h.ch,h.g,h.bse⟩
theorem Yi{P:Program}{G:Gh→Prop}{tt:TT}{nt:Nat}{args:List AV}{H0:List Slot}{e:Env}{C:Nat→List Value}{w:World}{vs:List Value}(hG:G e.I)(hM:mY e C H0 w)(hvs:VRs e args vs)(hnt:args.length≤nt)(s:Sur H0.length)(hs0:s=⟨w,e.I,blks e H0,e,hM.bound,[]⟩):
 Rep (mkC P G tt nt s) e C ⟨uK 0 args,H0⟩ { tmps:=vs.toArray++Array.replicate (nt-vs.toArray.size) undef,defers:=[] } w:=by
 have hlen:=VRs.len _ _ hvs
 refine⟨?_,?_,by subst hs0;rfl,⟨hM.hv,hM.hw,hM.bound,hM.inj,hM.av,fun b t g k1 k2=>?_,hM.inv,?_,fun b o v k1 k2=>?_,?_,hG,?_⟩⟩
 ·have:=Bo (pre:=[]) (post:=List.replicate (nt-vs.length) undef) hvs
  have e1:vs.toArray++Array.replicate (nt-vs.toArray.size) undef=([]++vs++List.replicate (nt-vs.length) undef).toArray:=by
   simp
  grind
 ·show(vs.toArray++Array.replicate _ undef).size=nt
  simp;omega
 ·subst hs0;exact .inr ⟨b,t,k1,k2⟩
 ·subst hs0;exact Le.refl _
 ·subst hs0
  have k2:e.I b o=none:=k2
  grind
 ·subst hs0;exact Only.refl _ _
 subst hs0;exact fun b hb=>⟨hb,rfl,rfl,fun _ _ h=>h⟩
theorem afA{P:Program}{G:Gh→Prop}{tt:TT}(hB:Base P G tt){fn:Func}{H0:List Slot}{e:Env}{C:Nat→List Value}{w:World}(hM:mY e C H0 w)(df:List Deferred)(s:Sur H0.length)(hs0:s=⟨w,e.I,blks e H0,e,hM.bound,df⟩){e':Env}{C':Nat→List Value}{st st2:St}{a':Act}{w':World}(hR':Rep (mkC P G tt fn.ntmps s) e' C' st a' w')
 {l1 l2:List AV} {ft:Fit} {p2:List Prop} (hl1:OH tt st fn.results.toList=some l1) (hs:OJ H0.length ft ⟨uK 0 l1,st.H⟩=some (st2,p2)) (q2:dN p2) (hl2:OL st2.T l1.length 0=some l2):
 ∃v,(results fn a'.tmps).run P w'=.ok v w'∧∃e2' C2' v',Ending.returned v=.returned v'∧GrH e H0 e2' st2.H w w'∧mY e2' C2' st2.H w'∧VR e2' (resV l2) v':=by
 have hok:(mkC P G tt fn.ntmps s).Ok:=(hB.full fn.ntmps s).toOk
 obtain⟨rs,k1,k2⟩:=LG hok hR' hl1
 have hlr:=VRs.len _ _ k2
 have hR2:Rep { mkC P G tt fn.ntmps s with nt:=rs.length } e' C' ⟨uK 0 l1,st.H⟩ { tmps:=rs.toArray,defers:=df } w':=by
  refine⟨?_,?_,by subst hs0;rfl,hR'.mem.nt rs.length⟩
  ·have:=Bo (pre:=[]) (post:=[]) k2
   grind
  rfl
 obtain⟨e2,C2,hR3⟩:=zu (c:={ mkC P G tt fn.ntmps s with nt:=rs.length }) ⟨hok.tt,hok.G,hok.k0⟩ hs q2 hR2
 have hv2:VRs e2 l2 rs:=OM (pre:=[]) (vs:=rs) (n:=l1.length) (by simpa using hl2) hlr (by simpa using hR3.tmp)
 have hM3:=hR3.mem
 refine⟨_,OI k1,e2,C2,_,rfl,?_,⟨hM3.hv,hM3.hw,hM3.bound,hM3.inj,hM3.av,hM3.inv⟩,aaZ hv2⟩
 subst hs0
 exact⟨⟨fun b hb=>(hM3.bse b hb).1,fun b hb=>(hM3.bse b hb).2.1,fun b hb=>(hM3.bse b hb).2.2.1,hM3.le,fun b hb j r h=>(hM3.bse b hb).2.2.2 j r h⟩,hM3.ch,hM3.fresh,fun g ⟨b,t,m1,m2⟩=>hM3.mine b t g m1 m2⟩
theorem ai0{P:Program}{G:Gh→Prop}{tt:TT}(hB:Base P G tt){f:FuncId}{fn:Func}(hf:P.funcs[f]?=some fn)(hbd:fn.body.isSome=true)(hcall:nN P f=true){args:List AV}{H0:List Slot}(hnt:Nat.ble args.length fn.ntmps=true)
 {l:List AV} {H':List Slot} (qs:List Ans) (ft:Fit) (p:List Prop) (h1:exF P G tt fn args H0 qs ft=some (l,H',p)) (hp:dN p):FnH P G f args H0 (resV l) H':=by
 refine⟨hcall,fun e C w vs hG hM hvs=>?_⟩
 unfold exF at h1
 split at h1
 ·rename_i x st p1 he
  split at h1
  ·rename_i hx
   split at h1
   ·rename_i l1 hl1
    split at h1
    ·rename_i st2 p2 hs
     split at h1
     ·rename_i l2 hl2
      injection h1 with h1
      injection h1 with h1 h2
      injection h2 with h2 h3
      subst h1 h2 h3
      obtain⟨q1,q2⟩:=dN.app hp
      obtain⟨code,hcode⟩:=Option.isSome_iff_exists.1 hbd
      obtain⟨s,hs0⟩:∃s:Sur H0.length,s=⟨w,e.I,blks e H0,e,hM.bound,[]⟩:=⟨_,rfl⟩
      have hw:=ahL hB s qs p1 he q1 _ _ _ _ (Yi hG hM hvs (Nat.le_of_ble_eq_true hnt) s hs0)
      have hcd:bodyC fn=code:=by unfold bodyC;rw[hcode];rfl
      rw[hcd] at hw
      refine calls_of_wp hf hcode (Code.wp_mono ?_ hw)
      rintro x' a' w' ⟨rfl,e',C',hR'⟩
      have fin:=And.intro (show a'.defers=[] by rw[hR'.defers];subst hs0;rfl) (afA hB hM [] s hs0 hR' hl1 hs q2 hl2)
      cases x'<;>first|exact fin|cases hx
     cases h1
    cases h1
   cases h1
  cases h1
 cases h1
theorem Fn.amS{P:Program}{G:Gh→Prop}{f:FuncId}{args:List AV}{res:AV}(h:FnH P G f args [] res []):Fn P G f args res:=by
 refine⟨h.1,fun I w vs hG hi hvs=>(h.2 (rZ I) (fun _=>[]) w vs hG ⟨fun b s hs=>by simp at hs,fun b s hs=>by simp at hs,fun b hb=>False.elim hb,fun b b' s s' g h1=>by simp at h1,fun b s g h1=>by simp at h1,hi⟩ hvs).mono ?_⟩
 rintro en w' ⟨e',C',v,rfl,g,hM,hv⟩
 have nb:∀g,¬blks (rZ I) [] g:=fun g ⟨b,s,h1,_⟩=>by simp at h1
 have hle:e'.le (rZ e'.I):=⟨fun b hb=>by have:=hM.bound b hb;simp at this,fun b hb=>by have:=hM.bound b hb;simp at this,fun b hb=>by have:=hM.bound b hb;simp at this,Le.refl _,fun b hb=>by have:=hM.bound b hb;simp at this⟩
 refine⟨e'.I,v,rfl,⟨g.le.I,fun b o v h1 h2=>?_,hM.inv,⟨g.only.os,g.only.tape,g.only.output,g.only.size,fun i hi=>g.only.block i hi (nb i)⟩⟩,VR.mono hle _ _ hv⟩
 rcases g.fresh b o v h1 h2 with h3|h3
 all_goals grind
def lfI(x:Int):List Lf:=[.int .i64 x]
def lfK(k:IntKind)(x:Int):List Lf:=[.int k x]
def lfS(x:ByteArray):List Lf:=[.str x]
def lfB(x:Bool):List Lf:=[.bool x]
mutual
inductive aF where
 |mk (fName:ByteArray) (fValue:aj)
inductive aj where
 |mk (aB:Int) (dG:Int) (fText:ByteArray) (aX:List aj) (bC:List aF)
end
def aF.fName:aF→ByteArray|.mk x _=>x
def aF.fValue:aF→aj|.mk _ x=>x
def aj.aB:aj→Int|.mk x _ _ _ _=>x
def aj.dG:aj→Int|.mk _ x _ _ _=>x
def aj.fText:aj→ByteArray|.mk _ _ x _ _=>x
def aj.aX:aj→List aj|.mk _ _ _ x _=>x
def aj.bC:aj→List aF|.mk _ _ _ _ x=>x
mutual
def aF.lf:aF→List Lf
 |.mk x0 x1=>[.str x0]++(aj.lf x1)
def aj.lf:aj→List Lf
 |.mk x0 x1 x2 x3 x4=>[.int .i64 x0,.int .i64 x1,.str x2,.rows 5 (aj.lfs x3),.rows 6 (aF.lfs x4)]
def aj.lfs:List aj→List (List Lf)
 |[]=>[]
 |x::r=>aj.lf x::aj.lfs r
def aF.lfs:List aF→List (List Lf)
 |[]=>[]
 |x::r=>aF.lf x::aF.lfs r
end
theorem aj.iI:∀l:List aj,aj.lfs l=l.map aj.lf
 |[]=>by simp[aj.lfs]
 |x::r=>by simp[aj.lfs,aj.iI r]
theorem aF.iI:∀l:List aF,aF.lfs l=l.map aF.lf
 |[]=>by simp[aF.lfs]
 |x::r=>by simp[aF.lfs,aF.iI r]
def aj.lf1(x:aj):List Lf:=[.int .i64 x.aB,.int .i64 x.dG,.str x.fText,.rows 5 (x.aX.map aj.lf),.rows 6 (x.bC.map aF.lf)]
theorem aj.aY(x:aj):x.lf=x.lf1:=by
 cases x
 simp only[aj.lf,aj.lf1,aj.aB,aj.dG,aj.fText,aj.aX,aj.bC,aj.iI,aF.iI]
def aF.lf1(x:aF):List Lf:=[.str x.fName]++(aj.lf1 x.fValue)
theorem aF.aY(x:aF):x.lf=x.lf1:=by
 cases x
 simp only[aF.lf,aF.lf1,aF.fName,aF.fValue,aj.iI,aF.iI,aj.aY]
structure bU where
 dQ:List ByteArray
 oP:Bool
def bU.lf1(x:bU):List Lf:=[.rows 1 (x.dQ.map lfS),.bool x.oP]
abbrev bU.lf(x:bU):List Lf:=x.lf1
theorem bU.aY(x:bU):x.lf=x.lf1:=rfl
structure dB where
 fX:Int
 fY:Int
def dB.lf1(x:dB):List Lf:=[.int .i64 x.fX,.int .i64 x.fY]
abbrev dB.lf(x:dB):List Lf:=x.lf1
theorem dB.aY(x:dB):x.lf=x.lf1:=rfl
structure dS where
 aB:Int
 fA:List dB
 fR:Int
def dS.lf1(x:dS):List Lf:=[.int .i64 x.aB,.rows 2 (x.fA.map dB.lf),.int .i64 x.fR]
abbrev dS.lf(x:dS):List Lf:=x.lf1
theorem dS.aY(x:dS):x.lf=x.lf1:=rfl
inductive bf where
 |mk (fOp:Int) (dQ:List ByteArray) (fName:ByteArray) (iV:List ByteArray) (fArg:aj) (fN:Int) (dF:List bf)
def bf.fOp:bf→Int|.mk x _ _ _ _ _ _=>x
def bf.dQ:bf→List ByteArray|.mk _ x _ _ _ _ _=>x
def bf.fName:bf→ByteArray|.mk _ _ x _ _ _ _=>x
def bf.iV:bf→List ByteArray|.mk _ _ _ x _ _ _=>x
def bf.fArg:bf→aj|.mk _ _ _ _ x _ _=>x
def bf.fN:bf→Int|.mk _ _ _ _ _ x _=>x
def bf.dF:bf→List bf|.mk _ _ _ _ _ _ x=>x
mutual
def bf.lf:bf→List Lf
 |.mk x0 x1 x2 x3 x4 x5 x6=>[.int .i64 x0,.rows 1 (x1.map lfS),.str x2,.rows 1 (x3.map lfS)]++(aj.lf1 x4++([.int .i64 x5,.rows 11 (bf.lfs x6)]))
def bf.lfs:List bf→List (List Lf)
 |[]=>[]
 |x::r=>bf.lf x::bf.lfs r
end
theorem bf.iI:∀l:List bf,bf.lfs l=l.map bf.lf
 |[]=>by simp[bf.lfs]
 |x::r=>by simp[bf.lfs,bf.iI r]
def bf.lf1(x:bf):List Lf:=[.int .i64 x.fOp,.rows 1 (x.dQ.map lfS),.str x.fName,.rows 1 (x.iV.map lfS)]++(aj.lf1 x.fArg++([.int .i64 x.fN,.rows 11 (x.dF.map bf.lf)]))
theorem bf.aY(x:bf):x.lf=x.lf1:=by
 cases x
 simp only[bf.lf,bf.lf1,bf.fOp,bf.dQ,bf.fName,bf.iV,bf.fArg,bf.fN,bf.dF,bf.iI]
inductive aS where
 |mk (fOp:Int) (dQ:List ByteArray) (fArg:aj) (fArgs:List aj) (fN:Int) (fM:Int) (dK:dS) (fExpr:bf) (dF:List aS)
def aS.fOp:aS→Int|.mk x _ _ _ _ _ _ _ _=>x
def aS.dQ:aS→List ByteArray|.mk _ x _ _ _ _ _ _ _=>x
def aS.fArg:aS→aj|.mk _ _ x _ _ _ _ _ _=>x
def aS.fArgs:aS→List aj|.mk _ _ _ x _ _ _ _ _=>x
def aS.fN:aS→Int|.mk _ _ _ _ x _ _ _ _=>x
def aS.fM:aS→Int|.mk _ _ _ _ _ x _ _ _=>x
def aS.dK:aS→dS|.mk _ _ _ _ _ _ x _ _=>x
def aS.fExpr:aS→bf|.mk _ _ _ _ _ _ _ x _=>x
def aS.dF:aS→List aS|.mk _ _ _ _ _ _ _ _ x=>x
mutual
def aS.lf:aS→List Lf
 |.mk x0 x1 x2 x3 x4 x5 x6 x7 x8=>[.int .i64 x0,.rows 1 (x1.map lfS)]++(aj.lf1 x2++([.rows 5 (x3.map aj.lf),.int .i64 x4,.int .i64 x5]++(dS.lf1 x6++(bf.lf1 x7++([.rows 25 (aS.lfs x8)])))))
def aS.lfs:List aS→List (List Lf)
 |[]=>[]
 |x::r=>aS.lf x::aS.lfs r
end
theorem aS.iI:∀l:List aS,aS.lfs l=l.map aS.lf
 |[]=>by simp[aS.lfs]
 |x::r=>by simp[aS.lfs,aS.iI r]
def aS.lf1(x:aS):List Lf:=[.int .i64 x.fOp,.rows 1 (x.dQ.map lfS)]++(aj.lf1 x.fArg++([.rows 5 (x.fArgs.map aj.lf),.int .i64 x.fN,.int .i64 x.fM]++(dS.lf1 x.dK++(bf.lf1 x.fExpr++([.rows 25 (x.dF.map aS.lf)])))))
theorem aS.aY(x:aS):x.lf=x.lf1:=by
 cases x
 simp only[aS.lf,aS.lf1,aS.fOp,aS.dQ,aS.fArg,aS.fArgs,aS.fN,aS.fM,aS.dK,aS.fExpr,aS.dF,aS.iI]
structure aW where
 fName:ByteArray
 aB:Int
 iD:List bU
 iJ:Bool
 sG:Bool
 nP:Bool
 jE:aS
def aW.lf1(x:aW):List Lf:=[.str x.fName,.int .i64 x.aB,.rows 2 (x.iD.map bU.lf),.bool x.iJ,.bool x.sG,.bool x.nP]++(aS.lf1 x.jE)
abbrev aW.lf(x:aW):List Lf:=x.lf1
theorem aW.aY(x:aW):x.lf=x.lf1:=rfl
mutual
inductive cu where
 |mk (fName:ByteArray) (fV:aA)
inductive aA where
 |mk (kZ:Int) (jS:Bool) (lI:aj) (jT:Bool) (lJ:aj) (jU:List aj) (jV:Int) (kN:Int) (dJ:List ByteArray) (dW:List cu) (lG:Bool) (fB:List aA) (iJ:Bool)
end
def cu.fName:cu→ByteArray|.mk x _=>x
def cu.fV:cu→aA|.mk _ x=>x
def aA.kZ:aA→Int|.mk x _ _ _ _ _ _ _ _ _ _ _ _=>x
def aA.jS:aA→Bool|.mk _ x _ _ _ _ _ _ _ _ _ _ _=>x
def aA.lI:aA→aj|.mk _ _ x _ _ _ _ _ _ _ _ _ _=>x
def aA.jT:aA→Bool|.mk _ _ _ x _ _ _ _ _ _ _ _ _=>x
def aA.lJ:aA→aj|.mk _ _ _ _ x _ _ _ _ _ _ _ _=>x
def aA.jU:aA→List aj|.mk _ _ _ _ _ x _ _ _ _ _ _ _=>x
def aA.jV:aA→Int|.mk _ _ _ _ _ _ x _ _ _ _ _ _=>x
def aA.kN:aA→Int|.mk _ _ _ _ _ _ _ x _ _ _ _ _=>x
def aA.dJ:aA→List ByteArray|.mk _ _ _ _ _ _ _ _ x _ _ _ _=>x
def aA.dW:aA→List cu|.mk _ _ _ _ _ _ _ _ _ x _ _ _=>x
def aA.lG:aA→Bool|.mk _ _ _ _ _ _ _ _ _ _ x _ _=>x
def aA.fB:aA→List aA|.mk _ _ _ _ _ _ _ _ _ _ _ x _=>x
def aA.iJ:aA→Bool|.mk _ _ _ _ _ _ _ _ _ _ _ _ x=>x
mutual
def cu.lf:cu→List Lf
 |.mk x0 x1=>[.str x0]++(aA.lf x1)
def aA.lf:aA→List Lf
 |.mk x0 x1 x2 x3 x4 x5 x6 x7 x8 x9 x10 x11 x12=>[.int .i64 x0,.bool x1]++(aj.lf1 x2++([.bool x3]++(aj.lf1 x4++([.rows 5 (x5.map aj.lf),.int .i64 x6,.int .i64 x7,.rows 1 (x8.map lfS),.rows 22 (cu.lfs x9),.bool x10,.rows 21 (aA.lfs x11),.bool x12]))))
def cu.lfs:List cu→List (List Lf)
 |[]=>[]
 |x::r=>cu.lf x::cu.lfs r
def aA.lfs:List aA→List (List Lf)
 |[]=>[]
 |x::r=>aA.lf x::aA.lfs r
end
theorem cu.iI:∀l:List cu,cu.lfs l=l.map cu.lf
 |[]=>by simp[cu.lfs]
 |x::r=>by simp[cu.lfs,cu.iI r]
theorem aA.iI:∀l:List aA,aA.lfs l=l.map aA.lf
 |[]=>by simp[aA.lfs]
 |x::r=>by simp[aA.lfs,aA.iI r]
def aA.lf1(x:aA):List Lf:=[.int .i64 x.kZ,.bool x.jS]++(aj.lf1 x.lI++([.bool x.jT]++(aj.lf1 x.lJ++([.rows 5 (x.jU.map aj.lf),.int .i64 x.jV,.int .i64 x.kN,.rows 1 (x.dJ.map lfS),.rows 22 (x.dW.map cu.lf),.bool x.lG,.rows 21 (x.fB.map aA.lf),.bool x.iJ]))))
theorem aA.aY(x:aA):x.lf=x.lf1:=by
 cases x
 simp only[aA.lf,aA.lf1,aA.kZ,aA.jS,aA.lI,aA.jT,aA.lJ,aA.jU,aA.jV,aA.kN,aA.dJ,aA.dW,aA.lG,aA.fB,aA.iJ,cu.iI,aA.iI]
def cu.lf1(x:cu):List Lf:=[.str x.fName]++(aA.lf1 x.fV)
theorem cu.aY(x:cu):x.lf=x.lf1:=by
 cases x
 simp only[cu.lf,cu.lf1,cu.fName,cu.fV,cu.iI,aA.iI,aA.aY]
structure ak where
 fName:ByteArray
 bn:List aW
 fV:aA
 yx:Int
 oH:Int
def ak.lf1(x:ak):List Lf:=[.str x.fName,.rows 31 (x.bn.map aW.lf)]++(aA.lf1 x.fV++([.int .i64 x.yx,.int .i64 x.oH]))
abbrev ak.lf(x:ak):List Lf:=x.lf1
theorem ak.aY(x:ak):x.lf=x.lf1:=rfl
inductive ay where
 |mk (aB:Int) (aT:ByteArray) (dL:aj) (bC:aj) (ig:aj) (gy:ak) (eP:aW) (dP:ByteArray) (bW:Int) (bG:List ay) (iq:List Int) (jF:Bool)
def ay.aB:ay→Int|.mk x _ _ _ _ _ _ _ _ _ _ _=>x
def ay.aT:ay→ByteArray|.mk _ x _ _ _ _ _ _ _ _ _ _=>x
def ay.dL:ay→aj|.mk _ _ x _ _ _ _ _ _ _ _ _=>x
def ay.bC:ay→aj|.mk _ _ _ x _ _ _ _ _ _ _ _=>x
def ay.ig:ay→aj|.mk _ _ _ _ x _ _ _ _ _ _ _=>x
def ay.gy:ay→ak|.mk _ _ _ _ _ x _ _ _ _ _ _=>x
def ay.eP:ay→aW|.mk _ _ _ _ _ _ x _ _ _ _ _=>x
def ay.dP:ay→ByteArray|.mk _ _ _ _ _ _ _ x _ _ _ _=>x
def ay.bW:ay→Int|.mk _ _ _ _ _ _ _ _ x _ _ _=>x
def ay.bG:ay→List ay|.mk _ _ _ _ _ _ _ _ _ x _ _=>x
def ay.iq:ay→List Int|.mk _ _ _ _ _ _ _ _ _ _ x _=>x
def ay.jF:ay→Bool|.mk _ _ _ _ _ _ _ _ _ _ _ x=>x
mutual
def ay.lf:ay→List Lf
 |.mk x0 x1 x2 x3 x4 x5 x6 x7 x8 x9 x10 x11=>[.int .i64 x0,.str x1]++(aj.lf1 x2++(aj.lf1 x3++(aj.lf1 x4++(ak.lf1 x5++(aW.lf1 x6++([.str x7,.int .i64 x8,.rows 78 (ay.lfs x9),.rows 1 (x10.map lfI),.bool x11]))))))
def ay.lfs:List ay→List (List Lf)
 |[]=>[]
 |x::r=>ay.lf x::ay.lfs r
end
theorem ay.iI:∀l:List ay,ay.lfs l=l.map ay.lf
 |[]=>by simp[ay.lfs]
 |x::r=>by simp[ay.lfs,ay.iI r]
def ay.lf1(x:ay):List Lf:=[.int .i64 x.aB,.str x.aT]++(aj.lf1 x.dL++(aj.lf1 x.bC++(aj.lf1 x.ig++(ak.lf1 x.gy++(aW.lf1 x.eP++([.str x.dP,.int .i64 x.bW,.rows 78 (x.bG.map ay.lf),.rows 1 (x.iq.map lfI),.bool x.jF]))))))
theorem ay.aY(x:ay):x.lf=x.lf1:=by
 cases x
 simp only[ay.lf,ay.lf1,ay.aB,ay.aT,ay.dL,ay.bC,ay.ig,ay.gy,ay.eP,ay.dP,ay.bW,ay.bG,ay.iq,ay.jF,ay.iI]
structure bD where
 aa1:Int
 bW:Int
 eU:ByteArray
 qj:Int
 dZ:ay
def bD.lf1(x:bD):List Lf:=[.int .i64 x.aa1,.int .i64 x.bW,.str x.eU,.int .i64 x.qj]++(ay.lf1 x.dZ)
abbrev bD.lf(x:bD):List Lf:=x.lf1
theorem bD.aY(x:bD):x.lf=x.lf1:=rfl
structure aQ where
 lK:Bool
 zx:Bool
 fC:Bool
 Du:Bool
 og:Bool
 gJ:Bool
 zy:Bool
 dw:Bool
 bJ:Bool
 kP:Bool
def aQ.lf1(x:aQ):List Lf:=[.bool x.lK,.bool x.zx,.bool x.fC,.bool x.Du,.bool x.og,.bool x.gJ,.bool x.zy,.bool x.dw,.bool x.bJ,.bool x.kP]
abbrev aQ.lf(x:aQ):List Lf:=x.lf1
theorem aQ.aY(x:aQ):x.lf=x.lf1:=rfl
structure aP where
 dw:Int
 fC:aj
def aP.lf1(x:aP):List Lf:=[.int .i64 x.dw]++(aj.lf1 x.fC)
abbrev aP.lf(x:aP):List Lf:=x.lf1
theorem aP.aY(x:aP):x.lf=x.lf1:=rfl
structure ah where
 dw:Int
 bJ:List ay
def ah.lf1(x:ah):List Lf:=[.int .i64 x.dw,.rows 78 (x.bJ.map ay.lf)]
abbrev ah.lf(x:ah):List Lf:=x.lf1
theorem ah.aY(x:ah):x.lf=x.lf1:=rfl
structure au where
 jG:Int
 dw:Int
def au.lf1(x:au):List Lf:=[.int .i64 x.jG,.int .i64 x.dw]
abbrev au.lf(x:au):List Lf:=x.lf1
theorem au.aY(x:au):x.lf=x.lf1:=rfl
structure jL where
 aT:ByteArray
 dL:aj
 bW:Int
 bC:aj
def jL.lf1(x:jL):List Lf:=[.str x.aT]++(aj.lf1 x.dL++([.int .i64 x.bW]++(aj.lf1 x.bC)))
abbrev jL.lf(x:jL):List Lf:=x.lf1
theorem jL.aY(x:jL):x.lf=x.lf1:=rfl
structure je where
 fID:ByteArray
 bW:Int
 bG:List ay
def je.lf1(x:je):List Lf:=[.str x.fID,.int .i64 x.bW,.rows 78 (x.bG.map ay.lf)]
abbrev je.lf(x:je):List Lf:=x.lf1
theorem je.aY(x:je):x.lf=x.lf1:=rfl
structure gQ where
 eU:ByteArray
 qj:Int
 bW:Int
def gQ.lf1(x:gQ):List Lf:=[.str x.eU,.int .i64 x.qj,.int .i64 x.bW]
abbrev gQ.lf(x:gQ):List Lf:=x.lf1
theorem gQ.aY(x:gQ):x.lf=x.lf1:=rfl
structure kF where
 ak8:Int
 ak9:List ak
 ala:List jL
 alb:List je
 aa2:List gQ
def kF.lf1(x:kF):List Lf:=[.int .i64 x.ak8,.rows 25 (x.ak9.map ak.lf),.rows 12 (x.ala.map jL.lf),.rows 3 (x.alb.map je.lf),.rows 3 (x.aa2.map gQ.lf)]
abbrev kF.lf(x:kF):List Lf:=x.lf1
theorem kF.aY(x:kF):x.lf=x.lf1:=rfl
structure aO where
 aT:ByteArray
 dL:aj
 bW:Int
 eU:ByteArray
def aO.lf1(x:aO):List Lf:=[.str x.aT]++(aj.lf1 x.dL++([.int .i64 x.bW,.str x.eU]))
abbrev aO.lf(x:aO):List Lf:=x.lf1
theorem aO.aY(x:aO):x.lf=x.lf1:=rfl
structure bM where
 fC:aj
 Eo:Int
 oQ:List aj
 fall:Int
 Ep:Int
 sH:ByteArray
 jG:Int
 dw:Int
def bM.lf1(x:bM):List Lf:=aj.lf1 x.fC++([.int .i64 x.Eo,.rows 5 (x.oQ.map aj.lf),.int .i64 x.fall,.int .i64 x.Ep,.str x.sH,.int .i64 x.jG,.int .i64 x.dw])
abbrev bM.lf(x:bM):List Lf:=x.lf1
theorem bM.aY(x:bM):x.lf=x.lf1:=rfl
structure lS where
 aa3:List bD
 bG:List ay
 aa4:Int
 afB:Int
 bW:Int
def lS.lf1(x:lS):List Lf:=[.rows 82 (x.aa3.map bD.lf),.rows 78 (x.bG.map ay.lf),.int .i64 x.aa4,.int .i64 x.afB,.int .i64 x.bW]
abbrev lS.lf(x:lS):List Lf:=x.lf1
theorem lS.aY(x:lS):x.lf=x.lf1:=rfl
structure jC where
 afC:List ak
 alc:List (List aj)
 bW:Int
 afD:List aO
def jC.lf1(x:jC):List Lf:=[.rows 25 (x.afC.map ak.lf),.rows 1 (x.alc.map (fun l=>[Lf.rows 5 (l.map aj.lf)])),.int .i64 x.bW,.rows 8 (x.afD.map aO.lf)]
abbrev jC.lf(x:jC):List Lf:=x.lf1
theorem jC.aY(x:jC):x.lf=x.lf1:=rfl
structure lT where
 fS:ByteArray
 amT:Bool
 amU:Bool
def lT.lf1(x:lT):List Lf:=[.str x.fS,.bool x.amT,.bool x.amU]
abbrev lT.lf(x:lT):List Lf:=x.lf1
theorem lT.aY(x:lT):x.lf=x.lf1:=rfl
def aj.z:aj:=.mk 0 0 ⟨#[]⟩ [] []
def aF.z:aF:=.mk ⟨#[]⟩ aj.z
def bU.z:bU:=.mk [] false
def dB.z:dB:=.mk 0 0
def dS.z:dS:=.mk 0 [] 0
def bf.z:bf:=.mk 0 [] ⟨#[]⟩ [] aj.z 0 []
def bf.sOp(x:bf)(v:Int):bf:=.mk v x.dQ x.fName x.iV x.fArg x.fN x.dF
def bf.ou(x:bf)(v:List ByteArray):bf:=.mk x.fOp v x.fName x.iV x.fArg x.fN x.dF
def bf.ahM(x:bf)(v:ByteArray):bf:=.mk x.fOp x.dQ v x.iV x.fArg x.fN x.dF
def bf.LH(x:bf)(v:List ByteArray):bf:=.mk x.fOp x.dQ x.fName v x.fArg x.fN x.dF
def bf.sArg(x:bf)(v:aj):bf:=.mk x.fOp x.dQ x.fName x.iV v x.fN x.dF
def bf.sN(x:bf)(v:Int):bf:=.mk x.fOp x.dQ x.fName x.iV x.fArg v x.dF
def bf.ahN(x:bf)(v:List bf):bf:=.mk x.fOp x.dQ x.fName x.iV x.fArg x.fN v
def aS.z:aS:=.mk 0 [] aj.z [] 0 0 dS.z bf.z []
def aS.sOp(x:aS)(v:Int):aS:=.mk v x.dQ x.fArg x.fArgs x.fN x.fM x.dK x.fExpr x.dF
def aS.ou(x:aS)(v:List ByteArray):aS:=.mk x.fOp v x.fArg x.fArgs x.fN x.fM x.dK x.fExpr x.dF
def aS.sArg(x:aS)(v:aj):aS:=.mk x.fOp x.dQ v x.fArgs x.fN x.fM x.dK x.fExpr x.dF
def aS.uM(x:aS)(v:List aj):aS:=.mk x.fOp x.dQ x.fArg v x.fN x.fM x.dK x.fExpr x.dF
def aS.sN(x:aS)(v:Int):aS:=.mk x.fOp x.dQ x.fArg x.fArgs v x.fM x.dK x.fExpr x.dF
def aS.oU(x:aS)(v:dS):aS:=.mk x.fOp x.dQ x.fArg x.fArgs x.fN x.fM v x.fExpr x.dF
def aS.uN(x:aS)(v:bf):aS:=.mk x.fOp x.dQ x.fArg x.fArgs x.fN x.fM x.dK v x.dF
def aS.ahN(x:aS)(v:List aS):aS:=.mk x.fOp x.dQ x.fArg x.fArgs x.fN x.fM x.dK x.fExpr v
def aW.z:aW:=.mk ⟨#[]⟩ 0 [] false false false aS.z
def aW.ahM(x:aW)(v:ByteArray):aW:=.mk v x.aB x.iD x.iJ x.sG x.nP x.jE
def aW.qP(x:aW)(v:Int):aW:=.mk x.fName v x.iD x.iJ x.sG x.nP x.jE
def aW.ald(x:aW)(v:List bU):aW:=.mk x.fName x.aB v x.iJ x.sG x.nP x.jE
def aW.afE(x:aW)(v:Bool):aW:=.mk x.fName x.aB x.iD v x.sG x.nP x.jE
def aW.ai1(x:aW)(v:aS):aW:=.mk x.fName x.aB x.iD x.iJ x.sG x.nP v
def aA.z:aA:=.mk 0 false aj.z false aj.z [] 0 0 [] [] false [] false
def aA.jZ(x:aA)(v:aj):aA:=.mk x.kZ x.jS v x.jT x.lJ x.jU x.jV x.kN x.dJ x.dW x.lG x.fB x.iJ
def aA.kC(x:aA)(v:aj):aA:=.mk x.kZ x.jS x.lI x.jT v x.jU x.jV x.kN x.dJ x.dW x.lG x.fB x.iJ
def aA.gX(x:aA)(v:List aj):aA:=.mk x.kZ x.jS x.lI x.jT x.lJ v x.jV x.kN x.dJ x.dW x.lG x.fB x.iJ
def aA.afF(x:aA)(v:Int):aA:=.mk x.kZ x.jS x.lI x.jT x.lJ x.jU x.jV v x.dJ x.dW x.lG x.fB x.iJ
def aA.dD(x:aA)(v:List ByteArray):aA:=.mk x.kZ x.jS x.lI x.jT x.lJ x.jU x.jV x.kN v x.dW x.lG x.fB x.iJ
def aA.ai2(x:aA)(v:List cu):aA:=.mk x.kZ x.jS x.lI x.jT x.lJ x.jU x.jV x.kN x.dJ v x.lG x.fB x.iJ
def aA.ai3(x:aA)(v:List aA):aA:=.mk x.kZ x.jS x.lI x.jT x.lJ x.jU x.jV x.kN x.dJ x.dW x.lG v x.iJ
def aA.afE(x:aA)(v:Bool):aA:=.mk x.kZ x.jS x.lI x.jT x.lJ x.jU x.jV x.kN x.dJ x.dW x.lG x.fB v
def cu.z:cu:=.mk ⟨#[]⟩ aA.z
def ak.z:ak:=.mk ⟨#[]⟩ [] aA.z 0 0
def ay.z:ay:=.mk 0 ⟨#[]⟩ aj.z aj.z aj.z ak.z aW.z ⟨#[]⟩ 0 [] [] false
def ay.qP(x:ay)(v:Int):ay:=.mk v x.aT x.dL x.bC x.ig x.gy x.eP x.dP x.bW x.bG x.iq x.jF
def ay.uO(x:ay)(v:ByteArray):ay:=.mk x.aB v x.dL x.bC x.ig x.gy x.eP x.dP x.bW x.bG x.iq x.jF
def ay.OO(x:ay)(v:aj):ay:=.mk x.aB x.aT v x.bC x.ig x.gy x.eP x.dP x.bW x.bG x.iq x.jF
def ay.OQ(x:ay)(v:aj):ay:=.mk x.aB x.aT x.dL v x.ig x.gy x.eP x.dP x.bW x.bG x.iq x.jF
def ay.afG(x:ay)(v:aj):ay:=.mk x.aB x.aT x.dL x.bC v x.gy x.eP x.dP x.bW x.bG x.iq x.jF
def ay.ale(x:ay)(v:ak):ay:=.mk x.aB x.aT x.dL x.bC x.ig v x.eP x.dP x.bW x.bG x.iq x.jF
def ay.aa5(x:ay)(v:aW):ay:=.mk x.aB x.aT x.dL x.bC x.ig x.gy v x.dP x.bW x.bG x.iq x.jF
def ay.amV(x:ay)(v:ByteArray):ay:=.mk x.aB x.aT x.dL x.bC x.ig x.gy x.eP v x.bW x.bG x.iq x.jF
def ay.ai4(x:ay)(v:Int):ay:=.mk x.aB x.aT x.dL x.bC x.ig x.gy x.eP x.dP v x.bG x.iq x.jF
def ay.afH(x:ay)(v:List ay):ay:=.mk x.aB x.aT x.dL x.bC x.ig x.gy x.eP x.dP x.bW v x.iq x.jF
def ay.afI(x:ay)(v:List Int):ay:=.mk x.aB x.aT x.dL x.bC x.ig x.gy x.eP x.dP x.bW x.bG v x.jF
def ay.afJ(x:ay)(v:Bool):ay:=.mk x.aB x.aT x.dL x.bC x.ig x.gy x.eP x.dP x.bW x.bG x.iq v
def bD.z:bD:=.mk 0 0 ⟨#[]⟩ 0 ay.z
def aQ.z:aQ:=.mk false false false false false false false false false false
def aQ.Es(x:aQ)(v:Bool):aQ:=.mk v x.zx x.fC x.Du x.og x.gJ x.zy x.dw x.bJ x.kP
def aQ.alf(x:aQ)(v:Bool):aQ:=.mk x.lK v x.fC x.Du x.og x.gJ x.zy x.dw x.bJ x.kP
def aQ.alg(x:aQ)(v:Bool):aQ:=.mk x.lK x.zx v x.Du x.og x.gJ x.zy x.dw x.bJ x.kP
def aQ.amW(x:aQ)(v:Bool):aQ:=.mk x.lK x.zx x.fC v x.og x.gJ x.zy x.dw x.bJ x.kP
def aQ.ai5(x:aQ)(v:Bool):aQ:=.mk x.lK x.zx x.fC x.Du v x.gJ x.zy x.dw x.bJ x.kP
def aQ.TR(x:aQ)(v:Bool):aQ:=.mk x.lK x.zx x.fC x.Du x.og v x.zy x.dw x.bJ x.kP
def aQ.afK(x:aQ)(v:Bool):aQ:=.mk x.lK x.zx x.fC x.Du x.og x.gJ v x.dw x.bJ x.kP
def aQ.TS(x:aQ)(v:Bool):aQ:=.mk x.lK x.zx x.fC x.Du x.og x.gJ x.zy v x.bJ x.kP
def aQ.Wi(x:aQ)(v:Bool):aQ:=.mk x.lK x.zx x.fC x.Du x.og x.gJ x.zy x.dw v x.kP
def aQ.afL(x:aQ)(v:Bool):aQ:=.mk x.lK x.zx x.fC x.Du x.og x.gJ x.zy x.dw x.bJ v
def aP.z:aP:=.mk 0 aj.z
def ah.z:ah:=.mk 0 []
def au.z:au:=.mk 0 0
def jL.z:jL:=.mk ⟨#[]⟩ aj.z 0 aj.z
def je.z:je:=.mk ⟨#[]⟩ 0 []
def gQ.z:gQ:=.mk ⟨#[]⟩ 0 0
def kF.z:kF:=.mk 0 [] [] [] []
def aO.z:aO:=.mk ⟨#[]⟩ aj.z 0 ⟨#[]⟩
def bM.z:bM:=.mk aj.z 0 [] 0 0 ⟨#[]⟩ 0 0
def bM.alg(x:bM)(v:aj):bM:=.mk v x.Eo x.oQ x.fall x.Ep x.sH x.jG x.dw
def bM.TS(x:bM)(v:Int):bM:=.mk x.fC x.Eo x.oQ x.fall x.Ep x.sH x.jG v
def lS.z:lS:=.mk [] [] 0 0 0
def jC.z:jC:=.mk [] [] 0 []
def lT.z:lT:=.mk ⟨#[]⟩ false false
def Z33:AV:=.agg [.lf (.int .i64 0),.bK 25,.bK 12,.bK 3,.bK 3]
def Z40:AV:=.agg [.lf (.int .i64 0),.lf (.int .i64 0),.lf (.str ⟨#[]⟩),.bK 5,.bK 6]
def Z46:AV:=.agg [.lf (.int .i64 0),.lf (.bool false),.lf (.int .i64 0),.lf (.int .i64 0),.lf (.str ⟨#[]⟩),.bK 5,.bK 6,.lf (.bool false),.lf (.int .i64 0),.lf (.int .i64 0),.lf (.str ⟨#[]⟩),.bK 5,.bK 6,.bK 5,.lf (.int .i64 0),.lf (.int .i64 0),.bK 1,.bK 22,.lf (.bool false),.bK 21,.lf (.bool false)]
def Z48:AV:=.agg [.lf (.str ⟨#[]⟩),.bK 31,.lf (.int .i64 0),.lf (.bool false),.lf (.int .i64 0),.lf (.int .i64 0),.lf (.str ⟨#[]⟩),.bK 5,.bK 6,.lf (.bool false),.lf (.int .i64 0),.lf (.int .i64 0),.lf (.str ⟨#[]⟩),.bK 5,.bK 6,.bK 5,.lf (.int .i64 0),.lf (.int .i64 0),.bK 1,.bK 22,.lf (.bool false),.bK 21,.lf (.bool false),.lf (.int .i64 0),.lf (.int .i64 0)]
def Z52:AV:=.agg [.lf (.int .i64 0),.bK 2,.lf (.int .i64 0)]
def Z55:AV:=.agg [.lf (.int .i64 0),.bK 1,.lf (.str ⟨#[]⟩),.bK 1,.lf (.int .i64 0),.lf (.int .i64 0),.lf (.str ⟨#[]⟩),.bK 5,.bK 6,.lf (.int .i64 0),.bK 11]
def Z58:AV:=.agg [.lf (.int .i64 0),.bK 1,.lf (.int .i64 0),.lf (.int .i64 0),.lf (.str ⟨#[]⟩),.bK 5,.bK 6,.bK 5,.lf (.int .i64 0),.lf (.int .i64 0),.lf (.int .i64 0),.bK 2,.lf (.int .i64 0),.lf (.int .i64 0),.bK 1,.lf (.str ⟨#[]⟩),.bK 1,.lf (.int .i64 0),.lf (.int .i64 0),.lf (.str ⟨#[]⟩),.bK 5,.bK 6,.lf (.int .i64 0),.bK 11,.bK 25]
def Z60:AV:=.agg [.lf (.str ⟨#[]⟩),.lf (.int .i64 0),.bK 2,.lf (.bool false),.lf (.bool false),.lf (.bool false),.lf (.int .i64 0),.bK 1,.lf (.int .i64 0),.lf (.int .i64 0),.lf (.str ⟨#[]⟩),.bK 5,.bK 6,.bK 5,.lf (.int .i64 0),.lf (.int .i64 0),.lf (.int .i64 0),.bK 2,.lf (.int .i64 0),.lf (.int .i64 0),.bK 1,.lf (.str ⟨#[]⟩),.bK 1,.lf (.int .i64 0),.lf (.int .i64 0),.lf (.str ⟨#[]⟩),.bK 5,.bK 6,.lf (.int .i64 0),.bK 11,.bK 25]
def Z64:AV:=.agg [.lf (.int .i64 0),.lf (.str ⟨#[]⟩),.lf (.int .i64 0),.lf (.int .i64 0),.lf (.str ⟨#[]⟩),.bK 5,.bK 6,.lf (.int .i64 0),.lf (.int .i64 0),.lf (.str ⟨#[]⟩),.bK 5,.bK 6,.lf (.int .i64 0),.lf (.int .i64 0),.lf (.str ⟨#[]⟩),.bK 5,.bK 6,.lf (.str ⟨#[]⟩),.bK 31,.lf (.int .i64 0),.lf (.bool false),.lf (.int .i64 0),.lf (.int .i64 0),.lf (.str ⟨#[]⟩),.bK 5,.bK 6,.lf (.bool false),.lf (.int .i64 0),.lf (.int .i64 0),.lf (.str ⟨#[]⟩),.bK 5,.bK 6,.bK 5,.lf (.int .i64 0),.lf (.int .i64 0),.bK 1,.bK 22,.lf (.bool false),.bK 21,.lf (.bool false),.lf (.int .i64 0),.lf (.int .i64 0),.lf (.str ⟨#[]⟩),.lf (.int .i64 0),.bK 2,.lf (.bool false),.lf (.bool false),.lf (.bool false),.lf (.int .i64 0),.bK 1,.lf (.int .i64 0),.lf (.int .i64 0),.lf (.str ⟨#[]⟩),.bK 5,.bK 6,.bK 5,.lf (.int .i64 0),.lf (.int .i64 0),.lf (.int .i64 0),.bK 2,.lf (.int .i64 0),.lf (.int .i64 0),.bK 1,.lf (.str ⟨#[]⟩),.bK 1,.lf (.int .i64 0),.lf (.int .i64 0),.lf (.str ⟨#[]⟩),.bK 5,.bK 6,.lf (.int .i64 0),.bK 11,.bK 25,.lf (.str ⟨#[]⟩),.lf (.int .i64 0),.bK 78,.bK 1,.lf (.bool false)]
def Z66:AV:=.agg [.lf (.int .i64 0),.lf (.int .i64 0),.lf (.str ⟨#[]⟩),.lf (.int .i64 0),.lf (.int .i64 0),.lf (.str ⟨#[]⟩),.lf (.int .i64 0),.lf (.int .i64 0),.lf (.str ⟨#[]⟩),.bK 5,.bK 6,.lf (.int .i64 0),.lf (.int .i64 0),.lf (.str ⟨#[]⟩),.bK 5,.bK 6,.lf (.int .i64 0),.lf (.int .i64 0),.lf (.str ⟨#[]⟩),.bK 5,.bK 6,.lf (.str ⟨#[]⟩),.bK 31,.lf (.int .i64 0),.lf (.bool false),.lf (.int .i64 0),.lf (.int .i64 0),.lf (.str ⟨#[]⟩),.bK 5,.bK 6,.lf (.bool false),.lf (.int .i64 0),.lf (.int .i64 0),.lf (.str ⟨#[]⟩),.bK 5,.bK 6,.bK 5,.lf (.int .i64 0),.lf (.int .i64 0),.bK 1,.bK 22,.lf (.bool false),.bK 21,.lf (.bool false),.lf (.int .i64 0),.lf (.int .i64 0),.lf (.str ⟨#[]⟩),.lf (.int .i64 0),.bK 2,.lf (.bool false),.lf (.bool false),.lf (.bool false),.lf (.int .i64 0),.bK 1,.lf (.int .i64 0),.lf (.int .i64 0),.lf (.str ⟨#[]⟩),.bK 5,.bK 6,.bK 5,.lf (.int .i64 0),.lf (.int .i64 0),.lf (.int .i64 0),.bK 2,.lf (.int .i64 0),.lf (.int .i64 0),.bK 1,.lf (.str ⟨#[]⟩),.bK 1,.lf (.int .i64 0),.lf (.int .i64 0),.lf (.str ⟨#[]⟩),.bK 5,.bK 6,.lf (.int .i64 0),.bK 11,.bK 25,.lf (.str ⟨#[]⟩),.lf (.int .i64 0),.bK 78,.bK 1,.lf (.bool false)]
def Z79:AV:=.agg [.lf (.int .i64 0),.lf (.int .i64 0),.lf (.str ⟨#[]⟩),.bK 5,.bK 6,.lf (.int .i64 0),.bK 5,.lf (.int .i64 0),.lf (.int .i64 0),.lf (.str ⟨#[]⟩),.lf (.int .i64 0),.lf (.int .i64 0)]
def Z82:AV:=.agg [.lf (.str ⟨#[]⟩),.lf (.int .i64 0),.lf (.int .i64 0),.lf (.str ⟨#[]⟩),.bK 5,.bK 6,.lf (.int .i64 0),.lf (.str ⟨#[]⟩)]
def Z89:AV:=.agg [.bK 82,.bK 78,.lf (.int .i64 0),.lf (.int .i64 0),.lf (.int .i64 0)]
def Z98:AV:=.agg [.bK 25,.bK 1,.lf (.int .i64 0),.bK 8]
def amX:AV:=.agg [.lf (.int .i64 0),.bK 25,.raw (.map none),.raw (.map none),.raw (.map none)]
def amY:AV:=.agg [.lf (.int .i64 0),.lf (.int .i64 0)]
def amZ:AV:=.agg [.lf (.str ⟨#[]⟩),.lf (.int .i64 0),.lf (.int .i64 0)]
def am0:AV:=.agg [.lf (.int .i64 0),.bK 78]
def am1:AV:=.agg [.lf (.str ⟨#[]⟩),.lf (.int .i64 0),.bK 78]
def am2:AV:=.agg [.lf (.str ⟨#[]⟩),.lf (.int .i64 0),.lf (.int .i64 0),.lf (.str ⟨#[]⟩),.bK 5,.bK 6]
def alh:AV:=.agg [.lf (.int .i64 0),.lf (.int .i64 0),.lf (.int .i64 0),.lf (.str ⟨#[]⟩),.bK 5,.bK 6]
def am3:AV:=.agg [.lf (.str ⟨#[]⟩),.lf (.int .i64 0),.lf (.int .i64 0),.lf (.str ⟨#[]⟩),.bK 5,.bK 6,.lf (.int .i64 0),.lf (.int .i64 0),.lf (.int .i64 0),.lf (.str ⟨#[]⟩),.bK 5,.bK 6]
def am4:AV:=.agg [.lf (.bool false),.lf (.bool false),.lf (.bool false),.lf (.bool false),.lf (.bool false),.lf (.bool false),.lf (.bool false),.lf (.bool false),.lf (.bool false),.lf (.bool false)]
def am5:AV:=.agg [.lf (.str ⟨#[]⟩),.lf (.int .i64 0),.lf (.bool false),.lf (.int .i64 0),.lf (.int .i64 0),.lf (.str ⟨#[]⟩),.bK 5,.bK 6,.lf (.bool false),.lf (.int .i64 0),.lf (.int .i64 0),.lf (.str ⟨#[]⟩),.bK 5,.bK 6,.bK 5,.lf (.int .i64 0),.lf (.int .i64 0),.bK 1,.bK 22,.lf (.bool false),.bK 21,.lf (.bool false)]
def am6:AV:=.agg [.bK 1,.lf (.bool false)]
def am7:AV:=.agg [.lf (.str ⟨#[]⟩),.lf (.bool false),.lf (.bool false)]
def am8:AV:=.agg [.lf (.int .i64 0),.lf (.int .i64 0)]
def Et:AV→List (Nat×AV)→AV
 |x,[]=>x
 |.agg l,(i,v)::r=>Et (.agg (l.set i v)) r
 |x,_=>x
def TTc:TT:=[
 ⟨2,.int .i64,1,8,some (.lf (.int .i64 0))⟩,
 ⟨3,.int .i64,1,8,some (.lf (.int .i64 0))⟩,
 ⟨4,.bool,1,1,some (.lf (.bool false))⟩,
 ⟨5,.int .u8,1,1,some (.lf (.int .u8 0))⟩,
 ⟨6,.int .u8,1,1,some (.lf (.int .u8 0))⟩,
 ⟨9,.str,1,16,some (.lf (.str ⟨#[]⟩))⟩,
 ⟨10,.str,1,16,some (.lf (.str ⟨#[]⟩))⟩,
 ⟨11,.str,1,16,some (.lf (.str ⟨#[]⟩))⟩,
 ⟨12,.int .u64,1,8,some (.lf (.int .u64 0))⟩,
 ⟨21,.int .i32,1,4,some (.lf (.int .i32 0))⟩,
 ⟨22,.slice 66,1,24,some (.bK 82)⟩,
 ⟨23,.slice 82,1,24,some (.bK 8)⟩,
 ⟨26,.ptr,1,8,some (.raw (.pointer none))⟩,
 ⟨28,.slice 48,1,24,some (.bK 25)⟩,
 ⟨29,.slice 174,1,24,some (.bK 12)⟩,
 ⟨30,.slice 131,1,24,some (.bK 3)⟩,
 ⟨31,.slice 119,1,24,some (.bK 3)⟩,
 ⟨33,.struct [(0,1,false),(1,1,false),(2,1,false),(3,1,false),(4,1,false)],5,104,some (Z33)⟩,
 ⟨35,.int .i64,1,8,some (.lf (.int .i64 0))⟩,
 ⟨37,.slice 40,1,24,some (.bK 5)⟩,
 ⟨38,.slice 138,1,24,some (.bK 6)⟩,
 ⟨40,.struct [(0,1,false),(1,1,false),(2,1,false),(3,1,false),(4,1,false)],5,80,some (Z40)⟩,
 ⟨41,.slice 60,1,24,some (.bK 31)⟩,
 ⟨42,.slice 9,1,24,some (.bK 1)⟩,
 ⟨43,.slice 206,1,24,some (.bK 22)⟩,
 ⟨44,.slice 46,1,24,some (.bK 21)⟩,
 ⟨46,.struct [(0,1,false),(1,1,false),(2,5,true),(7,1,false),(8,5,true),(13,1,false),(14,1,false),(15,1,false),(16,1,false),(17,1,false),(18,1,false),(19,1,false),(20,1,false)],21,312,some (Z46)⟩,
 ⟨48,.struct [(0,1,false),(1,1,false),(2,21,true),(23,1,false),(24,1,false)],25,368,some (Z48)⟩,
 ⟨49,.slice 227,1,24,some (.bK 2)⟩,
 ⟨50,.slice 270,1,24,some (.bK 2)⟩,
 ⟨52,.struct [(0,1,false),(1,1,false),(2,1,false)],3,40,some (Z52)⟩,
 ⟨53,.slice 55,1,24,some (.bK 11)⟩,
 ⟨55,.struct [(0,1,false),(1,1,false),(2,1,false),(3,1,false),(4,5,true),(9,1,false),(10,1,false)],11,184,some (Z55)⟩,
 ⟨56,.slice 58,1,24,some (.bK 25)⟩,
 ⟨58,.struct [(0,1,false),(1,1,false),(2,5,true),(7,1,false),(8,1,false),(9,1,false),(10,3,true),(13,11,true),(24,1,false)],25,400,some (Z58)⟩,
 ⟨60,.struct [(0,1,false),(1,1,false),(2,1,false),(3,1,false),(4,1,false),(5,1,false),(6,25,true)],31,456,some (Z60)⟩,
 ⟨61,.slice 64,1,24,some (.bK 78)⟩,
 ⟨62,.slice 3,1,24,some (.bK 1)⟩,
 ⟨64,.struct [(0,1,false),(1,1,false),(2,5,true),(7,5,true),(12,5,true),(17,25,true),(42,31,true),(73,1,false),(74,1,false),(75,1,false),(76,1,false),(77,1,false)],78,1168,some (Z64)⟩,
 ⟨66,.struct [(0,1,false),(1,1,false),(2,1,false),(3,1,false),(4,78,true)],82,1208,some (Z66)⟩,
 ⟨79,.struct [(0,5,true),(5,1,false),(6,1,false),(7,1,false),(8,1,false),(9,1,false),(10,1,false),(11,1,false)],12,160,some (Z79)⟩,
 ⟨82,.struct [(0,1,false),(1,5,true),(6,1,false),(7,1,false)],8,120,some (Z82)⟩,
 ⟨84,.slice 79,1,24,some (.bK 12)⟩,
 ⟨89,.struct [(0,1,false),(1,1,false),(2,1,false),(3,1,false),(4,1,false)],5,72,some (Z89)⟩,
 ⟨96,.slice 37,1,24,some (.bK 1)⟩,
 ⟨98,.struct [(0,1,false),(1,1,false),(2,1,false),(3,1,false)],4,80,some (Z98)⟩,
 ⟨109,.map 9 139,1,8,some (.raw (.map none))⟩,
 ⟨110,.map 9 128,1,8,some (.raw (.map none))⟩,
 ⟨111,.map 9 116,1,8,some (.raw (.map none))⟩,
 ⟨113,.struct [(0,1,false),(1,1,false),(2,1,false),(3,1,false),(4,1,false)],5,56,some (amX)⟩,
 ⟨116,.struct [(0,1,false),(1,1,false)],2,16,some (amY)⟩,
 ⟨119,.struct [(0,1,false),(1,1,false),(2,1,false)],3,32,some (amZ)⟩,
 ⟨128,.struct [(0,1,false),(1,1,false)],2,32,some (am0)⟩,
 ⟨131,.struct [(0,1,false),(1,1,false),(2,1,false)],3,48,some (am1)⟩,
 ⟨138,.struct [(0,1,false),(1,5,true)],6,96,some (am2)⟩,
 ⟨139,.map 9 145,1,8,some (.raw (.map none))⟩,
 ⟨144,.slice 147,1,24,some (.bK 6)⟩,
 ⟨145,.slice 147,1,24,some (.bK 6)⟩,
 ⟨147,.struct [(0,1,false),(1,5,true)],6,88,some (alh)⟩,
 ⟨174,.struct [(0,1,false),(1,5,true),(6,1,false),(7,5,true)],12,184,some (am3)⟩,
 ⟨178,.slice 4,1,24,some (.bK 1)⟩,
 ⟨187,.struct [(0,1,false),(1,1,false),(2,1,false),(3,1,false),(4,1,false),(5,1,false),(6,1,false),(7,1,false),(8,1,false),(9,1,false)],10,10,some (am4)⟩,
 ⟨206,.struct [(0,1,false),(1,21,true)],22,328,some (am5)⟩,
 ⟨216,.int .u64,1,8,some (.lf (.int .u64 0))⟩,
 ⟨217,.slice 5,1,24,some (.bK 1)⟩,
 ⟨227,.struct [(0,1,false),(1,1,false)],2,32,some (am6)⟩,
 ⟨238,.int .i64,1,8,some (.lf (.int .i64 0))⟩,
 ⟨247,.int .u32,1,4,some (.lf (.int .u32 0))⟩,
 ⟨249,.int .u64,1,8,some (.lf (.int .u64 0))⟩,
 ⟨262,.struct [(0,1,false),(1,1,false),(2,1,false)],3,24,some (am7)⟩,
 ⟨270,.struct [(0,1,false),(1,1,false)],2,16,some (am8)⟩,
 ⟨273,.int .u64,1,8,some (.lf (.int .u64 0))⟩,
 ⟨285,.map 9 4,1,8,some (.raw (.map none))⟩,
 ⟨290,.ptr,1,8,some (.raw (.pointer none))⟩,
 ⟨316,.int .u8,1,1,some (.lf (.int .u8 0))⟩,
 ⟨317,.int .u8,1,1,some (.lf (.int .u8 0))⟩,
 ⟨320,.int .i32,1,4,some (.lf (.int .i32 0))⟩,
 ⟨321,.int .i32,1,4,some (.lf (.int .i32 0))⟩]
theorem ai6:ttb Tryz.prog TTc=true:=by kernel_rfl
end Go.Proofs.YtpdlghcgekojlaaGreatDoor
namespace Go.Proofs.YtpdlghcgekojlaaGreatDoor
open Go.RowKit
inductive Mo (ρ:Type):Type 1 where
 |ret (f:Fit) (r:ρ)
 |stop
 |say (qs:List Ans) {Φ:List Prop} (ok:dN Φ) (k:Mo ρ)
 |ite (b:Bool) (t:b=true→Mo ρ) (e:b=false→Mo ρ)
 |grd (p:Prop) [Decidable p] (k:p→Mo ρ)
 |ask {α:Type} (m:Option α) (k:(a:α)→m=some a→Mo ρ)
 |jh {α β:Type} (m:Option (α⊕β)) (k1:(a:α)→m=some (.inl a)→Mo ρ) (k2:(b:β)→m=some (.inr b)→Mo ρ)
 |Eu {α β γ:Type} (m:Option (α⊕β⊕γ)) (k1:(a:α)→m=some (.inl a)→Mo ρ) (k2:(b:β)→m=some (.inr (.inl b))→Mo ρ) (k3:(c:γ)→m=some (.inr (.inr c))→Mo ρ)
def aa6{α:Type}(b:Bool)(t:b=true→α)(e:b=false→α):α:=match b,t,e with
 |true,t,_=>t rfl
 |false,_,e=>e rfl
def aa7{α ρ:Type}(m:Option α)(k:(a:α)→m=some a→Option ρ):Option ρ:=match m,k with
 |none,_=>none
 |some a,k=>k a rfl
def TU{α β ρ:Type}(m:Option (α⊕β))(k1:(a:α)→m=some (.inl a)→Option ρ)(k2:(b:β)→m=some (.inr b)→Option ρ):Option ρ:=match m,k1,k2 with
 |none,_,_=>none
 |some (.inl a),k,_=>k a rfl
 |some (.inr b),_,k=>k b rfl
def TV{α β γ ρ:Type}(m:Option (α⊕β⊕γ))(k1:(a:α)→m=some (.inl a)→Option ρ)(k2:(b:β)→m=some (.inr (.inl b))→Option ρ)(k3:(c:γ)→m=some (.inr (.inr c))→Option ρ):Option ρ:=match m,k1,k2,k3 with
 |none,_,_,_=>none
 |some (.inl a),k,_,_=>k a rfl
 |some (.inr (.inl b)),_,k,_=>k b rfl
 |some (.inr (.inr c)),_,_,k=>k c rfl
def Iq{ρ:Type}(p:Prop)[d:Decidable p](k:p→Option ρ):Option ρ:=match d with
 |.isTrue h=>k h
 |.isFalse _=>none
noncomputable def Mo.den{ρ:Type}:Mo ρ→Option ρ
 |.ret _ r=>some r
 |.stop=>none
 |.say _ _ k=>k.den
 |.ite b t e=>aa6 b (fun h=>(t h).den) (fun h=>(e h).den)
 |@Mo.grd _ p d k=>@Iq ρ p d fun h=>(k h).den
 |.ask m k=>aa7 m fun a h=>(k a h).den
 |.jh m k1 k2=>TU m (fun a h=>(k1 a h).den) (fun b h=>(k2 b h).den)
 |.Eu m k1 k2 k3=>TV m (fun a h=>(k1 a h).den) (fun b h=>(k2 b h).den) (fun c h=>(k3 c h).den)
theorem aK{α:Type}(b:Bool)(x y:α):aa6 b (fun _=>x) (fun _=>y)=bif b then x else y:=by cases b<;>rfl
theorem aJ{ρ:Type}(p:Prop)[d:Decidable p](x:Option ρ):Iq p (fun _=>x)=if p then x else none:=by
 unfold Iq;cases d with
 |isTrue h=>simp[h]
 |isFalse h=>simp[h]
theorem aN{α ρ:Type}(m:Option α)(k:α→Option ρ):aa7 m (fun a _=>k a)=m.bind k:=by cases m<;>rfl
theorem aG{α β ρ:Type}(m:Option (α⊕β))(k1:α→Option ρ)(k2:β→Option ρ):TU m (fun a _=>k1 a) (fun b _=>k2 b)=m.bind fun x=>match x with
 |.inl a=>k1 a
 |.inr b=>k2 b:=by rcases m with _|_|_<;>rfl
theorem aH{α β γ ρ:Type}(m:Option (α⊕β⊕γ))(k1:α→Option ρ)(k2:β→Option ρ)(k3:γ→Option ρ):TV m (fun a _=>k1 a) (fun b _=>k2 b) (fun c _=>k3 c)=m.bind fun x=>match x with
 |.inl a=>k1 a
 |.inr (.inl b)=>k2 b
 |.inr (.inr c)=>k3 c:=by rcases m with _|_|_|_<;>rfl
theorem TW{α:Type}{b:Bool}{t:b=true→Option α}{e:b=false→Option α}{r:α}(h:aa6 b t e=some r):(∃hb,t hb=some r)∨∃hb,e hb=some r:=by
 cases b
 ·exact .inr ⟨rfl,h⟩
 exact .inl ⟨rfl,h⟩
theorem TY{ρ:Type}{p:Prop}{d:Decidable p}{k:p→Option ρ}{r:ρ}(h:Iq p k=some r):∃hp,k hp=some r:=by
 cases d with
 |isTrue hh=>exact⟨hh,h⟩
 |isFalse hh=>cases h
theorem Ua{α ρ:Type}{m:Option α}{k:(a:α)→m=some a→Option ρ}{r:ρ}(h:aa7 m k=some r):∃a ha,k a ha=some r:=by
 cases m with
 |none=>cases h
 |some a=>exact⟨a,rfl,h⟩
theorem OT{α β ρ:Type}{m:Option (α⊕β)}{k1:(a:α)→m=some (.inl a)→Option ρ}{k2:(b:β)→m=some (.inr b)→Option ρ}{r:ρ}(h:TU m k1 k2=some r):(∃a ha,k1 a ha=some r)∨∃b hb,k2 b hb=some r:=by
 rcases m with _|a|b
 ·cases h
 ·exact .inl ⟨a,rfl,h⟩
 exact .inr ⟨b,rfl,h⟩
theorem OU{α β γ ρ:Type}{m:Option (α⊕β⊕γ)}{k1:(a:α)→m=some (.inl a)→Option ρ}{k2:(b:β)→m=some (.inr (.inl b))→Option ρ}{k3:(c:γ)→m=some (.inr (.inr c))→Option ρ}{r:ρ}(h:TV m k1 k2 k3=some r):(∃a ha,k1 a ha=some r)∨(∃b hb,k2 b hb=some r)∨∃c hc,k3 c hc=some r:=by
 rcases m with _|a|b|c
 ·cases h
 ·exact .inl ⟨a,rfl,h⟩
 ·exact .inr (.inl ⟨b,rfl,h⟩)
 exact .inr (.inr ⟨c,rfl,h⟩)
inductive Ob (ω:Type):Type 1 where
 |leaf (o:ω)
 |two (a b:Ob ω)
 |im {p:Prop} (k:p→Ob ω)
 |fn {α:Type} {p:α→Prop} (k:(a:α)→p a→Ob ω)
section
variable {ρ ω:Type}
def Mo.lhs(run:Fit→List Ans→ω):Mo ρ→List Ans→Ob ω
 |.ret f _,acc=>.leaf (run f acc.reverse)
 |.stop,_=>.im (p:=False) fun h=>h.elim
 |.say qs _ k,acc=>k.lhs run (qs.reverseAux acc)
 |.ite _ t e,acc=>.two (.im fun h=>(t h).lhs run acc) (.im fun h=>(e h).lhs run acc)
 |@Mo.grd _ _ _ k,acc=>.im fun h=>(k h).lhs run acc
 |.ask _ k,acc=>.fn fun a h=>(k a h).lhs run acc
 |.jh _ k1 k2,acc=>.two (.fn fun a h=>(k1 a h).lhs run acc) (.fn fun a h=>(k2 a h).lhs run acc)
 |.Eu _ k1 k2 k3,acc=>.two (.fn fun a h=>(k1 a h).lhs run acc) (.two (.fn fun a h=>(k2 a h).lhs run acc) (.fn fun a h=>(k3 a h).lhs run acc))
def Mo.rhs(exp:ρ→List Prop→ω):Mo ρ→List Prop→Ob ω
 |.ret _ r,acc=>.leaf (exp r acc.reverse)
 |.stop,_=>.im (p:=False) fun h=>h.elim
 |.say (Φ:=Φ) _ _ k,acc=>k.rhs exp (Φ.reverseAux acc)
 |.ite _ t e,acc=>.two (.im fun h=>(t h).rhs exp acc) (.im fun h=>(e h).rhs exp acc)
 |@Mo.grd _ _ _ k,acc=>.im fun h=>(k h).rhs exp acc
 |.ask _ k,acc=>.fn fun a h=>(k a h).rhs exp acc
 |.jh _ k1 k2,acc=>.two (.fn fun a h=>(k1 a h).rhs exp acc) (.fn fun a h=>(k2 a h).rhs exp acc)
 |.Eu _ k1 k2 k3,acc=>.two (.fn fun a h=>(k1 a h).rhs exp acc) (.two (.fn fun a h=>(k2 a h).rhs exp acc) (.fn fun a h=>(k3 a h).rhs exp acc))
theorem dN.rev:∀(l m:List Prop),dN l→dN m→dN (l.reverseAux m)
 |[],_,_,h=>h
 |_::l,m,hl,h=>dN.rev l (_::m) hl.2 ⟨hl.1,h⟩
theorem Ob.Bq{α:Type}{p:α→Prop}{k k':(a:α)→p a→Ob ω}(h:Ob.fn k=Ob.fn k'):∀a h,k a h=k' a h:=by
 grind
theorem Ob.Ub{p:Prop}{k k':p→Ob ω}(h:Ob.im k=Ob.im k'):∀h,k h=k' h:=by
 grind
theorem Ob.DV{a b c d:Ob ω}(h:Ob.two a b=Ob.two c d):a=c∧b=d:=by
 grind
theorem Ob.aa8{a b:ω}(h:Ob.leaf a=Ob.leaf b):a=b:=by grind
theorem Mo.sound{run:Fit→List Ans→ω}{exp:ρ→List Prop→ω}:∀(t:Mo ρ) (qs:List Ans) (ps:List Prop),dN ps→t.lhs run qs=t.rhs exp ps→∀r,t.den=some r→∃f qs p,run f qs=exp r p∧dN p
 |.ret f r,qs,ps,hp,h,r',hd=>by
  injection hd with hd;subst hd
  exact⟨f,_,_,Ob.aa8 h,dN.rev ps [] hp trivial⟩
 |.stop,qs,ps,hp,h,r,hd=>by cases hd
 |.say q ok k,qs,ps,hp,h,r,hd=>Mo.sound k _ _ (dN.rev _ _ ok hp) h r hd
 |.ite b t e,qs,ps,hp,h,r,hd=>by
  obtain⟨h1,h2⟩:=Ob.DV h
  rcases TW hd with⟨hb,hd⟩|⟨hb,hd⟩
  ·exact Mo.sound (t hb) _ _ hp (Ob.Ub h1 hb) r hd
  exact Mo.sound (e hb) _ _ hp (Ob.Ub h2 hb) r hd
 |@Mo.grd _ p d k,qs,ps,hp,h,r,hd=>by
  obtain⟨hh,hd⟩:=TY hd
  exact Mo.sound (k hh) _ _ hp (Ob.Ub h hh) r hd
 |.ask m k,qs,ps,hp,h,r,hd=>by
  obtain⟨a,ha,hd⟩:=Ua hd
  exact Mo.sound (k a ha) _ _ hp (Ob.Bq h a ha) r hd
 |.jh m k1 k2,qs,ps,hp,h,r,hd=>by
  obtain⟨h1,h2⟩:=Ob.DV h
  rcases OT hd with⟨a,ha,hd⟩|⟨a,ha,hd⟩
  ·exact Mo.sound (k1 a ha) _ _ hp (Ob.Bq h1 a ha) r hd
  exact Mo.sound (k2 a ha) _ _ hp (Ob.Bq h2 a ha) r hd
 |.Eu m k1 k2 k3,qs,ps,hp,h,r,hd=>by
  obtain⟨h1,h2⟩:=Ob.DV h
  obtain⟨h2,h3⟩:=Ob.DV h2
  rcases OU hd with⟨a,ha,hd⟩|⟨a,ha,hd⟩|⟨a,ha,hd⟩
  ·exact Mo.sound (k1 a ha) _ _ hp (Ob.Bq h1 a ha) r hd
  ·exact Mo.sound (k2 a ha) _ _ hp (Ob.Bq h2 a ha) r hd
  exact Mo.sound (k3 a ha) _ _ hp (Ob.Bq h3 a ha) r hd
end
section
variable {P:Program} {G:Gh→Prop} {tt:TT} {ρ σ:Type}
theorem uP(hB:Base P G tt){nt k0:Nat}{code:Code}{st:St}(t:Mo ρ)(X:ρ→Exit)(S:ρ→St)(h:t.lhs (fun f qs=>exX P G tt nt k0 code st qs f) []=t.rhs (fun r p=>some (X r,S r,p)) []){r:ρ}(hm:t.den=some r):AWa P G tt nt k0 code (X r) (S r) st:=fun s=>by
 obtain⟨f,qs,p,h1,h2⟩:=Mo.sound t [] [] trivial h r hm
 exact TQ hB s qs f p h1 h2
theorem ali(hB:Base P G tt){nt k0:Nat}{code:Code}{l:List Nat}{st:St}(t:Mo ρ)(S:ρ→St)(h:t.lhs (fun f qs=>exO P G tt nt k0 code l st qs f) []=t.rhs (fun r p=>some (S r,p)) []){r:ρ}(hm:t.den=some r):afz P G tt nt k0 code l (S r) st:=by
 obtain⟨f,qs,p,h1,h2⟩:=Mo.sound t [] [] trivial h r hm
 exact aiZ hB qs f p h1 h2
def dA(T:σ→Option (σ⊕ρ)):Nat→σ→Option ρ
 |0,_=>none
 |n+1,v=>(T v).bind fun x=>match x with
  |.inl v'=>dA T n v'
  |.inr r=>some r
theorem Uc(hB:Base P G tt){nt k0:Nat}{code body:Code}(hc:code=.loop body)(T:σ→Mo (σ⊕ρ))(S0:σ→St)(X:ρ→Exit)(S:ρ→St)(hX:∀r,zq (X r)=true)
 (h:∀v,(T v).lhs (fun f qs=>exX P G tt nt k0 body (S0 v) qs f) []=(T v).rhs (fun x p=>match x with|.inl v'=>some (.normal,S0 v',p)|.inr r=>some (X r,S r,p)) []):
 ∀{n:Nat} {v:σ} {r:ρ},dA (fun v=>(T v).den) n v=some r→AWa P G tt nt k0 code (X r) (S r) (S0 v):=by
 subst hc
 have key:∀(n:Nat) (v:σ) (r:ρ),dA (fun v=>(T v).den) n v=some r→∀s:Sur k0,AL (mkC P G tt nt s) body (X r) (S r) (S0 v):=by
  intro n
  induction n with
  |zero=>intro v r hr;cases hr
  |succ n ih=>
   intro v r hr s
   unfold dA at hr
   rw[Option.bind_eq_some_iff] at hr
   obtain⟨x,hx,hr⟩:=hr
   obtain⟨f,qs,p,h1,h2⟩:=Mo.sound (T v) [] [] trivial (h v) x hx
   cases x with
   |inl v'=>exact AL.next (TQ hB s qs f p h1 h2) (ih v' r hr s)
   |inr r'=>
    injection hr with hr;subst hr
    exact AL.stop (TQ hB s qs f p h1 h2) (hX r')
 exact fun {n v r} hr s=>AL.loop (key n v r hr s)
theorem aa9(hB:Base P G tt){f:FuncId}{fn:Func}(hf:P.funcs[f]?=some fn)(hbd:fn.body.isSome=true)(hcall:nN P f=true){args:List AV}{H0:List Slot}(hnt:Nat.ble args.length fn.ntmps=true)
 (t:Mo ρ) (L:ρ→List AV) (HH:ρ→List Slot) (h:t.lhs (fun f qs=>exF P G tt fn args H0 qs f) []=t.rhs (fun r p=>some (L r,HH r,p)) []) {r:ρ} (hm:t.den=some r):FnH P G f args H0 (resV (L r)) (HH r):=by
 obtain⟨ft,qs,p,h1,h2⟩:=Mo.sound t [] [] trivial h r hm
 exact ai0 hB hf hbd hcall hnt qs ft p h1 h2
theorem ai7(hB:Base P G tt){f:FuncId}{fn:Func}(hf:P.funcs[f]?=some fn)(hbd:fn.body.isSome=true)(hcall:nN P f=true){args:List AV}(hnt:Nat.ble args.length fn.ntmps=true)
 (t:Mo ρ) (L:ρ→List AV) (h:t.lhs (fun f qs=>exF P G tt fn args [] qs f) []=t.rhs (fun r p=>some (L r,[],p)) []) {r:ρ} (hm:t.den=some r):Fn P G f args (resV (L r)):=
 Fn.amS (aa9 hB hf hbd hcall hnt t L (fun _=>[]) h hm)
end
theorem ok0:dN []:=trivial
theorem ok1{a:Prop}(h:a):dN [a]:=⟨h,trivial⟩
theorem ok2{a b:Prop}(h:a)(k:b):dN [a,b]:=⟨h,k,trivial⟩
theorem okc{a:Prop}{l:List Prop}(h:a)(k:dN l):dN (a::l):=⟨h,k⟩
def bF(n:Nat):Fit:=⟨[],List.range n,[],0⟩
end Go.Proofs.YtpdlghcgekojlaaGreatDoor
namespace Go.Proofs.YtpdlghcgekojlaaGreatDoor
open Go.RowKit
section
variable {α:Type}
def iQ(s:ByteArray)(x:α):List (ByteArray×α)→List (ByteArray×α)
 |[]=>[(s,x)]
 |(t,y)::r=>match bytesBefore s.data.toList t.data.toList with
  |true=>(s,x)::(t,y)::r
  |false=>(t,y)::iQ s x r
def dH(s:ByteArray)(l:List (ByteArray×α)):List (ByteArray×α):=l.filter fun p=>!decide (p.1=s)
def eF(s:ByteArray)(x:α)(l:List (ByteArray×α)):List (ByteArray×α):=iQ s x (dH s l)
def aI(s:ByteArray):List (ByteArray×α)→Option α
 |[]=>none
 |(t,y)::r=>match decide (t=s) with
  |true=>some y
  |false=>aI s r
theorem Iy{β:Type}(f:α→β)(s:ByteArray)(x:α):∀l:List (ByteArray×α),(iQ s x l).map (fun p=>(p.1,f p.2))=iQ s (f x) (l.map fun p=>(p.1,f p.2))
 |[]=>rfl
 |(t,y)::r=>by
  simp only[iQ,List.map_cons]
  split
  ·rfl
  rw[List.map_cons,Iy f s x r]
theorem Iz{β:Type}(f:α→β)(s:ByteArray)(l:List (ByteArray×α)):(dH s l).map (fun p=>(p.1,f p.2))=dH s (l.map fun p=>(p.1,f p.2)):=by
 unfold dH
 rw[List.filter_map];rfl
theorem IB{β:Type}(f:α→β)(s:ByteArray)(x:α)(l:List (ByteArray×α)):(eF s x l).map (fun p=>(p.1,f p.2))=eF s (f x) (l.map fun p=>(p.1,f p.2)):=by
 unfold eF;rw[Iy,Iz]
theorem IC{β:Type}(f:α→β)(s:ByteArray):∀l:List (ByteArray×α),aI s (l.map fun p=>(p.1,f p.2))=(aI s l).map f
 |[]=>rfl
 |(t,y)::r=>by
  simp only[List.map_cons,aI]
  split
  ·rfl
  exact IC f s r
theorem BA{s:ByteArray}{x:α}{p:ByteArray×α}:∀{l:List (ByteArray×α)},p∈iQ s x l↔p=(s,x)∨p∈l
 |[]=>by simp[iQ]
 |(t,y)::r=>by
  simp only[iQ]
  split
  ·simp
  rw[List.mem_cons,List.mem_cons,BA]
  grind
theorem lU{s:ByteArray}{p:ByteArray×α}{l:List (ByteArray×α)}:p∈dH s l↔p∈l∧p.1≠s:=by
 unfold dH
 simp
theorem BD{s:ByteArray}{x:α}{p:ByteArray×α}{l:List (ByteArray×α)}:p∈eF s x l↔p=(s,x)∨(p∈l∧p.1≠s):=by
 unfold eF;rw[BA,lU]
theorem kQ{s:ByteArray}{x:α}:∀{l:List (ByteArray×α)},aI s l=some x→(s,x)∈l
 |[],h=>by cases h
 |(t,y)::r,h=>by
  simp only[aI] at h
  split at h
  ·grind
  exact List.mem_cons_of_mem _ (kQ h)
theorem EG{s:ByteArray}{x:α}:∀{l:List (ByteArray×α)},(s,x)∈l→(aI s l).isSome=true
 |(t,y)::r,h=>by
  simp only[aI]
  split
  ·rfl
  rename_i hd
  rcases List.mem_cons.1 h with h|h
  ·grind
  exact EG h
def LU(l:List (ByteArray×α)):Prop:=l.Pairwise fun p q=>p.1≠q.1
theorem EH{s:ByteArray}{x:α}:∀{l:List (ByteArray×α)},LU l→(s,x)∈l→aI s l=some x
 |(t,y)::r,hd,h=>by
  simp only[aI]
  obtain⟨h1,h2⟩:=List.pairwise_cons.1 hd
  split
  ·grind
  rename_i ht
  rcases List.mem_cons.1 h with h|h
  ·grind
  exact EH h2 h
theorem uT{s:ByteArray}{x:α}:∀{l:List (ByteArray×α)},(∀p∈l,p.1≠s)→aI s (iQ s x l)=some x
 |[],_=>by simp[iQ,aI]
 |(t,y)::r,h=>by
  simp only[iQ]
  split
  ·simp[aI]
  have:=h (t, y) (by simp)
  simp only[aI,decide_eq_false this]
  exact uT fun p hp=>h p (by simp[hp])
theorem zB{s t:ByteArray}{x:α}(hne:s≠t):∀{l:List (ByteArray×α)},aI t (iQ s x l)=aI t l
 |[]=>by simp[iQ,aI,hne]
 |(u,y)::r=>by
  simp only[iQ]
  split
  ·simp[aI,hne]
  simp only[aI]
  split
  ·rfl
  exact zB hne
theorem fZ(s:ByteArray):∀l:List (ByteArray×α),aI s (dH s l)=none
 |[]=>rfl
 |(t,y)::r=>by
  unfold dH
  rw[List.filter_cons]
  split
  ·rename_i h
   simp only[aI]
   split
   ·grind
   exact fZ s r
  exact fZ s r
theorem gU{s t:ByteArray}(hne:s≠t):∀l:List (ByteArray×α),aI t (dH s l)=aI t l
 |[]=>rfl
 |(u,y)::r=>by
  unfold dH
  rw[List.filter_cons]
  split
  ·simp only[aI]
   split
   ·rfl
   exact gU hne r
  rename_i h
  have hu:u=s:=by simpa using h
  simp only[aI]
  split
  ·grind
  exact gU hne r
theorem fH(s:ByteArray)(x:α)(l:List (ByteArray×α)):aI s (eF s x l)=some x:=uT fun _ hp=>(lU.1 hp).2
theorem gV{s t:ByteArray}(hne:s≠t)(x:α)(l:List (ByteArray×α)):aI t (eF s x l)=aI t l:=by
 unfold eF;rw[zB hne,gU hne]
end
def xX(v:Value):Option (DataW Value×List MemPlace):=some (.held v,[])
def mJ(l:List (ByteArray×Value)):List (Lit×DataW Value):=l.map fun p=>(.string p.1.data.toList,.held p.2)
def ji(w:World)(P:Program)(k:TypeId)(b:Nat)(l:List (ByteArray×Value)):Prop:=w.ownsMap P k xX b l.length (.map (mJ l))
theorem O1(s:ByteArray)(v:Value):∀l:List (ByteArray×Value),DataW.insert (.string s.data.toList,.held v) (mJ l)=mJ (iQ s v l)
 |[]=>rfl
 |(t,y)::r=>by
  show DataW.insert _ ((Lit.string t.data.toList,.held y)::mJ r)=_
  simp only[DataW.insert,iQ]
  show(if bytesBefore s.data.toList t.data.toList=true then _ else _)=_
  cases h:bytesBefore s.data.toList t.data.toList with
  |true=>simp[mJ]
  |false=>simp only[Bool.false_eq_true,if_false];rw[O1 s v r];simp[mJ]
theorem key_eq(s t:ByteArray):Lit.sameKey (.string t.data.toList) (.string s.data.toList)=decide (t=s):=by
 show(t.data.toList==s.data.toList)=decide (t=s)
 rw[Bool.eq_iff_iff,beq_iff_eq,decide_eq_true_eq]
 constructor
 ·intro h
  rcases t with⟨⟨t⟩⟩;rcases s with⟨⟨s⟩⟩
  grind
 grind
theorem O4(s:ByteArray)(l:List (ByteArray×Value)):(mJ l).filter (fun p=>!p.1.sameKey (.string s.data.toList))=mJ (dH s l):=by
 unfold mJ dH
 rw[List.filter_map]
 congr 1
 apply List.filter_congr
 intro p _
 show(!Lit.sameKey (.string p.1.data.toList) (.string s.data.toList))=_
 rw[key_eq]
theorem abk(s:ByteArray)(v:Value)(l:List (ByteArray×Value)):(DataW.map (mJ l)).put (.string s.data.toList) (.held v)=.map (mJ (eF s v l)):=by
 show DataW.map (DataW.insert _ (List.filter _ _))=_
 rw[O4,O1];rfl
theorem Yj(s:ByteArray)(l:List (ByteArray×Value)):(DataW.map (mJ l)).del (.string s.data.toList)=.map (mJ (dH s l)):=by
 show DataW.map (List.filter _ _)=_
 rw[O4]
theorem wB(s:ByteArray):∀l:List (ByteArray×Value),(mJ l).find? (fun p=>p.1.sameKey (.string s.data.toList))=(aI s l).map fun v=>(.string s.data.toList,.held v)
 |[]=>rfl
 |(t,y)::r=>by
  show List.find? _ ((Lit.string t.data.toList,.held y)::mJ r)=_
  rw[List.find?_cons,key_eq,wB s r]
  simp only[aI]
  grind
theorem LV(s:ByteArray)(l:List (ByteArray×Value))(z:Value):(DataW.map (mJ l)).atKey (.string s.data.toList) (.held z)=.held ((aI s l).getD z):=by
 unfold DataW.atKey
 simp only[wB]
 cases aI s l<;>rfl
theorem O5(s:ByteArray)(l:List (ByteArray×Value)):Maps.has (DataW.map (mJ l)) (.string s.data.toList)=(aI s l).isSome:=by
 show(mJ l).any (fun p=>p.1.sameKey (.string s.data.toList))=_
 cases h:aI s l with
 |none=>
  have:=wB s l
  grind
 |some v=>
  have:=wB s l
  grind
section
variable {w:World} {P:Program} {k:TypeId} {b:Nat} {l:List (ByteArray×Value)}
theorem ji.of{n:Nat}(h:w.ownsMap P k xX b n (.map (mJ l))):ji w P k b l:=by
 obtain⟨es,clock,hb,F,hs,hD⟩:=h
 refine⟨es,clock,hb,F,?_,hD⟩
 injection hD with hD
 have:=congrArg List.length hD
 rw[length_sorted] at this
 simp[mJ] at this
 omega
theorem ji.lt(h:ji w P k b l):b<w.heap.size:=World.ownsMap.lt h
theorem ji.made(w:World)(P:Program)(k:TypeId):ji (w.alloc (.map #[] 0)) P k w.heap.size []:=World.ownsMap_made w P k xX
theorem ji.congr{w':World}(h:ji w P k b l)(k1:w'.heap[b]?=w.heap[b]?):ji w' P k b l:=by
 obtain⟨es,clock,hb,r⟩:=h
 exact⟨es,clock,by rw[k1];exact hb,r⟩
variable {t e:TypeId}
theorem ji.look_ok(h:ji w P k b l)(hk:P.underlying k=some .string)(ht:P.underlying t=some (.map k e)){z:Value}(hz:(zeroValue e).run P w=.ok z w){s:ByteArray}(hs:s.size≤maxLen):
 (Instr.lookup t (.map (some b)) (.string s) true).run P w=.ok (.tuple #[(aI s l).getD z,.bool (aI s l).isSome]) w:=by
 obtain⟨v,ps,h1,h2⟩:=World.ownsMap.look_ok h (Maps.string_keyed hk) ht hz (zd:=.held z) (zp:=[]) rfl (WideMaps.keyOf_string_mk hk hs)
 rw[LV] at h2
 injection h2 with h2
 injection h2 with h2 _
 injection h2 with h2
 rw[h1,O5,h2]
theorem ji.look(h:ji w P k b l)(hk:P.underlying k=some .string)(ht:P.underlying t=some (.map k e)){z:Value}(hz:(zeroValue e).run P w=.ok z w){s:ByteArray}(hs:s.size≤maxLen):
 (Instr.lookup t (.map (some b)) (.string s) false).run P w=.ok ((aI s l).getD z) w:=by
 obtain⟨v,ps,h1,h2⟩:=World.ownsMap.lookup h (Maps.string_keyed hk) ht hz (zd:=.held z) (zp:=[]) rfl (WideMaps.keyOf_string_mk hk hs)
 rw[LV] at h2
 injection h2 with h2
 grind
theorem ji.store(h:ji w P k b l)(hk:P.underlying k=some .string)(ht:P.underlying t=some (.map k e))(hn:l.length<maxLen){s:ByteArray}(hs:s.size≤maxLen)(v:Value):
 ∃w',(Instr.mapUpdate t (.map (some b)) (.string s) v).run P w=.ok () w'∧ji w' P k b (eF s v l)∧w.grownBy w' (some b)∧w'.heap.size=w.heap.size:=by
 obtain⟨w',h1,h2,h3⟩:=World.ownsMap.store h (Maps.string_keyed hk) ht hn (d:=.held v) (ps:=[]) (WideMaps.keyOf_string_mk hk hs) rfl
 rw[abk] at h2
 refine⟨w',h1,ji.of h2,h3.grown,?_⟩
 obtain⟨_,_,_,_,_,rfl⟩:=h3
 simp[Go.ChangeMaps.setBlock]
theorem ji.drop(h:ji w P k b l)(hk:P.underlying k=some .string)(ht:P.underlying t=some (.map k e)){s:ByteArray}(hs:s.size≤maxLen)(ty:TypeId):
 ∃w',(Builtin.delete_ #[t,k] ty #[.map (some b),.string s]).run P w=.ok (.tuple #[]) w'∧ji w' P k b (dH s l)∧w.grownBy w' (some b)∧w'.heap.size=w.heap.size:=by
 obtain⟨w',h1,h2,h3⟩:=World.ownsMap.drop h (Maps.string_keyed hk) ht (WideMaps.keyOf_string_mk hk hs) ty
 rw[Yj] at h2
 refine⟨w',h1,ji.of h2,h3.grown,?_⟩
 obtain⟨_,_,_,_,_,rfl⟩:=h3
 simp[Go.ChangeMaps.setBlock]
theorem ji.abl(h:ji w P k b l)(hk:P.underlying k=some .string):∀p∈l,p.1.size≤maxLen:=fun p hp=>by
 obtain⟨es,clock,hb,F,hs,hD⟩:=h
 injection hD with hD
 have h1:(Lit.string p.1.data.toList,DataW.held p.2)∈mJ l:=List.mem_map.2 ⟨p,hp,rfl⟩
 rw[hD,(WideShapes.sorted_perm _).mem_iff] at h1
 obtain⟨x,hx,he⟩:=List.mem_map.1 h1
 obtain⟨y,hy⟩:=F.reads x hx
 have h2:=WideElems.rd_key hy
 rw[WideElems.rg_of hy] at he
 rw[he,Go.keyOf_string hk] at h2
 unfold mapKey at h2
 rw[hk] at h2
 split at h2
 ·cases h2
 ·grind
 ·rename_i s _ hu
  split at h2
  ·rename_i hle
   injection h2 with h2
   injection h2 with h2
   have:p.1.size=s.size:=by
    rw[←ByteArray.size_data,←ByteArray.size_data,←Array.length_toList,←Array.length_toList,h2]
   omega
  cases h2
 cases h2
theorem ji.tidy(h:ji w P k b l)(hk:P.underlying k=some .string):LU l:=by
 obtain⟨es,h1,h2⟩:=World.ownsMap.tidy h (Maps.string_keyed hk)
 injection h1 with h1
 subst h1
 unfold mJ at h2
 rw[List.pairwise_map] at h2
 exact h2.imp fun hne he=>hne (by rw[he])
end
end Go.Proofs.YtpdlghcgekojlaaGreatDoor
