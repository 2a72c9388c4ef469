/- codec.Read, Decode. -/
import Derived.Test.YtflpefkohpjjpaaGreatDoorQORdRead
import Derived.Test.YtflpefkohpjjpaaGreatDoorQO5
import Derived.Laws.Externs
set_option linter.unusedSimpArgs false
set_option linter.unusedVariables false
namespace Go.Proofs.YtflpefkohpjjpaaGreatDoor
open Go.RowKit
theorem aiz (s:ByteArray) (x:Int) (w:World) (hs:s.size ≤ 1000000000000000) (hT:Tabs w) : Calls Tryz.prog 144 #[.string s,.int .i64 x] w (FX w (FW s x)) := by
  unfold FW
  by_cases h:x < 0 ∨ (s.size:Int) < x
  · rw [if_pos h]; exact adu s x w h hs
  · rw [if_neg h]
    obtain ⟨p,rfl⟩ := Int.eq_ofNat_of_zero_le (show 0 ≤ x by omega)
    exact aiy s p w (by omega) hs hT
end Go.Proofs.YtflpefkohpjjpaaGreatDoor
set_option linter.unusedSimpArgs false
set_option linter.unusedVariables false
namespace Go.Proofs.YtflpefkohpjjpaaGreatDoor
open Go.RowKit
noncomputable def aoo (s:ByteArray) : Option Bool := some (DC s)
theorem aiA (s:ByteArray) (r:Bool) (h:aoo s = some r) : Fn Tryz.prog GI 276 [.lf (.str s)] (.lf (.bool r)) := by
  injection h with h; subst h
  refine Fn.of (by kernel_rfl) fun I w vs hG hi hvs=>?_
  obtain ⟨v,q,rfl,h1,h2⟩ := VRs.Fz hvs
  obtain rfl := VRs.adg h2
  obtain ⟨rfl,hs⟩ := (VR.lf.1 h1).str
  refine (oq s w hs (hG w hi)).mono ?_
  rintro e w' ⟨rfl,he⟩
  exact ⟨I,_,rfl,Gr.Bz hi he,VR.lf.2 (by unfold LRp; rfl)⟩
def aiB:List UInt8 → List UInt8 → Int := Lib.compareBytes
set_option maxRecDepth 20000 in
set_option maxHeartbeats 4000000 in
theorem aiC (a b:ByteArray) (w:World) : Calls Tryz.prog 330 #[.string a,.string b] w fun e w'=>e = .returned (.int .i64 (aiB a.data.toList b.data.toList)) ∧ w = w' := by
  go_enter Tryz.func330,Tryz.ntmps330
  go_wp2_with fail
  rw [run_callFunc_extern Tryz.func338 (by kernel_rfl) (by kernel_rfl) (by kernel_rfl) (e := Extern.BytealgCompare.compare) (by kernel_rfl),Lib.run_compareString]
  simp only [Result.andThen]
  rw [Oper.upon_value]
  go_wp2_with fail
  go_ret
  exact ⟨rfl,rfl⟩
set_option maxRecDepth 20000 in
set_option maxHeartbeats 4000000 in
theorem aiD (a b:ByteArray) (w:World) : Calls Tryz.prog 299 #[.string a,.string b] w fun e w'=>e = .returned (.int .i64 (aiB a.data.toList b.data.toList)) ∧ w = w' := by
  go_enter Tryz.func299,Tryz.ntmps299
  go_wp2_with fail
  refine (aiC _ _ _).mono ?_
  rintro e w3 ⟨rfl,rfl⟩
  go_wp2_with fail
  go_ret
  exact ⟨rfl,rfl⟩
/-- strings.Compare -/
def V8 (a b:ByteArray) : Int := aiB a.data.toList b.data.toList
theorem aiE (a b:ByteArray) : (Lit.int .i64 (V8 a b)).wf = true := by
  have h:V8 a b = -1 ∨ V8 a b = 0 ∨ V8 a b = 1 := by
    unfold V8 aiB
    generalize a.data.toList = x
    generalize b.data.toList = y
    induction x generalizing y with
    | nil=>cases y <;> simp [Lib.compareBytes]
    | cons p r ih =>
      cases y with
      | nil=>simp [Lib.compareBytes]
      | cons q s =>
        simp only [Lib.compareBytes]
        have := ih s
        split <;> (try split) <;> simp_all
  rcases h with h | h | h <;> rw [h] <;> rfl
noncomputable def amk (a b:ByteArray) : Option Int := some (V8 a b)
theorem X9 (a b:ByteArray) (r:Int) (h:amk a b = some r) : Fn Tryz.prog GI 299 [.lf (.str a),.lf (.str b)] (.lf (.int .i64 r)) := by
  injection h with h; subst h
  refine Fn.of (by kernel_rfl) fun I w vs hG hi hvs=>?_
  obtain ⟨v,q,rfl,h1,h2⟩ := VRs.Fz hvs
  obtain ⟨v',q,rfl,h3,h4⟩ := VRs.Fz h2
  obtain rfl := VRs.adg h4
  obtain ⟨rfl,_⟩ := (VR.lf.1 h1).str
  obtain ⟨rfl,_⟩ := (VR.lf.1 h3).str
  refine (aiD a b w).mono ?_
  rintro e w' ⟨rfl,rfl⟩
  exact ⟨I,_,rfl,Gr.Bz hi (Ext.refl w),VR.lf.2 (by unfold LRp; exact ⟨rfl,aiE a b⟩)⟩
/-- codec.Read -/
def Ya (s:ByteArray) (x:Int) : aj × Int × Int := ((FW s x).1.gv,(FW s x).2.1,(FW s x).2.2)
def okI (n:Int) : Bool := decide (-9223372036854775808 ≤ n) && decide (n ≤ 9223372036854775807)
theorem adv {n:Int} (h:okI n = true) : (Lit.int .i64 n).wf = true := by
  unfold okI at h
  rw [Bool.and_eq_true,decide_eq_true_iff,decide_eq_true_iff] at h
  exact VY ⟨h.1,by omega⟩
noncomputable def adw (s:ByteArray) (x:Int) : Option (aj × Int × Int) := bif Nat.ble s.size 1000000000000000 && (okI (Ya s x).2.1 && okI (Ya s x).2.2) then some (Ya s x) else none
theorem Yb (s:ByteArray) (x:Int) (r:aj × Int × Int) (h:adw s x = some r) : Fn Tryz.prog GI 144 [.lf (.str s),.lf (.int .i64 x)] (.tup [.dat (aj.lf1 r.1),.lf (.int .i64 r.2.1),.lf (.int .i64 r.2.2)]) := by
  unfold adw at h
  obtain ⟨hg,h⟩ := (Zy h).resolve_right (fun k=>by cases k.2)
  obtain ⟨hg1,hg2⟩ := Bool.and_eq_true_iff.1 hg
  obtain ⟨hg2,hg3⟩ := Bool.and_eq_true_iff.1 hg2
  injection h with h; subst h
  refine Fn.of (by kernel_rfl) fun I w vs hG hi hvs=>?_
  obtain ⟨v,q,rfl,h1,h2⟩ := VRs.Fz hvs
  obtain ⟨v',q,rfl,h3,h4⟩ := VRs.Fz h2
  obtain rfl := VRs.adg h4
  obtain ⟨rfl,hs⟩ := (VR.lf.1 h1).str
  obtain ⟨rfl,_⟩ := (VR.lf.1 h3).int
  refine (aiz s x w (Nat.le_of_ble_eq_true hg1) (hG w hi)).mono ?_
  rintro e w' ⟨v,rfl,hv,he⟩
  obtain ⟨cs,rfl,hc⟩ := hv.ghost
  refine ⟨newG I w.heap.size w',_,rfl,aif hi he,VR.tup.2 ⟨[.agg cs.toArray,.int .i64 _,.int .i64 _],rfl,VRs.cons (VR.dat.2 ⟨cs,rfl,?_⟩) (VRs.cons (VR.lf.2 ?_) (VRs.one (VR.lf.2 ?_)))⟩⟩
  · rw [← aj.bD]; exact hc
  · unfold LRp; exact ⟨rfl,adv hg2⟩
  · unfold LRp; exact ⟨rfl,adv hg3⟩
/-- a string's bytes, as numbers -/
def numsOf (s:ByteArray) : List Int := s.data.toList.map fun b=>(b.toNat:Int)
theorem gy (s:ByteArray) : (numsOf s).map (lfK .u8) = rY s := by
  unfold numsOf rY
  rw [List.map_map]; rfl
theorem jG (s:ByteArray) : (numsOf s).length = s.size := by
  unfold numsOf
  rw [List.length_map,Array.length_toList]; rfl
end Go.Proofs.YtflpefkohpjjpaaGreatDoor
set_option linter.unusedSimpArgs false
set_option linter.unusedVariables false
namespace Go.Proofs.YtflpefkohpjjpaaGreatDoor
open Go.RowKit
set_option maxRecDepth 20000
set_option maxHeartbeats 4000000
noncomputable section
def aml (p_n:Int) : Mo (aj) :=
 .ret (bf 1) (aj.mk 3 p_n ⟨#[]⟩ [] [])
def aop (p_n:Int) : Option (aj) := Mo.den (aml p_n)
theorem NU (p_n:Int) : FV (aop p_n) 74 [.i_ p_n] (fun r=>.dat (aj.lf1 r)) := dU Tryz.func74 (by kernel_rfl) (fun _=>rfl) (by kernel_rfl)
def amm (p_stamp:Int) (p_key:Int) (p_id:Int) : Mo (bM) :=
 .cl (NU p_id) fun r4 _ =>
 .ask (aop p_key) fun r6 h7 =>
 .say [.jX (.q 0 (.q 1 (.q 2 (.alt 3 (.l 4 (.q 5 (.q 6 (.l 7 .fin)))) (.l 4 (.l 3 (.q 5 (.q 6 (.l 7 .fin))))))))) (some 7) [] [.both [.res (.dat (aj.lf1 r6))] [.res (.dat (aj.lf1 r6))]] [6] 3 [(6,.ptr 0 0)] [.box 51 (VH Z51 [(0,.i_ 1),(1,.i_ p_stamp),(4,.i_ 2),(5,.lf (.str ⟨#[115]⟩)),(6,.i_ r6.aF),(7,.i_ r6.eU),(8,.lf (.str r6.fText)),(9,.lf (.rows 5 (r6.aU.map aj.lf))),(10,.lf (.rows 6 (r6.aX.map aB.lf))),(11,.i_ 5),(15,.own 1)]),.row 115 6 [(aB.lf1 (aB.mk ⟨#[95,105,100]⟩ r4))],.box 25 (.agg [.i_ 5,.i_ 0,.lf (.str ⟨#[]⟩),.bU 5,.own 1])],.at_ 0 0,.MZ 1 ([aB.mk ⟨#[95,105,100]⟩ r4].map aB.lf)] (okc (NU _ _ h7) (okc (rf_ ⟨[(6,.ptr 0 0)],[.box 51 (VH Z51 [(0,.i_ 1),(1,.i_ p_stamp),(4,.i_ 2),(5,.lf (.str ⟨#[115]⟩)),(6,.i_ r6.aF),(7,.i_ r6.eU),(8,.lf (.str r6.fText)),(9,.lf (.rows 5 (r6.aU.map aj.lf))),(10,.lf (.rows 6 (r6.aX.map aB.lf))),(11,.i_ 5),(15,.own 1)]),.row 115 6 [(aB.lf1 (aB.mk ⟨#[95,105,100]⟩ r4))],.box 25 (.agg [.i_ 5,.i_ 0,.lf (.str ⟨#[]⟩),.bU 5,.own 1])]⟩) (okc (NU _ _ h7) (okc (rf_ ⟨[(6,.ptr 0 0)],[.box 51 (VH Z51 [(0,.i_ 1),(1,.i_ p_stamp),(4,.i_ 2),(5,.lf (.str ⟨#[115]⟩)),(6,.i_ r6.aF),(7,.i_ r6.eU),(8,.lf (.str r6.fText)),(9,.lf (.rows 5 (r6.aU.map aj.lf))),(10,.lf (.rows 6 (r6.aX.map aB.lf))),(11,.i_ 5),(15,.own 1)]),.row 115 6 [(aB.lf1 (aB.mk ⟨#[95,105,100]⟩ r4))],.box 25 (.agg [.i_ 5,.i_ 0,.lf (.str ⟨#[]⟩),.bU 5,.own 1])]⟩) (ok1 (by simp [aB.bD] : [aB.mk ⟨#[95,105,100]⟩ r4].map aB.lf = [(aB.lf1 (aB.mk ⟨#[95,105,100]⟩ r4))])))))) <|
 .ret (bf 1) (bM.mk 1 p_stamp ⟨#[]⟩ 0 (ak.aof (ak.aoe (ak.ac2 (ak.Jw ak.z 2) ⟨#[115]⟩) r6) (aj.mk 5 0 ⟨#[]⟩ [] [aB.mk ⟨#[95,105,100]⟩ r4])))
def apM (p_stamp:Int) (p_key:Int) (p_id:Int) : Option (bM) := Mo.den (amm p_stamp p_key p_id)
theorem NV (p_stamp:Int) (p_key:Int) (p_id:Int) : FV (apM p_stamp p_key p_id) 33 [.i_ p_stamp,.i_ p_key,.i_ p_id] (fun r=>.dat (bM.lf1 r)) := dU Tryz.func33 (by kernel_rfl) (fun _=>rfl) (by kernel_rfl)
def adx (p_s:ByteArray) : Mo (Bool) :=
 .iG 4003 (decide (((p_s.size:Int) : Int) < 1)) (.rt [0,11] 0 (true)) <|
 .rt [0,11] 0 (decide ((32:Int) < (p_s.size:Int)))
def ady (p_s:ByteArray) (r0:Bool) : Mo (Bool) :=
 .iG 4008 (r0) (.rt [0,16] 0 (true)) <|
 .ask (lF p_s 0) fun b0 h0 =>
 .say [.byt b0] (ok1 (gB h0)) <|
 .rt [0,16] 0 ((b0.toNat:Int) == 36)
def ZI (p_s:ByteArray) (v0:Int) : Mo (Bool) :=
 .ask (lF p_s v0) fun b0 h0 =>
 .say [.byt b0] (ok1 (gB h0)) <|
 .iG 14004 (decide (((b0.toNat:Int) : Int) < 33)) (.rt [0,3,18,19,31] 0 (true)) <|
 .ask (lF p_s v0) fun b1 h1 =>
 .say [.byt b1] (ok1 (gB h1)) <|
 .rt [0,3,18,19,31] 0 (decide ((126:Int) < (b1.toNat:Int)))
def ZJ (p_s:ByteArray) (r0:Bool) (v0:Int) : Mo (Bool) :=
 .iG 14010 (r0) (.rt [0,18,19,37] 0 (true)) <|
 .ask (lF p_s v0) fun b0 h0 =>
 .say [.byt b0] (ok1 (gB h0)) <|
 .rt [0,18,19,37] 0 ((b0.toNat:Int) == 46)
def JJ (p_s:ByteArray) : (Int) → Mo ((Int) ⊕ (Unit ⊕ Unit)) := fun (v0) =>
 .iB (decide ((v0:Int) < (p_s.size:Int))) (.sj Tryz.f29 0 [1,1,0,1,0,0,1,1,0,0,1,0] [0,1,2,3,4,5,6,7,8,9] 6 10 [0,3,18,19] 0 (fun r_=>⟨[(0,.lf (.str p_s)),(3,.i_ v0),(18,.i_ (p_s.size:Int)),(19,.i_ v0),(31,.b_ r_)],[]⟩) ⟨[(0,.lf (.str p_s)),(3,.i_ v0),(18,.i_ (p_s.size:Int)),(19,.i_ v0)],[]⟩ (ZI p_s v0).den (sW (by kernel_rfl)) fun r0 _ =>
 .sj Tryz.f29 0 [1,1,0,1,0,0,1,1,0,0,1,0] [10,11,12,13,14,15] 6 6 [0,3,18,19,31] 0 (fun r_=>⟨[(0,.lf (.str p_s)),(18,.i_ (p_s.size:Int)),(19,.i_ v0),(37,.b_ r_)],[]⟩) ⟨[(0,.lf (.str p_s)),(3,.i_ v0),(18,.i_ (p_s.size:Int)),(19,.i_ v0),(31,.b_ r0)],[]⟩ (ZJ p_s r0 v0).den (sW (by kernel_rfl)) fun r1 _ =>
 .iB (r1) (.rt [2] 0 (.inr (.inl ()))) <|
 .rt [0,18,19] 0 (.inl (IntKind.wrap .i64 (v0 + 1)))) <|
 .rt [] 0 (.inr (.inr (())))
def Yc (p_s:ByteArray) (v0:Int) : Option (Unit ⊕ Unit) := bT (fun v_=>(JJ p_s v_).den) FU (v0)
def JK (p_s:ByteArray) : (Int) → St := fun (v0)=>⟨[(0,.lf (.str p_s)),(18,.i_ (p_s.size:Int)),(19,.i_ v0)],[]⟩
def uT (r_:Unit ⊕ Unit) : Exit := match r_ with
 | .inl o_=>.ret
 | .inr (o_)=>.exit 0
def uU  (r_:Unit ⊕ Unit) : St := match r_ with
 | .inl o_=>⟨[(2,.b_ false)],[]⟩
 | .inr (o_)=>⟨[],[]⟩
theorem JL {p_s:ByteArray} {v0:Int} {r_:Unit ⊕ Unit} (h:Yc p_s v0 = some r_) : eF Tryz.f29 0 [1,1,0,1,0] (uT r_) (uU r_) (JK p_s (v0)) :=
 dK dA (body := (Code.sub (bodyC Tryz.f29) [1,1,0,1,0,0])) (by kernel_rfl) (JJ p_s) (JK p_s) uT uU (fun r_=>by rcases r_ with _ | _ <;> rfl) (fun v_=>by kernel_rfl) h
def aoq (p_s:ByteArray) : Mo (Bool) :=
 .sj Tryz.f29 0 [1,0,0] [0,1,2,3,4,5,6,7] 1 8 [0] 0 (fun r_=>⟨[(0,.lf (.str p_s)),(11,.b_ r_)],[]⟩) ⟨[(0,.lf (.str p_s))],[]⟩ (adx p_s).den (sW (by kernel_rfl)) fun r0 _ =>
 .sj Tryz.f29 0 [1,0,0] [8,9,10,11,12] 1 5 [0,11] 0 (fun r_=>⟨[(0,.lf (.str p_s)),(16,.b_ r_)],[]⟩) ⟨[(0,.lf (.str p_s)),(11,.b_ r0)],[]⟩ (ady p_s r0).den (sW (by kernel_rfl)) fun r1 _ =>
 .iB (r1) (.ret (bf 1) (false)) <|
 .fG (Yc p_s 0) (fun o0 h0 =>
 .say [.pt_ 0 [0,18,19] 0 (uT (.inl o0)) (uU (.inl o0))] (ok1 (JL h0)) <|
 .ret (bf 1) (false)) fun o1 h0 =>
 .say [.pt_ 0 [0,18,19] 0 (uT (.inr (o1))) (uU (.inr (o1)))] (ok1 (JL h0)) <|
 .ret (bf 1) (true)
def Q45 (p_s:ByteArray) : Option (Bool) := Mo.den (aoq p_s)
theorem NW (p_s:ByteArray) : FV (Q45 p_s) 29 [.lf (.str p_s)] (fun r=>.b_ r) := dU Tryz.func29 (by kernel_rfl) (fun _=>rfl) (by kernel_rfl)
def adz (p_kind:Int) : Mo (aH) :=
 .iB (p_kind == 2) (.ret (bf 1) (aH.apB (aH.aog (aH.Fe aH.z true) true) true)) <|
 .iB (p_kind == 3) (.ret (bf 1) (aH.aog (aH.Fe aH.z true) true)) <|
 .iB (p_kind == 4) (.ret (bf 1) (aH.apC aH.z true)) <|
 .iB (p_kind == 5) (.ret (bf 1) (aH.Fe aH.z true)) <|
 .iB (p_kind == 6) (.ret (bf 1) (aH.alZ (aH.Fe aH.z true) true)) <|
 .iB (p_kind == 7) (.ret (bf 1) (aH.VG (aH.Fe aH.z true) true)) <|
 .iB (p_kind == 8) (.ret (bf 1) (aH.XR aH.z true)) <|
 .iB (p_kind == 9) (.ret (bf 1) (aH.XR (aH.ah1 aH.z true) true)) <|
 .iB (p_kind == 10) (.ret (bf 1) (aH.ac4 (aH.ah1 aH.z true) true)) <|
 .iB (p_kind == 11) (.ret (bf 1) (aH.ah1 aH.z true)) <|
 .iB (p_kind == 12) (.ret (bf 1) (aH.ah2 (aH.ac4 (aH.ah1 aH.z true) true) true)) <|
 .ret (bf 1) (aH.z)
def aor (p_kind:Int) : Option (aH) := Mo.den (adz p_kind)
theorem Yd (p_kind:Int) : FV (aor p_kind) 56 [.i_ p_kind] (fun r=>.dat (aH.lf1 r)) := dU Tryz.func56 (by kernel_rfl) (fun _=>rfl) (by kernel_rfl)
def QF (p_v:aj) : Mo (Bool) :=
 .iG 4003 (p_v.aF == 0) (.rt [1,2,10] 1 (p_v.eU == 0)) <|
 .rt [1,2,10] 1 (false)
def QG (p_v:aj) (r0:Bool) : Mo (Bool) :=
 .iG 4008 (r0) (.rt [1,2,15] 1 (decide ((p_v.fText:ByteArray) = (⟨#[]⟩ : ByteArray)))) <|
 .rt [1,2,15] 1 (false)
def JM (p_v:aj) (r0:Bool) : Mo (Bool) :=
 .ite (r0) (fun c0 =>
 .say [.gd 4013 true,.num p_v.aU.length] (okc c0 (ok1 (ln_ p_v.aU aj.lf))) <|
 .rt [1,2,21] 1 ((p_v.aU.length:Int) == 0)) fun c0 =>
 .say [.gd 4013 false] (ok1 c0) <|
 .rt [1,2,21] 1 (false)
def JO (p_v:aj) (r0:Bool) : Mo (Bool) :=
 .ite (r0) (fun c0 =>
 .say [.gd 4019 true,.num p_v.aX.length] (okc c0 (ok1 (ln_ p_v.aX aB.lf))) <|
 .ret ⟨[.kill 0],[2,27],[],1⟩ ((p_v.aX.length:Int) == 0)) fun c0 =>
 .say [.gd 4019 false] (ok1 c0) <|
 .ret ⟨[.kill 0],[2,27],[],1⟩ (false)
def JQ (r0:Bool) : Mo (Unit) :=
 .rt [2] 1 ()
def adA (p_v:aj) : Mo (Bool) :=
 .sj Tryz.f112 0 [1,0] [0,1,2,3,4,5,6,7] 1 8 [1,2] 1 (fun r_=>⟨[(1,.ptr 0 0),(2,.b_ false),(10,.b_ r_)],[.box 25 (.dat (aj.lf1 p_v))]⟩) ⟨[(1,.ptr 0 0),(2,.b_ false)],[.box 25 (.dat (aj.lf1 p_v))]⟩ (QF p_v).den (sW (by kernel_rfl)) fun r0 _ =>
 .sj Tryz.f112 0 [1,0] [8,9,10,11,12] 1 5 [1,2,10] 1 (fun r_=>⟨[(1,.ptr 0 0),(2,.b_ false),(15,.b_ r_)],[.box 25 (.dat (aj.lf1 p_v))]⟩) ⟨[(1,.ptr 0 0),(2,.b_ false),(10,.b_ r0)],[.box 25 (.dat (aj.lf1 p_v))]⟩ (QG p_v r0).den (sW (by kernel_rfl)) fun r1 _ =>
 .sj Tryz.f112 0 [1,0] [13,14,15,16,17,18] 1 6 [1,2,15] 1 (fun r_=>⟨[(1,.ptr 0 0),(2,.b_ false),(21,.b_ r_)],[.box 25 (.dat (aj.lf1 p_v))]⟩) ⟨[(1,.ptr 0 0),(2,.b_ false),(15,.b_ r1)],[.box 25 (.dat (aj.lf1 p_v))]⟩ (JM p_v r1).den (sW (by kernel_rfl)) fun r2 _ =>
 .sj Tryz.f112 0 [1,0] [19,20,21,22,23,24] 1 6 [1,2,21] 1 (fun r_=>⟨[(2,.b_ false),(27,.b_ r_)],[.dead]⟩) ⟨[(1,.ptr 0 0),(2,.b_ false),(21,.b_ r2)],[.box 25 (.dat (aj.lf1 p_v))]⟩ (JO p_v r2).den (sW (by kernel_rfl)) fun r3 _ =>
 .sj Tryz.f112 0 [1,0] [25] 1 1 [2,27] 1 (fun r_=>⟨[(2,.b_ r3)],[.dead]⟩) ⟨[(2,.b_ false),(27,.b_ r3)],[.dead]⟩ (JQ r3).den (sW (by kernel_rfl)) fun r4 _ =>
 .ret (bf 1) (r3)
def Q49 (p_v:aj) : Option (Bool) := Mo.den (adA p_v)
theorem qX (p_v:aj) : FV (Q49 p_v) 112 [.dat (aj.lf1 p_v)] (fun r=>.b_ r) := dU Tryz.func112 (by kernel_rfl) (fun _=>rfl) (by kernel_rfl)
def adB (p_s:aA) : Mo (Bool) :=
 .iG 4003 (p_s.jw == 0) (.rt [1,2,10] 1 (!p_s.iR)) <|
 .rt [1,2,10] 1 (false)
def adC (p_s:aA) (r0:Bool) : Mo (Bool) :=
 .iG 4008 (r0) (.cl (qX p_s.jO) fun r1 _ =>
 .rt [1,2,15] 1 (r1)) <|
 .rt [1,2,15] 1 (false)
def ZK (p_s:aA) (r0:Bool) : Mo (Bool) :=
 .iG 4013 (r0) (.rt [1,2,20] 1 (!p_s.iT)) <|
 .rt [1,2,20] 1 (false)
def ZL (p_s:aA) (r0:Bool) : Mo (Bool) :=
 .iG 4018 (r0) (.cl (qX p_s.jP) fun r1 _ =>
 .rt [1,2,25] 1 (r1)) <|
 .rt [1,2,25] 1 (false)
def ZM (p_s:aA) (r0:Bool) : Mo (Bool) :=
 .ite (r0) (fun c0 =>
 .say [.gd 4023 true,.num p_s.jl.length] (okc c0 (ok1 (ln_ p_s.jl aj.lf))) <|
 .rt [1,2,31] 1 ((p_s.jl.length:Int) == 0)) fun c0 =>
 .say [.gd 4023 false] (ok1 c0) <|
 .rt [1,2,31] 1 (false)
def ZN (p_s:aA) (r0:Bool) : Mo (Bool) :=
 .iG 4029 (r0) (.rt [1,2,36] 1 (p_s.iU == 0)) <|
 .rt [1,2,36] 1 (false)
def ZO (p_s:aA) (r0:Bool) : Mo (Bool) :=
 .iG 4034 (r0) (.rt [1,2,41] 1 (p_s.iV == 0)) <|
 .rt [1,2,41] 1 (false)
def ZP (p_s:aA) (r0:Bool) : Mo (Bool) :=
 .ite (r0) (fun c0 =>
 .say [.gd 4039 true,.num p_s.dN.length] (okc c0 (ok1 (ln_ p_s.dN lfS))) <|
 .rt [1,2,47] 1 ((p_s.dN.length:Int) == 0)) fun c0 =>
 .say [.gd 4039 false] (ok1 c0) <|
 .rt [1,2,47] 1 (false)
def ZQ (p_s:aA) (r0:Bool) : Mo (Bool) :=
 .ite (r0) (fun c0 =>
 .say [.gd 4045 true,.num p_s.dX.length] (okc c0 (ok1 (ln_ p_s.dX bC.lf))) <|
 .rt [1,2,53] 1 ((p_s.dX.length:Int) == 0)) fun c0 =>
 .say [.gd 4045 false] (ok1 c0) <|
 .rt [1,2,53] 1 (false)
def ZR (p_s:aA) (r0:Bool) : Mo (Bool) :=
 .iG 4051 (r0) (.rt [1,2,58] 1 (!p_s.jo)) <|
 .rt [1,2,58] 1 (false)
def ZT (p_s:aA) (r0:Bool) : Mo (Bool) :=
 .ite (r0) (fun c0 =>
 .say [.gd 4056 true,.num p_s.fC.length] (okc c0 (ok1 (ln_ p_s.fC aA.lf))) <|
 .rt [1,2,64] 1 ((p_s.fC.length:Int) == 0)) fun c0 =>
 .say [.gd 4056 false] (ok1 c0) <|
 .rt [1,2,64] 1 (false)
def ZU (p_s:aA) (r0:Bool) : Mo (Bool) :=
 .iG 4062 (r0) (.ret ⟨[.kill 0],[2,69],[],1⟩ (!p_s.eP)) <|
 .ret ⟨[.kill 0],[2,69],[],1⟩ (false)
def ZV (r0:Bool) : Mo (Unit) :=
 .rt [2] 1 ()
def akw (p_s:aA) : Mo (Bool) :=
 .sj Tryz.f252 0 [1,0] [0,1,2,3,4,5,6,7] 1 8 [1,2] 1 (fun r_=>⟨[(1,.ptr 0 0),(2,.b_ false),(10,.b_ r_)],[.box 31 (.dat (aA.lf1 p_s))]⟩) ⟨[(1,.ptr 0 0),(2,.b_ false)],[.box 31 (.dat (aA.lf1 p_s))]⟩ (adB p_s).den (sW (by kernel_rfl)) fun r0 _ =>
 .sj Tryz.f252 0 [1,0] [8,9,10,11,12] 1 5 [1,2,10] 1 (fun r_=>⟨[(1,.ptr 0 0),(2,.b_ false),(15,.b_ r_)],[.box 31 (.dat (aA.lf1 p_s))]⟩) ⟨[(1,.ptr 0 0),(2,.b_ false),(10,.b_ r0)],[.box 31 (.dat (aA.lf1 p_s))]⟩ (adC p_s r0).den (sW (by kernel_rfl)) fun r1 _ =>
 .sj Tryz.f252 0 [1,0] [13,14,15,16,17] 1 5 [1,2,15] 1 (fun r_=>⟨[(1,.ptr 0 0),(2,.b_ false),(20,.b_ r_)],[.box 31 (.dat (aA.lf1 p_s))]⟩) ⟨[(1,.ptr 0 0),(2,.b_ false),(15,.b_ r1)],[.box 31 (.dat (aA.lf1 p_s))]⟩ (ZK p_s r1).den (sW (by kernel_rfl)) fun r2 _ =>
 .sj Tryz.f252 0 [1,0] [18,19,20,21,22] 1 5 [1,2,20] 1 (fun r_=>⟨[(1,.ptr 0 0),(2,.b_ false),(25,.b_ r_)],[.box 31 (.dat (aA.lf1 p_s))]⟩) ⟨[(1,.ptr 0 0),(2,.b_ false),(20,.b_ r2)],[.box 31 (.dat (aA.lf1 p_s))]⟩ (ZL p_s r2).den (sW (by kernel_rfl)) fun r3 _ =>
 .sj Tryz.f252 0 [1,0] [23,24,25,26,27,28] 1 6 [1,2,25] 1 (fun r_=>⟨[(1,.ptr 0 0),(2,.b_ false),(31,.b_ r_)],[.box 31 (.dat (aA.lf1 p_s))]⟩) ⟨[(1,.ptr 0 0),(2,.b_ false),(25,.b_ r3)],[.box 31 (.dat (aA.lf1 p_s))]⟩ (ZM p_s r3).den (sW (by kernel_rfl)) fun r4 _ =>
 .sj Tryz.f252 0 [1,0] [29,30,31,32,33] 1 5 [1,2,31] 1 (fun r_=>⟨[(1,.ptr 0 0),(2,.b_ false),(36,.b_ r_)],[.box 31 (.dat (aA.lf1 p_s))]⟩) ⟨[(1,.ptr 0 0),(2,.b_ false),(31,.b_ r4)],[.box 31 (.dat (aA.lf1 p_s))]⟩ (ZN p_s r4).den (sW (by kernel_rfl)) fun r5 _ =>
 .sj Tryz.f252 0 [1,0] [34,35,36,37,38] 1 5 [1,2,36] 1 (fun r_=>⟨[(1,.ptr 0 0),(2,.b_ false),(41,.b_ r_)],[.box 31 (.dat (aA.lf1 p_s))]⟩) ⟨[(1,.ptr 0 0),(2,.b_ false),(36,.b_ r5)],[.box 31 (.dat (aA.lf1 p_s))]⟩ (ZO p_s r5).den (sW (by kernel_rfl)) fun r6 _ =>
 .sj Tryz.f252 0 [1,0] [39,40,41,42,43,44] 1 6 [1,2,41] 1 (fun r_=>⟨[(1,.ptr 0 0),(2,.b_ false),(47,.b_ r_)],[.box 31 (.dat (aA.lf1 p_s))]⟩) ⟨[(1,.ptr 0 0),(2,.b_ false),(41,.b_ r6)],[.box 31 (.dat (aA.lf1 p_s))]⟩ (ZP p_s r6).den (sW (by kernel_rfl)) fun r7 _ =>
 .sj Tryz.f252 0 [1,0] [45,46,47,48,49,50] 1 6 [1,2,47] 1 (fun r_=>⟨[(1,.ptr 0 0),(2,.b_ false),(53,.b_ r_)],[.box 31 (.dat (aA.lf1 p_s))]⟩) ⟨[(1,.ptr 0 0),(2,.b_ false),(47,.b_ r7)],[.box 31 (.dat (aA.lf1 p_s))]⟩ (ZQ p_s r7).den (sW (by kernel_rfl)) fun r8 _ =>
 .sj Tryz.f252 0 [1,0] [51,52,53,54,55] 1 5 [1,2,53] 1 (fun r_=>⟨[(1,.ptr 0 0),(2,.b_ false),(58,.b_ r_)],[.box 31 (.dat (aA.lf1 p_s))]⟩) ⟨[(1,.ptr 0 0),(2,.b_ false),(53,.b_ r8)],[.box 31 (.dat (aA.lf1 p_s))]⟩ (ZR p_s r8).den (sW (by kernel_rfl)) fun r9 _ =>
 .sj Tryz.f252 0 [1,0] [56,57,58,59,60,61] 1 6 [1,2,58] 1 (fun r_=>⟨[(1,.ptr 0 0),(2,.b_ false),(64,.b_ r_)],[.box 31 (.dat (aA.lf1 p_s))]⟩) ⟨[(1,.ptr 0 0),(2,.b_ false),(58,.b_ r9)],[.box 31 (.dat (aA.lf1 p_s))]⟩ (ZT p_s r9).den (sW (by kernel_rfl)) fun r10 _ =>
 .sj Tryz.f252 0 [1,0] [62,63,64,65,66] 1 5 [1,2,64] 1 (fun r_=>⟨[(2,.b_ false),(69,.b_ r_)],[.dead]⟩) ⟨[(1,.ptr 0 0),(2,.b_ false),(64,.b_ r10)],[.box 31 (.dat (aA.lf1 p_s))]⟩ (ZU p_s r10).den (sW (by kernel_rfl)) fun r11 _ =>
 .sj Tryz.f252 0 [1,0] [67] 1 1 [2,69] 1 (fun r_=>⟨[(2,.b_ r11)],[.dead]⟩) ⟨[(2,.b_ false),(69,.b_ r11)],[.dead]⟩ (ZV r11).den (sW (by kernel_rfl)) fun r12 _ =>
 .ret (bf 1) (r11)
def Q41 (p_s:aA) : Option (Bool) := Mo.den (akw p_s)
theorem amn (p_s:aA) : FV (Q41 p_s) 252 [.dat (aA.lf1 p_s)] (fun r=>.b_ r) := dU Tryz.func252 (by kernel_rfl) (fun _=>rfl) (by kernel_rfl)
def adD (p_d:bV) : Mo (Bool) :=
 .ite (decide ((p_d.fName:ByteArray) = (⟨#[]⟩ : ByteArray))) (fun c0 =>
 .say [.gd 4003 true,.num p_d.cu.length] (okc c0 (ok1 (ln_ p_d.cu aK.lf))) <|
 .rt [1,2,11] 1 ((p_d.cu.length:Int) == 0)) fun c0 =>
 .say [.gd 4003 false] (ok1 c0) <|
 .rt [1,2,11] 1 (false)
def adE (p_d:bV) (r0:Bool) : Mo (Bool) :=
 .iG 4009 (r0) (.cl (amn p_d.aW) fun r1 _ =>
 .rt [1,2,16] 1 (r1)) <|
 .rt [1,2,16] 1 (false)
def ZW (p_d:bV) (r0:Bool) : Mo (Bool) :=
 .iG 4014 (r0) (.rt [1,2,21] 1 (p_d.kX == 0)) <|
 .rt [1,2,21] 1 (false)
def ZX (p_d:bV) (r0:Bool) : Mo (Bool) :=
 .iG 4019 (r0) (.ret ⟨[.kill 0],[2,26],[],1⟩ (p_d.iW == 0)) <|
 .ret ⟨[.kill 0],[2,26],[],1⟩ (false)
def ZY (r0:Bool) : Mo (Unit) :=
 .rt [2] 1 ()
def akx (p_d:bV) : Mo (Bool) :=
 .sj Tryz.f176 0 [1,0] [0,1,2,3,4,5,6,7,8] 1 9 [1,2] 1 (fun r_=>⟨[(1,.ptr 0 0),(2,.b_ false),(11,.b_ r_)],[.box 33 (.dat (bV.lf1 p_d))]⟩) ⟨[(1,.ptr 0 0),(2,.b_ false)],[.box 33 (.dat (bV.lf1 p_d))]⟩ (adD p_d).den (sW (by kernel_rfl)) fun r0 _ =>
 .sj Tryz.f176 0 [1,0] [9,10,11,12,13] 1 5 [1,2,11] 1 (fun r_=>⟨[(1,.ptr 0 0),(2,.b_ false),(16,.b_ r_)],[.box 33 (.dat (bV.lf1 p_d))]⟩) ⟨[(1,.ptr 0 0),(2,.b_ false),(11,.b_ r0)],[.box 33 (.dat (bV.lf1 p_d))]⟩ (adE p_d r0).den (sW (by kernel_rfl)) fun r1 _ =>
 .sj Tryz.f176 0 [1,0] [14,15,16,17,18] 1 5 [1,2,16] 1 (fun r_=>⟨[(1,.ptr 0 0),(2,.b_ false),(21,.b_ r_)],[.box 33 (.dat (bV.lf1 p_d))]⟩) ⟨[(1,.ptr 0 0),(2,.b_ false),(16,.b_ r1)],[.box 33 (.dat (bV.lf1 p_d))]⟩ (ZW p_d r1).den (sW (by kernel_rfl)) fun r2 _ =>
 .sj Tryz.f176 0 [1,0] [19,20,21,22,23] 1 5 [1,2,21] 1 (fun r_=>⟨[(2,.b_ false),(26,.b_ r_)],[.dead]⟩) ⟨[(1,.ptr 0 0),(2,.b_ false),(21,.b_ r2)],[.box 33 (.dat (bV.lf1 p_d))]⟩ (ZX p_d r2).den (sW (by kernel_rfl)) fun r3 _ =>
 .sj Tryz.f176 0 [1,0] [24] 1 1 [2,26] 1 (fun r_=>⟨[(2,.b_ r3)],[.dead]⟩) ⟨[(2,.b_ false),(26,.b_ r3)],[.dead]⟩ (ZY r3).den (sW (by kernel_rfl)) fun r4 _ =>
 .ret (bf 1) (r3)
def Q88 (p_d:bV) : Option (Bool) := Mo.den (akx p_d)
theorem amo (p_d:bV) : FV (Q88 p_d) 176 [.dat (bV.lf1 p_d)] (fun r=>.b_ r) := dU Tryz.func176 (by kernel_rfl) (fun _=>rfl) (by kernel_rfl)
def adF (p_e:aG) : Mo (Bool) :=
 .ite (p_e.fOp == 0) (fun c0 =>
 .say [.gd 4003 true,.num p_e.dh.length] (okc c0 (ok1 (ln_ p_e.dh lfS))) <|
 .rt [1,2,11] 1 ((p_e.dh.length:Int) == 0)) fun c0 =>
 .say [.gd 4003 false] (ok1 c0) <|
 .rt [1,2,11] 1 (false)
def adG (p_e:aG) (r0:Bool) : Mo (Bool) :=
 .iG 4009 (r0) (.rt [1,2,16] 1 (decide ((p_e.fName:ByteArray) = (⟨#[]⟩ : ByteArray)))) <|
 .rt [1,2,16] 1 (false)
def Z4 (p_e:aG) (r0:Bool) : Mo (Bool) :=
 .ite (r0) (fun c0 =>
 .say [.gd 4014 true,.num p_e.fB.length] (okc c0 (ok1 (ln_ p_e.fB lfS))) <|
 .rt [1,2,22] 1 ((p_e.fB.length:Int) == 0)) fun c0 =>
 .say [.gd 4014 false] (ok1 c0) <|
 .rt [1,2,22] 1 (false)
def Z5 (p_e:aG) (r0:Bool) : Mo (Bool) :=
 .iG 4020 (r0) (.cl (qX p_e.fArg) fun r1 _ =>
 .rt [1,2,27] 1 (r1)) <|
 .rt [1,2,27] 1 (false)
def Z7 (p_e:aG) (r0:Bool) : Mo (Bool) :=
 .iG 4025 (r0) (.rt [1,2,32] 1 (p_e.fN == 0)) <|
 .rt [1,2,32] 1 (false)
def Z8 (p_e:aG) (r0:Bool) : Mo (Bool) :=
 .ite (r0) (fun c0 =>
 .say [.gd 4030 true,.num p_e.bW.length] (okc c0 (ok1 (ln_ p_e.bW aG.lf))) <|
 .ret ⟨[.kill 0],[2,38],[],1⟩ ((p_e.bW.length:Int) == 0)) fun c0 =>
 .say [.gd 4030 false] (ok1 c0) <|
 .ret ⟨[.kill 0],[2,38],[],1⟩ (false)
def Z9 (r0:Bool) : Mo (Unit) :=
 .rt [2] 1 ()
def aky (p_e:aG) : Mo (Bool) :=
 .sj Tryz.f297 0 [1,0] [0,1,2,3,4,5,6,7,8] 1 9 [1,2] 1 (fun r_=>⟨[(1,.ptr 0 0),(2,.b_ false),(11,.b_ r_)],[.box 40 (.dat (aG.lf1 p_e))]⟩) ⟨[(1,.ptr 0 0),(2,.b_ false)],[.box 40 (.dat (aG.lf1 p_e))]⟩ (adF p_e).den (sW (by kernel_rfl)) fun r0 _ =>
 .sj Tryz.f297 0 [1,0] [9,10,11,12,13] 1 5 [1,2,11] 1 (fun r_=>⟨[(1,.ptr 0 0),(2,.b_ false),(16,.b_ r_)],[.box 40 (.dat (aG.lf1 p_e))]⟩) ⟨[(1,.ptr 0 0),(2,.b_ false),(11,.b_ r0)],[.box 40 (.dat (aG.lf1 p_e))]⟩ (adG p_e r0).den (sW (by kernel_rfl)) fun r1 _ =>
 .sj Tryz.f297 0 [1,0] [14,15,16,17,18,19] 1 6 [1,2,16] 1 (fun r_=>⟨[(1,.ptr 0 0),(2,.b_ false),(22,.b_ r_)],[.box 40 (.dat (aG.lf1 p_e))]⟩) ⟨[(1,.ptr 0 0),(2,.b_ false),(16,.b_ r1)],[.box 40 (.dat (aG.lf1 p_e))]⟩ (Z4 p_e r1).den (sW (by kernel_rfl)) fun r2 _ =>
 .sj Tryz.f297 0 [1,0] [20,21,22,23,24] 1 5 [1,2,22] 1 (fun r_=>⟨[(1,.ptr 0 0),(2,.b_ false),(27,.b_ r_)],[.box 40 (.dat (aG.lf1 p_e))]⟩) ⟨[(1,.ptr 0 0),(2,.b_ false),(22,.b_ r2)],[.box 40 (.dat (aG.lf1 p_e))]⟩ (Z5 p_e r2).den (sW (by kernel_rfl)) fun r3 _ =>
 .sj Tryz.f297 0 [1,0] [25,26,27,28,29] 1 5 [1,2,27] 1 (fun r_=>⟨[(1,.ptr 0 0),(2,.b_ false),(32,.b_ r_)],[.box 40 (.dat (aG.lf1 p_e))]⟩) ⟨[(1,.ptr 0 0),(2,.b_ false),(27,.b_ r3)],[.box 40 (.dat (aG.lf1 p_e))]⟩ (Z7 p_e r3).den (sW (by kernel_rfl)) fun r4 _ =>
 .sj Tryz.f297 0 [1,0] [30,31,32,33,34,35] 1 6 [1,2,32] 1 (fun r_=>⟨[(2,.b_ false),(38,.b_ r_)],[.dead]⟩) ⟨[(1,.ptr 0 0),(2,.b_ false),(32,.b_ r4)],[.box 40 (.dat (aG.lf1 p_e))]⟩ (Z8 p_e r4).den (sW (by kernel_rfl)) fun r5 _ =>
 .sj Tryz.f297 0 [1,0] [36] 1 1 [2,38] 1 (fun r_=>⟨[(2,.b_ r5)],[.dead]⟩) ⟨[(2,.b_ false),(38,.b_ r5)],[.dead]⟩ (Z9 r5).den (sW (by kernel_rfl)) fun r6 _ =>
 .ret (bf 1) (r5)
def Q74 (p_e:aG) : Option (Bool) := Mo.den (aky p_e)
theorem amq (p_e:aG) : FV (Q74 p_e) 297 [.dat (aG.lf1 p_e)] (fun r=>.b_ r) := dU Tryz.func297 (by kernel_rfl) (fun _=>rfl) (by kernel_rfl)
def adH (p_p:aC) : Mo (Bool) :=
 .ite (p_p.fOp == 0) (fun c0 =>
 .say [.gd 4003 true,.num p_p.dh.length] (okc c0 (ok1 (ln_ p_p.dh lfS))) <|
 .rt [1,2,11] 1 ((p_p.dh.length:Int) == 0)) fun c0 =>
 .say [.gd 4003 false] (ok1 c0) <|
 .rt [1,2,11] 1 (false)
def adI (p_p:aC) (r0:Bool) : Mo (Bool) :=
 .iG 4009 (r0) (.cl (qX p_p.fArg) fun r1 _ =>
 .rt [1,2,16] 1 (r1)) <|
 .rt [1,2,16] 1 (false)
def aac (p_p:aC) (r0:Bool) : Mo (Bool) :=
 .ite (r0) (fun c0 =>
 .say [.gd 4014 true,.num p_p.fArgs.length] (okc c0 (ok1 (ln_ p_p.fArgs aj.lf))) <|
 .rt [1,2,22] 1 ((p_p.fArgs.length:Int) == 0)) fun c0 =>
 .say [.gd 4014 false] (ok1 c0) <|
 .rt [1,2,22] 1 (false)
def aad (p_p:aC) (r0:Bool) : Mo (Bool) :=
 .iG 4020 (r0) (.rt [1,2,27] 1 (p_p.fN == 0)) <|
 .rt [1,2,27] 1 (false)
def aae (p_p:aC) (r0:Bool) : Mo (Bool) :=
 .iG 4025 (r0) (.rt [1,2,32] 1 (p_p.fM == 0)) <|
 .rt [1,2,32] 1 (false)
def aaf (p_p:aC) (r0:Bool) : Mo (Bool) :=
 .iG 4030 (r0) (.rt [1,2,38] 1 (p_p.dH.aF == 0)) <|
 .rt [1,2,38] 1 (false)
def aag (p_p:aC) (r0:Bool) : Mo (Bool) :=
 .ite (r0) (fun c0 =>
 .say [.gd 4036 true,.num p_p.dH.dB.length] (okc c0 (ok1 (ln_ p_p.dH.dB bG.lf))) <|
 .rt [1,2,45] 1 ((p_p.dH.dB.length:Int) == 0)) fun c0 =>
 .say [.gd 4036 false] (ok1 c0) <|
 .rt [1,2,45] 1 (false)
def aah (p_p:aC) (r0:Bool) : Mo (Bool) :=
 .iG 4043 (r0) (.rt [1,2,51] 1 (p_p.dH.fR == 0)) <|
 .rt [1,2,51] 1 (false)
def aai (p_p:aC) (r0:Bool) : Mo (Bool) :=
 .iG 4049 (r0) (.cl (amq p_p.fExpr) fun r1 _ =>
 .rt [1,2,56] 1 (r1)) <|
 .rt [1,2,56] 1 (false)
def aaj (p_p:aC) (r0:Bool) : Mo (Bool) :=
 .ite (r0) (fun c0 =>
 .say [.gd 4054 true,.num p_p.bW.length] (okc c0 (ok1 (ln_ p_p.bW aC.lf))) <|
 .ret ⟨[.kill 0],[2,62],[],1⟩ ((p_p.bW.length:Int) == 0)) fun c0 =>
 .say [.gd 4054 false] (ok1 c0) <|
 .ret ⟨[.kill 0],[2,62],[],1⟩ (false)
def aak (r0:Bool) : Mo (Unit) :=
 .rt [2] 1 ()
def akz (p_p:aC) : Mo (Bool) :=
 .sj Tryz.f253 0 [1,0] [0,1,2,3,4,5,6,7,8] 1 9 [1,2] 1 (fun r_=>⟨[(1,.ptr 0 0),(2,.b_ false),(11,.b_ r_)],[.box 43 (.dat (aC.lf1 p_p))]⟩) ⟨[(1,.ptr 0 0),(2,.b_ false)],[.box 43 (.dat (aC.lf1 p_p))]⟩ (adH p_p).den (sW (by kernel_rfl)) fun r0 _ =>
 .sj Tryz.f253 0 [1,0] [9,10,11,12,13] 1 5 [1,2,11] 1 (fun r_=>⟨[(1,.ptr 0 0),(2,.b_ false),(16,.b_ r_)],[.box 43 (.dat (aC.lf1 p_p))]⟩) ⟨[(1,.ptr 0 0),(2,.b_ false),(11,.b_ r0)],[.box 43 (.dat (aC.lf1 p_p))]⟩ (adI p_p r0).den (sW (by kernel_rfl)) fun r1 _ =>
 .sj Tryz.f253 0 [1,0] [14,15,16,17,18,19] 1 6 [1,2,16] 1 (fun r_=>⟨[(1,.ptr 0 0),(2,.b_ false),(22,.b_ r_)],[.box 43 (.dat (aC.lf1 p_p))]⟩) ⟨[(1,.ptr 0 0),(2,.b_ false),(16,.b_ r1)],[.box 43 (.dat (aC.lf1 p_p))]⟩ (aac p_p r1).den (sW (by kernel_rfl)) fun r2 _ =>
 .sj Tryz.f253 0 [1,0] [20,21,22,23,24] 1 5 [1,2,22] 1 (fun r_=>⟨[(1,.ptr 0 0),(2,.b_ false),(27,.b_ r_)],[.box 43 (.dat (aC.lf1 p_p))]⟩) ⟨[(1,.ptr 0 0),(2,.b_ false),(22,.b_ r2)],[.box 43 (.dat (aC.lf1 p_p))]⟩ (aad p_p r2).den (sW (by kernel_rfl)) fun r3 _ =>
 .sj Tryz.f253 0 [1,0] [25,26,27,28,29] 1 5 [1,2,27] 1 (fun r_=>⟨[(1,.ptr 0 0),(2,.b_ false),(32,.b_ r_)],[.box 43 (.dat (aC.lf1 p_p))]⟩) ⟨[(1,.ptr 0 0),(2,.b_ false),(27,.b_ r3)],[.box 43 (.dat (aC.lf1 p_p))]⟩ (aae p_p r3).den (sW (by kernel_rfl)) fun r4 _ =>
 .sj Tryz.f253 0 [1,0] [30,31,32,33,34,35] 1 6 [1,2,32] 1 (fun r_=>⟨[(1,.ptr 0 0),(2,.b_ false),(38,.b_ r_)],[.box 43 (.dat (aC.lf1 p_p))]⟩) ⟨[(1,.ptr 0 0),(2,.b_ false),(32,.b_ r4)],[.box 43 (.dat (aC.lf1 p_p))]⟩ (aaf p_p r4).den (sW (by kernel_rfl)) fun r5 _ =>
 .sj Tryz.f253 0 [1,0] [36,37,38,39,40,41,42] 1 7 [1,2,38] 1 (fun r_=>⟨[(1,.ptr 0 0),(2,.b_ false),(45,.b_ r_)],[.box 43 (.dat (aC.lf1 p_p))]⟩) ⟨[(1,.ptr 0 0),(2,.b_ false),(38,.b_ r5)],[.box 43 (.dat (aC.lf1 p_p))]⟩ (aag p_p r5).den (sW (by kernel_rfl)) fun r6 _ =>
 .sj Tryz.f253 0 [1,0] [43,44,45,46,47,48] 1 6 [1,2,45] 1 (fun r_=>⟨[(1,.ptr 0 0),(2,.b_ false),(51,.b_ r_)],[.box 43 (.dat (aC.lf1 p_p))]⟩) ⟨[(1,.ptr 0 0),(2,.b_ false),(45,.b_ r6)],[.box 43 (.dat (aC.lf1 p_p))]⟩ (aah p_p r6).den (sW (by kernel_rfl)) fun r7 _ =>
 .sj Tryz.f253 0 [1,0] [49,50,51,52,53] 1 5 [1,2,51] 1 (fun r_=>⟨[(1,.ptr 0 0),(2,.b_ false),(56,.b_ r_)],[.box 43 (.dat (aC.lf1 p_p))]⟩) ⟨[(1,.ptr 0 0),(2,.b_ false),(51,.b_ r7)],[.box 43 (.dat (aC.lf1 p_p))]⟩ (aai p_p r7).den (sW (by kernel_rfl)) fun r8 _ =>
 .sj Tryz.f253 0 [1,0] [54,55,56,57,58,59] 1 6 [1,2,56] 1 (fun r_=>⟨[(2,.b_ false),(62,.b_ r_)],[.dead]⟩) ⟨[(1,.ptr 0 0),(2,.b_ false),(56,.b_ r8)],[.box 43 (.dat (aC.lf1 p_p))]⟩ (aaj p_p r8).den (sW (by kernel_rfl)) fun r9 _ =>
 .sj Tryz.f253 0 [1,0] [60] 1 1 [2,62] 1 (fun r_=>⟨[(2,.b_ r9)],[.dead]⟩) ⟨[(2,.b_ false),(62,.b_ r9)],[.dead]⟩ (aak r9).den (sW (by kernel_rfl)) fun r10 _ =>
 .ret (bf 1) (r9)
def Q54 (p_p:aC) : Option (Bool) := Mo.den (akz p_p)
theorem amr (p_p:aC) : FV (Q54 p_p) 253 [.dat (aC.lf1 p_p)] (fun r=>.b_ r) := dU Tryz.func253 (by kernel_rfl) (fun _=>rfl) (by kernel_rfl)
def adJ (p_x:aK) : Mo (Bool) :=
 .iG 4003 (decide ((p_x.fName:ByteArray) = (⟨#[]⟩ : ByteArray))) (.rt [1,2,10] 1 (p_x.aF == 0)) <|
 .rt [1,2,10] 1 (false)
def adK (p_x:aK) (r0:Bool) : Mo (Bool) :=
 .ite (r0) (fun c0 =>
 .say [.gd 4008 true,.num p_x.gG.length] (okc c0 (ok1 (ln_ p_x.gG aV.lf))) <|
 .rt [1,2,16] 1 ((p_x.gG.length:Int) == 0)) fun c0 =>
 .say [.gd 4008 false] (ok1 c0) <|
 .rt [1,2,16] 1 (false)
def aal (p_x:aK) (r0:Bool) : Mo (Bool) :=
 .iG 4014 (r0) (.rt [1,2,21] 1 (!p_x.eP)) <|
 .rt [1,2,21] 1 (false)
def aam (p_x:aK) (r0:Bool) : Mo (Bool) :=
 .iG 4019 (r0) (.rt [1,2,26] 1 (!p_x.jm)) <|
 .rt [1,2,26] 1 (false)
def aan (p_x:aK) (r0:Bool) : Mo (Bool) :=
 .iG 4024 (r0) (.rt [1,2,31] 1 (!p_x.iq)) <|
 .rt [1,2,31] 1 (false)
def aao (p_x:aK) (r0:Bool) : Mo (Bool) :=
 .iG 4029 (r0) (.cl (amr p_x.bn) fun r1 _ =>
 .ret ⟨[.kill 0],[2,36],[],1⟩ (r1)) <|
 .ret ⟨[.kill 0],[2,36],[],1⟩ (false)
def aap (r0:Bool) : Mo (Unit) :=
 .rt [2] 1 ()
def akA (p_x:aK) : Mo (Bool) :=
 .sj Tryz.f177 0 [1,0] [0,1,2,3,4,5,6,7] 1 8 [1,2] 1 (fun r_=>⟨[(1,.ptr 0 0),(2,.b_ false),(10,.b_ r_)],[.box 45 (.dat (aK.lf1 p_x))]⟩) ⟨[(1,.ptr 0 0),(2,.b_ false)],[.box 45 (.dat (aK.lf1 p_x))]⟩ (adJ p_x).den (sW (by kernel_rfl)) fun r0 _ =>
 .sj Tryz.f177 0 [1,0] [8,9,10,11,12,13] 1 6 [1,2,10] 1 (fun r_=>⟨[(1,.ptr 0 0),(2,.b_ false),(16,.b_ r_)],[.box 45 (.dat (aK.lf1 p_x))]⟩) ⟨[(1,.ptr 0 0),(2,.b_ false),(10,.b_ r0)],[.box 45 (.dat (aK.lf1 p_x))]⟩ (adK p_x r0).den (sW (by kernel_rfl)) fun r1 _ =>
 .sj Tryz.f177 0 [1,0] [14,15,16,17,18] 1 5 [1,2,16] 1 (fun r_=>⟨[(1,.ptr 0 0),(2,.b_ false),(21,.b_ r_)],[.box 45 (.dat (aK.lf1 p_x))]⟩) ⟨[(1,.ptr 0 0),(2,.b_ false),(16,.b_ r1)],[.box 45 (.dat (aK.lf1 p_x))]⟩ (aal p_x r1).den (sW (by kernel_rfl)) fun r2 _ =>
 .sj Tryz.f177 0 [1,0] [19,20,21,22,23] 1 5 [1,2,21] 1 (fun r_=>⟨[(1,.ptr 0 0),(2,.b_ false),(26,.b_ r_)],[.box 45 (.dat (aK.lf1 p_x))]⟩) ⟨[(1,.ptr 0 0),(2,.b_ false),(21,.b_ r2)],[.box 45 (.dat (aK.lf1 p_x))]⟩ (aam p_x r2).den (sW (by kernel_rfl)) fun r3 _ =>
 .sj Tryz.f177 0 [1,0] [24,25,26,27,28] 1 5 [1,2,26] 1 (fun r_=>⟨[(1,.ptr 0 0),(2,.b_ false),(31,.b_ r_)],[.box 45 (.dat (aK.lf1 p_x))]⟩) ⟨[(1,.ptr 0 0),(2,.b_ false),(26,.b_ r3)],[.box 45 (.dat (aK.lf1 p_x))]⟩ (aan p_x r3).den (sW (by kernel_rfl)) fun r4 _ =>
 .sj Tryz.f177 0 [1,0] [29,30,31,32,33] 1 5 [1,2,31] 1 (fun r_=>⟨[(2,.b_ false),(36,.b_ r_)],[.dead]⟩) ⟨[(1,.ptr 0 0),(2,.b_ false),(31,.b_ r4)],[.box 45 (.dat (aK.lf1 p_x))]⟩ (aao p_x r4).den (sW (by kernel_rfl)) fun r5 _ =>
 .sj Tryz.f177 0 [1,0] [34] 1 1 [2,36] 1 (fun r_=>⟨[(2,.b_ r5)],[.dead]⟩) ⟨[(2,.b_ false),(36,.b_ r5)],[.dead]⟩ (aap r5).den (sW (by kernel_rfl)) fun r6 _ =>
 .ret (bf 1) (r5)
def Q69 (p_x:aK) : Option (Bool) := Mo.den (akA p_x)
theorem ams (p_x:aK) : FV (Q69 p_x) 177 [.dat (aK.lf1 p_x)] (fun r=>.b_ r) := dU Tryz.func177 (by kernel_rfl) (fun _=>rfl) (by kernel_rfl)
def adL (p_w:ak) : Mo (Bool) :=
 .iG 4003 (p_w.aF == 0) (.rt [1,2,10] 1 (decide ((p_w.fQ:ByteArray) = (⟨#[]⟩ : ByteArray)))) <|
 .rt [1,2,10] 1 (false)
def adM (p_w:ak) (r0:Bool) : Mo (Bool) :=
 .iG 4008 (r0) (.cl (qX p_w.iy) fun r1 _ =>
 .rt [1,2,15] 1 (r1)) <|
 .rt [1,2,15] 1 (false)
def aaq (p_w:ak) (r0:Bool) : Mo (Bool) :=
 .iG 4013 (r0) (.cl (qX p_w.aX) fun r1 _ =>
 .rt [1,2,20] 1 (r1)) <|
 .rt [1,2,20] 1 (false)
def aar (p_w:ak) (r0:Bool) : Mo (Bool) :=
 .iG 4018 (r0) (.cl (qX p_w.dJ) fun r1 _ =>
 .rt [1,2,25] 1 (r1)) <|
 .rt [1,2,25] 1 (false)
def aas (p_w:ak) (r0:Bool) : Mo (Bool) :=
 .iG 4023 (r0) (.cl (amo p_w.dD) fun r1 _ =>
 .rt [1,2,30] 1 (r1)) <|
 .rt [1,2,30] 1 (false)
def aat (p_w:ak) (r0:Bool) : Mo (Bool) :=
 .iG 4028 (r0) (.cl (ams p_w.aT) fun r1 _ =>
 .rt [1,2,35] 1 (r1)) <|
 .rt [1,2,35] 1 (false)
def aau (p_w:ak) (r0:Bool) : Mo (Bool) :=
 .iG 4033 (r0) (.rt [1,2,40] 1 (decide ((p_w.lQ:ByteArray) = (⟨#[]⟩ : ByteArray)))) <|
 .rt [1,2,40] 1 (false)
def aav (p_w:ak) (r0:Bool) : Mo (Bool) :=
 .iG 4038 (r0) (.rt [1,2,45] 1 (p_w.eG == 0)) <|
 .rt [1,2,45] 1 (false)
def aaw (p_w:ak) (r0:Bool) : Mo (Bool) :=
 .ite (r0) (fun c0 =>
 .say [.gd 4043 true,.num p_w.dG.length] (okc c0 (ok1 (ln_ p_w.dG ak.lf))) <|
 .rt [1,2,51] 1 ((p_w.dG.length:Int) == 0)) fun c0 =>
 .say [.gd 4043 false] (ok1 c0) <|
 .rt [1,2,51] 1 (false)
def aax (p_w:ak) (r0:Bool) : Mo (Bool) :=
 .ite (r0) (fun c0 =>
 .say [.gd 4049 true,.num p_w.dO.length] (okc c0 (ok1 (ln_ p_w.dO lfI))) <|
 .rt [1,2,57] 1 ((p_w.dO.length:Int) == 0)) fun c0 =>
 .say [.gd 4049 false] (ok1 c0) <|
 .rt [1,2,57] 1 (false)
def aay (p_w:ak) (r0:Bool) : Mo (Bool) :=
 .iG 4055 (r0) (.ret ⟨[.kill 0],[2,62],[],1⟩ (!p_w.gq)) <|
 .ret ⟨[.kill 0],[2,62],[],1⟩ (false)
def aaz (r0:Bool) : Mo (Unit) :=
 .rt [2] 1 ()
def akB (p_w:ak) : Mo (Bool) :=
 .sj Tryz.f109 0 [1,0] [0,1,2,3,4,5,6,7] 1 8 [1,2] 1 (fun r_=>⟨[(1,.ptr 0 0),(2,.b_ false),(10,.b_ r_)],[.box 49 (.dat (ak.lf1 p_w))]⟩) ⟨[(1,.ptr 0 0),(2,.b_ false)],[.box 49 (.dat (ak.lf1 p_w))]⟩ (adL p_w).den (sW (by kernel_rfl)) fun r0 _ =>
 .sj Tryz.f109 0 [1,0] [8,9,10,11,12] 1 5 [1,2,10] 1 (fun r_=>⟨[(1,.ptr 0 0),(2,.b_ false),(15,.b_ r_)],[.box 49 (.dat (ak.lf1 p_w))]⟩) ⟨[(1,.ptr 0 0),(2,.b_ false),(10,.b_ r0)],[.box 49 (.dat (ak.lf1 p_w))]⟩ (adM p_w r0).den (sW (by kernel_rfl)) fun r1 _ =>
 .sj Tryz.f109 0 [1,0] [13,14,15,16,17] 1 5 [1,2,15] 1 (fun r_=>⟨[(1,.ptr 0 0),(2,.b_ false),(20,.b_ r_)],[.box 49 (.dat (ak.lf1 p_w))]⟩) ⟨[(1,.ptr 0 0),(2,.b_ false),(15,.b_ r1)],[.box 49 (.dat (ak.lf1 p_w))]⟩ (aaq p_w r1).den (sW (by kernel_rfl)) fun r2 _ =>
 .sj Tryz.f109 0 [1,0] [18,19,20,21,22] 1 5 [1,2,20] 1 (fun r_=>⟨[(1,.ptr 0 0),(2,.b_ false),(25,.b_ r_)],[.box 49 (.dat (ak.lf1 p_w))]⟩) ⟨[(1,.ptr 0 0),(2,.b_ false),(20,.b_ r2)],[.box 49 (.dat (ak.lf1 p_w))]⟩ (aar p_w r2).den (sW (by kernel_rfl)) fun r3 _ =>
 .sj Tryz.f109 0 [1,0] [23,24,25,26,27] 1 5 [1,2,25] 1 (fun r_=>⟨[(1,.ptr 0 0),(2,.b_ false),(30,.b_ r_)],[.box 49 (.dat (ak.lf1 p_w))]⟩) ⟨[(1,.ptr 0 0),(2,.b_ false),(25,.b_ r3)],[.box 49 (.dat (ak.lf1 p_w))]⟩ (aas p_w r3).den (sW (by kernel_rfl)) fun r4 _ =>
 .sj Tryz.f109 0 [1,0] [28,29,30,31,32] 1 5 [1,2,30] 1 (fun r_=>⟨[(1,.ptr 0 0),(2,.b_ false),(35,.b_ r_)],[.box 49 (.dat (ak.lf1 p_w))]⟩) ⟨[(1,.ptr 0 0),(2,.b_ false),(30,.b_ r4)],[.box 49 (.dat (ak.lf1 p_w))]⟩ (aat p_w r4).den (sW (by kernel_rfl)) fun r5 _ =>
 .sj Tryz.f109 0 [1,0] [33,34,35,36,37] 1 5 [1,2,35] 1 (fun r_=>⟨[(1,.ptr 0 0),(2,.b_ false),(40,.b_ r_)],[.box 49 (.dat (ak.lf1 p_w))]⟩) ⟨[(1,.ptr 0 0),(2,.b_ false),(35,.b_ r5)],[.box 49 (.dat (ak.lf1 p_w))]⟩ (aau p_w r5).den (sW (by kernel_rfl)) fun r6 _ =>
 .sj Tryz.f109 0 [1,0] [38,39,40,41,42] 1 5 [1,2,40] 1 (fun r_=>⟨[(1,.ptr 0 0),(2,.b_ false),(45,.b_ r_)],[.box 49 (.dat (ak.lf1 p_w))]⟩) ⟨[(1,.ptr 0 0),(2,.b_ false),(40,.b_ r6)],[.box 49 (.dat (ak.lf1 p_w))]⟩ (aav p_w r6).den (sW (by kernel_rfl)) fun r7 _ =>
 .sj Tryz.f109 0 [1,0] [43,44,45,46,47,48] 1 6 [1,2,45] 1 (fun r_=>⟨[(1,.ptr 0 0),(2,.b_ false),(51,.b_ r_)],[.box 49 (.dat (ak.lf1 p_w))]⟩) ⟨[(1,.ptr 0 0),(2,.b_ false),(45,.b_ r7)],[.box 49 (.dat (ak.lf1 p_w))]⟩ (aaw p_w r7).den (sW (by kernel_rfl)) fun r8 _ =>
 .sj Tryz.f109 0 [1,0] [49,50,51,52,53,54] 1 6 [1,2,51] 1 (fun r_=>⟨[(1,.ptr 0 0),(2,.b_ false),(57,.b_ r_)],[.box 49 (.dat (ak.lf1 p_w))]⟩) ⟨[(1,.ptr 0 0),(2,.b_ false),(51,.b_ r8)],[.box 49 (.dat (ak.lf1 p_w))]⟩ (aax p_w r8).den (sW (by kernel_rfl)) fun r9 _ =>
 .sj Tryz.f109 0 [1,0] [55,56,57,58,59] 1 5 [1,2,57] 1 (fun r_=>⟨[(2,.b_ false),(62,.b_ r_)],[.dead]⟩) ⟨[(1,.ptr 0 0),(2,.b_ false),(57,.b_ r9)],[.box 49 (.dat (ak.lf1 p_w))]⟩ (aay p_w r9).den (sW (by kernel_rfl)) fun r10 _ =>
 .sj Tryz.f109 0 [1,0] [60] 1 1 [2,62] 1 (fun r_=>⟨[(2,.b_ r10)],[.dead]⟩) ⟨[(2,.b_ false),(62,.b_ r10)],[.dead]⟩ (aaz r10).den (sW (by kernel_rfl)) fun r11 _ =>
 .ret (bf 1) (r10)
def Q50 (p_w:ak) : Option (Bool) := Mo.den (akB p_w)
theorem amu (p_w:ak) : FV (Q50 p_w) 109 [.dat (ak.lf1 p_w)] (fun r=>.b_ r) := dU Tryz.func109 (by kernel_rfl) (fun _=>rfl) (by kernel_rfl)
def QH (p_w:ak) (r0:aH) : Mo (ak) :=
 .iB (r0.mF) (.rt [1,3] 2 (ak.ac2 (ak.Jw p_w 0) ⟨#[]⟩)) <|
 .rt [1,3] 2 (ak.Jw p_w 0)
def QI (r0:aH) (r1:ak) : Mo (ak) :=
 .iB (r0.yQ) (.ret ⟨[.norm 0],[1,3],[],2⟩ (ak.ah0 (ak.ahX (ak.aoe r1 (aj.mk 0 0 ⟨#[]⟩ [] [])) (aj.mk 0 0 ⟨#[]⟩ [] [])) false)) <|
 .rt [1,3] 2 (r1)
def JR (r0:aH) (r1:ak) : Mo (ak) :=
 .iB (r0.Eb) (.ret ⟨[.norm 0],[1,3],[],2⟩ (ak.aof r1 (aj.mk 0 0 ⟨#[]⟩ [] []))) <|
 .rt [1,3] 2 (r1)
def JU (r0:aH) (r1:ak) : Mo (ak) :=
 .iB (r0.Ec) (.ret ⟨[.norm 0],[1,3],[],2⟩ (ak.apz r1 (bV.mk ⟨#[]⟩ [] aA.z 0 0))) <|
 .rt [1,3] 2 (r1)
def JV (r0:aH) (r1:ak) : Mo (ak) :=
 .iB (r0.nN) (.ret ⟨[.norm 0],[1,3],[],2⟩ (ak.ac3 r1 aK.z)) <|
 .rt [1,3] 2 (r1)
def JW (r0:aH) (r1:ak) : Mo (ak) :=
 .iB (r0.gW) (.rt [1,3] 2 (ak.ac3 r1 (aK.aks r1.aT ⟨#[]⟩))) <|
 .rt [1,3] 2 (r1)
def JX (r0:aH) (r1:ak) : Mo (ak) :=
 .iB (r0.BK) (.rt [1,3] 2 (ak.apA r1 ⟨#[]⟩)) <|
 .rt [1,3] 2 (r1)
def JY (r0:aH) (r1:ak) : Mo (ak) :=
 .iB (r0.mG) (.rt [1,3] 2 (ak.alY r1 0)) <|
 .rt [1,3] 2 (r1)
def JZ (r0:aH) (r1:ak) : Mo (ak) :=
 .iB (r0.kS) (.ret ⟨[.norm 0],[1,3],[],2⟩ (ak.ahY r1 [])) <|
 .rt [1,3] 2 (r1)
def BQ (r0:aH) (r1:ak) : Mo (ak) :=
 .iB (r0.kT) (.ret ⟨[.norm 0],[1],[],2⟩ (ak.ahZ r1 [])) <|
 .rt [1] 2 (r1)
def Ye (r0:aH) (r1:ak) : Option (ak) := Mo.den (BQ r0 r1)
def uV  (r_:ak) : St := ⟨[(1,.ptr 0 0)],[.box 49 (.dat (ak.lf1 r_)),.dead]⟩
theorem aaA {r0:aH} {r1:ak} {r_:ak} (h:Ye r0 r1 = some r_) : eF Tryz.f57 0 [1,1,1,1,1,1,1,1,1,1,1,1,0,1] (.normal) (uV r_) ⟨[(1,.ptr 0 0),(44,.b_ r0.kT)],[.box 49 (.dat (ak.lf1 r1)),.dead]⟩ :=
 iE dA (BQ r0 r1) (fun _=>.normal) uV (by kernel_rfl) h
def akC (p_w:ak) : Mo (Bool) :=
 .cl (Yd p_w.aF) fun r0 _ =>
 .jp Tryz.f57 0 [1,1,1,0,1] 1 [1,3,9] 2 (.normal) (fun r_=>⟨[(1,.ptr 0 0),(3,.ptr 1 0)],[.box 49 (.dat (ak.lf1 r_)),.box 104 (.agg ((aH.lf1 r0).map AV.lf))]⟩) ⟨[(1,.ptr 0 0),(3,.ptr 1 0),(9,.b_ r0.mF)],[.box 49 (.dat (ak.lf1 (ak.Jw p_w 0))),.box 104 (.agg ((aH.lf1 r0).map AV.lf))]⟩ (QH p_w r0).den (jW (by kernel_rfl)) fun r1 _ =>
 .jp Tryz.f57 0 [1,1,1,1,0,1] 1 [1,3,12] 2 (.normal) (fun r_=>⟨[(1,.ptr 0 0),(3,.ptr 1 0)],[.box 49 (.dat (ak.lf1 r_)),.box 104 (.agg ((aH.lf1 r0).map AV.lf))]⟩) ⟨[(1,.ptr 0 0),(3,.ptr 1 0),(12,.b_ r0.yQ)],[.box 49 (.dat (ak.lf1 r1)),.box 104 (.agg ((aH.lf1 r0).map AV.lf))]⟩ (QI r0 r1).den (jW (by kernel_rfl)) fun r2 _ =>
 .jp Tryz.f57 0 [1,1,1,1,1,0,1] 1 [1,3,19] 2 (.normal) (fun r_=>⟨[(1,.ptr 0 0),(3,.ptr 1 0)],[.box 49 (.dat (ak.lf1 r_)),.box 104 (.agg ((aH.lf1 r0).map AV.lf))]⟩) ⟨[(1,.ptr 0 0),(3,.ptr 1 0),(19,.b_ r0.Eb)],[.box 49 (.dat (ak.lf1 r2)),.box 104 (.agg ((aH.lf1 r0).map AV.lf))]⟩ (JR r0 r2).den (jW (by kernel_rfl)) fun r3 _ =>
 .jp Tryz.f57 0 [1,1,1,1,1,1,0,1] 1 [1,3,23] 2 (.normal) (fun r_=>⟨[(1,.ptr 0 0),(3,.ptr 1 0)],[.box 49 (.dat (ak.lf1 r_)),.box 104 (.agg ((aH.lf1 r0).map AV.lf))]⟩) ⟨[(1,.ptr 0 0),(3,.ptr 1 0),(23,.b_ r0.Ec)],[.box 49 (.dat (ak.lf1 r3)),.box 104 (.agg ((aH.lf1 r0).map AV.lf))]⟩ (JU r0 r3).den (jW (by kernel_rfl)) fun r4 _ =>
 .jp Tryz.f57 0 [1,1,1,1,1,1,1,0,1] 1 [1,3,27] 2 (.normal) (fun r_=>⟨[(1,.ptr 0 0),(3,.ptr 1 0)],[.box 49 (.dat (ak.lf1 r_)),.box 104 (.agg ((aH.lf1 r0).map AV.lf))]⟩) ⟨[(1,.ptr 0 0),(3,.ptr 1 0),(27,.b_ r0.nN)],[.box 49 (.dat (ak.lf1 r4)),.box 104 (.agg ((aH.lf1 r0).map AV.lf))]⟩ (JV r0 r4).den (jW (by kernel_rfl)) fun r5 _ =>
 .jp Tryz.f57 0 [1,1,1,1,1,1,1,1,0,1] 1 [1,3,31] 2 (.normal) (fun r_=>⟨[(1,.ptr 0 0),(3,.ptr 1 0)],[.box 49 (.dat (ak.lf1 r_)),.box 104 (.agg ((aH.lf1 r0).map AV.lf))]⟩) ⟨[(1,.ptr 0 0),(3,.ptr 1 0),(31,.b_ r0.gW)],[.box 49 (.dat (ak.lf1 r5)),.box 104 (.agg ((aH.lf1 r0).map AV.lf))]⟩ (JW r0 r5).den (jW (by kernel_rfl)) fun r6 _ =>
 .jp Tryz.f57 0 [1,1,1,1,1,1,1,1,1,0,1] 1 [1,3,35] 2 (.normal) (fun r_=>⟨[(1,.ptr 0 0),(3,.ptr 1 0)],[.box 49 (.dat (ak.lf1 r_)),.box 104 (.agg ((aH.lf1 r0).map AV.lf))]⟩) ⟨[(1,.ptr 0 0),(3,.ptr 1 0),(35,.b_ r0.BK)],[.box 49 (.dat (ak.lf1 r6)),.box 104 (.agg ((aH.lf1 r0).map AV.lf))]⟩ (JX r0 r6).den (jW (by kernel_rfl)) fun r7 _ =>
 .jp Tryz.f57 0 [1,1,1,1,1,1,1,1,1,1,0,1] 1 [1,3,38] 2 (.normal) (fun r_=>⟨[(1,.ptr 0 0),(3,.ptr 1 0)],[.box 49 (.dat (ak.lf1 r_)),.box 104 (.agg ((aH.lf1 r0).map AV.lf))]⟩) ⟨[(1,.ptr 0 0),(3,.ptr 1 0),(38,.b_ r0.mG)],[.box 49 (.dat (ak.lf1 r7)),.box 104 (.agg ((aH.lf1 r0).map AV.lf))]⟩ (JY r0 r7).den (jW (by kernel_rfl)) fun r8 _ =>
 .jp Tryz.f57 0 [1,1,1,1,1,1,1,1,1,1,1,0,1] 1 [1,3,41] 2 (.normal) (fun r_=>⟨[(1,.ptr 0 0),(3,.ptr 1 0)],[.box 49 (.dat (ak.lf1 r_)),.box 104 (.agg ((aH.lf1 r0).map AV.lf))]⟩) ⟨[(1,.ptr 0 0),(3,.ptr 1 0),(41,.b_ r0.kS)],[.box 49 (.dat (ak.lf1 r8)),.box 104 (.agg ((aH.lf1 r0).map AV.lf))]⟩ (JZ r0 r8).den (jW (by kernel_rfl)) fun r9 _ =>
 .ask (Ye r0 r9) fun r10 h0 =>
 .say [.part [.kill 1] 1 [1,44] 2 (.normal) (uV r10).T (uV r10).H] (ok1 (aaA h0)) <|
 .cl (amu r10) fun r11 _ =>
 .ret (bf 1) (r11)
def Q24 (p_w:ak) : Option (Bool) := Mo.den (akC p_w)
theorem amv (p_w:ak) : FV (Q24 p_w) 57 [.dat (ak.lf1 p_w)] (fun r=>.b_ r) := dU Tryz.func57 (by kernel_rfl) (fun _=>rfl) (by kernel_rfl)
def aaB (p_w:ak) : Mo (Int) :=
 .iB (p_w.aF == 12) (.rt [1,3] 1 (0)) <|
 .rt [1,3] 1 (1)
def adN (p_w:ak) : Mo (Bool) :=
 .jp Tryz.f58 0 [1,1,0,1] 1 [1,3,6] 1 (.normal) (fun r_=>⟨[(1,.ptr 0 0),(3,.i_ r_)],[.box 49 (.dat (ak.lf1 p_w))]⟩) ⟨[(1,.ptr 0 0),(3,.i_ 1),(6,.lf (.bool (p_w.aF == 12)))],[.box 49 (.dat (ak.lf1 p_w))]⟩ (aaB p_w).den (jW (by kernel_rfl)) fun r0 _ =>
 .iG 10004 (decide ((r0:Int) ≤ p_w.eG)) (.ret (bf 1) (decide ((p_w.eG:Int) ≤ 1099511627776))) <|
 .ret (bf 1) (false)
def aos (p_w:ak) : Option (Bool) := Mo.den (adN p_w)
theorem aiF (p_w:ak) : FV (aos p_w) 58 [.dat (ak.lf1 p_w)] (fun r=>.b_ r) := dU Tryz.func58 (by kernel_rfl) (fun _=>rfl) (by kernel_rfl)
def QJ (p_l:List Int) (v0:Int) (x0:Int) : Mo (Bool) :=
 .iG 10002 (decide ((x0:Int) < 0)) (.rt [0,3,4,5,6,7,17] 0 (true)) <|
 .rt [0,3,4,5,6,7,17] 0 (decide ((8:Int) ≤ x0))
def QK (p_l:List Int) (r0:Bool) (v0:Int) (x0:Int) : Mo (Bool) :=
 .iG 10006 (r0) (.rt [0,5,6,7,30] 0 (true)) <|
 .iG 10009 (decide ((0:Int) < v0)) (.ask (fO p_l (IntKind.wrap .i64 (v0 - 1))) fun x1 h0 =>
 .say [.row (lfI x1)] (ok1 (bY lI_ h0)) <|
 .rt [0,5,6,7,30] 0 (decide ((x0:Int) ≤ x1))) <|
 .rt [0,5,6,7,30] 0 (false)
def BR (p_l:List Int) : (Int) → Mo ((Int) ⊕ (Unit ⊕ Unit)) := fun (v0) =>
 .iB (decide ((v0:Int) < (p_l.length:Int))) (.ask (fO p_l v0) fun x0 h0 =>
 .say [.row (lfI x0)] (ok1 (bY lI_ h0)) <|
 .sj Tryz.f59 0 [1,0,1,0,0,1,1,0,0,1,0] [0,1,2,3,4,5] 4 6 [0,3,4,5,6,7] 0 (fun r_=>⟨[(0,.lf (.rows 1 (p_l.map lfI))),(3,.i_ v0),(4,.i_ x0),(5,.lf (.rows 1 (p_l.map lfI))),(6,.i_ (p_l.length:Int)),(7,.i_ v0),(17,.b_ r_)],[]⟩) ⟨[(0,.lf (.rows 1 (p_l.map lfI))),(3,.i_ v0),(4,.i_ x0),(5,.lf (.rows 1 (p_l.map lfI))),(6,.i_ (p_l.length:Int)),(7,.i_ v0)],[]⟩ (QJ p_l v0 x0).den (sW (by kernel_rfl)) fun r0 _ =>
 .sj Tryz.f59 0 [1,0,1,0,0,1,1,0,0,1,0] [6,7,8,9,10,11,12,13,14,15,16,17,18] 4 13 [0,3,4,5,6,7,17] 0 (fun r_=>⟨[(0,.lf (.rows 1 (p_l.map lfI))),(5,.lf (.rows 1 (p_l.map lfI))),(6,.i_ (p_l.length:Int)),(7,.i_ v0),(30,.b_ r_)],[]⟩) ⟨[(0,.lf (.rows 1 (p_l.map lfI))),(3,.i_ v0),(4,.i_ x0),(5,.lf (.rows 1 (p_l.map lfI))),(6,.i_ (p_l.length:Int)),(7,.i_ v0),(17,.b_ r0)],[]⟩ (QK p_l r0 v0 x0).den (sW (by kernel_rfl)) fun r1 _ =>
 .iB (r1) (.rt [2] 0 (.inr (.inl ()))) <|
 .rt [0,5,6,7] 0 (.inl (IntKind.wrap .i64 (v0 + 1)))) <|
 .rt [0] 0 (.inr (.inr (())))
def Yf (p_l:List Int) (v0:Int) : Option (Unit ⊕ Unit) := bT (fun v_=>(BR p_l v_).den) FU (v0)
def J3 (p_l:List Int) : (Int) → St := fun (v0)=>⟨[(0,.lf (.rows 1 (p_l.map lfI))),(5,.lf (.rows 1 (p_l.map lfI))),(6,.i_ (p_l.length:Int)),(7,.i_ v0)],[]⟩
def uX (r_:Unit ⊕ Unit) : Exit := match r_ with
 | .inl o_=>.ret
 | .inr (o_)=>.exit 0
def uY (p_l:List Int) (r_:Unit ⊕ Unit) : St := match r_ with
 | .inl o_=>⟨[(2,.b_ false)],[]⟩
 | .inr (o_)=>⟨[(0,.lf (.rows 1 (p_l.map lfI)))],[]⟩
theorem J4 {p_l:List Int} {v0:Int} {r_:Unit ⊕ Unit} (h:Yf p_l v0 = some r_) : eF Tryz.f59 0 [1,0,1,0] (uX r_) (uY p_l r_) (J3 p_l (v0)) :=
 dK dA (body := (Code.sub (bodyC Tryz.f59) [1,0,1,0,0])) (by kernel_rfl) (BR p_l) (J3 p_l) uX (uY p_l) (fun r_=>by rcases r_ with _ | _ <;> rfl) (fun v_=>by kernel_rfl) h
def akD (p_l:List Int) : Mo (Bool) :=
 .say [.num p_l.length] (ok1 (ln_ p_l lfI)) <|
 .fG (Yf p_l 0) (fun o0 h0 =>
 .say [.pt_ 0 [0,5,6,7] 0 (uX (.inl o0)) (uY p_l (.inl o0))] (ok1 (J4 h0)) <|
 .ret (bf 1) (false)) fun o1 h0 =>
 .say [.pt_ 0 [0,5,6,7] 0 (uX (.inr (o1))) (uY p_l (.inr (o1))),.num p_l.length] (okc (J4 h0) (ok1 (ln_ p_l lfI))) <|
 .ret (bf 1) (decide ((0:Int) < (p_l.length:Int)))
def Q33 (p_l:List Int) : Option (Bool) := Mo.den (akD p_l)
theorem amw (p_l:List Int) : FV (Q33 p_l) 59 [.lf (.rows 1 (p_l.map lfI))] (fun r=>.b_ r) := dU Tryz.func59 (by kernel_rfl) (fun _=>rfl) (by kernel_rfl)
structure RB2 where
 m1:(p_v:aj) → (p_most:Int) → Option (Int)
 ok1:∀ p_v p_most,FV (m1 p_v p_most) 274 [.dat (aj.lf1 p_v),.i_ p_most] (fun r=>.i_ r)
 m2:(p_v:aj) → (p_b0:Int) → (p_b1:Int) → Option (Int × Int)
 ok2:∀ p_v p_b0 p_b1,FH (m2 p_v p_b0 p_b1) 323 [.dat (aj.lf1 p_v),.clo 324 [.ptr 0 0,.ptr 1 0]] [.box 3 (.dat [(.int .i64 p_b0)]),.box 3 (.dat [(.int .i64 p_b1)])] (fun _=>.tup []) (fun r=>[.box 3 (.dat [(.int .i64 r.1)]),.box 3 (.dat [(.int .i64 r.2)])])
 m3:(p_p:aj) → (p_b0:Int) → (p_b1:Int) → Option (Bool × Int × Int)
 ok3:∀ p_p p_b0 p_b1,FH (m3 p_p p_b0 p_b1) 324 [.dat (aj.lf1 p_p),.ptr 0 0,.ptr 1 0] [.box 3 (.dat [(.int .i64 p_b0)]),.box 3 (.dat [(.int .i64 p_b1)])] (fun r=>.b_ r.1) (fun r=>[.box 3 (.dat [(.int .i64 r.2.1)]),.box 3 (.dat [(.int .i64 r.2.2)])])
def NY (R_:RB2) (p_v:aj) (p_most:Int) : Mo (Int) :=
 .iB (1 == p_most) (.ret (bf 1) (1)) <|
 .cH [2,1] (R_.ok2 p_v 1 p_most) fun r0 _ =>
 .ret (bf 1) (r0.1)
theorem adO (R_:RB2) (p_v:aj) (p_most:Int) : FV (Mo.den (NY R_ p_v p_most)) 274 [.dat (aj.lf1 p_v),.i_ p_most] (fun r=>.i_ r) := dU Tryz.func274 (by kernel_rfl) (fun _=>rfl) (by kernel_rfl)
def yU (R_:RB2) (p_v:aj) : (Int × Int × Int) → Mo ((Int × Int × Int) ⊕ (Int × Int) ⊕ (Int × Int)) := fun (v0,v1,v2) =>
 .iB (decide ((v0:Int) < (p_v.aU.length:Int))) (.ask (fO p_v.aU v0) fun x0 h0 =>
 .say [.row (aj.lf1 x0),.at_ 14 2,.tod 20] (ok1 (bY aj.bD h0)) <|
 .cH [0,1] (R_.ok3 x0 v1 v2) fun r0 _ =>
 .iB (!r0.1) (.rt [] 3 (.inr (.inl (r0.2.1,r0.2.2)))) <|
 .rt [1,13,14,15] 3 (.inl (IntKind.wrap .i64 (v0 + 1),r0.2.1,r0.2.2))) <|
 .rt [] 3 (.inr (.inr ((v1,v2))))
def V9 (R_:RB2) (p_v:aj) (v0:Int) (v1:Int) (v2:Int) : Option ((Int × Int) ⊕ (Int × Int)) := bT (fun v_=>(yU R_ p_v v_).den) FU (v0,v1,v2)
def QL (R_:RB2) (p_v:aj) : (Int × Int × Int) → St := fun (v0,v1,v2)=>⟨[(1,.clo 324 [.ptr 0 0,.ptr 1 0]),(13,.lf (.rows 5 (p_v.aU.map aj.lf))),(14,.i_ (p_v.aU.length:Int)),(15,.i_ v0)],[.box 3 (.dat [(.int .i64 v1)]),.box 3 (.dat [(.int .i64 v2)]),.dead]⟩
def yV (r_:(Int × Int) ⊕ (Int × Int)) : Exit := match r_ with
 | .inl o_=>.ret
 | .inr (o_)=>.exit 1
def qc  (r_:(Int × Int) ⊕ (Int × Int)) : St := match r_ with
 | .inl o_=>⟨[],[.box 3 (.dat [(.int .i64 o_.1)]),.box 3 (.dat [(.int .i64 o_.2)]),.dead]⟩
 | .inr (o_)=>⟨[],[.box 3 (.dat [(.int .i64 o_.1)]),.box 3 (.dat [(.int .i64 o_.2)]),.dead]⟩
theorem QM {R_:RB2} {p_v:aj} {v0:Int} {v1:Int} {v2:Int} {r_:(Int × Int) ⊕ (Int × Int)} (h:V9 R_ p_v v0 v1 v2 = some r_) : eF Tryz.f323 2 [1,1,0,1,0,1,0] (yV r_) (qc r_) (QL R_ p_v (v0,v1,v2)) :=
 dK dA (body := (Code.sub (bodyC Tryz.f323) [1,1,0,1,0,1,0,0])) (by kernel_rfl) (yU R_ p_v) (QL R_ p_v) yV qc (fun r_=>by rcases r_ with _ | _ <;> rfl) (fun v_=>by kernel_rfl) h
def yX (R_:RB2) (p_v:aj) : (Int × Int × Int) → Mo ((Int × Int × Int) ⊕ (Int × Int) ⊕ (Int × Int)) := fun (v0,v1,v2) =>
 .iB (decide ((v0:Int) < (p_v.aX.length:Int))) (.ask (fO p_v.aX v0) fun x0 h0 =>
 .say [.row (aB.lf1 x0),.at_ 26 3,.tod 35] (ok1 (bY aB.bD h0)) <|
 .cH [0,1] (R_.ok3 x0.fValue v1 v2) fun r0 _ =>
 .iB (!r0.1) (.rt [] 3 (.inr (.inl (r0.2.1,r0.2.2)))) <|
 .rt [1,27,28,29] 3 (.inl (IntKind.wrap .i64 (v0 + 1),r0.2.1,r0.2.2))) <|
 .rt [] 3 (.inr (.inr ((v1,v2))))
def Wh (R_:RB2) (p_v:aj) (v0:Int) (v1:Int) (v2:Int) : Option ((Int × Int) ⊕ (Int × Int)) := bT (fun v_=>(yX R_ p_v v_).den) FU (v0,v1,v2)
def QN (R_:RB2) (p_v:aj) : (Int × Int × Int) → St := fun (v0,v1,v2)=>⟨[(1,.clo 324 [.ptr 0 0,.ptr 1 0]),(27,.lf (.rows 6 (p_v.aX.map aB.lf))),(28,.i_ (p_v.aX.length:Int)),(29,.i_ v0)],[.box 3 (.dat [(.int .i64 v1)]),.box 3 (.dat [(.int .i64 v2)]),.dead]⟩
def yY (r_:(Int × Int) ⊕ (Int × Int)) : Exit := match r_ with
 | .inl o_=>.ret
 | .inr (o_)=>.exit 3
def qg  (r_:(Int × Int) ⊕ (Int × Int)) : St := match r_ with
 | .inl o_=>⟨[],[.box 3 (.dat [(.int .i64 o_.1)]),.box 3 (.dat [(.int .i64 o_.2)]),.dead]⟩
 | .inr (o_)=>⟨[],[.box 3 (.dat [(.int .i64 o_.1)]),.box 3 (.dat [(.int .i64 o_.2)]),.dead]⟩
theorem QO {R_:RB2} {p_v:aj} {v0:Int} {v1:Int} {v2:Int} {r_:(Int × Int) ⊕ (Int × Int)} (h:Wh R_ p_v v0 v1 v2 = some r_) : eF Tryz.f323 2 [1,1,0,1,1,1,0,1,0] (yY r_) (qg r_) (QN R_ p_v (v0,v1,v2)) :=
 dK dA (body := (Code.sub (bodyC Tryz.f323) [1,1,0,1,1,1,0,1,0,0])) (by kernel_rfl) (yX R_ p_v) (QN R_ p_v) yY qg (fun r_=>by rcases r_ with _ | _ <;> rfl) (fun v_=>by kernel_rfl) h
def QS (R_:RB2) (p_v:aj) (p_b0:Int) (p_b1:Int) : Mo (Int × Int) :=
 .ite (p_v.aF == 6) (fun c0 =>
 .say [.br true,.num p_v.aU.length] (okc c0 (ok1 (ln_ p_v.aU aj.lf))) <|
 .fG (V9 R_ p_v 0 p_b0 p_b1) (fun o0 h0 =>
 .say [.part [.kill 2] 0 [1,13,14,15] 3 (yV (.inl o0)) (qc (.inl o0)).T (qc (.inl o0)).H] (ok1 (QM h0)) <|
 .rt [] 2 (o0.1,o0.2)) fun o1 h0 =>
 .say [.part [.kill 2] 0 [1,13,14,15] 3 (yV (.inr (o1))) (qc (.inr (o1))).T (qc (.inr (o1))).H] (ok1 (QM h0)) <|
 .rt [] 2 (o1.1,o1.2)) fun c0 =>
 .say [.br false] (ok1 c0) <|
 .ite (p_v.aF == 5) (fun c1 =>
 .say [.br true,.num p_v.aX.length] (okc c1 (ok1 (ln_ p_v.aX aB.lf))) <|
 .fG (Wh R_ p_v 0 p_b0 p_b1) (fun o2 h1 =>
 .say [.part [.kill 2] 0 [1,27,28,29] 3 (yY (.inl o2)) (qg (.inl o2)).T (qg (.inl o2)).H] (ok1 (QO h1)) <|
 .rt [] 2 (o2.1,o2.2)) fun o3 h1 =>
 .say [.part [.kill 2] 0 [1,27,28,29] 3 (yY (.inr (o3))) (qg (.inr (o3))).T (qg (.inr (o3))).H] (ok1 (QO h1)) <|
 .rt [] 2 (o3.1,o3.2)) fun c1 =>
 .say [.br false] (ok1 c1) <|
 .ret ⟨[.kill 2],[],[],2⟩ (p_b0,p_b1)
theorem aiG (R_:RB2) (p_v:aj) (p_b0:Int) (p_b1:Int) : FH (Mo.den (QS R_ p_v p_b0 p_b1)) 323 [.dat (aj.lf1 p_v),.clo 324 [.ptr 0 0,.ptr 1 0]] [.box 3 (.dat [(.int .i64 p_b0)]),.box 3 (.dat [(.int .i64 p_b1)])] (fun _=>.tup []) (fun r=>[.box 3 (.dat [(.int .i64 r.1)]),.box 3 (.dat [(.int .i64 r.2)])]) := dW Tryz.func323 (by kernel_rfl) (fun _=>rfl) (by kernel_rfl)
def NZ (R_:RB2) (p_p:aj) (p_b0:Int) (p_b1:Int) : Mo (Bool × Int × Int) :=
 .say [.order [(true,0),(true,1),(true,2),(true,3),(true,4),(false,5),(true,6),(false,7)] (some 7) []] ok0 <|
 .cl (R_.ok1 p_p (IntKind.wrap .i64 (p_b1 - p_b0))) fun r0 _ =>
 .ret ⟨[.kill 2],[0],[],2⟩ (decide ((IntKind.wrap .i64 (p_b0 + r0) : Int) < p_b1),IntKind.wrap .i64 (p_b0 + r0),p_b1)
theorem adP (R_:RB2) (p_p:aj) (p_b0:Int) (p_b1:Int) : FH (Mo.den (NZ R_ p_p p_b0 p_b1)) 324 [.dat (aj.lf1 p_p),.ptr 0 0,.ptr 1 0] [.box 3 (.dat [(.int .i64 p_b0)]),.box 3 (.dat [(.int .i64 p_b1)])] (fun r=>.b_ r.1) (fun r=>[.box 3 (.dat [(.int .i64 r.2.1)]),.box 3 (.dat [(.int .i64 r.2.2)])]) := dW Tryz.func324 (by kernel_rfl) (fun _=>rfl) (by kernel_rfl)
def oW:Nat → RB2
 | 0=>{ m1 := fun p_v p_most=>none,ok1 := fun _ _ _ h=>(by cases h),m2 := fun p_v p_b0 p_b1=>none,ok2 := fun _ _ _ _ h=>(by cases h),m3 := fun p_p p_b0 p_b1=>none,ok3 := fun _ _ _ _ h=>(by cases h) }
 | n_ + 1=>{ m1 := fun p_v p_most=>Mo.den (NY (oW n_) p_v p_most),ok1 := fun p_v p_most r h=>adO (oW n_) p_v p_most r h,m2 := fun p_v p_b0 p_b1=>Mo.den (QS (oW n_) p_v p_b0 p_b1),ok2 := fun p_v p_b0 p_b1 r h=>aiG (oW n_) p_v p_b0 p_b1 r h,m3 := fun p_p p_b0 p_b1=>Mo.den (NZ (oW n_) p_p p_b0 p_b1),ok3 := adP (oW n_) }
def aot (p_v:aj) (p_most:Int) : Option (Int) := (oW FU).m1 p_v p_most
theorem aiH (p_v:aj) (p_most:Int) : FV (aot p_v p_most) 274 [.dat (aj.lf1 p_v),.i_ p_most] (fun r=>.i_ r) := (oW FU).ok1 p_v p_most
def adQ (p_v:aj) : Mo (Int) :=
 .cl (aiH p_v 1025) fun r0 _ =>
 .ret (bf 1) (r0)
def amx (p_v:aj) : Option (Int) := Mo.den (adQ p_v)
theorem aiI (p_v:aj) : FV (amx p_v) 203 [.dat (aj.lf1 p_v)] (fun r=>.i_ r) := dU Tryz.func203 (by kernel_rfl) (fun _=>rfl) (by kernel_rfl)
structure RB3 where
 m1:(p_v:aj) → (p_most:Int) → Option (Int)
 ok1:∀ p_v p_most,FV (m1 p_v p_most) 275 [.dat (aj.lf1 p_v),.i_ p_most] (fun r=>.i_ r)
 m2:(p_v:aj) → (p_b0:Int) → (p_b1:Int) → Option (Int × Int)
 ok2:∀ p_v p_b0 p_b1,FH (m2 p_v p_b0 p_b1) 323 [.dat (aj.lf1 p_v),.clo 325 [.ptr 0 0,.ptr 1 0]] [.box 3 (.dat [(.int .i64 p_b0)]),.box 3 (.dat [(.int .i64 p_b1)])] (fun _=>.tup []) (fun r=>[.box 3 (.dat [(.int .i64 r.1)]),.box 3 (.dat [(.int .i64 r.2)])])
 m3:(p_p:aj) → (p_b0:Int) → (p_b1:Int) → Option (Bool × Int × Int)
 ok3:∀ p_p p_b0 p_b1,FH (m3 p_p p_b0 p_b1) 325 [.dat (aj.lf1 p_p),.ptr 0 0,.ptr 1 0] [.box 3 (.dat [(.int .i64 p_b0)]),.box 3 (.dat [(.int .i64 p_b1)])] (fun r=>.b_ r.1) (fun r=>[.box 3 (.dat [(.int .i64 r.2.1)]),.box 3 (.dat [(.int .i64 r.2.2)])])
def N7 (R_:RB3) (p_v:aj) (p_most:Int) : Mo (Int) :=
 .iB (p_most == 1) (.ret (bf 1) (1)) <|
 .cH [2,1] (R_.ok2 p_v 0 p_most) fun r0 _ =>
 .ret (bf 1) (IntKind.wrap .i64 (1 + r0.1))
theorem adR (R_:RB3) (p_v:aj) (p_most:Int) : FV (Mo.den (N7 R_ p_v p_most)) 275 [.dat (aj.lf1 p_v),.i_ p_most] (fun r=>.i_ r) := dU Tryz.func275 (by kernel_rfl) (fun _=>rfl) (by kernel_rfl)
def yZ (R_:RB3) (p_v:aj) : (Int × Int × Int) → Mo ((Int × Int × Int) ⊕ (Int × Int) ⊕ (Int × Int)) := fun (v0,v1,v2) =>
 .iB (decide ((v0:Int) < (p_v.aU.length:Int))) (.ask (fO p_v.aU v0) fun x0 h0 =>
 .say [.row (aj.lf1 x0),.at_ 14 2,.tod 20] (ok1 (bY aj.bD h0)) <|
 .cH [0,1] (R_.ok3 x0 v1 v2) fun r0 _ =>
 .iB (!r0.1) (.rt [] 3 (.inr (.inl (r0.2.1,r0.2.2)))) <|
 .rt [1,13,14,15] 3 (.inl (IntKind.wrap .i64 (v0 + 1),r0.2.1,r0.2.2))) <|
 .rt [] 3 (.inr (.inr ((v1,v2))))
def Wi (R_:RB3) (p_v:aj) (v0:Int) (v1:Int) (v2:Int) : Option ((Int × Int) ⊕ (Int × Int)) := bT (fun v_=>(yZ R_ p_v v_).den) FU (v0,v1,v2)
def QT (R_:RB3) (p_v:aj) : (Int × Int × Int) → St := fun (v0,v1,v2)=>⟨[(1,.clo 325 [.ptr 0 0,.ptr 1 0]),(13,.lf (.rows 5 (p_v.aU.map aj.lf))),(14,.i_ (p_v.aU.length:Int)),(15,.i_ v0)],[.box 3 (.dat [(.int .i64 v1)]),.box 3 (.dat [(.int .i64 v2)]),.dead]⟩
def y5 (r_:(Int × Int) ⊕ (Int × Int)) : Exit := match r_ with
 | .inl o_=>.ret
 | .inr (o_)=>.exit 1
def qh  (r_:(Int × Int) ⊕ (Int × Int)) : St := match r_ with
 | .inl o_=>⟨[],[.box 3 (.dat [(.int .i64 o_.1)]),.box 3 (.dat [(.int .i64 o_.2)]),.dead]⟩
 | .inr (o_)=>⟨[],[.box 3 (.dat [(.int .i64 o_.1)]),.box 3 (.dat [(.int .i64 o_.2)]),.dead]⟩
theorem QU {R_:RB3} {p_v:aj} {v0:Int} {v1:Int} {v2:Int} {r_:(Int × Int) ⊕ (Int × Int)} (h:Wi R_ p_v v0 v1 v2 = some r_) : eF Tryz.f323 2 [1,1,0,1,0,1,0] (y5 r_) (qh r_) (QT R_ p_v (v0,v1,v2)) :=
 dK dA (body := (Code.sub (bodyC Tryz.f323) [1,1,0,1,0,1,0,0])) (by kernel_rfl) (yZ R_ p_v) (QT R_ p_v) y5 qh (fun r_=>by rcases r_ with _ | _ <;> rfl) (fun v_=>by kernel_rfl) h
def y7 (R_:RB3) (p_v:aj) : (Int × Int × Int) → Mo ((Int × Int × Int) ⊕ (Int × Int) ⊕ (Int × Int)) := fun (v0,v1,v2) =>
 .iB (decide ((v0:Int) < (p_v.aX.length:Int))) (.ask (fO p_v.aX v0) fun x0 h0 =>
 .say [.row (aB.lf1 x0),.at_ 26 3,.tod 35] (ok1 (bY aB.bD h0)) <|
 .cH [0,1] (R_.ok3 x0.fValue v1 v2) fun r0 _ =>
 .iB (!r0.1) (.rt [] 3 (.inr (.inl (r0.2.1,r0.2.2)))) <|
 .rt [1,27,28,29] 3 (.inl (IntKind.wrap .i64 (v0 + 1),r0.2.1,r0.2.2))) <|
 .rt [] 3 (.inr (.inr ((v1,v2))))
def Wj (R_:RB3) (p_v:aj) (v0:Int) (v1:Int) (v2:Int) : Option ((Int × Int) ⊕ (Int × Int)) := bT (fun v_=>(y7 R_ p_v v_).den) FU (v0,v1,v2)
def QV (R_:RB3) (p_v:aj) : (Int × Int × Int) → St := fun (v0,v1,v2)=>⟨[(1,.clo 325 [.ptr 0 0,.ptr 1 0]),(27,.lf (.rows 6 (p_v.aX.map aB.lf))),(28,.i_ (p_v.aX.length:Int)),(29,.i_ v0)],[.box 3 (.dat [(.int .i64 v1)]),.box 3 (.dat [(.int .i64 v2)]),.dead]⟩
def y8 (r_:(Int × Int) ⊕ (Int × Int)) : Exit := match r_ with
 | .inl o_=>.ret
 | .inr (o_)=>.exit 3
def qj  (r_:(Int × Int) ⊕ (Int × Int)) : St := match r_ with
 | .inl o_=>⟨[],[.box 3 (.dat [(.int .i64 o_.1)]),.box 3 (.dat [(.int .i64 o_.2)]),.dead]⟩
 | .inr (o_)=>⟨[],[.box 3 (.dat [(.int .i64 o_.1)]),.box 3 (.dat [(.int .i64 o_.2)]),.dead]⟩
theorem QW {R_:RB3} {p_v:aj} {v0:Int} {v1:Int} {v2:Int} {r_:(Int × Int) ⊕ (Int × Int)} (h:Wj R_ p_v v0 v1 v2 = some r_) : eF Tryz.f323 2 [1,1,0,1,1,1,0,1,0] (y8 r_) (qj r_) (QV R_ p_v (v0,v1,v2)) :=
 dK dA (body := (Code.sub (bodyC Tryz.f323) [1,1,0,1,1,1,0,1,0,0])) (by kernel_rfl) (y7 R_ p_v) (QV R_ p_v) y8 qj (fun r_=>by rcases r_ with _ | _ <;> rfl) (fun v_=>by kernel_rfl) h
def QX (R_:RB3) (p_v:aj) (p_b0:Int) (p_b1:Int) : Mo (Int × Int) :=
 .ite (p_v.aF == 6) (fun c0 =>
 .say [.br true,.num p_v.aU.length] (okc c0 (ok1 (ln_ p_v.aU aj.lf))) <|
 .fG (Wi R_ p_v 0 p_b0 p_b1) (fun o0 h0 =>
 .say [.part [.kill 2] 0 [1,13,14,15] 3 (y5 (.inl o0)) (qh (.inl o0)).T (qh (.inl o0)).H] (ok1 (QU h0)) <|
 .rt [] 2 (o0.1,o0.2)) fun o1 h0 =>
 .say [.part [.kill 2] 0 [1,13,14,15] 3 (y5 (.inr (o1))) (qh (.inr (o1))).T (qh (.inr (o1))).H] (ok1 (QU h0)) <|
 .rt [] 2 (o1.1,o1.2)) fun c0 =>
 .say [.br false] (ok1 c0) <|
 .ite (p_v.aF == 5) (fun c1 =>
 .say [.br true,.num p_v.aX.length] (okc c1 (ok1 (ln_ p_v.aX aB.lf))) <|
 .fG (Wj R_ p_v 0 p_b0 p_b1) (fun o2 h1 =>
 .say [.part [.kill 2] 0 [1,27,28,29] 3 (y8 (.inl o2)) (qj (.inl o2)).T (qj (.inl o2)).H] (ok1 (QW h1)) <|
 .rt [] 2 (o2.1,o2.2)) fun o3 h1 =>
 .say [.part [.kill 2] 0 [1,27,28,29] 3 (y8 (.inr (o3))) (qj (.inr (o3))).T (qj (.inr (o3))).H] (ok1 (QW h1)) <|
 .rt [] 2 (o3.1,o3.2)) fun c1 =>
 .say [.br false] (ok1 c1) <|
 .ret ⟨[.kill 2],[],[],2⟩ (p_b0,p_b1)
theorem aiJ (R_:RB3) (p_v:aj) (p_b0:Int) (p_b1:Int) : FH (Mo.den (QX R_ p_v p_b0 p_b1)) 323 [.dat (aj.lf1 p_v),.clo 325 [.ptr 0 0,.ptr 1 0]] [.box 3 (.dat [(.int .i64 p_b0)]),.box 3 (.dat [(.int .i64 p_b1)])] (fun _=>.tup []) (fun r=>[.box 3 (.dat [(.int .i64 r.1)]),.box 3 (.dat [(.int .i64 r.2)])]) := dW Tryz.func323 (by kernel_rfl) (fun _=>rfl) (by kernel_rfl)
def N8 (R_:RB3) (p_p:aj) (p_b0:Int) (p_b1:Int) : Mo (Bool × Int × Int) :=
 .say [.order [(true,0),(true,1),(true,2),(true,3),(false,4),(true,5),(false,6)] (some 6) []] ok0 <|
 .cl (R_.ok1 p_p (IntKind.wrap .i64 (p_b1 - 1))) fun r0 _ =>
 .ret ⟨[.kill 2],[0],[],2⟩ (decide (((if r0 > p_b0 then r0 else p_b0) : Int) < (IntKind.wrap .i64 (p_b1 - 1))),(if r0 > p_b0 then r0 else p_b0),p_b1)
theorem adS (R_:RB3) (p_p:aj) (p_b0:Int) (p_b1:Int) : FH (Mo.den (N8 R_ p_p p_b0 p_b1)) 325 [.dat (aj.lf1 p_p),.ptr 0 0,.ptr 1 0] [.box 3 (.dat [(.int .i64 p_b0)]),.box 3 (.dat [(.int .i64 p_b1)])] (fun r=>.b_ r.1) (fun r=>[.box 3 (.dat [(.int .i64 r.2.1)]),.box 3 (.dat [(.int .i64 r.2.2)])]) := dW Tryz.func325 (by kernel_rfl) (fun _=>rfl) (by kernel_rfl)
def oZ:Nat → RB3
 | 0=>{ m1 := fun p_v p_most=>none,ok1 := fun _ _ _ h=>(by cases h),m2 := fun p_v p_b0 p_b1=>none,ok2 := fun _ _ _ _ h=>(by cases h),m3 := fun p_p p_b0 p_b1=>none,ok3 := fun _ _ _ _ h=>(by cases h) }
 | n_ + 1=>{ m1 := fun p_v p_most=>Mo.den (N7 (oZ n_) p_v p_most),ok1 := fun p_v p_most r h=>adR (oZ n_) p_v p_most r h,m2 := fun p_v p_b0 p_b1=>Mo.den (QX (oZ n_) p_v p_b0 p_b1),ok2 := fun p_v p_b0 p_b1 r h=>aiJ (oZ n_) p_v p_b0 p_b1 r h,m3 := fun p_p p_b0 p_b1=>Mo.den (N8 (oZ n_) p_p p_b0 p_b1),ok3 := adS (oZ n_) }
def aou (p_v:aj) (p_most:Int) : Option (Int) := (oZ FU).m1 p_v p_most
theorem aiK (p_v:aj) (p_most:Int) : FV (aou p_v p_most) 275 [.dat (aj.lf1 p_v),.i_ p_most] (fun r=>.i_ r) := (oZ FU).ok1 p_v p_most
def adT (p_v:aj) : Mo (Int) :=
 .cl (aiK p_v 17) fun r0 _ =>
 .ret (bf 1) (r0)
def amy (p_v:aj) : Option (Int) := Mo.den (adT p_v)
theorem aiL (p_v:aj) : FV (amy p_v) 204 [.dat (aj.lf1 p_v)] (fun r=>.i_ r) := dU Tryz.func204 (by kernel_rfl) (fun _=>rfl) (by kernel_rfl)
def FY (p_s:ByteArray) : Mo (Bool) :=
 .iG 4003 (decide (((p_s.size:Int) : Int) < 1)) (.rt [0,11] 0 (true)) <|
 .rt [0,11] 0 (decide ((32:Int) < (p_s.size:Int)))
def FZ (p_s:ByteArray) (r0:Bool) : Mo (Bool) :=
 .iG 4008 (r0) (.rt [0,16] 0 (true)) <|
 .ask (lF p_s 0) fun b0 h0 =>
 .say [.byt b0] (ok1 (gB h0)) <|
 .rt [0,16] 0 ((b0.toNat:Int) == 36)
def BU (p_s:ByteArray) (v0:Int) : Mo (Bool) :=
 .ask (lF p_s v0) fun b0 h0 =>
 .say [.byt b0] (ok1 (gB h0)) <|
 .iG 14004 (decide (((b0.toNat:Int) : Int) < 33)) (.rt [0,3,18,19,31] 0 (true)) <|
 .ask (lF p_s v0) fun b1 h1 =>
 .say [.byt b1] (ok1 (gB h1)) <|
 .rt [0,3,18,19,31] 0 (decide ((126:Int) < (b1.toNat:Int)))
def BX (p_s:ByteArray) (r0:Bool) (v0:Int) : Mo (Bool) :=
 .iG 14010 (r0) (.rt [0,18,19,37] 0 (true)) <|
 .ask (lF p_s v0) fun b0 h0 =>
 .say [.byt b0] (ok1 (gB h0)) <|
 .rt [0,18,19,37] 0 ((b0.toNat:Int) == 46)
def ql (p_s:ByteArray) : (Int) → Mo ((Int) ⊕ (Unit ⊕ Unit)) := fun (v0) =>
 .iB (decide ((v0:Int) < (p_s.size:Int))) (.sj Tryz.f327 0 [1,1,0,1,0,0,1,1,0,0,1,0] [0,1,2,3,4,5,6,7,8,9] 6 10 [0,3,18,19] 0 (fun r_=>⟨[(0,.lf (.str p_s)),(3,.i_ v0),(18,.i_ (p_s.size:Int)),(19,.i_ v0),(31,.b_ r_)],[]⟩) ⟨[(0,.lf (.str p_s)),(3,.i_ v0),(18,.i_ (p_s.size:Int)),(19,.i_ v0)],[]⟩ (BU p_s v0).den (sW (by kernel_rfl)) fun r0 _ =>
 .sj Tryz.f327 0 [1,1,0,1,0,0,1,1,0,0,1,0] [10,11,12,13,14,15] 6 6 [0,3,18,19,31] 0 (fun r_=>⟨[(0,.lf (.str p_s)),(18,.i_ (p_s.size:Int)),(19,.i_ v0),(37,.b_ r_)],[]⟩) ⟨[(0,.lf (.str p_s)),(3,.i_ v0),(18,.i_ (p_s.size:Int)),(19,.i_ v0),(31,.b_ r0)],[]⟩ (BX p_s r0 v0).den (sW (by kernel_rfl)) fun r1 _ =>
 .iB (r1) (.rt [2] 0 (.inr (.inl ()))) <|
 .rt [0,18,19] 0 (.inl (IntKind.wrap .i64 (v0 + 1)))) <|
 .rt [] 0 (.inr (.inr (())))
def ED (p_s:ByteArray) (v0:Int) : Option (Unit ⊕ Unit) := bT (fun v_=>(ql p_s v_).den) FU (v0)
def J5 (p_s:ByteArray) : (Int) → St := fun (v0)=>⟨[(0,.lf (.str p_s)),(18,.i_ (p_s.size:Int)),(19,.i_ v0)],[]⟩
def uZ (r_:Unit ⊕ Unit) : Exit := match r_ with
 | .inl o_=>.ret
 | .inr (o_)=>.exit 0
def vg  (r_:Unit ⊕ Unit) : St := match r_ with
 | .inl o_=>⟨[(2,.b_ false)],[]⟩
 | .inr (o_)=>⟨[],[]⟩
theorem J6 {p_s:ByteArray} {v0:Int} {r_:Unit ⊕ Unit} (h:ED p_s v0 = some r_) : eF Tryz.f327 0 [1,1,0,1,0] (uZ r_) (vg r_) (J5 p_s (v0)) :=
 dK dA (body := (Code.sub (bodyC Tryz.f327) [1,1,0,1,0,0])) (by kernel_rfl) (ql p_s) (J5 p_s) uZ vg (fun r_=>by rcases r_ with _ | _ <;> rfl) (fun v_=>by kernel_rfl) h
def adU (p_s:ByteArray) : Mo (Bool) :=
 .sj Tryz.f327 0 [1,0,0] [0,1,2,3,4,5,6,7] 1 8 [0] 0 (fun r_=>⟨[(0,.lf (.str p_s)),(11,.b_ r_)],[]⟩) ⟨[(0,.lf (.str p_s))],[]⟩ (FY p_s).den (sW (by kernel_rfl)) fun r0 _ =>
 .sj Tryz.f327 0 [1,0,0] [8,9,10,11,12] 1 5 [0,11] 0 (fun r_=>⟨[(0,.lf (.str p_s)),(16,.b_ r_)],[]⟩) ⟨[(0,.lf (.str p_s)),(11,.b_ r0)],[]⟩ (FZ p_s r0).den (sW (by kernel_rfl)) fun r1 _ =>
 .iB (r1) (.ret (bf 1) (false)) <|
 .fG (ED p_s 0) (fun o0 h0 =>
 .say [.pt_ 0 [0,18,19] 0 (uZ (.inl o0)) (vg (.inl o0))] (ok1 (J6 h0)) <|
 .ret (bf 1) (false)) fun o1 h0 =>
 .say [.pt_ 0 [0,18,19] 0 (uZ (.inr (o1))) (vg (.inr (o1)))] (ok1 (J6 h0)) <|
 .ret (bf 1) (true)
def Q23 (p_s:ByteArray) : Option (Bool) := Mo.den (adU p_s)
theorem amA (p_s:ByteArray) : FV (Q23 p_s) 327 [.lf (.str p_s)] (fun r=>.b_ r) := dU Tryz.func327 (by kernel_rfl) (fun _=>rfl) (by kernel_rfl)
structure RB4 where
 m1:(p_v:aj) → Option (Bool)
 ok1:∀ p_v,FV (m1 p_v) 205 [.dat (aj.lf1 p_v)] (fun r=>.b_ r)
 m2:(p_l:List aB) → Option (Bool)
 ok2:∀ p_l,FV (m2 p_l) 277 [.lf (.rows 6 (p_l.map aB.lf))] (fun r=>.b_ r)
def QY (R_:RB4) (p_v:aj) : Mo (Bool) :=
 .iG 4003 (p_v.aF == 3) (.rt [1,14] 1 (true)) <|
 .rt [1,14] 1 (p_v.aF == 9)
def QZ (R_:RB4) (p_v:aj) (r0:Bool) : Mo (Bool) :=
 .iG 4008 (r0) (.rt [1,19] 1 (true)) <|
 .rt [1,19] 1 (p_v.aF == 10)
def J7 (R_:RB4) (p_v:aj) (r0:Bool) : Mo (Unit) :=
 .rt [1,3] 1 ()
def J8 (R_:RB4) (p_v:aj) (r0:Bool) : Mo (Bool) :=
 .iG 6003 (p_v.aF == 4) (.rt [1,3,27] 1 (true)) <|
 .rt [1,3,27] 1 (p_v.aF == 7)
def J9 (R_:RB4) (p_v:aj) (r0:Bool) (r1:Bool) : Mo (Bool) :=
 .iG 6008 (r0) (.rt [1,3,32] 1 (true)) <|
 .rt [1,3,32] 1 (p_v.aF == 8)
def Ko (R_:RB4) (p_v:aj) (r0:Bool) (r1:Bool) : Mo (Unit) :=
 .rt [1,3,4] 1 ()
def Kq (R_:RB4) (p_v:aj) (r0:Bool) (r1:Bool) : Mo (Bool) :=
 .iG 8002 (!r1) (.rt [1,4,39] 1 (p_v.eU != 0)) <|
 .rt [1,4,39] 1 (false)
def Kr (R_:RB4) (p_v:aj) (r0:Bool) (r1:Bool) : Mo (Bool) :=
 .iG 8007 (r1) (.rt [1,48] 1 (true)) <|
 .iG 8010 (!r0) (.rt [1,48] 1 (!decide ((p_v.fText:ByteArray) = (⟨#[]⟩ : ByteArray)))) <|
 .rt [1,48] 1 (false)
def Kt (R_:RB4) (p_v:aj) : Mo (Bool) :=
 .ite (p_v.aF != 6) (fun c0 =>
 .say [.gd 12003 true,.num p_v.aU.length] (okc c0 (ok1 (ln_ p_v.aU aj.lf))) <|
 .rt [1,57] 1 (decide ((0:Int) < (p_v.aU.length:Int)))) fun c0 =>
 .say [.gd 12003 false] (ok1 c0) <|
 .rt [1,57] 1 (false)
def Ku (R_:RB4) (p_v:aj) (r0:Bool) : Mo (Bool) :=
 .iG 12009 (r0) (.rt [1,68] 1 (true)) <|
 .ite (p_v.aF != 5) (fun c0 =>
 .say [.gd 12013 true,.num p_v.aX.length] (okc c0 (ok1 (ln_ p_v.aX aB.lf))) <|
 .rt [1,68] 1 (decide ((0:Int) < (p_v.aX.length:Int)))) fun c0 =>
 .say [.gd 12013 false] (ok1 c0) <|
 .rt [1,68] 1 (false)
def Kv (R_:RB4) (p_v:aj) : Mo (Bool) :=
 .iB (p_v.aF == 1) (.rt [1,70,71] 1 (p_v.aF == 1)) <|
 .iB (p_v.aF == 2) (.rt [1,70,71] 1 (p_v.aF == 2)) <|
 .iB (p_v.aF == 11) (.rt [1,70,71] 1 (p_v.aF == 11)) <|
 .rt [1,70,71] 1 (p_v.aF == 3)
def Kw (R_:RB4) (p_v:aj) : Mo (Bool) :=
 .iG 30003 (p_v.eU == 0) (.ret ⟨[.kill 0],[2],[],1⟩ (true)) <|
 .ret ⟨[.kill 0],[2],[],1⟩ (p_v.eU == 1)
def Ky (R_:RB4) (p_v:aj) : Mo (Bool) :=
 .iG 38004 (decide (((p_v.fText.size:Int) : Int) ≤ 4096)) (.cl (aiA p_v.fText) fun r0 _ =>
 .ret ⟨[.kill 0],[2],[],1⟩ (r0)) <|
 .ret ⟨[.kill 0],[2],[],1⟩ (false)
def vk (R_:RB4) (p_v:aj) : (Int) → Mo ((Int) ⊕ (Unit ⊕ Unit)) := fun (v0) =>
 .iB (decide ((v0:Int) < (p_v.aU.length:Int))) (.ask (fO p_v.aU v0) fun x0 h0 =>
 .say [.row (aj.lf1 x0)] (ok1 (bY aj.bD h0)) <|
 .cl (R_.ok1 x0) fun r0 _ =>
 .iB (!r0) (.rt [2] 1 (.inr (.inl ()))) <|
 .rt [117,118,119] 1 (.inl (IntKind.wrap .i64 (v0 + 1)))) <|
 .rt [] 1 (.inr (.inr (())))
def N9 (R_:RB4) (p_v:aj) (v0:Int) : Option (Unit ⊕ Unit) := bT (fun v_=>(vk R_ p_v v_).den) FU (v0)
def Kz (R_:RB4) (p_v:aj) : (Int) → St := fun (v0)=>⟨[(117,.lf (.rows 5 (p_v.aU.map aj.lf))),(118,.i_ (p_v.aU.length:Int)),(119,.i_ v0)],[.dead]⟩
def vw (r_:Unit ⊕ Unit) : Exit := match r_ with
 | .inl o_=>.ret
 | .inr (o_)=>.exit 1
def nZ  (r_:Unit ⊕ Unit) : St := match r_ with
 | .inl o_=>⟨[(2,.b_ false)],[.dead]⟩
 | .inr (o_)=>⟨[],[.dead]⟩
theorem KA {R_:RB4} {p_v:aj} {v0:Int} {r_:Unit ⊕ Unit} (h:N9 R_ p_v v0 = some r_) : eF Tryz.f205 0 [1,1,1,1,1,0,1,0,1,1,1,1,1,1,1,1,1,1,1,1,1,0,0,1,0] (vw r_) (nZ r_) (Kz R_ p_v (v0)) :=
 dK dA (body := (Code.sub (bodyC Tryz.f205) [1,1,1,1,1,0,1,0,1,1,1,1,1,1,1,1,1,1,1,1,1,0,0,1,0,0])) (by kernel_rfl) (vk R_ p_v) (Kz R_ p_v) vw nZ (fun r_=>by rcases r_ with _ | _ <;> rfl) (fun v_=>by kernel_rfl) h
def Yg (R_:RB4) (p_v:aj) : Mo (Bool) :=
 .sj Tryz.f205 0 [1,0] [0,1,2,3,4,5,6,7] 1 8 [1] 1 (fun r_=>⟨[(1,.ptr 0 0),(14,.b_ r_)],[.box 25 (.dat (aj.lf1 p_v))]⟩) ⟨[(1,.ptr 0 0)],[.box 25 (.dat (aj.lf1 p_v))]⟩ (QY R_ p_v).den (sW (by kernel_rfl)) fun r0 _ =>
 .sj Tryz.f205 0 [1,0] [8,9,10,11,12] 1 5 [1,14] 1 (fun r_=>⟨[(1,.ptr 0 0),(19,.b_ r_)],[.box 25 (.dat (aj.lf1 p_v))]⟩) ⟨[(1,.ptr 0 0),(14,.b_ r0)],[.box 25 (.dat (aj.lf1 p_v))]⟩ (QZ R_ p_v r0).den (sW (by kernel_rfl)) fun r1 _ =>
 .sj Tryz.f205 0 [1,0] [13] 1 1 [1,19] 1 (fun r_=>⟨[(1,.ptr 0 0),(3,.b_ r1)],[.box 25 (.dat (aj.lf1 p_v))]⟩) ⟨[(1,.ptr 0 0),(19,.b_ r1)],[.box 25 (.dat (aj.lf1 p_v))]⟩ (J7 R_ p_v r1).den (sW (by kernel_rfl)) fun r2 _ =>
 .sj Tryz.f205 0 [1,1,0] [0,1,2,3,4,5,6,7] 2 8 [1,3] 1 (fun r_=>⟨[(1,.ptr 0 0),(3,.b_ r1),(27,.b_ r_)],[.box 25 (.dat (aj.lf1 p_v))]⟩) ⟨[(1,.ptr 0 0),(3,.b_ r1)],[.box 25 (.dat (aj.lf1 p_v))]⟩ (J8 R_ p_v r1).den (sW (by kernel_rfl)) fun r3 _ =>
 .sj Tryz.f205 0 [1,1,0] [8,9,10,11,12] 2 5 [1,3,27] 1 (fun r_=>⟨[(1,.ptr 0 0),(3,.b_ r1),(32,.b_ r_)],[.box 25 (.dat (aj.lf1 p_v))]⟩) ⟨[(1,.ptr 0 0),(3,.b_ r1),(27,.b_ r3)],[.box 25 (.dat (aj.lf1 p_v))]⟩ (J9 R_ p_v r3 r1).den (sW (by kernel_rfl)) fun r4 _ =>
 .sj Tryz.f205 0 [1,1,0] [13] 2 1 [1,3,32] 1 (fun r_=>⟨[(1,.ptr 0 0),(3,.b_ r1),(4,.b_ r4)],[.box 25 (.dat (aj.lf1 p_v))]⟩) ⟨[(1,.ptr 0 0),(3,.b_ r1),(32,.b_ r4)],[.box 25 (.dat (aj.lf1 p_v))]⟩ (Ko R_ p_v r4 r1).den (sW (by kernel_rfl)) fun r5 _ =>
 .sj Tryz.f205 0 [1,1,1,0,0] [0,1,2,3,4,5,6] 3 7 [1,3,4] 1 (fun r_=>⟨[(1,.ptr 0 0),(4,.b_ r4),(39,.b_ r_)],[.box 25 (.dat (aj.lf1 p_v))]⟩) ⟨[(1,.ptr 0 0),(3,.b_ r1),(4,.b_ r4)],[.box 25 (.dat (aj.lf1 p_v))]⟩ (Kq R_ p_v r4 r1).den (sW (by kernel_rfl)) fun r6 _ =>
 .sj Tryz.f205 0 [1,1,1,0,0] [7,8,9,10,11,12,13,14,15] 3 9 [1,4,39] 1 (fun r_=>⟨[(1,.ptr 0 0),(48,.b_ r_)],[.box 25 (.dat (aj.lf1 p_v))]⟩) ⟨[(1,.ptr 0 0),(4,.b_ r4),(39,.b_ r6)],[.box 25 (.dat (aj.lf1 p_v))]⟩ (Kr R_ p_v r4 r6).den (sW (by kernel_rfl)) fun r7 _ =>
 .iB (r7) (.ret (bf 1) (false)) <|
 .sj Tryz.f205 0 [1,1,1,1,0,0] [0,1,2,3,4,5,6,7,8] 5 9 [1] 1 (fun r_=>⟨[(1,.ptr 0 0),(57,.b_ r_)],[.box 25 (.dat (aj.lf1 p_v))]⟩) ⟨[(1,.ptr 0 0)],[.box 25 (.dat (aj.lf1 p_v))]⟩ (Kt R_ p_v).den (sW (by kernel_rfl)) fun r8 _ =>
 .sj Tryz.f205 0 [1,1,1,1,0,0] [9,10,11,12,13,14,15,16,17,18,19] 5 11 [1,57] 1 (fun r_=>⟨[(1,.ptr 0 0),(68,.b_ r_)],[.box 25 (.dat (aj.lf1 p_v))]⟩) ⟨[(1,.ptr 0 0),(57,.b_ r8)],[.box 25 (.dat (aj.lf1 p_v))]⟩ (Ku R_ p_v r8).den (sW (by kernel_rfl)) fun r9 _ =>
 .iB (r9) (.ret (bf 1) (false)) <|
 .jp Tryz.f205 0 [1,1,1,1,1,0,1,0,0,1] 1 [1,70,71] 1 (.normal) (fun r_=>⟨[(1,.ptr 0 0),(70,.i_ p_v.aF),(71,.b_ r_)],[.box 25 (.dat (aj.lf1 p_v))]⟩) ⟨[(1,.ptr 0 0),(70,.i_ p_v.aF),(71,.lf (.bool (p_v.aF == 1)))],[.box 25 (.dat (aj.lf1 p_v))]⟩ (Kv R_ p_v).den (jW (by kernel_rfl)) fun r10 _ =>
 .iB (r10) (.ret (bf 1) (true)) <|
 .iB (p_v.aF == 9) (.jp Tryz.f205 0 [1,1,1,1,1,0,1,0,1,1,1,0,0] 35 [1] 1 (.normal) (fun r_=>⟨[(2,.b_ r_)],[.dead]⟩) ⟨[(1,.ptr 0 0)],[.box 25 (.dat (aj.lf1 p_v))]⟩ (Kw R_ p_v).den (jW (by kernel_rfl)) fun r11 _ =>
 .ret (bf 1) (r11)) <|
 .iB (p_v.aF == 10) (.ret (bf 1) (decide ((0:Int) ≤ p_v.eU))) <|
 .iB (p_v.aF == 4) (.jp Tryz.f205 0 [1,1,1,1,1,0,1,0,1,1,1,1,1,1,1,0,0] 43 [1] 1 (.normal) (fun r_=>⟨[(2,.b_ r_)],[.dead]⟩) ⟨[(1,.ptr 0 0)],[.box 25 (.dat (aj.lf1 p_v))]⟩ (Ky R_ p_v).den (jW (by kernel_rfl)) fun r12 _ =>
 .ret (bf 1) (r12)) <|
 .iB (p_v.aF == 7) (.ret (bf 1) (decide (((p_v.fText.size:Int) : Int) ≤ 4096))) <|
 .iB (p_v.aF == 8) (.ret (bf 1) ((p_v.fText.size:Int) == 12)) <|
 .ite (p_v.aF == 6) (fun c0 =>
 .say [.br true,.num p_v.aU.length] (okc c0 (ok1 (ln_ p_v.aU aj.lf))) <|
 .fG (N9 R_ p_v 0) (fun o0 h0 =>
 .say [.part [.kill 0] 0 [117,118,119] 1 (vw (.inl o0)) (nZ (.inl o0)).T (nZ (.inl o0)).H] (ok1 (KA h0)) <|
 .ret (bf 1) (false)) fun o1 h0 =>
 .say [.part [.kill 0] 0 [117,118,119] 1 (vw (.inr (o1))) (nZ (.inr (o1))).T (nZ (.inr (o1))).H] (ok1 (KA h0)) <|
 .ret (bf 1) (true)) fun c0 =>
 .say [.br false] (ok1 c0) <|
 .iB (p_v.aF == 5) (.cl (R_.ok2 p_v.aX) fun r13 _ =>
 .ret (bf 1) (r13)) <|
 .ret (bf 1) (false)
theorem aiM (R_:RB4) (p_v:aj) : FV (Mo.den (Yg R_ p_v)) 205 [.dat (aj.lf1 p_v)] (fun r=>.b_ r) := dU Tryz.func205 (by kernel_rfl) (fun _=>rfl) (by kernel_rfl)
def Rf (R_:RB4) (m1575:List (ByteArray × Bool)) (p_l:List aB) (v0:Int) (x0:aB) : Mo (Bool) :=
 .cl (amA x0.fName) fun r0 _ =>
 .ite (!r0) (fun c0 =>
 .say [.gd 12004 true] (ok1 c0) <|
 .rt [3,5,7,8,9,22] 2 (true)) fun c0 =>
 .say [.gd 12004 false,.row [.bool (sO m1575 x0.fName false)]] (okc c0 (okc (rfl:Tryz.prog = Tryz.prog) (ok1 (Fj _ _ _:lN (m1575.map mvB) x0.fName (.bool false) = (.bool (sO m1575 x0.fName false)))))) <|
 .rt [3,5,7,8,9,22] 2 (sO m1575 x0.fName false)
def Rh (R_:RB4) (m1575:List (ByteArray × Bool)) (p_l:List aB) (r0:Bool) (v0:Int) (x0:aB) : Mo (Bool) :=
 .iG 12010 (r0) (.rt [3,5,7,8,9,28] 2 (true)) <|
 .cl (R_.ok1 x0.fValue) fun r1 _ =>
 .rt [3,5,7,8,9,28] 2 (!r1)
def vC (R_:RB4) (p_l:List aB) : (Int × (List (ByteArray × Bool))) → Mo ((Int × (List (ByteArray × Bool))) ⊕ (Unit ⊕ Unit)) := fun (v0,m1575) =>
 .iB (decide ((v0:Int) < (p_l.length:Int))) (.ask (fO p_l v0) fun x0 h0 =>
 .say [.row (aB.lf1 x0)] (ok1 (bY aB.bD h0)) <|
 .sj Tryz.f277 0 [1,1,0,1,0,0,1,1,0,0,1,0,0] [0,1,2,3,4,5,6,7,8,9] 5 10 [3,5,7,8,9] 2 (fun r_=>⟨[(3,.mp 0),(5,.ptr 1 0),(7,.lf (.rows 6 (p_l.map aB.lf))),(8,.i_ (p_l.length:Int)),(9,.i_ v0),(22,.b_ r_)],[.map Tryz.prog 9 4 (m1575.map mvB),.box 115 (.agg ((aB.lf1 x0).map AV.lf))]⟩) ⟨[(3,.mp 0),(5,.ptr 1 0),(7,.lf (.rows 6 (p_l.map aB.lf))),(8,.i_ (p_l.length:Int)),(9,.i_ v0)],[.map Tryz.prog 9 4 (m1575.map mvB),.box 115 (.agg ((aB.lf1 x0).map AV.lf))]⟩ (Rf R_ m1575 p_l v0 x0).den (sW (by kernel_rfl)) fun r0 _ =>
 .sj Tryz.f277 0 [1,1,0,1,0,0,1,1,0,0,1,0,0] [10,11,12,13,14,15] 5 6 [3,5,7,8,9,22] 2 (fun r_=>⟨[(3,.mp 0),(5,.ptr 1 0),(7,.lf (.rows 6 (p_l.map aB.lf))),(8,.i_ (p_l.length:Int)),(9,.i_ v0),(28,.b_ r_)],[.map Tryz.prog 9 4 (m1575.map mvB),.box 115 (.agg ((aB.lf1 x0).map AV.lf))]⟩) ⟨[(3,.mp 0),(5,.ptr 1 0),(7,.lf (.rows 6 (p_l.map aB.lf))),(8,.i_ (p_l.length:Int)),(9,.i_ v0),(22,.b_ r0)],[.map Tryz.prog 9 4 (m1575.map mvB),.box 115 (.agg ((aB.lf1 x0).map AV.lf))]⟩ (Rh R_ m1575 p_l r0 v0 x0).den (sW (by kernel_rfl)) fun r1 _ =>
 .ite (r1) (fun c0 =>
 .say [.br true] (ok1 c0) <|
 .ret ⟨[.kill 0],[2],[],1⟩ (.inr (.inl ()))) fun c0 =>
 .say [.br false] (okc c0 (ok1 (rfl:Tryz.prog = Tryz.prog))) <|
 .grd (m1575.length < maxLen) fun h1 =>
 .say [] (ok1 (by simpa using h1:(m1575.map mvB).length < maxLen)) <|
 .rt [3,7,8,9] 1 (.inl (IntKind.wrap .i64 (v0 + 1),(x0.fName,true) :: m1575))) <|
 .ret ⟨[.kill 0],[],[],1⟩ (.inr (.inr (())))
def Oa (R_:RB4) (p_l:List aB) (v0:Int) (m1575:List (ByteArray × Bool)) : Option (Unit ⊕ Unit) := bT (fun v_=>(vC R_ p_l v_).den) FU (v0,m1575)
def KC (R_:RB4) (p_l:List aB) : (Int × (List (ByteArray × Bool))) → St := fun (v0,m1575)=>⟨[(3,.mp 0),(7,.lf (.rows 6 (p_l.map aB.lf))),(8,.i_ (p_l.length:Int)),(9,.i_ v0)],[.map Tryz.prog 9 4 (m1575.map mvB)]⟩
def vF (r_:Unit ⊕ Unit) : Exit := match r_ with
 | .inl o_=>.ret
 | .inr (o_)=>.exit 0
def vG  (r_:Unit ⊕ Unit) : St := match r_ with
 | .inl o_=>⟨[(2,.b_ false)],[.dead]⟩
 | .inr (o_)=>⟨[],[.dead]⟩
theorem KD {R_:RB4} {p_l:List aB} {v0:Int} {m1575:List (ByteArray × Bool)} {r_:Unit ⊕ Unit} (h:Oa R_ p_l v0 m1575 = some r_) : eF Tryz.f277 0 [1,1,0,1,0] (vF r_) (vG r_) (KC R_ p_l (v0,m1575)) :=
 dK dA (body := (Code.sub (bodyC Tryz.f277) [1,1,0,1,0,0])) (by kernel_rfl) (vC R_ p_l) (KC R_ p_l) vF vG (fun r_=>by rcases r_ with _ | _ <;> rfl) (fun v_=>by kernel_rfl) h
def Yh (R_:RB4) (p_l:List aB) : Mo (Bool) :=
 .say [.num p_l.length] (ok1 (ln_ p_l aB.lf)) <|
 .fG (Oa R_ p_l 0 ([] : List (ByteArray × Bool))) (fun o0 h0 =>
 .say [.pt_ 0 [3,7,8,9] 1 (vF (.inl o0)) (vG (.inl o0))] (ok1 (KD h0)) <|
 .ret (bf 1) (false)) fun o1 h0 =>
 .say [.pt_ 0 [3,7,8,9] 1 (vF (.inr (o1))) (vG (.inr (o1)))] (ok1 (KD h0)) <|
 .ret (bf 1) (true)
theorem aiN (R_:RB4) (p_l:List aB) : FV (Mo.den (Yh R_ p_l)) 277 [.lf (.rows 6 (p_l.map aB.lf))] (fun r=>.b_ r) := dU Tryz.func277 (by kernel_rfl) (fun _=>rfl) (by kernel_rfl)
def tu:Nat → RB4
 | 0=>{ m1 := fun p_v=>none,ok1 := fun _ _ h=>(by cases h),m2 := fun p_l=>none,ok2 := fun _ _ h=>(by cases h) }
 | n_ + 1=>{ m1 := fun p_v=>Mo.den (Yg (tu n_) p_v),ok1 := fun p_v r h=>aiM (tu n_) p_v r h,m2 := fun p_l=>Mo.den (Yh (tu n_) p_l),ok2 := aiN (tu n_) }
def Q11 (p_v:aj) : Option (Bool) := (tu FU).m1 p_v
theorem amB (p_v:aj) : FV (Q11 p_v) 205 [.dat (aj.lf1 p_v)] (fun r=>.b_ r) := (tu FU).ok1 p_v
def adV (p_v:aj) : Mo (Bool) :=
 .cl (aiI p_v) fun r0 _ =>
 .iG 4003 (decide ((r0:Int) ≤ 1024)) (.cl (aiL p_v) fun r1 _ =>
 .iG 4008 (decide ((r1:Int) ≤ 16)) (.cl (amB p_v) fun r2 _ =>
 .ret (bf 1) (r2)) <|
 .ret (bf 1) (false)) <|
 .ret (bf 1) (false)
def aiO (p_v:aj) : Option (Bool) := Mo.den (adV p_v)
theorem lT (p_v:aj) : FV (aiO p_v) 132 [.dat (aj.lf1 p_v)] (fun r=>.b_ r) := dU Tryz.func132 (by kernel_rfl) (fun _=>rfl) (by kernel_rfl)
def adW (p_v:aj) : Mo (Bool) :=
 .iG 4003 (p_v.aF != 6) (.rt [1,2,10] 1 (p_v.aF != 1)) <|
 .rt [1,2,10] 1 (false)
def adX (p_v:aj) (r0:Bool) : Mo (Bool) :=
 .iG 4008 (r0) (.rt [1,2,15] 1 (p_v.aF != 11)) <|
 .rt [1,2,15] 1 (false)
def aaC (p_v:aj) (r0:Bool) : Mo (Bool) :=
 .iG 4013 (r0) (.cl (lT p_v) fun r1 _ =>
 .ret ⟨[.kill 0],[2,19],[],1⟩ (r1)) <|
 .ret ⟨[.kill 0],[2,19],[],1⟩ (false)
def aaD (r0:Bool) : Mo (Unit) :=
 .rt [2] 1 ()
def akE (p_v:aj) : Mo (Bool) :=
 .sj Tryz.f110 0 [1,0] [0,1,2,3,4,5,6,7] 1 8 [1,2] 1 (fun r_=>⟨[(1,.ptr 0 0),(2,.b_ false),(10,.b_ r_)],[.box 25 (.dat (aj.lf1 p_v))]⟩) ⟨[(1,.ptr 0 0),(2,.b_ false)],[.box 25 (.dat (aj.lf1 p_v))]⟩ (adW p_v).den (sW (by kernel_rfl)) fun r0 _ =>
 .sj Tryz.f110 0 [1,0] [8,9,10,11,12] 1 5 [1,2,10] 1 (fun r_=>⟨[(1,.ptr 0 0),(2,.b_ false),(15,.b_ r_)],[.box 25 (.dat (aj.lf1 p_v))]⟩) ⟨[(1,.ptr 0 0),(2,.b_ false),(10,.b_ r0)],[.box 25 (.dat (aj.lf1 p_v))]⟩ (adX p_v r0).den (sW (by kernel_rfl)) fun r1 _ =>
 .sj Tryz.f110 0 [1,0] [13,14,15,16] 1 4 [1,2,15] 1 (fun r_=>⟨[(2,.b_ false),(19,.b_ r_)],[.dead]⟩) ⟨[(1,.ptr 0 0),(2,.b_ false),(15,.b_ r1)],[.box 25 (.dat (aj.lf1 p_v))]⟩ (aaC p_v r1).den (sW (by kernel_rfl)) fun r2 _ =>
 .sj Tryz.f110 0 [1,0] [17] 1 1 [2,19] 1 (fun r_=>⟨[(2,.b_ r2)],[.dead]⟩) ⟨[(2,.b_ false),(19,.b_ r2)],[.dead]⟩ (aaD r2).den (sW (by kernel_rfl)) fun r3 _ =>
 .ret (bf 1) (r2)
def Q86 (p_v:aj) : Option (Bool) := Mo.den (akE p_v)
theorem amC (p_v:aj) : FV (Q86 p_v) 110 [.dat (aj.lf1 p_v)] (fun r=>.b_ r) := dU Tryz.func110 (by kernel_rfl) (fun _=>rfl) (by kernel_rfl)
def adY (p_x:Int) : Mo (Bool) :=
 .ret (bf 1) (p_x != p_x)
def aov (p_x:Int) : Option (Bool) := Mo.den (adY p_x)
theorem Yi (p_x:Int) : FV (aov p_x) 329 [.i_ p_x] (fun r=>.b_ r) := dU Tryz.func329 (by kernel_rfl) (fun _=>rfl) (by kernel_rfl)
def adZ (p_x:Int) (p_y:Int) : Mo (Int) :=
 .cl (Yi p_x) fun r0 _ =>
 .cl (Yi p_y) fun r1 _ =>
 .iB (r0) (.iB (r1) (.ret (bf 1) (0)) <|
 .ret (bf 1) ((-1))) <|
 .iB (r1) (.ret (bf 1) (1)) <|
 .iB (decide ((p_x:Int) < p_y)) (.ret (bf 1) ((-1))) <|
 .iB (decide ((p_y:Int) < p_x)) (.ret (bf 1) (1)) <|
 .ret (bf 1) (0)
def aow (p_x:Int) (p_y:Int) : Option (Int) := Mo.den (adZ p_x p_y)
theorem EF (p_x:Int) (p_y:Int) : FV (aow p_x p_y) 298 [.i_ p_x,.i_ p_y] (fun r=>.i_ r) := dU Tryz.func298 (by kernel_rfl) (fun _=>rfl) (by kernel_rfl)
structure RB5 where
 m1:(p_a:aj) → (p_b:aj) → Option (Int)
 ok1:∀ p_a p_b,FV (m1 p_a p_b) 254 [.dat (aj.lf1 p_a),.dat (aj.lf1 p_b)] (fun r=>.i_ r)
def Ri (R_:RB5) (p_a:aj) (p_b:aj) : Mo (Bool) :=
 .iB (p_a.aF == 3) (.rt [2,3,21,22] 2 (p_a.aF == 3)) <|
 .iB (p_a.aF == 9) (.rt [2,3,21,22] 2 (p_a.aF == 9)) <|
 .rt [2,3,21,22] 2 (p_a.aF == 10)
def Rj (R_:RB5) (p_a:aj) (p_b:aj) : Mo (Bool) :=
 .iB (p_a.aF == 4) (.rt [2,3,21,31] 2 (p_a.aF == 4)) <|
 .iB (p_a.aF == 7) (.rt [2,3,21,31] 2 (p_a.aF == 7)) <|
 .rt [2,3,21,31] 2 (p_a.aF == 8)
def BZ (R_:RB5) (p_a:aj) (p_b:aj) : (Int) → Mo ((Int) ⊕ (Int) ⊕ Unit) := fun (v0) =>
 .iB (decide ((v0:Int) < (if (p_b.aU.length:Int) < (p_a.aU.length:Int) then (p_b.aU.length:Int) else (p_a.aU.length:Int)))) (.ask (fO p_a.aU v0) fun x0 h0 =>
 .say [] (ok1 (bY aj.bD h0)) <|
 .ask (fO p_b.aU v0) fun x1 h1 =>
 .say [] (ok1 (bY aj.bD h1)) <|
 .ask (R_.m1 x0 x1) fun r0 h2 =>
 .say [.jX (.q 0 (.q 1 (.q 2 (.q 3 (.q 4 (.q 5 (.q 6 (.q 7 (.q 8 (.q 9 (.l 10 (.q 11 .fin)))))))))))) (some 10) [] [.row (aj.lf1 x0),.row (aj.lf1 x1),.res (.i_ r0)] [2,3,6,48,49] 2 [(2,.ptr 0 0),(3,.ptr 1 0),(6,.i_ r0),(48,.i_ (if (p_b.aU.length:Int) < (p_a.aU.length:Int) then (p_b.aU.length:Int) else (p_a.aU.length:Int))),(49,.i_ v0)] [.box 25 (.dat (aj.lf1 p_a)),.box 25 (.dat (aj.lf1 p_b))]] (okc (R_.ok1 _ _ _ h2) (ok1 (rf_ ⟨[(2,.ptr 0 0),(3,.ptr 1 0),(6,.i_ r0),(48,.i_ (if (p_b.aU.length:Int) < (p_a.aU.length:Int) then (p_b.aU.length:Int) else (p_a.aU.length:Int))),(49,.i_ v0)],[.box 25 (.dat (aj.lf1 p_a)),.box 25 (.dat (aj.lf1 p_b))]⟩))) <|
 .iB (r0 != 0) (.ret ⟨[.kill 0,.kill 1],[4],[],2⟩ (.inr (.inl (r0)))) <|
 .rt [2,3,48,49] 2 (.inl (IntKind.wrap .i64 (v0 + 1)))) <|
 .rt [2,3] 2 (.inr (.inr (())))
def Yj (R_:RB5) (p_a:aj) (p_b:aj) (v0:Int) : Option ((Int) ⊕ Unit) := bT (fun v_=>(BZ R_ p_a p_b v_).den) FU (v0)
def KE (R_:RB5) (p_a:aj) (p_b:aj) : (Int) → St := fun (v0)=>⟨[(2,.ptr 0 0),(3,.ptr 1 0),(48,.i_ (if (p_b.aU.length:Int) < (p_a.aU.length:Int) then (p_b.aU.length:Int) else (p_a.aU.length:Int))),(49,.i_ v0)],[.box 25 (.dat (aj.lf1 p_a)),.box 25 (.dat (aj.lf1 p_b))]⟩
def vH (r_:(Int) ⊕ Unit) : Exit := match r_ with
 | .inl o_=>.ret
 | .inr (o_)=>.exit 1
def vI (p_a:aj) (p_b:aj) (r_:(Int) ⊕ Unit) : St := match r_ with
 | .inl o_=>⟨[(4,.i_ o_)],[.dead,.dead]⟩
 | .inr (o_)=>⟨[(2,.ptr 0 0),(3,.ptr 1 0)],[.box 25 (.dat (aj.lf1 p_a)),.box 25 (.dat (aj.lf1 p_b))]⟩
theorem KF {R_:RB5} {p_a:aj} {p_b:aj} {v0:Int} {r_:(Int) ⊕ Unit} (h:Yj R_ p_a p_b v0 = some r_) : eF Tryz.f254 0 [1,1,0,1,0,1,1,1,1,1,0,0,1,0] (vH r_) (vI p_a p_b r_) (KE R_ p_a p_b (v0)) :=
 dK dA (body := (Code.sub (bodyC Tryz.f254) [1,1,0,1,0,1,1,1,1,1,0,0,1,0,0])) (by kernel_rfl) (BZ R_ p_a p_b) (KE R_ p_a p_b) vH (vI p_a p_b) (fun r_=>by rcases r_ with _ | _ <;> rfl) (fun v_=>by kernel_rfl) h
def Cb (R_:RB5) (p_a:aj) (p_b:aj) : (Int) → Mo ((Int) ⊕ (Int) ⊕ Unit) := fun (v0) =>
 .iB (decide ((v0:Int) < (if (p_b.aX.length:Int) < (p_a.aX.length:Int) then (p_b.aX.length:Int) else (p_a.aX.length:Int)))) (.ask (fO p_a.aX v0) fun x0 h0 =>
 .say [] (ok1 (bY aB.bD h0)) <|
 .ask (fO p_b.aX v0) fun x1 h1 =>
 .say [] (ok1 (bY aB.bD h1)) <|
 .ask (amk x0.fName x1.fName) fun r0 h2 =>
 .say [.jX (.q 0 (.q 1 (.q 2 (.q 3 (.q 4 (.q 5 (.q 6 (.q 7 (.q 8 (.q 9 (.q 10 (.q 11 (.l 12 (.q 13 .fin)))))))))))))) (some 12) [] [.row (aB.lf1 x0),.row (aB.lf1 x1),.res (.i_ r0)] [2,3,7,8,82,83] 2 [(2,.ptr 0 0),(3,.ptr 1 0),(7,.i_ v0),(8,.i_ r0),(82,.i_ (if (p_b.aX.length:Int) < (p_a.aX.length:Int) then (p_b.aX.length:Int) else (p_a.aX.length:Int))),(83,.i_ v0)] [.box 25 (.dat (aj.lf1 p_a)),.box 25 (.dat (aj.lf1 p_b))]] (okc (X9 _ _ _ h2) (ok1 (rf_ ⟨[(2,.ptr 0 0),(3,.ptr 1 0),(7,.i_ v0),(8,.i_ r0),(82,.i_ (if (p_b.aX.length:Int) < (p_a.aX.length:Int) then (p_b.aX.length:Int) else (p_a.aX.length:Int))),(83,.i_ v0)],[.box 25 (.dat (aj.lf1 p_a)),.box 25 (.dat (aj.lf1 p_b))]⟩))) <|
 .iB (r0 != 0) (.ret ⟨[.kill 0,.kill 1],[4],[],2⟩ (.inr (.inl (r0)))) <|
 .ask (fO p_a.aX v0) fun x2 h3 =>
 .say [] (ok1 (bY aB.bD h3)) <|
 .ask (fO p_b.aX v0) fun x3 h4 =>
 .say [] (ok1 (bY aB.bD h4)) <|
 .ask (R_.m1 x2.fValue x3.fValue) fun r1 h5 =>
 .say [.jX (.q 0 (.q 1 (.q 2 (.q 3 (.q 4 (.q 5 (.q 6 (.q 7 (.q 8 (.q 9 (.q 10 (.q 11 (.l 12 (.q 13 .fin)))))))))))))) (some 12) [] [.row (aB.lf1 x2),.row (aB.lf1 x3),.res (.i_ r1)] [2,3,9,82,83] 2 [(2,.ptr 0 0),(3,.ptr 1 0),(9,.i_ r1),(82,.i_ (if (p_b.aX.length:Int) < (p_a.aX.length:Int) then (p_b.aX.length:Int) else (p_a.aX.length:Int))),(83,.i_ v0)] [.box 25 (.dat (aj.lf1 p_a)),.box 25 (.dat (aj.lf1 p_b))]] (okc (R_.ok1 _ _ _ h5) (ok1 (rf_ ⟨[(2,.ptr 0 0),(3,.ptr 1 0),(9,.i_ r1),(82,.i_ (if (p_b.aX.length:Int) < (p_a.aX.length:Int) then (p_b.aX.length:Int) else (p_a.aX.length:Int))),(83,.i_ v0)],[.box 25 (.dat (aj.lf1 p_a)),.box 25 (.dat (aj.lf1 p_b))]⟩))) <|
 .iB (r1 != 0) (.ret ⟨[.kill 0,.kill 1],[4],[],2⟩ (.inr (.inl (r1)))) <|
 .rt [2,3,82,83] 2 (.inl (IntKind.wrap .i64 (v0 + 1)))) <|
 .rt [2,3] 2 (.inr (.inr (())))
def Yk (R_:RB5) (p_a:aj) (p_b:aj) (v0:Int) : Option ((Int) ⊕ Unit) := bT (fun v_=>(Cb R_ p_a p_b v_).den) FU (v0)
def KG (R_:RB5) (p_a:aj) (p_b:aj) : (Int) → St := fun (v0)=>⟨[(2,.ptr 0 0),(3,.ptr 1 0),(82,.i_ (if (p_b.aX.length:Int) < (p_a.aX.length:Int) then (p_b.aX.length:Int) else (p_a.aX.length:Int))),(83,.i_ v0)],[.box 25 (.dat (aj.lf1 p_a)),.box 25 (.dat (aj.lf1 p_b))]⟩
def vJ (r_:(Int) ⊕ Unit) : Exit := match r_ with
 | .inl o_=>.ret
 | .inr (o_)=>.exit 3
def vK (p_a:aj) (p_b:aj) (r_:(Int) ⊕ Unit) : St := match r_ with
 | .inl o_=>⟨[(4,.i_ o_)],[.dead,.dead]⟩
 | .inr (o_)=>⟨[(2,.ptr 0 0),(3,.ptr 1 0)],[.box 25 (.dat (aj.lf1 p_a)),.box 25 (.dat (aj.lf1 p_b))]⟩
theorem KH {R_:RB5} {p_a:aj} {p_b:aj} {v0:Int} {r_:(Int) ⊕ Unit} (h:Yk R_ p_a p_b v0 = some r_) : eF Tryz.f254 0 [1,1,0,1,0,1,1,1,1,1,1,1,0,0,1,0] (vJ r_) (vK p_a p_b r_) (KG R_ p_a p_b (v0)) :=
 dK dA (body := (Code.sub (bodyC Tryz.f254) [1,1,0,1,0,1,1,1,1,1,1,1,0,0,1,0,0])) (by kernel_rfl) (Cb R_ p_a p_b) (KG R_ p_a p_b) vJ (vK p_a p_b) (fun r_=>by rcases r_ with _ | _ <;> rfl) (fun v_=>by kernel_rfl) h
def ad1 (R_:RB5) (p_a:aj) (p_b:aj) : Mo (Int) :=
 .iB (p_a.aF != p_b.aF) (.cl (EF p_a.aF p_b.aF) fun r0 _ =>
 .ret (bf 1) (r0)) <|
 .jp Tryz.f254 0 [1,1,0,1,0,0,1] 1 [2,3,21,22] 2 (.normal) (fun r_=>⟨[(2,.ptr 0 0),(3,.ptr 1 0),(21,.i_ p_a.aF),(22,.b_ r_)],[.box 25 (.dat (aj.lf1 p_a)),.box 25 (.dat (aj.lf1 p_b))]⟩) ⟨[(2,.ptr 0 0),(3,.ptr 1 0),(21,.i_ p_a.aF),(22,.lf (.bool (p_a.aF == 3)))],[.box 25 (.dat (aj.lf1 p_a)),.box 25 (.dat (aj.lf1 p_b))]⟩ (Ri R_ p_a p_b).den (jW (by kernel_rfl)) fun r1 _ =>
 .iB (r1) (.cl (EF p_a.eU p_b.eU) fun r2 _ =>
 .ret (bf 1) (r2)) <|
 .jp Tryz.f254 0 [1,1,0,1,0,1,1,0,1] 1 [2,3,21,31] 2 (.normal) (fun r_=>⟨[(2,.ptr 0 0),(3,.ptr 1 0),(21,.i_ p_a.aF),(31,.b_ r_)],[.box 25 (.dat (aj.lf1 p_a)),.box 25 (.dat (aj.lf1 p_b))]⟩) ⟨[(2,.ptr 0 0),(3,.ptr 1 0),(21,.i_ p_a.aF),(31,.lf (.bool (p_a.aF == 4)))],[.box 25 (.dat (aj.lf1 p_a)),.box 25 (.dat (aj.lf1 p_b))]⟩ (Rj R_ p_a p_b).den (jW (by kernel_rfl)) fun r3 _ =>
 .iB (r3) (.cl (X9 p_a.fText p_b.fText) fun r4 _ =>
 .ret (bf 1) (r4)) <|
 .ite (p_a.aF == 6) (fun c0 =>
 .say [.br true,.num p_a.aU.length,.num p_b.aU.length] (okc c0 (okc (ln_ p_a.aU aj.lf) (ok1 (ln_ p_b.aU aj.lf)))) <|
 .fG (Yj R_ p_a p_b 0) (fun o0 h0 =>
 .say [.pt_ 0 [2,3,48,49] 2 (vH (.inl o0)) (vI p_a p_b (.inl o0))] (ok1 (KF h0)) <|
 .ret (bf 1) (o0)) fun o1 h0 =>
 .say [.pt_ 0 [2,3,48,49] 2 (vH (.inr (o1))) (vI p_a p_b (.inr (o1))),.num p_a.aU.length,.num p_b.aU.length] (okc (KF h0) (okc (ln_ p_a.aU aj.lf) (ok1 (ln_ p_b.aU aj.lf)))) <|
 .cl (EF (p_a.aU.length:Int) (p_b.aU.length:Int)) fun r5 _ =>
 .ret (bf 1) (r5)) fun c0 =>
 .say [.br false] (ok1 c0) <|
 .ite (p_a.aF == 5) (fun c1 =>
 .say [.br true,.num p_a.aX.length,.num p_b.aX.length] (okc c1 (okc (ln_ p_a.aX aB.lf) (ok1 (ln_ p_b.aX aB.lf)))) <|
 .fG (Yk R_ p_a p_b 0) (fun o2 h1 =>
 .say [.pt_ 0 [2,3,82,83] 2 (vJ (.inl o2)) (vK p_a p_b (.inl o2))] (ok1 (KH h1)) <|
 .ret (bf 1) (o2)) fun o3 h1 =>
 .say [.pt_ 0 [2,3,82,83] 2 (vJ (.inr (o3))) (vK p_a p_b (.inr (o3))),.num p_a.aX.length,.num p_b.aX.length] (okc (KH h1) (okc (ln_ p_a.aX aB.lf) (ok1 (ln_ p_b.aX aB.lf)))) <|
 .cl (EF (p_a.aX.length:Int) (p_b.aX.length:Int)) fun r6 _ =>
 .ret (bf 1) (r6)) fun c1 =>
 .say [.br false] (ok1 c1) <|
 .ret (bf 1) (0)
theorem aiP (R_:RB5) (p_a:aj) (p_b:aj) : FV (Mo.den (ad1 R_ p_a p_b)) 254 [.dat (aj.lf1 p_a),.dat (aj.lf1 p_b)] (fun r=>.i_ r) := dU Tryz.func254 (by kernel_rfl) (fun _=>rfl) (by kernel_rfl)
def xE:Nat → RB5
 | 0=>{ m1 := fun p_a p_b=>none,ok1 := fun _ _ _ h=>(by cases h) }
 | n_ + 1=>{ m1 := fun p_a p_b=>Mo.den (ad1 (xE n_) p_a p_b),ok1 := aiP (xE n_) }
def Q17 (p_a:aj) (p_b:aj) : Option (Int) := (xE FU).m1 p_a p_b
theorem amD (p_a:aj) (p_b:aj) : FV (Q17 p_a p_b) 254 [.dat (aj.lf1 p_a),.dat (aj.lf1 p_b)] (fun r=>.i_ r) := (xE FU).ok1 p_a p_b
def ad2 (p_a:aj) (p_b:aj) : Mo (Bool) :=
 .cl (amD p_a p_b) fun r0 _ =>
 .ret (bf 1) (r0 == 0)
def amE (p_a:aj) (p_b:aj) : Option (Bool) := Mo.den (ad2 p_a p_b)
theorem aiQ (p_a:aj) (p_b:aj) : FV (amE p_a p_b) 178 [.dat (aj.lf1 p_a),.dat (aj.lf1 p_b)] (fun r=>.b_ r) := dU Tryz.func178 (by kernel_rfl) (fun _=>rfl) (by kernel_rfl)
def ad3 (p_n:Int) : Mo (Int) :=
 .say [] (okc (by decide:(0:Int) ≤ 1) (ok1 (by decide:(0:Int) ≤ 63))) <|
 .ret (bf 1) (eH .xor .u64 (IX .u64 (IntKind.wrap .u64 p_n) 1) (IntKind.wrap .u64 (wM .i64 p_n 63)))
def aiR (p_n:Int) : Option (Int) := Mo.den (ad3 p_n)
theorem Oc (p_n:Int) : FV (aiR p_n) 202 [.i_ p_n] (fun r=>.lf (.int .u64 r)) := dU Tryz.func202 (by kernel_rfl) (fun _=>rfl) (by kernel_rfl)
def F5  : (Int × Int) → Mo ((Int × Int) ⊕ (Int)) := fun (v0,v1) =>
 .ite (decide ((128:Int) ≤ v1)) (fun c0 =>
 .say [.br true] (okc c0 (ok1 (by decide:(0:Int) ≤ 7))) <|
 .rt [3,4] 0 (.inl (IntKind.wrap .i64 (v0 + 1),wM .u64 v1 7))) fun c0 =>
 .say [.br false] (ok1 c0) <|
 .rt [3] 0 (.inr (v0))
def amF (v0:Int) (v1:Int) : Option (Int) := bT (fun v_=>(F5  v_).den) FU (v0,v1)
def akF (p_n:Int) : Mo (Int) :=
 .cl (Oc p_n) fun r0 _ =>
 .lp Tryz.f300 0 [1,1,0,1,0] 0 [3,4] 0 (.exit 0) (fun r_=>⟨[(3,.i_ r_)],[]⟩) (amF 1 r0) (lW (fun (v0,v1)=>⟨[(3,.i_ v0),(4,.lf (.int .u64 v1))],[]⟩) (by kernel_rfl) rfl fun v_=>by kernel_rfl) fun r1 _ =>
 .ret (bf 1) (r1)
def Q83 (p_n:Int) : Option (Int) := Mo.den (akF p_n)
theorem F6 (p_n:Int) : FV (Q83 p_n) 300 [.i_ p_n] (fun r=>.i_ r) := dU Tryz.func300 (by kernel_rfl) (fun _=>rfl) (by kernel_rfl)
end
end Go.Proofs.YtflpefkohpjjpaaGreatDoor
set_option linter.unusedSimpArgs false
set_option linter.unusedVariables false
namespace Go.Proofs.YtflpefkohpjjpaaGreatDoor
open Go.RowKit
set_option maxRecDepth 20000
set_option maxHeartbeats 4000000
noncomputable section
structure RB6 where
 m1:(p_v:aj) → Option (Int)
 ok1:∀ p_v,FV (m1 p_v) 255 [.dat (aj.lf1 p_v)] (fun r=>.i_ r)
def Rk (R_:RB6) (p_v:aj) : Mo (Bool) :=
 .iB (p_v.aF == 3) (.rt [1,3,9,10] 1 (p_v.aF == 3)) <|
 .rt [1,3,9,10] 1 (p_v.aF == 10)
def Rl (R_:RB6) (p_v:aj) : Mo (Bool) :=
 .iB (p_v.aF == 4) (.rt [1,3,9,22] 1 (p_v.aF == 4)) <|
 .rt [1,3,9,22] 1 (p_v.aF == 7)
def Cc (R_:RB6) (p_v:aj) : (Int × Int) → Mo ((Int × Int) ⊕ (Int)) := fun (v0,v1) =>
 .iB (decide ((v1:Int) < (p_v.aU.length:Int))) (.ask (fO p_v.aU v1) fun x0 h0 =>
 .say [.row (aj.lf1 x0)] (ok1 (bY aj.bD h0)) <|
 .cl (R_.ok1 x0) fun r0 _ =>
 .rt [3,51,52,53] 1 (.inl (IntKind.wrap .i64 (v0 + r0),IntKind.wrap .i64 (v1 + 1)))) <|
 .rt [3] 1 (.inr (v0))
def Yl (R_:RB6) (p_v:aj) (v0:Int) (v1:Int) : Option (Int) := bT (fun v_=>(Cc R_ p_v v_).den) FU (v0,v1)
def KI (R_:RB6) (p_v:aj) : (Int × Int) → St := fun (v0,v1)=>⟨[(3,.i_ v0),(51,.lf (.rows 5 (p_v.aU.map aj.lf))),(52,.i_ (p_v.aU.length:Int)),(53,.i_ v1)],[.dead]⟩
def vM  (r_:Int) : St := ⟨[(3,.i_ r_)],[.dead]⟩
theorem aaE {R_:RB6} {p_v:aj} {v0:Int} {v1:Int} {r_:Int} (h:Yl R_ p_v v0 v1 = some r_) : eF Tryz.f255 0 [1,1,0,1,0,1,1,1,1,1,1,1,1,1,0,1,1,0] (.exit 1) (vM r_) (KI R_ p_v (v0,v1)) :=
 dK dA (body := (Code.sub (bodyC Tryz.f255) [1,1,0,1,0,1,1,1,1,1,1,1,1,1,0,1,1,0,0])) (by kernel_rfl) (Cc R_ p_v) (KI R_ p_v) (fun _=>.exit 1) vM (fun r_=>rfl) (fun v_=>by kernel_rfl) h
def Ce (R_:RB6) (p_v:aj) : (Int × Int) → Mo ((Int × Int) ⊕ (Int)) := fun (v0,v1) =>
 .iB (decide ((v1:Int) < (p_v.aX.length:Int))) (.ask (fO p_v.aX v1) fun x0 h0 =>
 .say [.row (aB.lf1 x0),.order [(true,0),(true,1),(true,2),(true,3),(true,5),(true,6),(true,7),(true,9),(true,10),(false,4),(true,8),(false,11),(true,12),(true,13),(true,14)] none []] (ok1 (bY aB.bD h0)) <|
 .cl (F6 (x0.fName.size:Int)) fun r0 _ =>
 .cl (R_.ok1 x0.fValue) fun r1 _ =>
 .rt [3,71,72,73] 1 (.inl (IntKind.wrap .i64 (v0 + (IntKind.wrap .i64 ((IntKind.wrap .i64 (r0 + (x0.fName.size:Int))) + r1))),IntKind.wrap .i64 (v1 + 1)))) <|
 .rt [3] 1 (.inr (v0))
def Ym (R_:RB6) (p_v:aj) (v0:Int) (v1:Int) : Option (Int) := bT (fun v_=>(Ce R_ p_v v_).den) FU (v0,v1)
def KJ (R_:RB6) (p_v:aj) : (Int × Int) → St := fun (v0,v1)=>⟨[(3,.i_ v0),(71,.lf (.rows 6 (p_v.aX.map aB.lf))),(72,.i_ (p_v.aX.length:Int)),(73,.i_ v1)],[.dead]⟩
def vN  (r_:Int) : St := ⟨[(3,.i_ r_)],[.dead]⟩
theorem aaF {R_:RB6} {p_v:aj} {v0:Int} {v1:Int} {r_:Int} (h:Ym R_ p_v v0 v1 = some r_) : eF Tryz.f255 0 [1,1,0,1,0,1,1,1,1,1,1,1,1,1,1,1,0,1,1,0] (.exit 3) (vN r_) (KJ R_ p_v (v0,v1)) :=
 dK dA (body := (Code.sub (bodyC Tryz.f255) [1,1,0,1,0,1,1,1,1,1,1,1,1,1,1,1,0,1,1,0,0])) (by kernel_rfl) (Ce R_ p_v) (KJ R_ p_v) (fun _=>.exit 3) vN (fun r_=>rfl) (fun v_=>by kernel_rfl) h
def KL (R_:RB6) (p_v:aj) : Mo (Int) :=
 .jp Tryz.f255 0 [1,1,0,1,0,0,1] 1 [1,3,9,10] 1 (.normal) (fun r_=>⟨[(1,.ptr 0 0),(3,.i_ 1),(9,.i_ p_v.aF),(10,.b_ r_)],[.box 25 (.dat (aj.lf1 p_v))]⟩) ⟨[(1,.ptr 0 0),(3,.i_ 1),(9,.i_ p_v.aF),(10,.lf (.bool (p_v.aF == 3)))],[.box 25 (.dat (aj.lf1 p_v))]⟩ (Rk R_ p_v).den (jW (by kernel_rfl)) fun r0 _ =>
 .iB (r0) (.cl (F6 p_v.eU) fun r1 _ =>
 .ret ⟨[.kill 0],[3],[],1⟩ (IntKind.wrap .i64 (1 + r1))) <|
 .iB (p_v.aF == 9) (.ret ⟨[.kill 0],[3],[],1⟩ (IntKind.wrap .i64 (1 + 1))) <|
 .jp Tryz.f255 0 [1,1,0,1,0,1,1,1,1,0,1] 1 [1,3,9,22] 1 (.normal) (fun r_=>⟨[(1,.ptr 0 0),(3,.i_ 1),(9,.i_ p_v.aF),(22,.b_ r_)],[.box 25 (.dat (aj.lf1 p_v))]⟩) ⟨[(1,.ptr 0 0),(3,.i_ 1),(9,.i_ p_v.aF),(22,.lf (.bool (p_v.aF == 4)))],[.box 25 (.dat (aj.lf1 p_v))]⟩ (Rl R_ p_v).den (jW (by kernel_rfl)) fun r2 _ =>
 .ite (r2) (fun c0 =>
 .say [.br true,.order [(true,0),(true,1),(true,2),(true,3),(true,5),(true,6),(true,7),(false,4),(true,8),(true,9),(true,10)] none []] (ok1 c0) <|
 .cl (F6 (p_v.fText.size:Int)) fun r3 _ =>
 .ret ⟨[.kill 0],[3],[],1⟩ (IntKind.wrap .i64 (1 + (IntKind.wrap .i64 (r3 + (p_v.fText.size:Int)))))) fun c0 =>
 .say [.br false] (ok1 c0) <|
 .iB (p_v.aF == 8) (.ret ⟨[.kill 0],[3],[],1⟩ (IntKind.wrap .i64 (1 + (p_v.fText.size:Int)))) <|
 .ite (p_v.aF == 6) (fun c1 =>
 .say [.br true,.num p_v.aU.length] (okc c1 (ok1 (ln_ p_v.aU aj.lf))) <|
 .ask (Q83 (p_v.aU.length:Int)) fun r4 h0 =>
 .say [.res (.i_ r4),.num p_v.aU.length] (okc (F6 _ _ h0) (ok1 (ln_ p_v.aU aj.lf))) <|
 .ask (Yl R_ p_v (IntKind.wrap .i64 (1 + r4)) 0) fun r5 h1 =>
 .say [.part [.kill 0] 0 [3,51,52,53] 1 (.exit 1) (vM r5).T (vM r5).H] (ok1 (aaE h1)) <|
 .rt [3] 1 (r5)) fun c1 =>
 .say [.br false] (ok1 c1) <|
 .ite (p_v.aF == 5) (fun c2 =>
 .say [.br true,.num p_v.aX.length] (okc c2 (ok1 (ln_ p_v.aX aB.lf))) <|
 .ask (Q83 (p_v.aX.length:Int)) fun r6 h2 =>
 .say [.res (.i_ r6),.num p_v.aX.length] (okc (F6 _ _ h2) (ok1 (ln_ p_v.aX aB.lf))) <|
 .ask (Ym R_ p_v (IntKind.wrap .i64 (1 + r6)) 0) fun r7 h3 =>
 .say [.part [.kill 0] 0 [3,71,72,73] 1 (.exit 3) (vN r7).T (vN r7).H] (ok1 (aaF h3)) <|
 .rt [3] 1 (r7)) fun c2 =>
 .say [.br false] (ok1 c2) <|
 .ret ⟨[.kill 0],[3],[],1⟩ (1)
def ad4 (R_:RB6) (p_v:aj) : Mo (Int) :=
 .jp Tryz.f255 0 [1,1,0,1] 6 [1,3,9] 1 (.normal) (fun r_=>⟨[(3,.i_ r_)],[.dead]⟩) ⟨[(1,.ptr 0 0),(3,.i_ 1),(9,.i_ p_v.aF)],[.box 25 (.dat (aj.lf1 p_v))]⟩ (KL R_ p_v).den (jW (by kernel_rfl)) fun r0 _ =>
 .ret (bf 1) (r0)
theorem aiS (R_:RB6) (p_v:aj) : FV (Mo.den (ad4 R_ p_v)) 255 [.dat (aj.lf1 p_v)] (fun r=>.i_ r) := dU Tryz.func255 (by kernel_rfl) (fun _=>rfl) (by kernel_rfl)
def tC:Nat → RB6
 | 0=>{ m1 := fun p_v=>none,ok1 := fun _ _ h=>(by cases h) }
 | n_ + 1=>{ m1 := fun p_v=>Mo.den (ad4 (tC n_) p_v),ok1 := aiS (tC n_) }
def Q26 (p_v:aj) : Option (Int) := (tC FU).m1 p_v
theorem amG (p_v:aj) : FV (Q26 p_v) 255 [.dat (aj.lf1 p_v)] (fun r=>.i_ r) := (tC FU).ok1 p_v
def ad5 (p_v:aj) : Mo (Int × Int) :=
 .cl (lT p_v) fun r0 _ =>
 .iB (!r0) (.ret (bf 2) (0,8)) <|
 .cl (amG p_v) fun r1 _ =>
 .ret (bf 2) (r1,0)
def aox (p_v:aj) : Option (Int × Int) := Mo.den (ad5 p_v)
theorem aiT (p_v:aj) : FV (aox p_v) 179 [.dat (aj.lf1 p_v)] (fun r=>.tup [.i_ r.1,.i_ r.2]) := dU Tryz.func179 (by kernel_rfl) (fun _=>rfl) (by kernel_rfl)
def Rn (p_doc:aj) (p_key:aj) : Mo (Bool) :=
 .iG 4003 (p_doc.aF != 5) (.rt [2,3,14] 2 (true)) <|
 .cl (lT p_doc) fun r0 _ =>
 .rt [2,3,14] 2 (!r0)
def Ro (p_doc:aj) (p_key:aj) (r0:Bool) : Mo (Bool) :=
 .ite (r0) (fun c0 =>
 .say [.gd 4008 true] (ok1 c0) <|
 .rt [2,3,20] 2 (true)) fun c0 =>
 .say [.gd 4008 false,.num p_doc.aX.length] (okc c0 (ok1 (ln_ p_doc.aX aB.lf))) <|
 .rt [2,3,20] 2 ((p_doc.aX.length:Int) == 0)
def KN (p_doc:aj) (p_key:aj) : Mo (Bool) :=
 .ask (fO p_doc.aX 0) fun x0 h0 =>
 .say [] (ok1 (bY aB.bD h0)) <|
 .ite (!decide ((x0.fName:ByteArray) = (⟨#[95,105,100]⟩ : ByteArray))) (fun c0 =>
 .say [.jX (.q 0 (.q 1 (.q 2 (.q 3 (.q 4 (.q 5 (.q 6 (.q 7 (.q 8 (.q 9 (.q 10 (.q 11 (.q 12 (.l 13 (.q 14 (.q 15 .fin)))))))))))))))) (some 13) [] [.row (aB.lf1 x0),.gd 8006 true] [2,36] 2 [(2,.ptr 0 0),(36,.b_ true)] [.box 25 (.dat (aj.lf1 p_doc)),.box 25 (.dat (aj.lf1 p_key))]] (okc c0 (ok1 (rf_ ⟨[(2,.ptr 0 0),(36,.b_ true)],[.box 25 (.dat (aj.lf1 p_doc)),.box 25 (.dat (aj.lf1 p_key))]⟩))) <|
 .ret ⟨[.kill 1],[2,36],[],2⟩ (true)) fun c0 =>
 .say [] (ok1 c0) <|
 .ask (fO p_doc.aX 0) fun x1 h1 =>
 .say [] (ok1 (bY aB.bD h1)) <|
 .ask (amE x1.fValue p_key) fun r0 h2 =>
 .say [.jX (.q 0 (.q 1 (.q 2 (.q 3 (.q 4 (.q 5 (.q 6 (.q 7 (.q 8 (.q 9 (.q 10 (.q 11 (.q 12 (.l 13 (.q 14 (.q 15 .fin)))))))))))))))) (some 13) [] [.row (aB.lf1 x0),.gd 8006 false,.row (aB.lf1 x1),.res (.b_ r0)] [2,36] 2 [(2,.ptr 0 0),(36,.lf (.bool (!r0)))] [.box 25 (.dat (aj.lf1 p_doc)),.box 25 (.dat (aj.lf1 p_key))]] (okc (aiQ _ _ _ h2) (ok1 (rf_ ⟨[(2,.ptr 0 0),(36,.lf (.bool (!r0)))],[.box 25 (.dat (aj.lf1 p_doc)),.box 25 (.dat (aj.lf1 p_key))]⟩))) <|
 .ret ⟨[.kill 1],[2,36],[],2⟩ (!r0)
def akG (p_doc:aj) (p_key:aj) : Mo (Int) :=
 .sj Tryz.f111 0 [1,0,0] [0,1,2,3,4,5,6,7] 1 8 [2,3] 2 (fun r_=>⟨[(2,.ptr 0 0),(3,.ptr 1 0),(14,.b_ r_)],[.box 25 (.dat (aj.lf1 p_doc)),.box 25 (.dat (aj.lf1 p_key))]⟩) ⟨[(2,.ptr 0 0),(3,.ptr 1 0)],[.box 25 (.dat (aj.lf1 p_doc)),.box 25 (.dat (aj.lf1 p_key))]⟩ (Rn p_doc p_key).den (sW (by kernel_rfl)) fun r0 _ =>
 .sj Tryz.f111 0 [1,0,0] [8,9,10,11,12,13] 1 6 [2,3,14] 2 (fun r_=>⟨[(2,.ptr 0 0),(3,.ptr 1 0),(20,.b_ r_)],[.box 25 (.dat (aj.lf1 p_doc)),.box 25 (.dat (aj.lf1 p_key))]⟩) ⟨[(2,.ptr 0 0),(3,.ptr 1 0),(14,.b_ r0)],[.box 25 (.dat (aj.lf1 p_doc)),.box 25 (.dat (aj.lf1 p_key))]⟩ (Ro p_doc p_key r0).den (sW (by kernel_rfl)) fun r1 _ =>
 .iB (r1) (.ret (bf 1) (8)) <|
 .jp Tryz.f111 0 [1,1,0,0] 13 [2,3] 2 (.normal) (fun r_=>⟨[(2,.ptr 0 0),(36,.b_ r_)],[.box 25 (.dat (aj.lf1 p_doc)),.dead]⟩) ⟨[(2,.ptr 0 0),(3,.ptr 1 0)],[.box 25 (.dat (aj.lf1 p_doc)),.box 25 (.dat (aj.lf1 p_key))]⟩ (KN p_doc p_key).den (jW (by kernel_rfl)) fun r2 _ =>
 .iB (r2) (.ret (bf 1) (8)) <|
 .cl (aiT p_doc) fun r3 _ =>
 .iB (r3.2 != 0) (.ret (bf 1) (r3.2)) <|
 .iB (decide ((16384:Int) < r3.1)) (.ret (bf 1) (2)) <|
 .ret (bf 1) (0)
def Q93 (p_doc:aj) (p_key:aj) : Option (Int) := Mo.den (akG p_doc p_key)
theorem ad6 (p_doc:aj) (p_key:aj) : FV (Q93 p_doc p_key) 111 [.dat (aj.lf1 p_doc),.dat (aj.lf1 p_key)] (fun r=>.i_ r) := dU Tryz.func111 (by kernel_rfl) (fun _=>rfl) (by kernel_rfl)
def Rq (p_w:ak) : Mo ((Int) ⊕ Unit) :=
 .iB (p_w.aF == 2) (.cl (ad6 p_w.aX p_w.iy) fun r0 _ =>
 .iB (r0 != 0) (.ret ⟨[.kill 0],[2],[],1⟩ (.inl (r0))) <|
 .rt [1] 1 (.inr (()))) <|
 .rt [1] 1 (.inr (()))
def ad7 (p_w:ak) : Option ((Int) ⊕ Unit) := Mo.den (Rq p_w)
def y9 (r_:(Int) ⊕ Unit) : Exit := match r_ with
 | .inl o_=>.ret
 | .inr (o_)=>.normal
def zf (p_w:ak) (r_:(Int) ⊕ Unit) : St := match r_ with
 | .inl o_=>⟨[(2,.i_ o_)],[.dead]⟩
 | .inr (o_)=>⟨[(1,.ptr 0 0)],[.box 49 (.dat (ak.lf1 p_w))]⟩
theorem Rt {p_w:ak} {r_:(Int) ⊕ Unit} (h:ad7 p_w = some r_) : eF Tryz.f60 0 [1,1,0,1] (y9 r_) (zf p_w r_) ⟨[(1,.ptr 0 0),(10,.lf (.bool (p_w.aF == 2)))],[.box 49 (.dat (ak.lf1 p_w))]⟩ :=
 iE dA (Rq p_w) y9 (zf p_w) (by kernel_rfl) h
def akH (p_w:ak) : Mo (Int) :=
 .cl (amC p_w.iy) fun r0 _ =>
 .iB (!r0) (.ret (bf 1) (8)) <|
 .fG (ad7 p_w) (fun o0 h0 =>
 .say [.pt_ 1 [1,10] 1 (y9 (.inl o0)) (zf p_w (.inl o0))] (ok1 (Rt h0)) <|
 .ret (bf 1) (o0)) fun o1 h0 =>
 .say [.pt_ 1 [1,10] 1 (y9 (.inr (o1))) (zf p_w (.inr (o1)))] (ok1 (Rt h0)) <|
 .cl (qX p_w.dJ) fun r1 _ =>
 .iB (r1) (.ret (bf 1) (0)) <|
 .cl (ad6 p_w.dJ p_w.iy) fun r2 _ =>
 .ret (bf 1) (r2)
def Q58 (p_w:ak) : Option (Int) := Mo.den (akH p_w)
theorem amH (p_w:ak) : FV (Q58 p_w) 60 [.dat (ak.lf1 p_w)] (fun r=>.i_ r) := dU Tryz.func60 (by kernel_rfl) (fun _=>rfl) (by kernel_rfl)
def Ru (p_s:ByteArray) : Mo (Bool) :=
 .iG 4002 (decide ((p_s:ByteArray) = (⟨#[]⟩ : ByteArray))) (.rt [0,10] 0 (true)) <|
 .rt [0,10] 0 (decide ((32:Int) < (p_s.size:Int)))
def Rw (p_s:ByteArray) (r0:Bool) : Mo (Bool) :=
 .iG 4007 (r0) (.rt [0,15] 0 (true)) <|
 .ask (lF p_s 0) fun b0 h0 =>
 .say [.byt b0] (ok1 (gB h0)) <|
 .rt [0,15] 0 ((b0.toNat:Int) == 36)
def KO (p_s:ByteArray) (v0:Int) : Mo (Bool) :=
 .ask (lF p_s v0) fun b0 h0 =>
 .say [.byt b0] (ok1 (gB h0)) <|
 .iG 14004 (decide (((b0.toNat:Int) : Int) < 33)) (.rt [0,3,17,18,30] 0 (true)) <|
 .ask (lF p_s v0) fun b1 h1 =>
 .say [.byt b1] (ok1 (gB h1)) <|
 .rt [0,3,17,18,30] 0 (decide ((126:Int) < (b1.toNat:Int)))
def KP (p_s:ByteArray) (r0:Bool) (v0:Int) : Mo (Bool) :=
 .iG 14010 (r0) (.rt [0,17,18,36] 0 (true)) <|
 .ask (lF p_s v0) fun b0 h0 =>
 .say [.byt b0] (ok1 (gB h0)) <|
 .rt [0,17,18,36] 0 ((b0.toNat:Int) == 46)
def Ci (p_s:ByteArray) : (Int) → Mo ((Int) ⊕ (Unit ⊕ Unit)) := fun (v0) =>
 .iB (decide ((v0:Int) < (p_s.size:Int))) (.sj Tryz.f113 0 [1,1,0,1,0,0,1,1,0,0,1,0] [0,1,2,3,4,5,6,7,8,9] 6 10 [0,3,17,18] 0 (fun r_=>⟨[(0,.lf (.str p_s)),(3,.i_ v0),(17,.i_ (p_s.size:Int)),(18,.i_ v0),(30,.b_ r_)],[]⟩) ⟨[(0,.lf (.str p_s)),(3,.i_ v0),(17,.i_ (p_s.size:Int)),(18,.i_ v0)],[]⟩ (KO p_s v0).den (sW (by kernel_rfl)) fun r0 _ =>
 .sj Tryz.f113 0 [1,1,0,1,0,0,1,1,0,0,1,0] [10,11,12,13,14,15] 6 6 [0,3,17,18,30] 0 (fun r_=>⟨[(0,.lf (.str p_s)),(17,.i_ (p_s.size:Int)),(18,.i_ v0),(36,.b_ r_)],[]⟩) ⟨[(0,.lf (.str p_s)),(3,.i_ v0),(17,.i_ (p_s.size:Int)),(18,.i_ v0),(30,.b_ r0)],[]⟩ (KP p_s r0 v0).den (sW (by kernel_rfl)) fun r1 _ =>
 .iB (r1) (.rt [2] 0 (.inr (.inl ()))) <|
 .rt [0,17,18] 0 (.inl (IntKind.wrap .i64 (v0 + 1)))) <|
 .rt [] 0 (.inr (.inr (())))
def Oe (p_s:ByteArray) (v0:Int) : Option (Unit ⊕ Unit) := bT (fun v_=>(Ci p_s v_).den) FU (v0)
def KQ (p_s:ByteArray) : (Int) → St := fun (v0)=>⟨[(0,.lf (.str p_s)),(17,.i_ (p_s.size:Int)),(18,.i_ v0)],[]⟩
def vO (r_:Unit ⊕ Unit) : Exit := match r_ with
 | .inl o_=>.ret
 | .inr (o_)=>.exit 0
def vP  (r_:Unit ⊕ Unit) : St := match r_ with
 | .inl o_=>⟨[(2,.b_ false)],[]⟩
 | .inr (o_)=>⟨[],[]⟩
theorem KR {p_s:ByteArray} {v0:Int} {r_:Unit ⊕ Unit} (h:Oe p_s v0 = some r_) : eF Tryz.f113 0 [1,1,0,1,0] (vO r_) (vP r_) (KQ p_s (v0)) :=
 dK dA (body := (Code.sub (bodyC Tryz.f113) [1,1,0,1,0,0])) (by kernel_rfl) (Ci p_s) (KQ p_s) vO vP (fun r_=>by rcases r_ with _ | _ <;> rfl) (fun v_=>by kernel_rfl) h
def akI (p_s:ByteArray) : Mo (Bool) :=
 .sj Tryz.f113 0 [1,0,0] [0,1,2,3,4,5,6] 1 7 [0] 0 (fun r_=>⟨[(0,.lf (.str p_s)),(10,.b_ r_)],[]⟩) ⟨[(0,.lf (.str p_s))],[]⟩ (Ru p_s).den (sW (by kernel_rfl)) fun r0 _ =>
 .sj Tryz.f113 0 [1,0,0] [7,8,9,10,11] 1 5 [0,10] 0 (fun r_=>⟨[(0,.lf (.str p_s)),(15,.b_ r_)],[]⟩) ⟨[(0,.lf (.str p_s)),(10,.b_ r0)],[]⟩ (Rw p_s r0).den (sW (by kernel_rfl)) fun r1 _ =>
 .iB (r1) (.ret (bf 1) (false)) <|
 .fG (Oe p_s 0) (fun o0 h0 =>
 .say [.pt_ 0 [0,17,18] 0 (vO (.inl o0)) (vP (.inl o0))] (ok1 (KR h0)) <|
 .ret (bf 1) (false)) fun o1 h0 =>
 .say [.pt_ 0 [0,17,18] 0 (vO (.inr (o1))) (vP (.inr (o1)))] (ok1 (KR h0)) <|
 .ret (bf 1) (true)
def Q30 (p_s:ByteArray) : Option (Bool) := Mo.den (akI p_s)
theorem amI (p_s:ByteArray) : FV (Q30 p_s) 113 [.lf (.str p_s)] (fun r=>.b_ r) := dU Tryz.func113 (by kernel_rfl) (fun _=>rfl) (by kernel_rfl)
def Rx (p_s:ByteArray) : Mo (Bool) :=
 .iG 4003 (decide (((p_s.size:Int) : Int) < 1)) (.rt [0,11] 0 (true)) <|
 .rt [0,11] 0 (decide ((32:Int) < (p_s.size:Int)))
def Ry (p_s:ByteArray) (r0:Bool) : Mo (Bool) :=
 .iG 4008 (r0) (.rt [0,16] 0 (true)) <|
 .ask (lF p_s 0) fun b0 h0 =>
 .say [.byt b0] (ok1 (gB h0)) <|
 .rt [0,16] 0 ((b0.toNat:Int) == 36)
def KT (p_s:ByteArray) (v0:Int) : Mo (Bool) :=
 .ask (lF p_s v0) fun b0 h0 =>
 .say [.byt b0] (ok1 (gB h0)) <|
 .iG 14004 (decide (((b0.toNat:Int) : Int) < 33)) (.rt [0,3,18,19,31] 0 (true)) <|
 .ask (lF p_s v0) fun b1 h1 =>
 .say [.byt b1] (ok1 (gB h1)) <|
 .rt [0,3,18,19,31] 0 (decide ((126:Int) < (b1.toNat:Int)))
def KU (p_s:ByteArray) (r0:Bool) (v0:Int) : Mo (Bool) :=
 .iG 14010 (r0) (.rt [0,18,19,37] 0 (true)) <|
 .ask (lF p_s v0) fun b0 h0 =>
 .say [.byt b0] (ok1 (gB h0)) <|
 .rt [0,18,19,37] 0 ((b0.toNat:Int) == 46)
def vS (p_s:ByteArray) : (Int) → Mo ((Int) ⊕ (Unit ⊕ Unit)) := fun (v0) =>
 .iB (decide ((v0:Int) < (p_s.size:Int))) (.sj Tryz.f184 0 [1,1,0,1,0,0,1,1,0,0,1,0] [0,1,2,3,4,5,6,7,8,9] 6 10 [0,3,18,19] 0 (fun r_=>⟨[(0,.lf (.str p_s)),(3,.i_ v0),(18,.i_ (p_s.size:Int)),(19,.i_ v0),(31,.b_ r_)],[]⟩) ⟨[(0,.lf (.str p_s)),(3,.i_ v0),(18,.i_ (p_s.size:Int)),(19,.i_ v0)],[]⟩ (KT p_s v0).den (sW (by kernel_rfl)) fun r0 _ =>
 .sj Tryz.f184 0 [1,1,0,1,0,0,1,1,0,0,1,0] [10,11,12,13,14,15] 6 6 [0,3,18,19,31] 0 (fun r_=>⟨[(0,.lf (.str p_s)),(18,.i_ (p_s.size:Int)),(19,.i_ v0),(37,.b_ r_)],[]⟩) ⟨[(0,.lf (.str p_s)),(3,.i_ v0),(18,.i_ (p_s.size:Int)),(19,.i_ v0),(31,.b_ r0)],[]⟩ (KU p_s r0 v0).den (sW (by kernel_rfl)) fun r1 _ =>
 .iB (r1) (.rt [2] 0 (.inr (.inl ()))) <|
 .rt [0,18,19] 0 (.inl (IntKind.wrap .i64 (v0 + 1)))) <|
 .rt [] 0 (.inr (.inr (())))
def Og (p_s:ByteArray) (v0:Int) : Option (Unit ⊕ Unit) := bT (fun v_=>(vS p_s v_).den) FU (v0)
def KW (p_s:ByteArray) : (Int) → St := fun (v0)=>⟨[(0,.lf (.str p_s)),(18,.i_ (p_s.size:Int)),(19,.i_ v0)],[]⟩
def vT (r_:Unit ⊕ Unit) : Exit := match r_ with
 | .inl o_=>.ret
 | .inr (o_)=>.exit 0
def vU  (r_:Unit ⊕ Unit) : St := match r_ with
 | .inl o_=>⟨[(2,.b_ true)],[]⟩
 | .inr (o_)=>⟨[],[]⟩
theorem KX {p_s:ByteArray} {v0:Int} {r_:Unit ⊕ Unit} (h:Og p_s v0 = some r_) : eF Tryz.f184 0 [1,1,0,1,0] (vT r_) (vU r_) (KW p_s (v0)) :=
 dK dA (body := (Code.sub (bodyC Tryz.f184) [1,1,0,1,0,0])) (by kernel_rfl) (vS p_s) (KW p_s) vT vU (fun r_=>by rcases r_ with _ | _ <;> rfl) (fun v_=>by kernel_rfl) h
def akJ (p_s:ByteArray) : Mo (Bool) :=
 .sj Tryz.f184 0 [1,0,0] [0,1,2,3,4,5,6,7] 1 8 [0] 0 (fun r_=>⟨[(0,.lf (.str p_s)),(11,.b_ r_)],[]⟩) ⟨[(0,.lf (.str p_s))],[]⟩ (Rx p_s).den (sW (by kernel_rfl)) fun r0 _ =>
 .sj Tryz.f184 0 [1,0,0] [8,9,10,11,12] 1 5 [0,11] 0 (fun r_=>⟨[(0,.lf (.str p_s)),(16,.b_ r_)],[]⟩) ⟨[(0,.lf (.str p_s)),(11,.b_ r0)],[]⟩ (Ry p_s r0).den (sW (by kernel_rfl)) fun r1 _ =>
 .iB (r1) (.ret (bf 1) (true)) <|
 .fG (Og p_s 0) (fun o0 h0 =>
 .say [.pt_ 0 [0,18,19] 0 (vT (.inl o0)) (vU (.inl o0))] (ok1 (KX h0)) <|
 .ret (bf 1) (true)) fun o1 h0 =>
 .say [.pt_ 0 [0,18,19] 0 (vT (.inr (o1))) (vU (.inr (o1)))] (ok1 (KX h0)) <|
 .ret (bf 1) (false)
def Q34 (p_s:ByteArray) : Option (Bool) := Mo.den (akJ p_s)
theorem amJ (p_s:ByteArray) : FV (Q34 p_s) 184 [.lf (.str p_s)] (fun r=>.b_ r) := dU Tryz.func184 (by kernel_rfl) (fun _=>rfl) (by kernel_rfl)
def zh (p_s:List ByteArray) : (Int) → Mo ((Int) ⊕ (Int) ⊕ Unit) := fun (v0) =>
 .iB (decide ((v0:Int) < (p_s.length:Int))) (.ask (fO p_s v0) fun x0 h0 =>
 .say [.row (lfS x0)] (ok1 (bY lS_ h0)) <|
 .cl (amJ x0) fun r0 _ =>
 .iB (r0) (.rt [4] 0 (.inr (.inl (v0)))) <|
 .rt [0,1,7,8] 0 (.inl (IntKind.wrap .i64 (v0 + 1)))) <|
 .rt [] 0 (.inr (.inr (())))
def Wn (p_s:List ByteArray) (v0:Int) : Option ((Int) ⊕ Unit) := bT (fun v_=>(zh p_s v_).den) FU (v0)
def Rz (p_s:List ByteArray) : (Int) → St := fun (v0)=>⟨[(0,.lf (.rows 1 (p_s.map lfS))),(1,.raw (.func (.func 184) #[] #[])),(7,.i_ (p_s.length:Int)),(8,.i_ v0)],[]⟩
def zi (r_:(Int) ⊕ Unit) : Exit := match r_ with
 | .inl o_=>.ret
 | .inr (o_)=>.exit 0
def zk  (r_:(Int) ⊕ Unit) : St := match r_ with
 | .inl o_=>⟨[(4,.i_ o_)],[]⟩
 | .inr (o_)=>⟨[],[]⟩
theorem RD {p_s:List ByteArray} {v0:Int} {r_:(Int) ⊕ Unit} (h:Wn p_s v0 = some r_) : eF Tryz.f257 0 [1,0,1,0] (zi r_) (zk r_) (Rz p_s (v0)) :=
 dK dA (body := (Code.sub (bodyC Tryz.f257) [1,0,1,0,0])) (by kernel_rfl) (zh p_s) (Rz p_s) zi zk (fun r_=>by rcases r_ with _ | _ <;> rfl) (fun v_=>by kernel_rfl) h
def akK (p_s:List ByteArray) : Mo (Int) :=
 .say [.num p_s.length] (ok1 (ln_ p_s lfS)) <|
 .fG (Wn p_s 0) (fun o0 h0 =>
 .say [.pt_ 0 [0,1,7,8] 0 (zi (.inl o0)) (zk (.inl o0))] (ok1 (RD h0)) <|
 .rt [0] 0 (o0)) fun o1 h0 =>
 .say [.pt_ 0 [0,1,7,8] 0 (zi (.inr (o1))) (zk (.inr (o1)))] (ok1 (RD h0)) <|
 .rt [0] 0 ((-1))
def Q28 (p_s:List ByteArray) : Option (Int) := Mo.den (akK p_s)
theorem amK (p_s:List ByteArray) : FH (Q28 p_s) 257 [.lf (.rows 1 (p_s.map lfS)),.raw (.func (.func 184) #[] #[])] [] (fun r=>.i_ r) (fun _=>[]) := dW Tryz.func257 (by kernel_rfl) (fun _=>rfl) (by kernel_rfl)
def ad8 (p_s:List ByteArray) : Mo (Bool) :=
 .cH [] (amK p_s) fun r0 _ =>
 .rt [0] 0 (decide ((0:Int) ≤ r0))
def amL (p_s:List ByteArray) : Option (Bool) := Mo.den (ad8 p_s)
theorem aiU (p_s:List ByteArray) : FH (amL p_s) 183 [.lf (.rows 1 (p_s.map lfS)),.raw (.func (.func 184) #[] #[])] [] (fun r=>.b_ r) (fun _=>[]) := dW Tryz.func183 (by kernel_rfl) (fun _=>rfl) (by kernel_rfl)
def RF (p_p:List ByteArray) : Mo (Bool) :=
 .say [.num p_p.length] (ok1 (ln_ p_p lfS)) <|
 .ite (decide ((1:Int) ≤ (p_p.length:Int))) (fun c0 =>
 .say [.gd 4003 true,.num p_p.length] (okc c0 (ok1 (ln_ p_p lfS))) <|
 .rt [0,2,10] 0 (decide (((p_p.length:Int) : Int) ≤ 16))) fun c0 =>
 .say [.gd 4003 false] (ok1 c0) <|
 .rt [0,2,10] 0 (false)
def RG (p_p:List ByteArray) (r0:Bool) : Mo (Bool) :=
 .iG 4008 (r0) (.cH [] (aiU p_p) fun r1 _ =>
 .rt [2,15] 0 (!r1)) <|
 .rt [2,15] 0 (false)
def KY (r0:Bool) : Mo (Unit) :=
 .rt [2] 0 ()
def akL (p_p:List ByteArray) : Mo (Bool) :=
 .sj Tryz.f116 0 [1,0] [0,1,2,3,4,5,6,7] 1 8 [0,2] 0 (fun r_=>⟨[(0,.lf (.rows 1 (p_p.map lfS))),(2,.b_ false),(10,.b_ r_)],[]⟩) ⟨[(0,.lf (.rows 1 (p_p.map lfS))),(2,.b_ false)],[]⟩ (RF p_p).den (sW (by kernel_rfl)) fun r0 _ =>
 .sj Tryz.f116 0 [1,0] [8,9,10,11,12] 1 5 [0,2,10] 0 (fun r_=>⟨[(2,.b_ false),(15,.b_ r_)],[]⟩) ⟨[(0,.lf (.rows 1 (p_p.map lfS))),(2,.b_ false),(10,.b_ r0)],[]⟩ (RG p_p r0).den (sW (by kernel_rfl)) fun r1 _ =>
 .sj Tryz.f116 0 [1,0] [13] 1 1 [2,15] 0 (fun r_=>⟨[(2,.b_ r1)],[]⟩) ⟨[(2,.b_ false),(15,.b_ r1)],[]⟩ (KY r1).den (sW (by kernel_rfl)) fun r2 _ =>
 .ret (bf 1) (r1)
def Q99 (p_p:List ByteArray) : Option (Bool) := Mo.den (akL p_p)
theorem F7 (p_p:List ByteArray) : FV (Q99 p_p) 116 [.lf (.rows 1 (p_p.map lfS))] (fun r=>.b_ r) := dU Tryz.func116 (by kernel_rfl) (fun _=>rfl) (by kernel_rfl)
def F8 (p_s1:List ByteArray) (p_s2:List ByteArray) : (Int) → Mo ((Int) ⊕ (Unit ⊕ Unit)) := fun (v0) =>
 .ite (decide ((v0:Int) < (p_s1.length:Int))) (fun c0 =>
 .say [.br true,.order [(true,0),(true,1),(true,2),(true,3),(true,4),(true,5),(true,6),(true,7),(true,8)] none []] (ok1 c0) <|
 .ask (fO p_s1 v0) fun x0 h0 =>
 .say [.row (lfS x0)] (ok1 (bY lS_ h0)) <|
 .ask (fO p_s2 v0) fun x1 h1 =>
 .say [.row (lfS x1)] (ok1 (bY lS_ h1)) <|
 .iB (!decide ((x0:ByteArray) = (x1:ByteArray))) (.rt [4] 0 (.inr (.inl ()))) <|
 .rt [0,1,12,13] 0 (.inl (IntKind.wrap .i64 (v0 + 1)))) fun c0 =>
 .say [.br false] (ok1 c0) <|
 .rt [] 0 (.inr (.inr (())))
def ad9 (p_s1:List ByteArray) (p_s2:List ByteArray) (v0:Int) : Option (Unit ⊕ Unit) := bT (fun v_=>(F8 p_s1 p_s2 v_).den) FU (v0)
def RH (p_s1:List ByteArray) (p_s2:List ByteArray) : (Int) → St := fun (v0)=>⟨[(0,.lf (.rows 1 (p_s1.map lfS))),(1,.lf (.rows 1 (p_s2.map lfS))),(12,.i_ (p_s1.length:Int)),(13,.i_ v0)],[]⟩
def zn (r_:Unit ⊕ Unit) : Exit := match r_ with
 | .inl o_=>.ret
 | .inr (o_)=>.exit 0
def zo  (r_:Unit ⊕ Unit) : St := match r_ with
 | .inl o_=>⟨[(4,.b_ false)],[]⟩
 | .inr (o_)=>⟨[],[]⟩
theorem RI {p_s1:List ByteArray} {p_s2:List ByteArray} {v0:Int} {r_:Unit ⊕ Unit} (h:ad9 p_s1 p_s2 v0 = some r_) : eF Tryz.f23 0 [1,1,0,1,0] (zn r_) (zo r_) (RH p_s1 p_s2 (v0)) :=
 dK dA (body := (Code.sub (bodyC Tryz.f23) [1,1,0,1,0,0])) (by kernel_rfl) (F8 p_s1 p_s2) (RH p_s1 p_s2) zn zo (fun r_=>by rcases r_ with _ | _ <;> rfl) (fun v_=>by kernel_rfl) h
def akM (p_s1:List ByteArray) (p_s2:List ByteArray) : Mo (Bool) :=
 .say [.num p_s1.length,.num p_s2.length] (okc (ln_ p_s1 lfS) (ok1 (ln_ p_s2 lfS))) <|
 .ite ((p_s1.length:Int) != (p_s2.length:Int)) (fun c0 =>
 .say [.br true] (ok1 c0) <|
 .ret (bf 1) (false)) fun c0 =>
 .say [.br false,.num p_s1.length] (okc c0 (ok1 (ln_ p_s1 lfS))) <|
 .fG (ad9 p_s1 p_s2 0) (fun o0 h0 =>
 .say [.pt_ 0 [0,1,12,13] 0 (zn (.inl o0)) (zo (.inl o0))] (ok1 (RI h0)) <|
 .ret (bf 1) (false)) fun o1 h0 =>
 .say [.pt_ 0 [0,1,12,13] 0 (zn (.inr (o1))) (zo (.inr (o1)))] (ok1 (RI h0)) <|
 .ret (bf 1) (true)
def Q43 (p_s1:List ByteArray) (p_s2:List ByteArray) : Option (Bool) := Mo.den (akM p_s1 p_s2)
theorem amM (p_s1:List ByteArray) (p_s2:List ByteArray) : FV (Q43 p_s1 p_s2) 23 [.lf (.rows 1 (p_s1.map lfS)),.lf (.rows 1 (p_s2.map lfS))] (fun r=>.b_ r) := dU Tryz.func23 (by kernel_rfl) (fun _=>rfl) (by kernel_rfl)
def F9 (p_l:List aV) (v0:Int) (x0:aV) : (Int) → Mo ((Int) ⊕ (Unit ⊕ Unit)) := fun (v1) =>
 .iB (decide ((v1:Int) < ((p_l.take v0.toNat).length:Int))) (.ask (fO (p_l.take v0.toNat) v1) fun x1 h0 =>
 .say [.row (aV.lf1 x1)] (ok1 (bY aV.bD h0)) <|
 .cl (amM x1.dh x0.dh) fun r0 _ =>
 .iB (r0) (.ret ⟨[.kill 0],[2],[],1⟩ (.inr (.inl ()))) <|
 .rt [0,4,10,11,12,23,24,25] 1 (.inl (IntKind.wrap .i64 (v1 + 1)))) <|
 .ret ⟨[.kill 0],[0,10,11,12],[],1⟩ (.inr (.inr (())))
def aea (p_l:List aV) (v0:Int) (x0:aV) (v1:Int) : Option (Unit ⊕ Unit) := bT (fun v_=>(F9 p_l v0 x0 v_).den) FU (v1)
def RJ (p_l:List aV) (v0:Int) (x0:aV) : (Int) → St := fun (v1)=>⟨[(0,.lf (.rows 2 (p_l.map aV.lf))),(4,.ptr 0 0),(10,.lf (.rows 2 (p_l.map aV.lf))),(11,.i_ (p_l.length:Int)),(12,.i_ v0),(23,.lf (.rows 2 ((p_l.take v0.toNat).map aV.lf))),(24,.i_ ((p_l.take v0.toNat).length:Int)),(25,.i_ v1)],[.box 149 (.agg [.lf (.rows 1 (x0.dh.map lfS)),.b_ x0.yP])]⟩
def zq (r_:Unit ⊕ Unit) : Exit := match r_ with
 | .inl o_=>.ret
 | .inr (o_)=>.exit 2
def zu (p_l:List aV) (v0:Int) (r_:Unit ⊕ Unit) : St := match r_ with
 | .inl o_=>⟨[(2,.i_ 12)],[.dead]⟩
 | .inr (o_)=>⟨[(0,.lf (.rows 2 (p_l.map aV.lf))),(10,.lf (.rows 2 (p_l.map aV.lf))),(11,.i_ (p_l.length:Int)),(12,.i_ v0)],[.dead]⟩
theorem RN {p_l:List aV} {v0:Int} {x0:aV} {v1:Int} {r_:Unit ⊕ Unit} (h:aea p_l v0 x0 v1 = some r_) : eF Tryz.f117 0 [1,1,0,1,0,0,1,1,0,0,1,1,1,0] (zq r_) (zu p_l v0 r_) (RJ p_l v0 x0 (v1)) :=
 dK dA (body := (Code.sub (bodyC Tryz.f117) [1,1,0,1,0,0,1,1,0,0,1,1,1,0,0])) (by kernel_rfl) (F9 p_l v0 x0) (RJ p_l v0 x0) zq (zu p_l v0) (fun r_=>by rcases r_ with _ | _ <;> rfl) (fun v_=>by kernel_rfl) h
def Gf (p_l:List aV) : (Int) → Mo ((Int) ⊕ (Int) ⊕ Unit) := fun (v0) =>
 .iB (decide ((v0:Int) < (p_l.length:Int))) (.ask (fO p_l v0) fun x0 h0 =>
 .say [.row (aV.lf1 x0)] (ok1 (bY aV.bD h0)) <|
 .cl (F7 x0.dh) fun r0 _ =>
 .ite (!r0) (fun c0 =>
 .say [.br true] (ok1 c0) <|
 .rt [2] 0 (.inr (.inl (10)))) fun c0 =>
 .say [.br false,.rows ((p_l.take v0.toNat).map aV.lf),.num (p_l.take v0.toNat).length] (okc c0 (ok1 (by first | (simp [aV.bD]; done) | exact Fp _ _ _:(p_l.take v0.toNat).map aV.lf = ((p_l.map aV.lf).take v0.toNat).drop (0:Int).toNat))) <|
 .grd ((0:Int) ≤ 0 ∧ 0 ≤ v0 ∧ v0 ≤ (p_l.length:Int)) fun h1 =>
 .say [] (okc (by simpa using h1:(0:Int) ≤ 0 ∧ 0 ≤ v0 ∧ v0 ≤ ((p_l.map aV.lf).length:Int)) (ok1 (ln_ (p_l.take v0.toNat) aV.lf))) <|
 .fG (aea p_l v0 x0 0) (fun o0 h2 =>
 .say [.pt_ 0 [0,4,10,11,12,23,24,25] 1 (zq (.inl o0)) (zu p_l v0 (.inl o0))] (ok1 (RN h2)) <|
 .rt [2] 0 (.inr (.inl (12)))) fun o1 h2 =>
 .say [.pt_ 0 [0,4,10,11,12,23,24,25] 1 (zq (.inr (o1))) (zu p_l v0 (.inr (o1)))] (ok1 (RN h2)) <|
 .rt [0,10,11,12] 0 (.inl (IntKind.wrap .i64 (v0 + 1)))) <|
 .rt [] 0 (.inr (.inr (())))
def aeb (p_l:List aV) (v0:Int) : Option ((Int) ⊕ Unit) := bT (fun v_=>(Gf p_l v_).den) FU (v0)
def RP (p_l:List aV) : (Int) → St := fun (v0)=>⟨[(0,.lf (.rows 2 (p_l.map aV.lf))),(10,.lf (.rows 2 (p_l.map aV.lf))),(11,.i_ (p_l.length:Int)),(12,.i_ v0)],[]⟩
def zx (r_:(Int) ⊕ Unit) : Exit := match r_ with
 | .inl o_=>.ret
 | .inr (o_)=>.exit 0
def zy  (r_:(Int) ⊕ Unit) : St := match r_ with
 | .inl o_=>⟨[(2,.i_ o_)],[]⟩
 | .inr (o_)=>⟨[],[]⟩
theorem RQ {p_l:List aV} {v0:Int} {r_:(Int) ⊕ Unit} (h:aeb p_l v0 = some r_) : eF Tryz.f117 0 [1,1,0,1,0] (zx r_) (zy r_) (RP p_l (v0)) :=
 dK dA (body := (Code.sub (bodyC Tryz.f117) [1,1,0,1,0,0])) (by kernel_rfl) (Gf p_l) (RP p_l) zx zy (fun r_=>by rcases r_ with _ | _ <;> rfl) (fun v_=>by kernel_rfl) h
def akN (p_l:List aV) : Mo (Int) :=
 .say [.num p_l.length] (ok1 (ln_ p_l aV.lf)) <|
 .ite (decide ((8:Int) < (p_l.length:Int))) (fun c0 =>
 .say [.br true] (ok1 c0) <|
 .ret (bf 1) (2)) fun c0 =>
 .say [.br false,.num p_l.length] (okc c0 (ok1 (ln_ p_l aV.lf))) <|
 .fG (aeb p_l 0) (fun o0 h0 =>
 .say [.pt_ 0 [0,10,11,12] 0 (zx (.inl o0)) (zy (.inl o0))] (ok1 (RQ h0)) <|
 .ret (bf 1) (o0)) fun o1 h0 =>
 .say [.pt_ 0 [0,10,11,12] 0 (zx (.inr (o1))) (zy (.inr (o1)))] (ok1 (RQ h0)) <|
 .ret (bf 1) (0)
def Q31 (p_l:List aV) : Option (Int) := Mo.den (akN p_l)
theorem amN (p_l:List aV) : FV (Q31 p_l) 117 [.lf (.rows 2 (p_l.map aV.lf))] (fun r=>.i_ r) := dU Tryz.func117 (by kernel_rfl) (fun _=>rfl) (by kernel_rfl)
structure RB7 where
 m1:(p_p:aC) → (p_level:Int) → (p_b0:Int) → Option (Bool × Int)
 ok1:∀ p_p p_level p_b0,FH (m1 p_p p_level p_b0) 185 [.dat (aC.lf1 p_p),.i_ p_level,.ptr 0 0] [.box 3 (.dat [(.int .i64 p_b0)])] (fun r=>.b_ r.1) (fun r=>[.box 3 (.dat [(.int .i64 r.2)])])
def RS (R_:RB7) (p_b0:Int) (p_level:Int) (p_p:aC) : Mo (Bool) :=
 .iG 4002 (decide ((16:Int) < p_level)) (.rt [1,2,3,16] 2 (true)) <|
 .rt [1,2,3,16] 2 (p_b0 == 256)
def Gg (R_:RB7) (p_level:Int) (p_p:aC) : (Int × Int) → Mo ((Int × Int) ⊕ (Int) ⊕ (Int)) := fun (v0,v1) =>
 .iB (decide ((v0:Int) < (p_p.bW.length:Int))) (.ask (fO p_p.bW v0) fun x0 h0 =>
 .say [.row (aC.lf1 x0),.at_ 16 4,.tod 29] (ok1 (bY aC.bD h0)) <|
 .cH [0] (R_.ok1 x0 (IntKind.wrap .i64 (p_level + 1)) v1) fun r0 _ =>
 .iB (!r0.1) (.rt [6] 2 (.inr (.inl (r0.2)))) <|
 .rt [1,2,23,24,25] 2 (.inl (IntKind.wrap .i64 (v0 + 1),r0.2))) <|
 .rt [] 2 (.inr (.inr (v1)))
def aec (R_:RB7) (p_level:Int) (p_p:aC) (v0:Int) (v1:Int) : Option ((Int) ⊕ (Int)) := bT (fun v_=>(Gg R_ p_level p_p v_).den) FU (v0,v1)
def RU (R_:RB7) (p_level:Int) (p_p:aC) : (Int × Int) → St := fun (v0,v1)=>⟨[(1,.i_ p_level),(2,.ptr 0 0),(23,.lf (.rows 25 (p_p.bW.map aC.lf))),(24,.i_ (p_p.bW.length:Int)),(25,.i_ v0)],[.box 3 (.dat [(.int .i64 v1)]),.dead]⟩
def zA (r_:(Int) ⊕ (Int)) : Exit := match r_ with
 | .inl o_=>.ret
 | .inr (o_)=>.exit 0
def qm  (r_:(Int) ⊕ (Int)) : St := match r_ with
 | .inl o_=>⟨[(6,.b_ false)],[.box 3 (.dat [(.int .i64 o_)]),.dead]⟩
 | .inr (o_)=>⟨[],[.box 3 (.dat [(.int .i64 o_)]),.dead]⟩
theorem RV {R_:RB7} {p_level:Int} {p_p:aC} {v0:Int} {v1:Int} {r_:(Int) ⊕ (Int)} (h:aec R_ p_level p_p v0 v1 = some r_) : eF Tryz.f185 1 [1,1,1,0,1,0] (zA r_) (qm r_) (RU R_ p_level p_p (v0,v1)) :=
 dK dA (body := (Code.sub (bodyC Tryz.f185) [1,1,1,0,1,0,0])) (by kernel_rfl) (Gg R_ p_level p_p) (RU R_ p_level p_p) zA qm (fun r_=>by rcases r_ with _ | _ <;> rfl) (fun v_=>by kernel_rfl) h
def aed (R_:RB7) (p_p:aC) (p_level:Int) (p_b0:Int) : Mo (Bool × Int) :=
 .jp Tryz.f185 1 [1,0,0] 9 [1,2,3] 2 (.normal) (fun r_=>⟨[(1,.i_ p_level),(2,.ptr 0 0),(3,.ptr 1 0),(16,.b_ r_)],[.box 3 (.dat [(.int .i64 p_b0)]),.box 43 (.dat (aC.lf1 p_p))]⟩) ⟨[(1,.i_ p_level),(2,.ptr 0 0),(3,.ptr 1 0)],[.box 3 (.dat [(.int .i64 p_b0)]),.box 43 (.dat (aC.lf1 p_p))]⟩ (RS R_ p_b0 p_level p_p).den (jW (by kernel_rfl)) fun r0 _ =>
 .ite (r0) (fun c0 =>
 .say [.br true] (ok1 c0) <|
 .ret ⟨[.kill 1],[0],[],1⟩ (false,p_b0)) fun c0 =>
 .say [.br false,.num p_p.bW.length] (okc c0 (ok1 (ln_ p_p.bW aC.lf))) <|
 .fG (aec R_ p_level p_p 0 (IntKind.wrap .i64 (p_b0 + 1))) (fun o0 h0 =>
 .say [.part [.kill 1] 0 [1,2,23,24,25] 2 (zA (.inl o0)) (qm (.inl o0)).T (qm (.inl o0)).H] (ok1 (RV h0)) <|
 .rt [0] 1 (false,o0)) fun o1 h0 =>
 .say [.part [.kill 1] 0 [1,2,23,24,25] 2 (zA (.inr (o1))) (qm (.inr (o1))).T (qm (.inr (o1))).H] (ok1 (RV h0)) <|
 .rt [0] 1 (true,o1)
theorem aiV (R_:RB7) (p_p:aC) (p_level:Int) (p_b0:Int) : FH (Mo.den (aed R_ p_p p_level p_b0)) 185 [.dat (aC.lf1 p_p),.i_ p_level,.ptr 0 0] [.box 3 (.dat [(.int .i64 p_b0)])] (fun r=>.b_ r.1) (fun r=>[.box 3 (.dat [(.int .i64 r.2)])]) := dW Tryz.func185 (by kernel_rfl) (fun _=>rfl) (by kernel_rfl)
def DN:Nat → RB7
 | 0=>{ m1 := fun p_p p_level p_b0=>none,ok1 := fun _ _ _ _ h=>(by cases h) }
 | n_ + 1=>{ m1 := fun p_p p_level p_b0=>Mo.den (aed (DN n_) p_p p_level p_b0),ok1 := aiV (DN n_) }
def Q40 (p_p:aC) (p_level:Int) (p_b0:Int) : Option (Bool × Int) := (DN FU).m1 p_p p_level p_b0
theorem amO (p_p:aC) (p_level:Int) (p_b0:Int) : FH (Q40 p_p p_level p_b0) 185 [.dat (aC.lf1 p_p),.i_ p_level,.ptr 0 0] [.box 3 (.dat [(.int .i64 p_b0)])] (fun r=>.b_ r.1) (fun r=>[.box 3 (.dat [(.int .i64 r.2)])]) := (DN FU).ok1 p_p p_level p_b0
def aaG (p_n:Int) (p_op:Int) : Mo (Bool) :=
 .iB (p_op == 15) (.rt [1,5,6] 0 (p_op == 15)) <|
 .rt [1,5,6] 0 (p_op == 23)
def aaH (p_n:Int) (p_op:Int) : Mo (Bool) :=
 .iB (p_op == 20) (.rt [1,11] 0 (p_op == 20)) <|
 .iB (p_op == 21) (.rt [1,11] 0 (p_op == 21)) <|
 .rt [1,11] 0 (p_op == 22)
def aee (p_op:Int) (p_n:Int) : Mo (Bool) :=
 .jp Tryz.f303 0 [1,0,1,0,0,1] 1 [1,5,6] 0 (.normal) (fun r_=>⟨[(1,.i_ p_n),(5,.i_ p_op),(6,.b_ r_)],[]⟩) ⟨[(1,.i_ p_n),(5,.i_ p_op),(6,.lf (.bool (p_op == 15)))],[]⟩ (aaG p_n p_op).den (jW (by kernel_rfl)) fun r0 _ =>
 .iB (r0) (.ret (bf 1) (p_n == 1)) <|
 .jp Tryz.f303 0 [1,0,1,0,1,1,0,1] 1 [1,5,11] 0 (.normal) (fun r_=>⟨[(1,.i_ p_n),(11,.b_ r_)],[]⟩) ⟨[(1,.i_ p_n),(5,.i_ p_op),(11,.lf (.bool (p_op == 20)))],[]⟩ (aaH p_n p_op).den (jW (by kernel_rfl)) fun r1 _ =>
 .iB (r1) (.ret (bf 1) (decide ((1:Int) ≤ p_n))) <|
 .ret (bf 1) (p_n == 0)
def aoy (p_op:Int) (p_n:Int) : Option (Bool) := Mo.den (aee p_op p_n)
theorem aiW (p_op:Int) (p_n:Int) : FV (aoy p_op p_n) 303 [.i_ p_op,.i_ p_n] (fun r=>.b_ r) := dU Tryz.func303 (by kernel_rfl) (fun _=>rfl) (by kernel_rfl)
def aef (p_op:Int) : Mo (Bool) :=
 .iG 4002 (p_op == 8) (.ret (bf 1) (true)) <|
 .iG 4006 (p_op == 9) (.ret (bf 1) (true)) <|
 .ret (bf 1) (p_op == 14)
def aoz (p_op:Int) : Option (Bool) := Mo.den (aef p_op)
theorem Oh (p_op:Int) : FV (aoz p_op) 304 [.i_ p_op] (fun r=>.b_ r) := dU Tryz.func304 (by kernel_rfl) (fun _=>rfl) (by kernel_rfl)
def aeg (p_p:aC) : Mo (Bool) :=
 .iG 8003 (p_p.fN == 0) (.ret ⟨[.kill 0],[2],[],1⟩ (true)) <|
 .ret ⟨[.kill 0],[2],[],1⟩ (p_p.fN == 1)
def aeh (p_p:aC) : Mo (Bool) :=
 .iG 12003 (decide ((1:Int) ≤ p_p.fN)) (.ret ⟨[.kill 0],[2],[],1⟩ (decide ((p_p.fN:Int) ≤ 11))) <|
 .ret ⟨[.kill 0],[2],[],1⟩ (false)
def aaI (p_p:aC) : Mo (Bool) :=
 .iG 16003 (decide ((1:Int) ≤ p_p.fN)) (.rt [1,2,34] 1 (decide ((0:Int) ≤ p_p.fM))) <|
 .rt [1,2,34] 1 (false)
def aaJ (p_p:aC) (r0:Bool) : Mo (Bool) :=
 .iG 16008 (r0) (.ret ⟨[.kill 0],[2,41],[],1⟩ (decide ((p_p.fM:Int) < p_p.fN))) <|
 .ret ⟨[.kill 0],[2,41],[],1⟩ (false)
def aaK (r0:Bool) : Mo (Unit) :=
 .rt [2] 1 ()
def akO (p_p:aC) : Mo (Bool) :=
 .iB (p_p.fOp == 10) (.jp Tryz.f305 0 [1,0,1,0,1,0,0] 13 [1] 1 (.normal) (fun r_=>⟨[(2,.b_ r_)],[.dead]⟩) ⟨[(1,.ptr 0 0)],[.box 43 (.dat (aC.lf1 p_p))]⟩ (aeg p_p).den (jW (by kernel_rfl)) fun r0 _ =>
 .ret (bf 1) (r0)) <|
 .iB (p_p.fOp == 11) (.jp Tryz.f305 0 [1,0,1,0,1,1,1,0,0] 17 [1] 1 (.normal) (fun r_=>⟨[(2,.b_ r_)],[.dead]⟩) ⟨[(1,.ptr 0 0)],[.box 43 (.dat (aC.lf1 p_p))]⟩ (aeh p_p).den (jW (by kernel_rfl)) fun r1 _ =>
 .ret (bf 1) (r1)) <|
 .iB (p_p.fOp == 12) (.sj Tryz.f305 0 [1,0,1,0,1,1,1,1,1,0,0] [0,1,2,3,4,5,6,7] 7 8 [1,2] 1 (fun r_=>⟨[(1,.ptr 0 0),(2,.b_ false),(34,.b_ r_)],[.box 43 (.dat (aC.lf1 p_p))]⟩) ⟨[(1,.ptr 0 0),(2,.b_ false)],[.box 43 (.dat (aC.lf1 p_p))]⟩ (aaI p_p).den (sW (by kernel_rfl)) fun r2 _ =>
 .sj Tryz.f305 0 [1,0,1,0,1,1,1,1,1,0,0] [8,9,10,11,12,13,14] 7 7 [1,2,34] 1 (fun r_=>⟨[(2,.b_ false),(41,.b_ r_)],[.dead]⟩) ⟨[(1,.ptr 0 0),(2,.b_ false),(34,.b_ r2)],[.box 43 (.dat (aC.lf1 p_p))]⟩ (aaJ p_p r2).den (sW (by kernel_rfl)) fun r3 _ =>
 .sj Tryz.f305 0 [1,0,1,0,1,1,1,1,1,0,0] [15] 7 1 [2,41] 1 (fun r_=>⟨[(2,.b_ r3)],[.dead]⟩) ⟨[(2,.b_ false),(41,.b_ r3)],[.dead]⟩ (aaK r3).den (sW (by kernel_rfl)) fun r4 _ =>
 .ret (bf 1) (r3)) <|
 .iB (p_p.fOp == 13) (.ret (bf 1) (decide ((0:Int) ≤ p_p.fN))) <|
 .ret (bf 1) (true)
def Q82 (p_p:aC) : Option (Bool) := Mo.den (akO p_p)
theorem amP (p_p:aC) : FV (Q82 p_p) 305 [.dat (aC.lf1 p_p)] (fun r=>.b_ r) := dU Tryz.func305 (by kernel_rfl) (fun _=>rfl) (by kernel_rfl)
def aei (p_op:Int) : Mo (Bool) :=
 .iG 4002 (decide ((2:Int) ≤ p_op)) (.ret (bf 1) (decide ((p_op:Int) ≤ 19))) <|
 .ret (bf 1) (false)
def aoA (p_op:Int) : Option (Bool) := Mo.den (aei p_op)
theorem Yn (p_op:Int) : FV (aoA p_op) 306 [.i_ p_op] (fun r=>.b_ r) := dU Tryz.func306 (by kernel_rfl) (fun _=>rfl) (by kernel_rfl)
def aej (p_op:Int) : Mo (Bool) :=
 .iG 4002 (p_op == 16) (.ret (bf 1) (true)) <|
 .iG 4006 (p_op == 17) (.ret (bf 1) (true)) <|
 .ret (bf 1) (p_op == 19)
def aoB (p_op:Int) : Option (Bool) := Mo.den (aej p_op)
theorem Oi (p_op:Int) : FV (aoB p_op) 308 [.i_ p_op] (fun r=>.b_ r) := dU Tryz.func308 (by kernel_rfl) (fun _=>rfl) (by kernel_rfl)
def aek (p_op:Int) : Mo (Bool) :=
 .iG 4002 (decide ((2:Int) ≤ p_op)) (.iG 4006 (decide ((p_op:Int) ≤ 7)) (.ret (bf 1) (true)) <|
 .cl (Oi p_op) fun r0 _ =>
 .ret (bf 1) (r0)) <|
 .cl (Oi p_op) fun r1 _ =>
 .ret (bf 1) (r1)
def aoC (p_op:Int) : Option (Bool) := Mo.den (aek p_op)
theorem Yo (p_op:Int) : FV (aoC p_op) 307 [.i_ p_op] (fun r=>.b_ r) := dU Tryz.func307 (by kernel_rfl) (fun _=>rfl) (by kernel_rfl)
def ael (p_n:Int) : Mo (Bool) :=
 .iG 4002 (decide ((0:Int) ≤ p_n)) (.ret (bf 1) (decide ((p_n:Int) < 65536))) <|
 .ret (bf 1) (false)
def aoD (p_n:Int) : Option (Bool) := Mo.den (ael p_n)
theorem Oj (p_n:Int) : FV (aoD p_n) 331 [.i_ p_n] (fun r=>.b_ r) := dU Tryz.func331 (by kernel_rfl) (fun _=>rfl) (by kernel_rfl)
def aem (p_p:bG) : Mo (Bool) :=
 .cl (Oj p_p.fX) fun r0 _ =>
 .iG 4003 (r0) (.cl (Oj p_p.fY) fun r1 _ =>
 .ret (bf 1) (r1)) <|
 .ret (bf 1) (false)
def aoE (p_p:bG) : Option (Bool) := Mo.den (aem p_p)
theorem aiX (p_p:bG) : FV (aoE p_p) 332 [.dat (bG.lf1 p_p)] (fun r=>.b_ r) := dU Tryz.func332 (by kernel_rfl) (fun _=>rfl) (by kernel_rfl)
def RX (p_s:fA) : Mo (Bool) :=
 .iB (p_s.aF == 1) (.iG 12002 ((p_s.dB.length:Int) == 2) (.rt [1,4] 1 (p_s.fR == 0)) <|
 .rt [1,4] 1 (false)) <|
 .iB (p_s.aF == 2) (.iG 16002 ((p_s.dB.length:Int) == 1) (.cl (Oj p_s.fR) fun r0 _ =>
 .rt [1,4] 1 (r0)) <|
 .rt [1,4] 1 (false)) <|
 .iB (p_s.aF == 3) (.iG 20002 (decide ((3:Int) ≤ (p_s.dB.length:Int))) (.iG 20006 (decide (((p_s.dB.length:Int) : Int) ≤ 64)) (.rt [1,4] 1 (p_s.fR == 0)) <|
 .rt [1,4] 1 (false)) <|
 .rt [1,4] 1 (false)) <|
 .rt [1,4] 1 (false)
def Gi (p_s:fA) : (Int) → Mo ((Int) ⊕ (Unit ⊕ Unit)) := fun (v0) =>
 .iB (decide ((v0:Int) < (p_s.dB.length:Int))) (.ask (fO p_s.dB v0) fun x0 h0 =>
 .say [.row (bG.lf1 x0)] (ok1 (bY bG.bD h0)) <|
 .cl (aiX x0) fun r0 _ =>
 .iB (!r0) (.rt [2] 1 (.inr (.inl ()))) <|
 .rt [46,47,48] 1 (.inl (IntKind.wrap .i64 (v0 + 1)))) <|
 .rt [] 1 (.inr (.inr (())))
def aen (p_s:fA) (v0:Int) : Option (Unit ⊕ Unit) := bT (fun v_=>(Gi p_s v_).den) FU (v0)
def RY (p_s:fA) : (Int) → St := fun (v0)=>⟨[(46,.lf (.rows 2 (p_s.dB.map bG.lf))),(47,.i_ (p_s.dB.length:Int)),(48,.i_ v0)],[.dead]⟩
def zB (r_:Unit ⊕ Unit) : Exit := match r_ with
 | .inl o_=>.ret
 | .inr (o_)=>.exit 1
def qo  (r_:Unit ⊕ Unit) : St := match r_ with
 | .inl o_=>⟨[(2,.i_ 18)],[.dead]⟩
 | .inr (o_)=>⟨[],[.dead]⟩
theorem RZ {p_s:fA} {v0:Int} {r_:Unit ⊕ Unit} (h:aen p_s v0 = some r_) : eF Tryz.f309 0 [1,1,1,1,1,0,1,0] (zB r_) (qo r_) (RY p_s (v0)) :=
 dK dA (body := (Code.sub (bodyC Tryz.f309) [1,1,1,1,1,0,1,0,0])) (by kernel_rfl) (Gi p_s) (RY p_s) zB qo (fun r_=>by rcases r_ with _ | _ <;> rfl) (fun v_=>by kernel_rfl) h
def akP (p_s:fA) : Mo (Int) :=
 .say [.num p_s.dB.length] (ok1 (ln_ p_s.dB bG.lf)) <|
 .jp Tryz.f309 0 [1,1,1,0,1] 6 [1,3,4,11] 1 (.normal) (fun r_=>⟨[(1,.ptr 0 0),(4,.b_ r_)],[.box 37 (.dat (fA.lf1 p_s))]⟩) ⟨[(1,.ptr 0 0),(3,.i_ (p_s.dB.length:Int)),(4,.b_ false),(11,.i_ p_s.aF)],[.box 37 (.dat (fA.lf1 p_s))]⟩ (RX p_s).den (jW (by kernel_rfl)) fun r0 _ =>
 .ite (!r0) (fun c0 =>
 .say [.br true] (ok1 c0) <|
 .ret (bf 1) (18)) fun c0 =>
 .say [.br false,.num p_s.dB.length] (okc c0 (ok1 (ln_ p_s.dB bG.lf))) <|
 .fG (aen p_s 0) (fun o0 h0 =>
 .say [.part [.kill 0] 0 [46,47,48] 1 (zB (.inl o0)) (qo (.inl o0)).T (qo (.inl o0)).H] (ok1 (RZ h0)) <|
 .ret (bf 1) (18)) fun o1 h0 =>
 .say [.part [.kill 0] 0 [46,47,48] 1 (zB (.inr (o1))) (qo (.inr (o1))).T (qo (.inr (o1))).H] (ok1 (RZ h0)) <|
 .ret (bf 1) (0)
def Q59 (p_s:fA) : Option (Int) := Mo.den (akP p_s)
theorem amQ (p_s:fA) : FV (Q59 p_s) 309 [.dat (fA.lf1 p_s)] (fun r=>.i_ r) := dU Tryz.func309 (by kernel_rfl) (fun _=>rfl) (by kernel_rfl)
def aeo (p_v:aj) : Mo (Bool) :=
 .iG 4003 (p_v.aF == 0) (.rt [1,2,10] 1 (p_v.eU == 0)) <|
 .rt [1,2,10] 1 (false)
def aep (p_v:aj) (r0:Bool) : Mo (Bool) :=
 .iG 4008 (r0) (.rt [1,2,15] 1 (decide ((p_v.fText:ByteArray) = (⟨#[]⟩ : ByteArray)))) <|
 .rt [1,2,15] 1 (false)
def aaL (p_v:aj) (r0:Bool) : Mo (Bool) :=
 .ite (r0) (fun c0 =>
 .say [.gd 4013 true,.num p_v.aU.length] (okc c0 (ok1 (ln_ p_v.aU aj.lf))) <|
 .rt [1,2,21] 1 ((p_v.aU.length:Int) == 0)) fun c0 =>
 .say [.gd 4013 false] (ok1 c0) <|
 .rt [1,2,21] 1 (false)
def aaM (p_v:aj) (r0:Bool) : Mo (Bool) :=
 .ite (r0) (fun c0 =>
 .say [.gd 4019 true,.num p_v.aX.length] (okc c0 (ok1 (ln_ p_v.aX aB.lf))) <|
 .ret ⟨[.kill 0],[2,27],[],1⟩ ((p_v.aX.length:Int) == 0)) fun c0 =>
 .say [.gd 4019 false] (ok1 c0) <|
 .ret ⟨[.kill 0],[2,27],[],1⟩ (false)
def aaN (r0:Bool) : Mo (Unit) :=
 .rt [2] 1 ()
def akQ (p_v:aj) : Mo (Bool) :=
 .sj Tryz.f333 0 [1,0] [0,1,2,3,4,5,6,7] 1 8 [1,2] 1 (fun r_=>⟨[(1,.ptr 0 0),(2,.b_ false),(10,.b_ r_)],[.box 25 (.dat (aj.lf1 p_v))]⟩) ⟨[(1,.ptr 0 0),(2,.b_ false)],[.box 25 (.dat (aj.lf1 p_v))]⟩ (aeo p_v).den (sW (by kernel_rfl)) fun r0 _ =>
 .sj Tryz.f333 0 [1,0] [8,9,10,11,12] 1 5 [1,2,10] 1 (fun r_=>⟨[(1,.ptr 0 0),(2,.b_ false),(15,.b_ r_)],[.box 25 (.dat (aj.lf1 p_v))]⟩) ⟨[(1,.ptr 0 0),(2,.b_ false),(10,.b_ r0)],[.box 25 (.dat (aj.lf1 p_v))]⟩ (aep p_v r0).den (sW (by kernel_rfl)) fun r1 _ =>
 .sj Tryz.f333 0 [1,0] [13,14,15,16,17,18] 1 6 [1,2,15] 1 (fun r_=>⟨[(1,.ptr 0 0),(2,.b_ false),(21,.b_ r_)],[.box 25 (.dat (aj.lf1 p_v))]⟩) ⟨[(1,.ptr 0 0),(2,.b_ false),(15,.b_ r1)],[.box 25 (.dat (aj.lf1 p_v))]⟩ (aaL p_v r1).den (sW (by kernel_rfl)) fun r2 _ =>
 .sj Tryz.f333 0 [1,0] [19,20,21,22,23,24] 1 6 [1,2,21] 1 (fun r_=>⟨[(2,.b_ false),(27,.b_ r_)],[.dead]⟩) ⟨[(1,.ptr 0 0),(2,.b_ false),(21,.b_ r2)],[.box 25 (.dat (aj.lf1 p_v))]⟩ (aaM p_v r2).den (sW (by kernel_rfl)) fun r3 _ =>
 .sj Tryz.f333 0 [1,0] [25] 1 1 [2,27] 1 (fun r_=>⟨[(2,.b_ r3)],[.dead]⟩) ⟨[(2,.b_ false),(27,.b_ r3)],[.dead]⟩ (aaN r3).den (sW (by kernel_rfl)) fun r4 _ =>
 .ret (bf 1) (r3)
def Q77 (p_v:aj) : Option (Bool) := Mo.den (akQ p_v)
theorem aer (p_v:aj) : FV (Q77 p_v) 333 [.dat (aj.lf1 p_v)] (fun r=>.b_ r) := dU Tryz.func333 (by kernel_rfl) (fun _=>rfl) (by kernel_rfl)
def aaO (p_op:Int) : Mo (Bool) :=
 .iG 4002 (p_op == 10) (.rt [0,2,8] 0 (true)) <|
 .rt [0,2,8] 0 (p_op == 11)
def aaP (p_op:Int) (r0:Bool) : Mo (Bool) :=
 .iG 4006 (r0) (.rt [0,2,12] 0 (true)) <|
 .rt [0,2,12] 0 (p_op == 12)
def Wp (p_op:Int) (r0:Bool) : Mo (Bool) :=
 .iG 4010 (r0) (.rt [2,16] 0 (true)) <|
 .rt [2,16] 0 (p_op == 13)
def Wq (r0:Bool) : Mo (Unit) :=
 .rt [2] 0 ()
def aes (p_op:Int) : Mo (Bool) :=
 .sj Tryz.f334 0 [1,0] [0,1,2,3,4,5] 1 6 [0,2] 0 (fun r_=>⟨[(0,.i_ p_op),(2,.b_ false),(8,.b_ r_)],[]⟩) ⟨[(0,.i_ p_op),(2,.b_ false)],[]⟩ (aaO p_op).den (sW (by kernel_rfl)) fun r0 _ =>
 .sj Tryz.f334 0 [1,0] [6,7,8,9] 1 4 [0,2,8] 0 (fun r_=>⟨[(0,.i_ p_op),(2,.b_ false),(12,.b_ r_)],[]⟩) ⟨[(0,.i_ p_op),(2,.b_ false),(8,.b_ r0)],[]⟩ (aaP p_op r0).den (sW (by kernel_rfl)) fun r1 _ =>
 .sj Tryz.f334 0 [1,0] [10,11,12,13] 1 4 [0,2,12] 0 (fun r_=>⟨[(2,.b_ false),(16,.b_ r_)],[]⟩) ⟨[(0,.i_ p_op),(2,.b_ false),(12,.b_ r1)],[]⟩ (Wp p_op r1).den (sW (by kernel_rfl)) fun r2 _ =>
 .sj Tryz.f334 0 [1,0] [14] 1 1 [2,16] 0 (fun r_=>⟨[(2,.b_ r2)],[]⟩) ⟨[(2,.b_ false),(16,.b_ r2)],[]⟩ (Wq r2).den (sW (by kernel_rfl)) fun r3 _ =>
 .ret (bf 1) (r2)
def aoF (p_op:Int) : Option (Bool) := Mo.den (aes p_op)
theorem aiY (p_op:Int) : FV (aoF p_op) 334 [.i_ p_op] (fun r=>.b_ r) := dU Tryz.func334 (by kernel_rfl) (fun _=>rfl) (by kernel_rfl)
def aeu (p_e:aG) : Mo (Bool) :=
 .ite (p_e.fOp == 0) (fun c0 =>
 .say [.gd 4003 true,.num p_e.dh.length] (okc c0 (ok1 (ln_ p_e.dh lfS))) <|
 .rt [1,2,11] 1 ((p_e.dh.length:Int) == 0)) fun c0 =>
 .say [.gd 4003 false] (ok1 c0) <|
 .rt [1,2,11] 1 (false)
def aev (p_e:aG) (r0:Bool) : Mo (Bool) :=
 .iG 4009 (r0) (.rt [1,2,16] 1 (decide ((p_e.fName:ByteArray) = (⟨#[]⟩ : ByteArray)))) <|
 .rt [1,2,16] 1 (false)
def aaQ (p_e:aG) (r0:Bool) : Mo (Bool) :=
 .ite (r0) (fun c0 =>
 .say [.gd 4014 true,.num p_e.fB.length] (okc c0 (ok1 (ln_ p_e.fB lfS))) <|
 .rt [1,2,22] 1 ((p_e.fB.length:Int) == 0)) fun c0 =>
 .say [.gd 4014 false] (ok1 c0) <|
 .rt [1,2,22] 1 (false)
def aaR (p_e:aG) (r0:Bool) : Mo (Bool) :=
 .iG 4020 (r0) (.cl (aer p_e.fArg) fun r1 _ =>
 .rt [1,2,27] 1 (r1)) <|
 .rt [1,2,27] 1 (false)
def aaS (p_e:aG) (r0:Bool) : Mo (Bool) :=
 .iG 4025 (r0) (.rt [1,2,32] 1 (p_e.fN == 0)) <|
 .rt [1,2,32] 1 (false)
def aaT (p_e:aG) (r0:Bool) : Mo (Bool) :=
 .ite (r0) (fun c0 =>
 .say [.gd 4030 true,.num p_e.bW.length] (okc c0 (ok1 (ln_ p_e.bW aG.lf))) <|
 .ret ⟨[.kill 0],[2,38],[],1⟩ ((p_e.bW.length:Int) == 0)) fun c0 =>
 .say [.gd 4030 false] (ok1 c0) <|
 .ret ⟨[.kill 0],[2,38],[],1⟩ (false)
def aaU (r0:Bool) : Mo (Unit) :=
 .rt [2] 1 ()
def akR (p_e:aG) : Mo (Bool) :=
 .sj Tryz.f335 0 [1,0] [0,1,2,3,4,5,6,7,8] 1 9 [1,2] 1 (fun r_=>⟨[(1,.ptr 0 0),(2,.b_ false),(11,.b_ r_)],[.box 40 (.dat (aG.lf1 p_e))]⟩) ⟨[(1,.ptr 0 0),(2,.b_ false)],[.box 40 (.dat (aG.lf1 p_e))]⟩ (aeu p_e).den (sW (by kernel_rfl)) fun r0 _ =>
 .sj Tryz.f335 0 [1,0] [9,10,11,12,13] 1 5 [1,2,11] 1 (fun r_=>⟨[(1,.ptr 0 0),(2,.b_ false),(16,.b_ r_)],[.box 40 (.dat (aG.lf1 p_e))]⟩) ⟨[(1,.ptr 0 0),(2,.b_ false),(11,.b_ r0)],[.box 40 (.dat (aG.lf1 p_e))]⟩ (aev p_e r0).den (sW (by kernel_rfl)) fun r1 _ =>
 .sj Tryz.f335 0 [1,0] [14,15,16,17,18,19] 1 6 [1,2,16] 1 (fun r_=>⟨[(1,.ptr 0 0),(2,.b_ false),(22,.b_ r_)],[.box 40 (.dat (aG.lf1 p_e))]⟩) ⟨[(1,.ptr 0 0),(2,.b_ false),(16,.b_ r1)],[.box 40 (.dat (aG.lf1 p_e))]⟩ (aaQ p_e r1).den (sW (by kernel_rfl)) fun r2 _ =>
 .sj Tryz.f335 0 [1,0] [20,21,22,23,24] 1 5 [1,2,22] 1 (fun r_=>⟨[(1,.ptr 0 0),(2,.b_ false),(27,.b_ r_)],[.box 40 (.dat (aG.lf1 p_e))]⟩) ⟨[(1,.ptr 0 0),(2,.b_ false),(22,.b_ r2)],[.box 40 (.dat (aG.lf1 p_e))]⟩ (aaR p_e r2).den (sW (by kernel_rfl)) fun r3 _ =>
 .sj Tryz.f335 0 [1,0] [25,26,27,28,29] 1 5 [1,2,27] 1 (fun r_=>⟨[(1,.ptr 0 0),(2,.b_ false),(32,.b_ r_)],[.box 40 (.dat (aG.lf1 p_e))]⟩) ⟨[(1,.ptr 0 0),(2,.b_ false),(27,.b_ r3)],[.box 40 (.dat (aG.lf1 p_e))]⟩ (aaS p_e r3).den (sW (by kernel_rfl)) fun r4 _ =>
 .sj Tryz.f335 0 [1,0] [30,31,32,33,34,35] 1 6 [1,2,32] 1 (fun r_=>⟨[(2,.b_ false),(38,.b_ r_)],[.dead]⟩) ⟨[(1,.ptr 0 0),(2,.b_ false),(32,.b_ r4)],[.box 40 (.dat (aG.lf1 p_e))]⟩ (aaT p_e r4).den (sW (by kernel_rfl)) fun r5 _ =>
 .sj Tryz.f335 0 [1,0] [36] 1 1 [2,38] 1 (fun r_=>⟨[(2,.b_ r5)],[.dead]⟩) ⟨[(2,.b_ false),(38,.b_ r5)],[.dead]⟩ (aaU r5).den (sW (by kernel_rfl)) fun r6 _ =>
 .ret (bf 1) (r5)
def Q56 (p_e:aG) : Option (Bool) := Mo.den (akR p_e)
theorem amR (p_e:aG) : FV (Q56 p_e) 335 [.dat (aG.lf1 p_e)] (fun r=>.b_ r) := dU Tryz.func335 (by kernel_rfl) (fun _=>rfl) (by kernel_rfl)
def aew (p_p:aC) : Mo (Bool) :=
 .cl (Yn p_p.fOp) fun r0 _ =>
 .ite (!r0) (fun c0 =>
 .say [.gd 6004 true,.num p_p.dh.length] (okc c0 (ok1 (ln_ p_p.dh lfS))) <|
 .rt [1,3] 1 (decide ((0:Int) < (p_p.dh.length:Int)))) fun c0 =>
 .say [.gd 6004 false] (ok1 c0) <|
 .rt [1,3] 1 (false)
def aex (p_p:aC) : Mo (Bool) :=
 .cl (Yo p_p.fOp) fun r0 _ =>
 .iG 8004 (!r0) (.cl (aer p_p.fArg) fun r1 _ =>
 .rt [1,14] 1 (!r1)) <|
 .rt [1,14] 1 (false)
def aaV (p_p:aC) : Mo (Bool) :=
 .cl (Oh p_p.fOp) fun r0 _ =>
 .ite (!r0) (fun c0 =>
 .say [.gd 10004 true,.num p_p.fArgs.length] (okc c0 (ok1 (ln_ p_p.fArgs aj.lf))) <|
 .rt [1,25] 1 (decide ((0:Int) < (p_p.fArgs.length:Int)))) fun c0 =>
 .say [.gd 10004 false] (ok1 c0) <|
 .rt [1,25] 1 (false)
def aaW (p_p:aC) : Mo (Bool) :=
 .cl (aiY p_p.fOp) fun r0 _ =>
 .iG 12004 (!r0) (.rt [1,36] 1 (p_p.fN != 0)) <|
 .rt [1,36] 1 (false)
def aaX (p_p:aC) : Mo (Bool) :=
 .iG 14003 (p_p.fOp != 12) (.rt [1,46] 1 (p_p.fM != 0)) <|
 .rt [1,46] 1 (false)
def aaY (p_p:aC) : Mo (Bool) :=
 .iG 16003 (p_p.fOp != 18) (.ite (p_p.dH.aF != 0) (fun c0 =>
 .say [.gd 16008 true] (ok1 c0) <|
 .rt [1,77] 1 (true)) fun c0 =>
 .say [.gd 16008 false,.num p_p.dH.dB.length] (okc c0 (ok1 (ln_ p_p.dH.dB bG.lf))) <|
 .iG 16015 (decide ((0:Int) < (p_p.dH.dB.length:Int))) (.rt [1,77] 1 (true)) <|
 .rt [1,77] 1 (p_p.dH.fR != 0)) <|
 .rt [1,77] 1 (false)
def aaZ (p_p:aC) (r0:Bool) : Mo (Unit) :=
 .rt [1,55] 1 ()
def aa0 (p_p:aC) : Mo (Bool) :=
 .iG 18003 (p_p.fOp != 24) (.cl (amR p_p.fExpr) fun r0 _ =>
 .ret ⟨[.kill 0],[78],[],1⟩ (!r0)) <|
 .ret ⟨[.kill 0],[78],[],1⟩ (false)
def KZ (p_p:aC) : Mo (Unit ⊕ Unit) :=
 .jp Tryz.f310 0 [1,0,0,0] 11 [1] 1 (.normal) (fun r_=>⟨[(1,.ptr 0 0),(3,.b_ r_)],[.box 43 (.dat (aC.lf1 p_p))]⟩) ⟨[(1,.ptr 0 0)],[.box 43 (.dat (aC.lf1 p_p))]⟩ (aew p_p).den (jW (by kernel_rfl)) fun r0 _ =>
 .iB (r0) (.ret ⟨[.kill 0],[],[],1⟩ (.inl ())) <|
 .jp Tryz.f310 0 [1,0,0,1,1,0] 13 [1] 1 (.normal) (fun r_=>⟨[(1,.ptr 0 0),(14,.b_ r_)],[.box 43 (.dat (aC.lf1 p_p))]⟩) ⟨[(1,.ptr 0 0)],[.box 43 (.dat (aC.lf1 p_p))]⟩ (aex p_p).den (jW (by kernel_rfl)) fun r1 _ =>
 .iB (r1) (.ret ⟨[.kill 0],[],[],1⟩ (.inl ())) <|
 .jp Tryz.f310 0 [1,0,0,1,1,1,1,0] 15 [1] 1 (.normal) (fun r_=>⟨[(1,.ptr 0 0),(25,.b_ r_)],[.box 43 (.dat (aC.lf1 p_p))]⟩) ⟨[(1,.ptr 0 0)],[.box 43 (.dat (aC.lf1 p_p))]⟩ (aaV p_p).den (jW (by kernel_rfl)) fun r2 _ =>
 .iB (r2) (.ret ⟨[.kill 0],[],[],1⟩ (.inl ())) <|
 .jp Tryz.f310 0 [1,0,0,1,1,1,1,1,1,0] 17 [1] 1 (.normal) (fun r_=>⟨[(1,.ptr 0 0),(36,.b_ r_)],[.box 43 (.dat (aC.lf1 p_p))]⟩) ⟨[(1,.ptr 0 0)],[.box 43 (.dat (aC.lf1 p_p))]⟩ (aaW p_p).den (jW (by kernel_rfl)) fun r3 _ =>
 .iB (r3) (.ret ⟨[.kill 0],[],[],1⟩ (.inl ())) <|
 .jp Tryz.f310 0 [1,0,0,1,1,1,1,1,1,1,1,0] 19 [1] 1 (.normal) (fun r_=>⟨[(1,.ptr 0 0),(46,.b_ r_)],[.box 43 (.dat (aC.lf1 p_p))]⟩) ⟨[(1,.ptr 0 0)],[.box 43 (.dat (aC.lf1 p_p))]⟩ (aaX p_p).den (jW (by kernel_rfl)) fun r4 _ =>
 .iB (r4) (.ret ⟨[.kill 0],[],[],1⟩ (.inl ())) <|
 .sj Tryz.f310 0 [1,0,0,1,1,1,1,1,1,1,1,1,1,0] [0,1,2,3,4,5,6,7,8,9,10,11,12,13,14,15,16,17,18,19,20,21] 7 22 [1] 1 (fun r_=>⟨[(1,.ptr 0 0),(77,.b_ r_)],[.box 43 (.dat (aC.lf1 p_p))]⟩) ⟨[(1,.ptr 0 0)],[.box 43 (.dat (aC.lf1 p_p))]⟩ (aaY p_p).den (sW (by kernel_rfl)) fun r5 _ =>
 .sj Tryz.f310 0 [1,0,0,1,1,1,1,1,1,1,1,1,1,0] [22] 7 1 [1,77] 1 (fun r_=>⟨[(1,.ptr 0 0),(55,.b_ r5)],[.box 43 (.dat (aC.lf1 p_p))]⟩) ⟨[(1,.ptr 0 0),(77,.b_ r5)],[.box 43 (.dat (aC.lf1 p_p))]⟩ (aaZ p_p r5).den (sW (by kernel_rfl)) fun r6 _ =>
 .iB (r5) (.ret ⟨[.kill 0],[],[],1⟩ (.inl ())) <|
 .jp Tryz.f310 0 [1,0,0,1,1,1,1,1,1,1,1,1,1,1,1,0] 23 [1] 1 (.normal) (fun r_=>⟨[(78,.b_ r_)],[.dead]⟩) ⟨[(1,.ptr 0 0)],[.box 43 (.dat (aC.lf1 p_p))]⟩ (aa0 p_p).den (jW (by kernel_rfl)) fun r7 _ =>
 .iB (r7) (.rt [] 1 (.inl ())) <|
 .rt [2] 1 (.inr (()))
def Yp (p_p:aC) : Option (Unit ⊕ Unit) := Mo.den (KZ p_p)
def vV (r_:Unit ⊕ Unit) : Exit := match r_ with
 | .inl o_=>.normal
 | .inr (o_)=>.ret
def vW  (r_:Unit ⊕ Unit) : St := match r_ with
 | .inl o_=>⟨[],[.dead]⟩
 | .inr (o_)=>⟨[(2,.b_ true)],[.dead]⟩
theorem La {p_p:aC} {r_:Unit ⊕ Unit} (h:Yp p_p = some r_) : eF Tryz.f310 0 [1,0] (vV r_) (vW r_) ⟨[(1,.ptr 0 0)],[.box 43 (.dat (aC.lf1 p_p))]⟩ :=
 iE dA (KZ p_p) vV vW (by kernel_rfl) h
def akS (p_p:aC) : Mo (Bool) :=
 .fG (Yp p_p) (fun o0 h0 =>
 .say [.pt_ 6 [1] 1 (vV (.inl o0)) (vW (.inl o0))] (ok1 (La h0)) <|
 .ret (bf 1) (false)) fun o1 h0 =>
 .say [.pt_ 6 [1] 1 (vV (.inr (o1))) (vW (.inr (o1)))] (ok1 (La h0)) <|
 .ret (bf 1) (true)
def Q29 (p_p:aC) : Option (Bool) := Mo.den (akS p_p)
theorem amS (p_p:aC) : FV (Q29 p_p) 310 [.dat (aC.lf1 p_p)] (fun r=>.b_ r) := dU Tryz.func310 (by kernel_rfl) (fun _=>rfl) (by kernel_rfl)
def aa1 (p_op:Int) : Mo (Bool) :=
 .iB (p_op == 1) (.rt [3,4] 0 (p_op == 1)) <|
 .iB (p_op == 2) (.rt [3,4] 0 (p_op == 2)) <|
 .rt [3,4] 0 (p_op == 3)
def aa2 (p_op:Int) : Mo (Bool) :=
 .iB (p_op == 18) (.rt [3,8] 0 (p_op == 18)) <|
 .iB (p_op == 22) (.rt [3,8] 0 (p_op == 22)) <|
 .iB (p_op == 23) (.rt [3,8] 0 (p_op == 23)) <|
 .iB (p_op == 24) (.rt [3,8] 0 (p_op == 24)) <|
 .iB (p_op == 26) (.rt [3,8] 0 (p_op == 26)) <|
 .iB (p_op == 30) (.rt [3,8] 0 (p_op == 30)) <|
 .iB (p_op == 31) (.rt [3,8] 0 (p_op == 31)) <|
 .rt [3,8] 0 (p_op == 36)
def Ws (p_op:Int) : Mo (Bool) :=
 .iB (p_op == 32) (.rt [3,17] 0 (p_op == 32)) <|
 .rt [3,17] 0 (p_op == 33)
def Wu (p_op:Int) : Mo (Bool) :=
 .iB (p_op == 19) (.rt [3,20] 0 (p_op == 19)) <|
 .rt [3,20] 0 (p_op == 25)
def Wv (p_op:Int) : Mo (Bool) :=
 .iB (p_op == 4) (.rt [3,23] 0 (p_op == 4)) <|
 .iB (p_op == 6) (.rt [3,23] 0 (p_op == 6)) <|
 .iB (p_op == 16) (.rt [3,23] 0 (p_op == 16)) <|
 .iB (p_op == 17) (.rt [3,23] 0 (p_op == 17)) <|
 .iB (p_op == 21) (.rt [3,23] 0 (p_op == 21)) <|
 .iB (p_op == 29) (.rt [3,23] 0 (p_op == 29)) <|
 .rt [3,23] 0 (p_op == 37)
def aey (p_op:Int) : Mo (Int) :=
 .jp Tryz.f343 0 [1,0,1,0,0,1] 1 [3,4] 0 (.normal) (fun r_=>⟨[(3,.i_ p_op),(4,.b_ r_)],[]⟩) ⟨[(3,.i_ p_op),(4,.lf (.bool (p_op == 1)))],[]⟩ (aa1 p_op).den (jW (by kernel_rfl)) fun r0 _ =>
 .iB (r0) (.ret (bf 1) (0)) <|
 .jp Tryz.f343 0 [1,0,1,0,1,1,0,1] 1 [3,8] 0 (.normal) (fun r_=>⟨[(3,.i_ p_op),(8,.b_ r_)],[]⟩) ⟨[(3,.i_ p_op),(8,.lf (.bool (p_op == 18)))],[]⟩ (aa2 p_op).den (jW (by kernel_rfl)) fun r1 _ =>
 .iB (r1) (.ret (bf 1) (1)) <|
 .jp Tryz.f343 0 [1,0,1,0,1,1,1,1,0,1] 1 [3,17] 0 (.normal) (fun r_=>⟨[(3,.i_ p_op),(17,.b_ r_)],[]⟩) ⟨[(3,.i_ p_op),(17,.lf (.bool (p_op == 32)))],[]⟩ (Ws p_op).den (jW (by kernel_rfl)) fun r2 _ =>
 .iB (r2) (.ret (bf 1) (3)) <|
 .jp Tryz.f343 0 [1,0,1,0,1,1,1,1,1,1,0,1] 1 [3,20] 0 (.normal) (fun r_=>⟨[(3,.i_ p_op),(20,.b_ r_)],[]⟩) ⟨[(3,.i_ p_op),(20,.lf (.bool (p_op == 19)))],[]⟩ (Wu p_op).den (jW (by kernel_rfl)) fun r3 _ =>
 .iB (r3) (.ret (bf 1) (4)) <|
 .jp Tryz.f343 0 [1,0,1,0,1,1,1,1,1,1,1,1,0,1] 1 [3,23] 0 (.normal) (fun r_=>⟨[(3,.i_ p_op),(23,.b_ r_)],[]⟩) ⟨[(3,.i_ p_op),(23,.lf (.bool (p_op == 4)))],[]⟩ (Wv p_op).den (jW (by kernel_rfl)) fun r4 _ =>
 .iB (r4) (.ret (bf 1) (5)) <|
 .iB (p_op == 35) (.ret (bf 1) (6)) <|
 .iB (p_op == 34) (.ret (bf 1) (7)) <|
 .ret (bf 1) (2)
def amT (p_op:Int) : Option (Int) := Mo.den (aey p_op)
theorem Yq (p_op:Int) : FV (amT p_op) 343 [.i_ p_op] (fun r=>.i_ r) := dU Tryz.func343 (by kernel_rfl) (fun _=>rfl) (by kernel_rfl)
def aa3 (p_n:Int) (p_shape:Int) : Mo (Bool) :=
 .iB (p_shape == 2) (.rt [1,5,14] 0 (p_shape == 2)) <|
 .rt [1,5,14] 0 (p_shape == 3)
def aez (p_shape:Int) (p_n:Int) : Mo (Bool) :=
 .iB (p_shape == 0) (.ret (bf 1) (p_n == 0)) <|
 .iB (p_shape == 1) (.ret (bf 1) (p_n == 1)) <|
 .jp Tryz.f342 0 [1,0,1,0,1,1,1,1,0,1] 1 [1,5,14] 0 (.normal) (fun r_=>⟨[(1,.i_ p_n),(5,.i_ p_shape),(14,.b_ r_)],[]⟩) ⟨[(1,.i_ p_n),(5,.i_ p_shape),(14,.lf (.bool (p_shape == 2)))],[]⟩ (aa3 p_n p_shape).den (jW (by kernel_rfl)) fun r0 _ =>
 .iB (r0) (.ret (bf 1) (p_n == 2)) <|
 .iB (p_shape == 4) (.ret (bf 1) (p_n == 3)) <|
 .iB (p_shape == 7) (.ret (bf 1) (decide ((1:Int) ≤ p_n))) <|
 .ret (bf 1) (true)
def amU (p_shape:Int) (p_n:Int) : Option (Bool) := Mo.den (aez p_shape p_n)
theorem aiZ (p_shape:Int) (p_n:Int) : FV (amU p_shape p_n) 342 [.i_ p_shape,.i_ p_n] (fun r=>.b_ r) := dU Tryz.func342 (by kernel_rfl) (fun _=>rfl) (by kernel_rfl)
def aeA (p_s:ByteArray) : Mo (Bool) :=
 .say [.at_ 4 2,.MZ 0 ([p_s].map lfS)] (ok1 (by simp [lfS] : [p_s].map lfS = [(lfS p_s)])) <|
 .cl (F7 [p_s]) fun r0 _ =>
 .ret (bf 1) (r0)
def aoG (p_s:ByteArray) : Option (Bool) := Mo.den (aeA p_s)
theorem Yr (p_s:ByteArray) : FV (aoG p_s) 344 [.lf (.str p_s)] (fun r=>.b_ r) := dU Tryz.func344 (by kernel_rfl) (fun _=>rfl) (by kernel_rfl)
def Si (m4094:List (ByteArray × Bool)) (p_l:List ByteArray) (v0:Int) (x0:ByteArray) : Mo (Bool) :=
 .cl (Yr x0) fun r0 _ =>
 .ite (!r0) (fun c0 =>
 .say [.gd 12003 true] (ok1 c0) <|
 .rt [3,5,7,8,9,20] 1 (true)) fun c0 =>
 .say [.gd 12003 false,.row [.bool (sO m4094 x0 false)]] (okc c0 (okc (rfl:Tryz.prog = Tryz.prog) (ok1 (Fj _ _ _:lN (m4094.map mvB) x0 (.bool false) = (.bool (sO m4094 x0 false)))))) <|
 .rt [3,5,7,8,9,20] 1 (sO m4094 x0 false)
def Gj (p_l:List ByteArray) : (Int × (List (ByteArray × Bool))) → Mo ((Int × (List (ByteArray × Bool))) ⊕ (Unit ⊕ Unit)) := fun (v0,m4094) =>
 .iB (decide ((v0:Int) < (p_l.length:Int))) (.ask (fO p_l v0) fun x0 h0 =>
 .say [.row (lfS x0)] (ok1 (bY lS_ h0)) <|
 .jp Tryz.f345 0 [1,1,0,1,0,0,1,1,0,0,1,0,0] 17 [3,5,7,8,9] 1 (.normal) (fun r_=>⟨[(3,.mp 0),(5,.lf (.str x0)),(7,.lf (.rows 1 (p_l.map lfS))),(8,.i_ (p_l.length:Int)),(9,.i_ v0),(20,.b_ r_)],[.map Tryz.prog 9 4 (m4094.map mvB)]⟩) ⟨[(3,.mp 0),(5,.lf (.str x0)),(7,.lf (.rows 1 (p_l.map lfS))),(8,.i_ (p_l.length:Int)),(9,.i_ v0)],[.map Tryz.prog 9 4 (m4094.map mvB)]⟩ (Si m4094 p_l v0 x0).den (jW (by kernel_rfl)) fun r0 _ =>
 .ite (r0) (fun c0 =>
 .say [.br true] (ok1 c0) <|
 .ret ⟨[.kill 0],[2],[],1⟩ (.inr (.inl ()))) fun c0 =>
 .say [.br false] (okc c0 (ok1 (rfl:Tryz.prog = Tryz.prog))) <|
 .grd (m4094.length < maxLen) fun h1 =>
 .say [] (ok1 (by simpa using h1:(m4094.map mvB).length < maxLen)) <|
 .rt [3,7,8,9] 1 (.inl (IntKind.wrap .i64 (v0 + 1),(x0,true) :: m4094))) <|
 .ret ⟨[.kill 0],[],[],1⟩ (.inr (.inr (())))
def aeB (p_l:List ByteArray) (v0:Int) (m4094:List (ByteArray × Bool)) : Option (Unit ⊕ Unit) := bT (fun v_=>(Gj p_l v_).den) FU (v0,m4094)
def Sj (p_l:List ByteArray) : (Int × (List (ByteArray × Bool))) → St := fun (v0,m4094)=>⟨[(3,.mp 0),(7,.lf (.rows 1 (p_l.map lfS))),(8,.i_ (p_l.length:Int)),(9,.i_ v0)],[.map Tryz.prog 9 4 (m4094.map mvB)]⟩
def zC (r_:Unit ⊕ Unit) : Exit := match r_ with
 | .inl o_=>.ret
 | .inr (o_)=>.exit 0
def zD  (r_:Unit ⊕ Unit) : St := match r_ with
 | .inl o_=>⟨[(2,.b_ false)],[.dead]⟩
 | .inr (o_)=>⟨[],[.dead]⟩
theorem Sl {p_l:List ByteArray} {v0:Int} {m4094:List (ByteArray × Bool)} {r_:Unit ⊕ Unit} (h:aeB p_l v0 m4094 = some r_) : eF Tryz.f345 0 [1,1,0,1,0] (zC r_) (zD r_) (Sj p_l (v0,m4094)) :=
 dK dA (body := (Code.sub (bodyC Tryz.f345) [1,1,0,1,0,0])) (by kernel_rfl) (Gj p_l) (Sj p_l) zC zD (fun r_=>by rcases r_ with _ | _ <;> rfl) (fun v_=>by kernel_rfl) h
def akT (p_l:List ByteArray) : Mo (Bool) :=
 .say [.num p_l.length] (ok1 (ln_ p_l lfS)) <|
 .fG (aeB p_l 0 ([] : List (ByteArray × Bool))) (fun o0 h0 =>
 .say [.pt_ 0 [3,7,8,9] 1 (zC (.inl o0)) (zD (.inl o0))] (ok1 (Sl h0)) <|
 .ret (bf 1) (false)) fun o1 h0 =>
 .say [.pt_ 0 [3,7,8,9] 1 (zC (.inr (o1))) (zD (.inr (o1)))] (ok1 (Sl h0)) <|
 .ret (bf 1) (true)
def Q38 (p_l:List ByteArray) : Option (Bool) := Mo.den (akT p_l)
theorem amV (p_l:List ByteArray) : FV (Q38 p_l) 345 [.lf (.rows 1 (p_l.map lfS))] (fun r=>.b_ r) := dU Tryz.func345 (by kernel_rfl) (fun _=>rfl) (by kernel_rfl)
def aa4 (p_v:aj) : Mo (Bool) :=
 .iG 4003 (p_v.aF == 0) (.rt [1,2,10] 1 (p_v.eU == 0)) <|
 .rt [1,2,10] 1 (false)
def aa5 (p_v:aj) (r0:Bool) : Mo (Bool) :=
 .iG 4008 (r0) (.rt [1,2,15] 1 (decide ((p_v.fText:ByteArray) = (⟨#[]⟩ : ByteArray)))) <|
 .rt [1,2,15] 1 (false)
def Wx (p_v:aj) (r0:Bool) : Mo (Bool) :=
 .ite (r0) (fun c0 =>
 .say [.gd 4013 true,.num p_v.aU.length] (okc c0 (ok1 (ln_ p_v.aU aj.lf))) <|
 .rt [1,2,21] 1 ((p_v.aU.length:Int) == 0)) fun c0 =>
 .say [.gd 4013 false] (ok1 c0) <|
 .rt [1,2,21] 1 (false)
def Wy (p_v:aj) (r0:Bool) : Mo (Bool) :=
 .ite (r0) (fun c0 =>
 .say [.gd 4019 true,.num p_v.aX.length] (okc c0 (ok1 (ln_ p_v.aX aB.lf))) <|
 .ret ⟨[.kill 0],[2,27],[],1⟩ ((p_v.aX.length:Int) == 0)) fun c0 =>
 .say [.gd 4019 false] (ok1 c0) <|
 .ret ⟨[.kill 0],[2,27],[],1⟩ (false)
def WA (r0:Bool) : Mo (Unit) :=
 .rt [2] 1 ()
def aeC (p_v:aj) : Mo (Bool) :=
 .sj Tryz.f346 0 [1,0] [0,1,2,3,4,5,6,7] 1 8 [1,2] 1 (fun r_=>⟨[(1,.ptr 0 0),(2,.b_ false),(10,.b_ r_)],[.box 25 (.dat (aj.lf1 p_v))]⟩) ⟨[(1,.ptr 0 0),(2,.b_ false)],[.box 25 (.dat (aj.lf1 p_v))]⟩ (aa4 p_v).den (sW (by kernel_rfl)) fun r0 _ =>
 .sj Tryz.f346 0 [1,0] [8,9,10,11,12] 1 5 [1,2,10] 1 (fun r_=>⟨[(1,.ptr 0 0),(2,.b_ false),(15,.b_ r_)],[.box 25 (.dat (aj.lf1 p_v))]⟩) ⟨[(1,.ptr 0 0),(2,.b_ false),(10,.b_ r0)],[.box 25 (.dat (aj.lf1 p_v))]⟩ (aa5 p_v r0).den (sW (by kernel_rfl)) fun r1 _ =>
 .sj Tryz.f346 0 [1,0] [13,14,15,16,17,18] 1 6 [1,2,15] 1 (fun r_=>⟨[(1,.ptr 0 0),(2,.b_ false),(21,.b_ r_)],[.box 25 (.dat (aj.lf1 p_v))]⟩) ⟨[(1,.ptr 0 0),(2,.b_ false),(15,.b_ r1)],[.box 25 (.dat (aj.lf1 p_v))]⟩ (Wx p_v r1).den (sW (by kernel_rfl)) fun r2 _ =>
 .sj Tryz.f346 0 [1,0] [19,20,21,22,23,24] 1 6 [1,2,21] 1 (fun r_=>⟨[(2,.b_ false),(27,.b_ r_)],[.dead]⟩) ⟨[(1,.ptr 0 0),(2,.b_ false),(21,.b_ r2)],[.box 25 (.dat (aj.lf1 p_v))]⟩ (Wy p_v r2).den (sW (by kernel_rfl)) fun r3 _ =>
 .sj Tryz.f346 0 [1,0] [25] 1 1 [2,27] 1 (fun r_=>⟨[(2,.b_ r3)],[.dead]⟩) ⟨[(2,.b_ false),(27,.b_ r3)],[.dead]⟩ (WA r3).den (sW (by kernel_rfl)) fun r4 _ =>
 .ret (bf 1) (r3)
def aoH (p_v:aj) : Option (Bool) := Mo.den (aeC p_v)
theorem ai0 (p_v:aj) : FV (aoH p_v) 346 [.dat (aj.lf1 p_v)] (fun r=>.b_ r) := dU Tryz.func346 (by kernel_rfl) (fun _=>rfl) (by kernel_rfl)
def aeD (p_e:aG) : Mo (Bool) :=
 .ite (decide ((p_e.fOp:Int) < 1)) (fun c0 =>
 .say [.jX (.q 0 (.q 1 (.q 2 (.q 3 (.q 4 (.q 5 (.q 6 (.q 7 (.q 8 (.q 9 (.q 10 (.q 12 (.q 13 (.q 14 (.l 11 (.l 15 (.q 16 (.q 17 .fin)))))))))))))))))) (some 15) [] [.gd 4003 true] [1,22] 1 [(1,.ptr 0 0),(22,.b_ true)] [.box 40 (.dat (aG.lf1 p_e))]] (okc c0 (ok1 (rf_ ⟨[(1,.ptr 0 0),(22,.b_ true)],[.box 40 (.dat (aG.lf1 p_e))]⟩))) <|
 .rt [1,22] 1 (true)) fun c0 =>
 .say [] (ok1 c0) <|
 .ite (decide ((37:Int) < p_e.fOp)) (fun c1 =>
 .say [.jX (.q 0 (.q 1 (.q 2 (.q 3 (.q 4 (.q 5 (.q 6 (.q 7 (.q 8 (.q 9 (.q 10 (.q 12 (.q 13 (.q 14 (.l 11 (.l 15 (.q 16 (.q 17 .fin)))))))))))))))))) (some 15) [] [.gd 4003 false,.gd 4008 true] [1,22] 1 [(1,.ptr 0 0),(22,.b_ true)] [.box 40 (.dat (aG.lf1 p_e))]] (okc c1 (ok1 (rf_ ⟨[(1,.ptr 0 0),(22,.b_ true)],[.box 40 (.dat (aG.lf1 p_e))]⟩))) <|
 .rt [1,22] 1 (true)) fun c1 =>
 .say [] (okc c1 (ok1 (ln_ p_e.bW aG.lf))) <|
 .ask (amT p_e.fOp) fun r0 h0 =>
 .say [] (ok1 (Yq _ _ h0)) <|
 .ask (amU r0 (p_e.bW.length:Int)) fun r1 h1 =>
 .say [.jX (.q 0 (.q 1 (.q 2 (.q 3 (.q 4 (.q 5 (.q 6 (.q 7 (.q 8 (.q 9 (.q 10 (.q 12 (.q 13 (.q 14 (.l 11 (.l 15 (.q 16 (.q 17 .fin)))))))))))))))))) (some 15) [] [.gd 4003 false,.gd 4008 false,.num p_e.bW.length,.res (.i_ r0),.res (.b_ r1)] [1,22] 1 [(1,.ptr 0 0),(22,.lf (.bool (!r1)))] [.box 40 (.dat (aG.lf1 p_e))]] (okc (aiZ _ _ _ h1) (ok1 (rf_ ⟨[(1,.ptr 0 0),(22,.lf (.bool (!r1)))],[.box 40 (.dat (aG.lf1 p_e))]⟩))) <|
 .rt [1,22] 1 (!r1)
def aeE (p_e:aG) : Mo (Bool) :=
 .ite (p_e.fOp == 34) (fun c0 =>
 .say [.gd 8003 true,.num p_e.bW.length,.num p_e.fB.length] (okc c0 (okc (ln_ p_e.bW aG.lf) (ok1 (ln_ p_e.fB lfS)))) <|
 .rt [1,34] 1 ((p_e.bW.length:Int) != (p_e.fB.length:Int))) fun c0 =>
 .say [.gd 8003 false] (ok1 c0) <|
 .rt [1,34] 1 (false)
def aa6 (p_e:aG) : Mo (Bool) :=
 .iG 12003 (p_e.fOp == 2) (.rt [1,3] 1 (true)) <|
 .rt [1,3] 1 (p_e.fOp == 3)
def aa7 (p_e:aG) (r0:Bool) : Mo (Bool) :=
 .iG 14003 (p_e.fOp == 3) (.rt [1,3,4] 1 (true)) <|
 .cl (Yq p_e.fOp) fun r1 _ =>
 .rt [1,3,4] 1 (r1 == 3)
def aa8 (p_e:aG) (r0:Bool) (r1:Bool) : Mo (Bool) :=
 .iG 16001 (r0) (.cl (F7 p_e.dh) fun r2 _ =>
 .rt [1,3,4,58] 1 (!r2)) <|
 .rt [1,3,4,58] 1 (false)
def aa9 (p_e:aG) (r0:Bool) (r1:Bool) (r2:Bool) : Mo (Bool) :=
 .iG 16007 (r2) (.ite (p_e.fOp == 2) (fun c0 =>
 .say [.gd 16011 true] (ok1 c0) <|
 .rt [1,3,4,69] 1 (true)) fun c0 =>
 .say [.gd 16011 false,.num p_e.dh.length] (okc c0 (ok1 (ln_ p_e.dh lfS))) <|
 .rt [1,3,4,69] 1 (decide ((0:Int) < (p_e.dh.length:Int)))) <|
 .rt [1,3,4,69] 1 (false)
def abb (p_e:aG) (r0:Bool) (r1:Bool) : Mo (Bool) :=
 .iG 20001 (r1) (.cl (Yr p_e.fName) fun r2 _ =>
 .rt [1,3,4,76] 1 (!r2)) <|
 .rt [1,3,4,76] 1 (false)
def abd (p_e:aG) (r0:Bool) (r1:Bool) (r2:Bool) : Mo (Bool) :=
 .iG 20007 (r2) (.rt [1,3,4,87] 1 (true)) <|
 .iG 20011 (p_e.fOp == 34) (.cl (amV p_e.fB) fun r3 _ =>
 .rt [1,3,4,87] 1 (!r3)) <|
 .rt [1,3,4,87] 1 (false)
def abe (p_e:aG) (r0:Bool) (r1:Bool) : Mo (Bool) :=
 .iG 24003 (p_e.fOp == 1) (.cl (lT p_e.fArg) fun r2 _ =>
 .rt [1,3,4,96] 1 (!r2)) <|
 .rt [1,3,4,96] 1 (false)
def abf (p_e:aG) (r0:Bool) (r1:Bool) : Mo (Bool) :=
 .ite (!r0) (fun c0 =>
 .say [.gd 28002 true,.num p_e.dh.length] (okc c0 (ok1 (ln_ p_e.dh lfS))) <|
 .rt [1,4,104] 1 (decide ((0:Int) < (p_e.dh.length:Int)))) fun c0 =>
 .say [.gd 28002 false] (ok1 c0) <|
 .rt [1,4,104] 1 (false)
def abg (p_e:aG) (r0:Bool) (r1:Bool) : Mo (Bool) :=
 .iG 28008 (r1) (.rt [1,113] 1 (true)) <|
 .iG 28011 (!r0) (.rt [1,113] 1 (!decide ((p_e.fName:ByteArray) = (⟨#[]⟩ : ByteArray)))) <|
 .rt [1,113] 1 (false)
def abh (p_e:aG) (r0:Bool) : Mo (Bool) :=
 .iG 28017 (r0) (.rt [1,124] 1 (true)) <|
 .ite (p_e.fOp != 34) (fun c0 =>
 .say [.gd 28021 true,.num p_e.fB.length] (okc c0 (ok1 (ln_ p_e.fB lfS))) <|
 .rt [1,124] 1 (decide ((0:Int) < (p_e.fB.length:Int)))) fun c0 =>
 .say [.gd 28021 false] (ok1 c0) <|
 .rt [1,124] 1 (false)
def abj (p_e:aG) : Mo (Bool) :=
 .iG 32003 (p_e.fOp != 1) (.cl (ai0 p_e.fArg) fun r0 _ =>
 .rt [1,133] 1 (!r0)) <|
 .rt [1,133] 1 (false)
def abk (p_e:aG) (r0:Bool) : Mo (Bool) :=
 .iG 32009 (r0) (.ret ⟨[.kill 0],[138],[],1⟩ (true)) <|
 .ret ⟨[.kill 0],[138],[],1⟩ (p_e.fN != 0)
def akU (p_e:aG) : Mo (Int) :=
 .jp Tryz.f339 0 [1,0,0] 9 [1] 1 (.normal) (fun r_=>⟨[(1,.ptr 0 0),(22,.b_ r_)],[.box 40 (.dat (aG.lf1 p_e))]⟩) ⟨[(1,.ptr 0 0)],[.box 40 (.dat (aG.lf1 p_e))]⟩ (aeD p_e).den (jW (by kernel_rfl)) fun r0 _ =>
 .iB (r0) (.ret (bf 1) (11)) <|
 .jp Tryz.f339 0 [1,1,0,0] 13 [1] 1 (.normal) (fun r_=>⟨[(1,.ptr 0 0),(34,.b_ r_)],[.box 40 (.dat (aG.lf1 p_e))]⟩) ⟨[(1,.ptr 0 0)],[.box 40 (.dat (aG.lf1 p_e))]⟩ (aeE p_e).den (jW (by kernel_rfl)) fun r1 _ =>
 .iB (r1) (.ret (bf 1) (11)) <|
 .jp Tryz.f339 0 [1,1,1,0] 17 [1] 1 (.normal) (fun r_=>⟨[(1,.ptr 0 0),(3,.b_ r_)],[.box 40 (.dat (aG.lf1 p_e))]⟩) ⟨[(1,.ptr 0 0)],[.box 40 (.dat (aG.lf1 p_e))]⟩ (aa6 p_e).den (jW (by kernel_rfl)) fun r2 _ =>
 .jp Tryz.f339 0 [1,1,1,1,0] 19 [1,3] 1 (.normal) (fun r_=>⟨[(1,.ptr 0 0),(3,.b_ r2),(4,.b_ r_)],[.box 40 (.dat (aG.lf1 p_e))]⟩) ⟨[(1,.ptr 0 0),(3,.b_ r2)],[.box 40 (.dat (aG.lf1 p_e))]⟩ (aa7 p_e r2).den (jW (by kernel_rfl)) fun r3 _ =>
 .sj Tryz.f339 0 [1,1,1,1,1,0,0] [0,1,2,3,4,5,6] 7 7 [1,3,4] 1 (fun r_=>⟨[(1,.ptr 0 0),(3,.b_ r2),(4,.b_ r3),(58,.b_ r_)],[.box 40 (.dat (aG.lf1 p_e))]⟩) ⟨[(1,.ptr 0 0),(3,.b_ r2),(4,.b_ r3)],[.box 40 (.dat (aG.lf1 p_e))]⟩ (aa8 p_e r2 r3).den (sW (by kernel_rfl)) fun r4 _ =>
 .sj Tryz.f339 0 [1,1,1,1,1,0,0] [7,8,9,10,11,12,13,14,15,16,17] 7 11 [1,3,4,58] 1 (fun r_=>⟨[(1,.ptr 0 0),(3,.b_ r2),(4,.b_ r3),(69,.b_ r_)],[.box 40 (.dat (aG.lf1 p_e))]⟩) ⟨[(1,.ptr 0 0),(3,.b_ r2),(4,.b_ r3),(58,.b_ r4)],[.box 40 (.dat (aG.lf1 p_e))]⟩ (aa9 p_e r2 r3 r4).den (sW (by kernel_rfl)) fun r5 _ =>
 .iB (r5) (.ret (bf 1) (10)) <|
 .sj Tryz.f339 0 [1,1,1,1,1,1,0,0] [0,1,2,3,4,5,6] 9 7 [1,3,4] 1 (fun r_=>⟨[(1,.ptr 0 0),(3,.b_ r2),(4,.b_ r3),(76,.b_ r_)],[.box 40 (.dat (aG.lf1 p_e))]⟩) ⟨[(1,.ptr 0 0),(3,.b_ r2),(4,.b_ r3)],[.box 40 (.dat (aG.lf1 p_e))]⟩ (abb p_e r2 r3).den (sW (by kernel_rfl)) fun r6 _ =>
 .sj Tryz.f339 0 [1,1,1,1,1,1,0,0] [7,8,9,10,11,12,13,14,15,16,17] 9 11 [1,3,4,76] 1 (fun r_=>⟨[(1,.ptr 0 0),(3,.b_ r2),(4,.b_ r3),(87,.b_ r_)],[.box 40 (.dat (aG.lf1 p_e))]⟩) ⟨[(1,.ptr 0 0),(3,.b_ r2),(4,.b_ r3),(76,.b_ r6)],[.box 40 (.dat (aG.lf1 p_e))]⟩ (abd p_e r2 r3 r6).den (sW (by kernel_rfl)) fun r7 _ =>
 .iB (r7) (.ret (bf 1) (9)) <|
 .jp Tryz.f339 0 [1,1,1,1,1,1,1,0,0] 29 [1,3,4] 1 (.normal) (fun r_=>⟨[(1,.ptr 0 0),(3,.b_ r2),(4,.b_ r3),(96,.b_ r_)],[.box 40 (.dat (aG.lf1 p_e))]⟩) ⟨[(1,.ptr 0 0),(3,.b_ r2),(4,.b_ r3)],[.box 40 (.dat (aG.lf1 p_e))]⟩ (abe p_e r2 r3).den (jW (by kernel_rfl)) fun r8 _ =>
 .iB (r8) (.ret (bf 1) (8)) <|
 .sj Tryz.f339 0 [1,1,1,1,1,1,1,1,0,0] [0,1,2,3,4,5,6,7] 13 8 [1,3,4] 1 (fun r_=>⟨[(1,.ptr 0 0),(4,.b_ r3),(104,.b_ r_)],[.box 40 (.dat (aG.lf1 p_e))]⟩) ⟨[(1,.ptr 0 0),(3,.b_ r2),(4,.b_ r3)],[.box 40 (.dat (aG.lf1 p_e))]⟩ (abf p_e r2 r3).den (sW (by kernel_rfl)) fun r9 _ =>
 .sj Tryz.f339 0 [1,1,1,1,1,1,1,1,0,0] [8,9,10,11,12,13,14,15,16] 13 9 [1,4,104] 1 (fun r_=>⟨[(1,.ptr 0 0),(113,.b_ r_)],[.box 40 (.dat (aG.lf1 p_e))]⟩) ⟨[(1,.ptr 0 0),(4,.b_ r3),(104,.b_ r9)],[.box 40 (.dat (aG.lf1 p_e))]⟩ (abg p_e r3 r9).den (sW (by kernel_rfl)) fun r10 _ =>
 .sj Tryz.f339 0 [1,1,1,1,1,1,1,1,0,0] [17,18,19,20,21,22,23,24,25,26,27] 13 11 [1,113] 1 (fun r_=>⟨[(1,.ptr 0 0),(124,.b_ r_)],[.box 40 (.dat (aG.lf1 p_e))]⟩) ⟨[(1,.ptr 0 0),(113,.b_ r10)],[.box 40 (.dat (aG.lf1 p_e))]⟩ (abh p_e r10).den (sW (by kernel_rfl)) fun r11 _ =>
 .iB (r11) (.ret (bf 1) (4)) <|
 .sj Tryz.f339 0 [1,1,1,1,1,1,1,1,1,0,0] [0,1,2,3,4,5,6,7,8] 15 9 [1] 1 (fun r_=>⟨[(1,.ptr 0 0),(133,.b_ r_)],[.box 40 (.dat (aG.lf1 p_e))]⟩) ⟨[(1,.ptr 0 0)],[.box 40 (.dat (aG.lf1 p_e))]⟩ (abj p_e).den (sW (by kernel_rfl)) fun r12 _ =>
 .sj Tryz.f339 0 [1,1,1,1,1,1,1,1,1,0,0] [9,10,11,12,13] 15 5 [1,133] 1 (fun r_=>⟨[(138,.b_ r_)],[.dead]⟩) ⟨[(1,.ptr 0 0),(133,.b_ r12)],[.box 40 (.dat (aG.lf1 p_e))]⟩ (abk p_e r12).den (sW (by kernel_rfl)) fun r13 _ =>
 .iB (r13) (.ret (bf 1) (4)) <|
 .ret (bf 1) (0)
def Q47 (p_e:aG) : Option (Int) := Mo.den (akU p_e)
theorem amW (p_e:aG) : FV (Q47 p_e) 339 [.dat (aG.lf1 p_e)] (fun r=>.i_ r) := dU Tryz.func339 (by kernel_rfl) (fun _=>rfl) (by kernel_rfl)
structure RB9 where
 m1:(p_e:aG) → (p_level:Int) → (p_b0:Int) → Option (Int × Int)
 ok1:∀ p_e p_level p_b0,FH (m1 p_e p_level p_b0) 336 [.dat (aG.lf1 p_e),.i_ p_level,.ptr 0 0] [.box 3 (.dat [(.int .i64 p_b0)])] (fun r=>.i_ r.1) (fun r=>[.box 3 (.dat [(.int .i64 r.2)])])
def Sm (R_:RB9) (p_b0:Int) (p_e:aG) (p_level:Int) : Mo (Bool) :=
 .iG 4002 (decide ((16:Int) < p_level)) (.rt [1,2,3,18] 2 (true)) <|
 .rt [1,2,3,18] 2 (p_b0 == 256)
def Gl (R_:RB9) (p_e:aG) (p_level:Int) : (Int × Int) → Mo ((Int × Int) ⊕ (Int × Int) ⊕ (Int)) := fun (v0,v1) =>
 .iB (decide ((v0:Int) < (p_e.bW.length:Int))) (.ask (fO p_e.bW v0) fun x0 h0 =>
 .say [.row (aG.lf1 x0),.at_ 22 4,.tod 36] (ok1 (bY aG.bD h0)) <|
 .cH [0] (R_.ok1 x0 (IntKind.wrap .i64 (p_level + 1)) v1) fun r0 _ =>
 .iB (r0.1 != 0) (.rt [6] 2 (.inr (.inl (r0.1,r0.2)))) <|
 .rt [1,2,30,31,32] 2 (.inl (IntKind.wrap .i64 (v0 + 1),r0.2))) <|
 .rt [] 2 (.inr (.inr (v1)))
def aeF (R_:RB9) (p_e:aG) (p_level:Int) (v0:Int) (v1:Int) : Option ((Int × Int) ⊕ (Int)) := bT (fun v_=>(Gl R_ p_e p_level v_).den) FU (v0,v1)
def Sr (R_:RB9) (p_e:aG) (p_level:Int) : (Int × Int) → St := fun (v0,v1)=>⟨[(1,.i_ p_level),(2,.ptr 0 0),(30,.lf (.rows 11 (p_e.bW.map aG.lf))),(31,.i_ (p_e.bW.length:Int)),(32,.i_ v0)],[.box 3 (.dat [(.int .i64 v1)]),.dead]⟩
def zF (r_:(Int × Int) ⊕ (Int)) : Exit := match r_ with
 | .inl o_=>.ret
 | .inr (o_)=>.exit 0
def qp  (r_:(Int × Int) ⊕ (Int)) : St := match r_ with
 | .inl o_=>⟨[(6,.i_ o_.1)],[.box 3 (.dat [(.int .i64 o_.2)]),.dead]⟩
 | .inr (o_)=>⟨[],[.box 3 (.dat [(.int .i64 o_)]),.dead]⟩
theorem Sv {R_:RB9} {p_e:aG} {p_level:Int} {v0:Int} {v1:Int} {r_:(Int × Int) ⊕ (Int)} (h:aeF R_ p_e p_level v0 v1 = some r_) : eF Tryz.f336 1 [1,1,1,1,0,1,0] (zF r_) (qp r_) (Sr R_ p_e p_level (v0,v1)) :=
 dK dA (body := (Code.sub (bodyC Tryz.f336) [1,1,1,1,0,1,0,0])) (by kernel_rfl) (Gl R_ p_e p_level) (Sr R_ p_e p_level) zF qp (fun r_=>by rcases r_ with _ | _ <;> rfl) (fun v_=>by kernel_rfl) h
def aeG (R_:RB9) (p_e:aG) (p_level:Int) (p_b0:Int) : Mo (Int × Int) :=
 .jp Tryz.f336 1 [1,0,0] 9 [1,2,3] 2 (.normal) (fun r_=>⟨[(1,.i_ p_level),(2,.ptr 0 0),(3,.ptr 1 0),(18,.b_ r_)],[.box 3 (.dat [(.int .i64 p_b0)]),.box 40 (.dat (aG.lf1 p_e))]⟩) ⟨[(1,.i_ p_level),(2,.ptr 0 0),(3,.ptr 1 0)],[.box 3 (.dat [(.int .i64 p_b0)]),.box 40 (.dat (aG.lf1 p_e))]⟩ (Sm R_ p_b0 p_e p_level).den (jW (by kernel_rfl)) fun r0 _ =>
 .iB (r0) (.ret ⟨[.kill 1],[0],[],1⟩ (2,p_b0)) <|
 .cl (amW p_e) fun r1 _ =>
 .ite (r1 != 0) (fun c0 =>
 .say [.br true] (ok1 c0) <|
 .ret ⟨[.kill 1],[0],[],1⟩ (r1,IntKind.wrap .i64 (p_b0 + 1))) fun c0 =>
 .say [.br false,.num p_e.bW.length] (okc c0 (ok1 (ln_ p_e.bW aG.lf))) <|
 .fG (aeF R_ p_e p_level 0 (IntKind.wrap .i64 (p_b0 + 1))) (fun o0 h0 =>
 .say [.part [.kill 1] 0 [1,2,30,31,32] 2 (zF (.inl o0)) (qp (.inl o0)).T (qp (.inl o0)).H] (ok1 (Sv h0)) <|
 .rt [0] 1 (o0.1,o0.2)) fun o1 h0 =>
 .say [.part [.kill 1] 0 [1,2,30,31,32] 2 (zF (.inr (o1))) (qp (.inr (o1))).T (qp (.inr (o1))).H] (ok1 (Sv h0)) <|
 .rt [0] 1 (0,o1)
theorem ai1 (R_:RB9) (p_e:aG) (p_level:Int) (p_b0:Int) : FH (Mo.den (aeG R_ p_e p_level p_b0)) 336 [.dat (aG.lf1 p_e),.i_ p_level,.ptr 0 0] [.box 3 (.dat [(.int .i64 p_b0)])] (fun r=>.i_ r.1) (fun r=>[.box 3 (.dat [(.int .i64 r.2)])]) := dW Tryz.func336 (by kernel_rfl) (fun _=>rfl) (by kernel_rfl)
def DR:Nat → RB9
 | 0=>{ m1 := fun p_e p_level p_b0=>none,ok1 := fun _ _ _ _ h=>(by cases h) }
 | n_ + 1=>{ m1 := fun p_e p_level p_b0=>Mo.den (aeG (DR n_) p_e p_level p_b0),ok1 := ai1 (DR n_) }
def Q53 (p_e:aG) (p_level:Int) (p_b0:Int) : Option (Int × Int) := (DR FU).m1 p_e p_level p_b0
theorem amX (p_e:aG) (p_level:Int) (p_b0:Int) : FH (Q53 p_e p_level p_b0) 336 [.dat (aG.lf1 p_e),.i_ p_level,.ptr 0 0] [.box 3 (.dat [(.int .i64 p_b0)])] (fun r=>.i_ r.1) (fun r=>[.box 3 (.dat [(.int .i64 r.2)])]) := (DR FU).ok1 p_e p_level p_b0
def aeH (p_e:aG) : Mo (Int) :=
 .cH [1] (amX p_e 1 0) fun r0 _ =>
 .ret (bf 1) (r0.1)
def aoI (p_e:aG) : Option (Int) := Mo.den (aeH p_e)
theorem ai2 (p_e:aG) : FV (aoI p_e) 311 [.dat (aG.lf1 p_e)] (fun r=>.i_ r) := dU Tryz.func311 (by kernel_rfl) (fun _=>rfl) (by kernel_rfl)
def Yt (p_inside:Bool) (p_p:aC) : Mo (Bool) :=
 .iG 4003 (decide ((p_p.fOp:Int) < 1)) (.rt [1,2,15] 1 (true)) <|
 .rt [1,2,15] 1 (decide ((24:Int) < p_p.fOp))
def Yu (p_inside:Bool) (p_p:aC) (r0:Bool) : Mo (Bool) :=
 .ite (r0) (fun c0 =>
 .say [.gd 4008 true] (ok1 c0) <|
 .rt [1,2,24] 1 (true)) fun c0 =>
 .say [.gd 4008 false,.num p_p.bW.length] (okc c0 (ok1 (ln_ p_p.bW aC.lf))) <|
 .cl (aiW p_p.fOp (p_p.bW.length:Int)) fun r1 _ =>
 .rt [1,2,24] 1 (!r1)
def Sz (p_inside:Bool) (p_p:aC) : Mo (Bool) :=
 .cl (Oh p_p.fOp) fun r0 _ =>
 .ite (r0) (fun c0 =>
 .say [.gd 8003 true,.num p_p.fArgs.length] (okc c0 (ok1 (ln_ p_p.fArgs aj.lf))) <|
 .rt [1,2,33] 1 ((p_p.fArgs.length:Int) == 0)) fun c0 =>
 .say [.gd 8003 false] (ok1 c0) <|
 .rt [1,2,33] 1 (false)
def SA (p_inside:Bool) (p_p:aC) (r0:Bool) : Mo (Bool) :=
 .iG 8009 (r0) (.rt [1,2,38] 1 (true)) <|
 .cl (amP p_p) fun r1 _ =>
 .rt [1,2,38] 1 (!r1)
def SB (p_inside:Bool) (p_p:aC) : Mo (Bool) :=
 .cl (Yn p_p.fOp) fun r0 _ =>
 .iG 12003 (r0) (.cl (F7 p_p.dh) fun r1 _ =>
 .rt [1,2,47] 1 (!r1)) <|
 .rt [1,2,47] 1 (false)
def SC (p_inside:Bool) (p_p:aC) (r0:Bool) : Mo (Bool) :=
 .iG 12009 (r0) (.ite (!p_inside) (fun c0 =>
 .say [.gd 12012 true] (ok1 c0) <|
 .rt [2,57] 1 (true)) fun c0 =>
 .say [.gd 12012 false,.num p_p.dh.length] (okc c0 (ok1 (ln_ p_p.dh lfS))) <|
 .rt [2,57] 1 (decide ((0:Int) < (p_p.dh.length:Int)))) <|
 .rt [2,57] 1 (false)
def SE (p_p:aC) : Mo (Bool) :=
 .cl (Yo p_p.fOp) fun r0 _ =>
 .iG 16003 (r0) (.cl (lT p_p.fArg) fun r1 _ =>
 .rt [2,66] 1 (!r1)) <|
 .rt [2,66] 1 (false)
def SG (p_p:aC) (r0:Bool) : Mo (Bool) :=
 .iG 16009 (r0) (.rt [2,77] 1 (true)) <|
 .cl (Oi p_p.fOp) fun r1 _ =>
 .iG 16013 (r1) (.rt [2,77] 1 (p_p.fArg.aF != 4)) <|
 .rt [2,77] 1 (false)
def Gm (p_p:aC) : (Int) → Mo ((Int) ⊕ (Unit ⊕ Unit)) := fun (v0) =>
 .iB (decide ((v0:Int) < (p_p.fArgs.length:Int))) (.ask (fO p_p.fArgs v0) fun x0 h0 =>
 .say [.row (aj.lf1 x0)] (ok1 (bY aj.bD h0)) <|
 .cl (lT x0) fun r0 _ =>
 .iB (!r0) (.ret ⟨[.kill 0],[4],[],1⟩ (.inr (.inl ()))) <|
 .rt [2,82,83,84] 1 (.inl (IntKind.wrap .i64 (v0 + 1)))) <|
 .rt [2] 1 (.inr (.inr (())))
def aeI (p_p:aC) (v0:Int) : Option (Unit ⊕ Unit) := bT (fun v_=>(Gm p_p v_).den) FU (v0)
def SH (p_p:aC) : (Int) → St := fun (v0)=>⟨[(2,.ptr 0 0),(82,.lf (.rows 5 (p_p.fArgs.map aj.lf))),(83,.i_ (p_p.fArgs.length:Int)),(84,.i_ v0)],[.box 43 (.dat (aC.lf1 p_p))]⟩
def zG (r_:Unit ⊕ Unit) : Exit := match r_ with
 | .inl o_=>.ret
 | .inr (o_)=>.exit 0
def zH (p_p:aC) (r_:Unit ⊕ Unit) : St := match r_ with
 | .inl o_=>⟨[(4,.i_ 8)],[.dead]⟩
 | .inr (o_)=>⟨[(2,.ptr 0 0)],[.box 43 (.dat (aC.lf1 p_p))]⟩
theorem SI {p_p:aC} {v0:Int} {r_:Unit ⊕ Unit} (h:aeI p_p v0 = some r_) : eF Tryz.f258 0 [1,1,1,1,1,0,1,0,1,0] (zG r_) (zH p_p r_) (SH p_p (v0)) :=
 dK dA (body := (Code.sub (bodyC Tryz.f258) [1,1,1,1,1,0,1,0,1,0,0])) (by kernel_rfl) (Gm p_p) (SH p_p) zG (zH p_p) (fun r_=>by rcases r_ with _ | _ <;> rfl) (fun v_=>by kernel_rfl) h
def Gn (p_p:aC) (r0:Bool) : Mo (Unit ⊕ Unit) :=
 .ite (r0) (fun c0 =>
 .say [.br true,.num p_p.fArgs.length] (okc c0 (ok1 (ln_ p_p.fArgs aj.lf))) <|
 .fG (aeI p_p 0) (fun o0 h0 =>
 .say [.pt_ 0 [2,82,83,84] 1 (zG (.inl o0)) (zH p_p (.inl o0))] (ok1 (SI h0)) <|
 .rt [4] 1 (.inl ())) fun o1 h0 =>
 .say [.pt_ 0 [2,82,83,84] 1 (zG (.inr (o1))) (zH p_p (.inr (o1)))] (ok1 (SI h0)) <|
 .rt [2] 1 (.inr (()))) fun c0 =>
 .say [.br false] (ok1 c0) <|
 .rt [2] 1 (.inr (()))
def aeJ (p_p:aC) (r0:Bool) : Option (Unit ⊕ Unit) := Mo.den (Gn p_p r0)
def zI (r_:Unit ⊕ Unit) : Exit := match r_ with
 | .inl o_=>.ret
 | .inr (o_)=>.normal
def zJ (p_p:aC) (r_:Unit ⊕ Unit) : St := match r_ with
 | .inl o_=>⟨[(4,.i_ 8)],[.dead]⟩
 | .inr (o_)=>⟨[(2,.ptr 0 0)],[.box 43 (.dat (aC.lf1 p_p))]⟩
theorem SK {p_p:aC} {r0:Bool} {r_:Unit ⊕ Unit} (h:aeJ p_p r0 = some r_) : eF Tryz.f258 0 [1,1,1,1,1,0,1] (zI r_) (zJ p_p r_) ⟨[(2,.ptr 0 0),(80,.b_ r0)],[.box 43 (.dat (aC.lf1 p_p))]⟩ :=
 iE dA (Gn p_p r0) zI (zJ p_p) (by kernel_rfl) h
def Gp (p_p:aC) : Mo ((Int) ⊕ Unit) :=
 .iB (p_p.fOp == 18) (.cl (amQ p_p.dH) fun r0 _ =>
 .iB (r0 != 0) (.ret ⟨[.kill 0],[4],[],1⟩ (.inl (r0))) <|
 .rt [2] 1 (.inr (()))) <|
 .rt [2] 1 (.inr (()))
def aeK (p_p:aC) : Option ((Int) ⊕ Unit) := Mo.den (Gp p_p)
def zK (r_:(Int) ⊕ Unit) : Exit := match r_ with
 | .inl o_=>.ret
 | .inr (o_)=>.normal
def zL (p_p:aC) (r_:(Int) ⊕ Unit) : St := match r_ with
 | .inl o_=>⟨[(4,.i_ o_)],[.dead]⟩
 | .inr (o_)=>⟨[(2,.ptr 0 0)],[.box 43 (.dat (aC.lf1 p_p))]⟩
theorem SL {p_p:aC} {r_:(Int) ⊕ Unit} (h:aeK p_p = some r_) : eF Tryz.f258 0 [1,1,1,1,1,1,0,1] (zK r_) (zL p_p r_) ⟨[(2,.ptr 0 0),(94,.lf (.bool (p_p.fOp == 18)))],[.box 43 (.dat (aC.lf1 p_p))]⟩ :=
 iE dA (Gp p_p) zK (zL p_p) (by kernel_rfl) h
def aoJ (p_p:aC) (p_inside:Bool) : Mo (Int) :=
 .sj Tryz.f258 0 [1,0,0] [0,1,2,3,4,5,6,7] 1 8 [1,2] 1 (fun r_=>⟨[(1,.b_ p_inside),(2,.ptr 0 0),(15,.b_ r_)],[.box 43 (.dat (aC.lf1 p_p))]⟩) ⟨[(1,.b_ p_inside),(2,.ptr 0 0)],[.box 43 (.dat (aC.lf1 p_p))]⟩ (Yt p_inside p_p).den (sW (by kernel_rfl)) fun r0 _ =>
 .sj Tryz.f258 0 [1,0,0] [8,9,10,11,12,13,14,15,16] 1 9 [1,2,15] 1 (fun r_=>⟨[(1,.b_ p_inside),(2,.ptr 0 0),(24,.b_ r_)],[.box 43 (.dat (aC.lf1 p_p))]⟩) ⟨[(1,.b_ p_inside),(2,.ptr 0 0),(15,.b_ r0)],[.box 43 (.dat (aC.lf1 p_p))]⟩ (Yu p_inside p_p r0).den (sW (by kernel_rfl)) fun r1 _ =>
 .iB (r1) (.ret (bf 1) (11)) <|
 .sj Tryz.f258 0 [1,1,0,0] [0,1,2,3,4,5,6,7,8] 3 9 [1,2] 1 (fun r_=>⟨[(1,.b_ p_inside),(2,.ptr 0 0),(33,.b_ r_)],[.box 43 (.dat (aC.lf1 p_p))]⟩) ⟨[(1,.b_ p_inside),(2,.ptr 0 0)],[.box 43 (.dat (aC.lf1 p_p))]⟩ (Sz p_inside p_p).den (sW (by kernel_rfl)) fun r2 _ =>
 .sj Tryz.f258 0 [1,1,0,0] [9,10,11,12,13] 3 5 [1,2,33] 1 (fun r_=>⟨[(1,.b_ p_inside),(2,.ptr 0 0),(38,.b_ r_)],[.box 43 (.dat (aC.lf1 p_p))]⟩) ⟨[(1,.b_ p_inside),(2,.ptr 0 0),(33,.b_ r2)],[.box 43 (.dat (aC.lf1 p_p))]⟩ (SA p_inside p_p r2).den (sW (by kernel_rfl)) fun r3 _ =>
 .iB (r3) (.ret (bf 1) (11)) <|
 .sj Tryz.f258 0 [1,1,1,0,0] [0,1,2,3,4,5,6,7,8] 5 9 [1,2] 1 (fun r_=>⟨[(1,.b_ p_inside),(2,.ptr 0 0),(47,.b_ r_)],[.box 43 (.dat (aC.lf1 p_p))]⟩) ⟨[(1,.b_ p_inside),(2,.ptr 0 0)],[.box 43 (.dat (aC.lf1 p_p))]⟩ (SB p_inside p_p).den (sW (by kernel_rfl)) fun r4 _ =>
 .sj Tryz.f258 0 [1,1,1,0,0] [9,10,11,12,13,14,15,16,17,18] 5 10 [1,2,47] 1 (fun r_=>⟨[(2,.ptr 0 0),(57,.b_ r_)],[.box 43 (.dat (aC.lf1 p_p))]⟩) ⟨[(1,.b_ p_inside),(2,.ptr 0 0),(47,.b_ r4)],[.box 43 (.dat (aC.lf1 p_p))]⟩ (SC p_inside p_p r4).den (sW (by kernel_rfl)) fun r5 _ =>
 .iB (r5) (.ret (bf 1) (10)) <|
 .sj Tryz.f258 0 [1,1,1,1,0,0] [0,1,2,3,4,5,6,7,8] 7 9 [2] 1 (fun r_=>⟨[(2,.ptr 0 0),(66,.b_ r_)],[.box 43 (.dat (aC.lf1 p_p))]⟩) ⟨[(2,.ptr 0 0)],[.box 43 (.dat (aC.lf1 p_p))]⟩ (SE p_p).den (sW (by kernel_rfl)) fun r6 _ =>
 .sj Tryz.f258 0 [1,1,1,1,0,0] [9,10,11,12,13,14,15,16,17,18,19] 7 11 [2,66] 1 (fun r_=>⟨[(2,.ptr 0 0),(77,.b_ r_)],[.box 43 (.dat (aC.lf1 p_p))]⟩) ⟨[(2,.ptr 0 0),(66,.b_ r6)],[.box 43 (.dat (aC.lf1 p_p))]⟩ (SG p_p r6).den (sW (by kernel_rfl)) fun r7 _ =>
 .iB (r7) (.ret (bf 1) (8)) <|
 .cl (Oh p_p.fOp) fun r8 _ =>
 .fG (aeJ p_p r8) (fun o0 h0 =>
 .say [.pt_ 1 [2,80] 1 (zI (.inl o0)) (zJ p_p (.inl o0))] (ok1 (SK h0)) <|
 .ret (bf 1) (8)) fun o1 h0 =>
 .say [.pt_ 1 [2,80] 1 (zI (.inr (o1))) (zJ p_p (.inr (o1)))] (ok1 (SK h0)) <|
 .fG (aeK p_p) (fun o2 h1 =>
 .say [.pt_ 1 [2,94] 1 (zK (.inl o2)) (zL p_p (.inl o2))] (ok1 (SL h1)) <|
 .ret (bf 1) (o2)) fun o3 h1 =>
 .say [.pt_ 1 [2,94] 1 (zK (.inr (o3))) (zL p_p (.inr (o3)))] (ok1 (SL h1)) <|
 .cl (amS p_p) fun r9 _ =>
 .iB (!r9) (.ret (bf 1) (4)) <|
 .iB (p_p.fOp == 24) (.cl (ai2 p_p.fExpr) fun r10 _ =>
 .ret (bf 1) (r10)) <|
 .ret (bf 1) (0)
def Q0 (p_p:aC) (p_inside:Bool) : Option (Int) := Mo.den (aoJ p_p p_inside)
theorem aoK (p_p:aC) (p_inside:Bool) : FV (Q0 p_p p_inside) 258 [.dat (aC.lf1 p_p),.b_ p_inside] (fun r=>.i_ r) := dU Tryz.func258 (by kernel_rfl) (fun _=>rfl) (by kernel_rfl)
structure RB8 where
 m1:(p_p:aC) → (p_inside:Bool) → Option (Int)
 ok1:∀ p_p p_inside,FV (m1 p_p p_inside) 186 [.dat (aC.lf1 p_p),.b_ p_inside] (fun r=>.i_ r)
def SN (R_:RB8) (p_inside:Bool) (p_p:aC) (v0:Int) (x0:aC) : Mo (Int) :=
 .iG 16002 (p_inside) (.cl (R_.ok1 x0 true) fun r0 _ =>
 .ret ⟨[.kill 1],[1,2,8,16,17,18],[],2⟩ (r0)) <|
 .cl (R_.ok1 x0 (p_p.fOp == 15)) fun r1 _ =>
 .ret ⟨[.kill 1],[1,2,8,16,17,18],[],2⟩ (r1)
def Gq (R_:RB8) (p_inside:Bool) (p_p:aC) : (Int) → Mo ((Int) ⊕ (Int) ⊕ Unit) := fun (v0) =>
 .iB (decide ((v0:Int) < (p_p.bW.length:Int))) (.ask (fO p_p.bW v0) fun x0 h0 =>
 .say [.row (aC.lf1 x0)] (ok1 (bY aC.bD h0)) <|
 .jp Tryz.f186 0 [1,1,0,1,0,0,1,1,0,0,1,0] 21 [1,2,7,16,17,18] 2 (.normal) (fun r_=>⟨[(1,.b_ p_inside),(2,.ptr 0 0),(8,.i_ r_),(16,.lf (.rows 25 (p_p.bW.map aC.lf))),(17,.i_ (p_p.bW.length:Int)),(18,.i_ v0)],[.box 43 (.dat (aC.lf1 p_p)),.dead]⟩) ⟨[(1,.b_ p_inside),(2,.ptr 0 0),(7,.ptr 1 0),(16,.lf (.rows 25 (p_p.bW.map aC.lf))),(17,.i_ (p_p.bW.length:Int)),(18,.i_ v0)],[.box 43 (.dat (aC.lf1 p_p)),.box 43 (.agg ((aC.lf1 x0).map AV.lf))]⟩ (SN R_ p_inside p_p v0 x0).den (jW (by kernel_rfl)) fun r0 _ =>
 .iB (r0 != 0) (.ret ⟨[.kill 0],[4],[],1⟩ (.inr (.inl (r0)))) <|
 .rt [1,2,16,17,18] 1 (.inl (IntKind.wrap .i64 (v0 + 1)))) <|
 .ret ⟨[.kill 0],[],[],1⟩ (.inr (.inr (())))
def aeL (R_:RB8) (p_inside:Bool) (p_p:aC) (v0:Int) : Option ((Int) ⊕ Unit) := bT (fun v_=>(Gq R_ p_inside p_p v_).den) FU (v0)
def SQ (R_:RB8) (p_inside:Bool) (p_p:aC) : (Int) → St := fun (v0)=>⟨[(1,.b_ p_inside),(2,.ptr 0 0),(16,.lf (.rows 25 (p_p.bW.map aC.lf))),(17,.i_ (p_p.bW.length:Int)),(18,.i_ v0)],[.box 43 (.dat (aC.lf1 p_p))]⟩
def zM (r_:(Int) ⊕ Unit) : Exit := match r_ with
 | .inl o_=>.ret
 | .inr (o_)=>.exit 0
def zN  (r_:(Int) ⊕ Unit) : St := match r_ with
 | .inl o_=>⟨[(4,.i_ o_)],[.dead]⟩
 | .inr (o_)=>⟨[],[.dead]⟩
theorem SS {R_:RB8} {p_inside:Bool} {p_p:aC} {v0:Int} {r_:(Int) ⊕ Unit} (h:aeL R_ p_inside p_p v0 = some r_) : eF Tryz.f186 0 [1,1,0,1,0] (zM r_) (zN r_) (SQ R_ p_inside p_p (v0)) :=
 dK dA (body := (Code.sub (bodyC Tryz.f186) [1,1,0,1,0,0])) (by kernel_rfl) (Gq R_ p_inside p_p) (SQ R_ p_inside p_p) zM zN (fun r_=>by rcases r_ with _ | _ <;> rfl) (fun v_=>by kernel_rfl) h
def aeM (R_:RB8) (p_p:aC) (p_inside:Bool) : Mo (Int) :=
 .cl (aoK p_p p_inside) fun r0 _ =>
 .ite (r0 != 0) (fun c0 =>
 .say [.br true] (ok1 c0) <|
 .ret (bf 1) (r0)) fun c0 =>
 .say [.br false,.num p_p.bW.length] (okc c0 (ok1 (ln_ p_p.bW aC.lf))) <|
 .fG (aeL R_ p_inside p_p 0) (fun o0 h0 =>
 .say [.pt_ 0 [1,2,16,17,18] 1 (zM (.inl o0)) (zN (.inl o0))] (ok1 (SS h0)) <|
 .ret (bf 1) (o0)) fun o1 h0 =>
 .say [.pt_ 0 [1,2,16,17,18] 1 (zM (.inr (o1))) (zN (.inr (o1)))] (ok1 (SS h0)) <|
 .ret (bf 1) (0)
theorem ai3 (R_:RB8) (p_p:aC) (p_inside:Bool) : FV (Mo.den (aeM R_ p_p p_inside)) 186 [.dat (aC.lf1 p_p),.b_ p_inside] (fun r=>.i_ r) := dU Tryz.func186 (by kernel_rfl) (fun _=>rfl) (by kernel_rfl)
def DT:Nat → RB8
 | 0=>{ m1 := fun p_p p_inside=>none,ok1 := fun _ _ _ h=>(by cases h) }
 | n_ + 1=>{ m1 := fun p_p p_inside=>Mo.den (aeM (DT n_) p_p p_inside),ok1 := ai3 (DT n_) }
def Q42 (p_p:aC) (p_inside:Bool) : Option (Int) := (DT FU).m1 p_p p_inside
theorem amY (p_p:aC) (p_inside:Bool) : FV (Q42 p_p p_inside) 186 [.dat (aC.lf1 p_p),.b_ p_inside] (fun r=>.i_ r) := (DT FU).ok1 p_p p_inside
def aeN (p_p:aC) : Mo (Int) :=
 .cH [1] (amO p_p 1 0) fun r0 _ =>
 .iB (!r0.1) (.ret (bf 1) (2)) <|
 .cl (amY p_p false) fun r1 _ =>
 .ret (bf 1) (r1)
def aoL (p_p:aC) : Option (Int) := Mo.den (aeN p_p)
theorem ai4 (p_p:aC) : FV (aoL p_p) 118 [.dat (aC.lf1 p_p)] (fun r=>.i_ r) := dU Tryz.func118 (by kernel_rfl) (fun _=>rfl) (by kernel_rfl)
def aeO (p_v:aj) : Mo (Bool) :=
 .iG 4003 (p_v.aF == 0) (.rt [1,2,10] 1 (p_v.eU == 0)) <|
 .rt [1,2,10] 1 (false)
def aeP (p_v:aj) (r0:Bool) : Mo (Bool) :=
 .iG 4008 (r0) (.rt [1,2,15] 1 (decide ((p_v.fText:ByteArray) = (⟨#[]⟩ : ByteArray)))) <|
 .rt [1,2,15] 1 (false)
def abl (p_v:aj) (r0:Bool) : Mo (Bool) :=
 .ite (r0) (fun c0 =>
 .say [.gd 4013 true,.num p_v.aU.length] (okc c0 (ok1 (ln_ p_v.aU aj.lf))) <|
 .rt [1,2,21] 1 ((p_v.aU.length:Int) == 0)) fun c0 =>
 .say [.gd 4013 false] (ok1 c0) <|
 .rt [1,2,21] 1 (false)
def abm (p_v:aj) (r0:Bool) : Mo (Bool) :=
 .ite (r0) (fun c0 =>
 .say [.gd 4019 true,.num p_v.aX.length] (okc c0 (ok1 (ln_ p_v.aX aB.lf))) <|
 .ret ⟨[.kill 0],[2,27],[],1⟩ ((p_v.aX.length:Int) == 0)) fun c0 =>
 .say [.gd 4019 false] (ok1 c0) <|
 .ret ⟨[.kill 0],[2,27],[],1⟩ (false)
def abn (r0:Bool) : Mo (Unit) :=
 .rt [2] 1 ()
def akV (p_v:aj) : Mo (Bool) :=
 .sj Tryz.f187 0 [1,0] [0,1,2,3,4,5,6,7] 1 8 [1,2] 1 (fun r_=>⟨[(1,.ptr 0 0),(2,.b_ false),(10,.b_ r_)],[.box 25 (.dat (aj.lf1 p_v))]⟩) ⟨[(1,.ptr 0 0),(2,.b_ false)],[.box 25 (.dat (aj.lf1 p_v))]⟩ (aeO p_v).den (sW (by kernel_rfl)) fun r0 _ =>
 .sj Tryz.f187 0 [1,0] [8,9,10,11,12] 1 5 [1,2,10] 1 (fun r_=>⟨[(1,.ptr 0 0),(2,.b_ false),(15,.b_ r_)],[.box 25 (.dat (aj.lf1 p_v))]⟩) ⟨[(1,.ptr 0 0),(2,.b_ false),(10,.b_ r0)],[.box 25 (.dat (aj.lf1 p_v))]⟩ (aeP p_v r0).den (sW (by kernel_rfl)) fun r1 _ =>
 .sj Tryz.f187 0 [1,0] [13,14,15,16,17,18] 1 6 [1,2,15] 1 (fun r_=>⟨[(1,.ptr 0 0),(2,.b_ false),(21,.b_ r_)],[.box 25 (.dat (aj.lf1 p_v))]⟩) ⟨[(1,.ptr 0 0),(2,.b_ false),(15,.b_ r1)],[.box 25 (.dat (aj.lf1 p_v))]⟩ (abl p_v r1).den (sW (by kernel_rfl)) fun r2 _ =>
 .sj Tryz.f187 0 [1,0] [19,20,21,22,23,24] 1 6 [1,2,21] 1 (fun r_=>⟨[(2,.b_ false),(27,.b_ r_)],[.dead]⟩) ⟨[(1,.ptr 0 0),(2,.b_ false),(21,.b_ r2)],[.box 25 (.dat (aj.lf1 p_v))]⟩ (abm p_v r2).den (sW (by kernel_rfl)) fun r3 _ =>
 .sj Tryz.f187 0 [1,0] [25] 1 1 [2,27] 1 (fun r_=>⟨[(2,.b_ r3)],[.dead]⟩) ⟨[(2,.b_ false),(27,.b_ r3)],[.dead]⟩ (abn r3).den (sW (by kernel_rfl)) fun r4 _ =>
 .ret (bf 1) (r3)
def Q78 (p_v:aj) : Option (Bool) := Mo.den (akV p_v)
theorem aeQ (p_v:aj) : FV (Q78 p_v) 187 [.dat (aj.lf1 p_v)] (fun r=>.b_ r) := dU Tryz.func187 (by kernel_rfl) (fun _=>rfl) (by kernel_rfl)
end
end Go.Proofs.YtflpefkohpjjpaaGreatDoor
