/- Contracts that were shown by hand, in the form that the printed ones have. -/
import Derived.Test.YtplokbmdcfakbaaDoorQR4
import Derived.Test.YtplokbmdcfakbaaDoorQR3
import Derived.Test.YtplokbmdcfakbaaDoorQRTw2
import Derived.Test.YtplokbmdcfakbaaDoorQROut4
set_option linter.unusedSimpArgs false
set_option linter.unusedVariables false
namespace Go.Proofs.YtplokbmdcfakbaaDoor
open Go.RowKit
theorem VRs.cons1 {e : Env} {x : AV} {l : List AV} {vs : List Value} (h : VRs e (x :: l) vs) : ∃ v q, vs = v :: q ∧ VR e x v ∧ VRs e l q := by unfold VRs at h; exact h
theorem VRs.nil1 {e : Env} {vs : List Value} (h : VRs e [] vs) : vs = [] := by unfold VRs at h; exact h
theorem Fn.of {P : Program} {G : Gh → Prop} {f : FuncId} {args : List AV} {res : AV} (hc : callB P f = true) (h : ∀ I w vs, G I → Inv I w → VRs (env0 I) args vs → Calls P f vs.toArray w fun e w' => ∃ I' v, e = .returned v ∧ Gr I I' w w' ∧ VR (env0 I') res v) : Fn P G f args res := ⟨hc, h⟩
noncomputable def M_twophase_named (s : ByteArray) : Option Bool := some (nameB s)
theorem M_twophase_named_ok (s : ByteArray) (r : Bool) (h : M_twophase_named s = some r) : Fn Tryd.prog GI 18 [.lf (.str s)] (.lf (.bool r)) := by
  injection h with h; subst h
  refine Fn.of (by kernel_rfl) fun I w vs hG hi hvs => ?_
  obtain ⟨v, q, rfl, h1, h2⟩ := VRs.cons1 hvs
  obtain rfl := VRs.nil1 h2
  obtain ⟨rfl, hs⟩ := (VR.lf.1 h1).str
  refine (named_ok s w hs (hG w hi)).mono ?_
  rintro e w' ⟨rfl, he⟩
  exact ⟨I, _, rfl, Gr.of_ext hi he, VR.lf.2 (by unfold LRp; rfl)⟩
noncomputable def M_slices_Clone_int (l : List Int) : Option (List Int) := if l.length ≤ 16777216 then some l else none
theorem M_slices_Clone_int_ok (l : List Int) (r : List Int) (h : M_slices_Clone_int l = some r) : Fn Tryd.prog GI 19 [.lf (.rows 1 (l.map lfI))] (.lf (.rows 1 (r.map lfI))) := by
  obtain ⟨hb, h⟩ := guard_some h
  injection h with h; subst h
  refine Fn.of (by kernel_rfl) fun I w vs hG hi hvs => ?_
  obtain ⟨v, q, rfl, h1, h2⟩ := VRs.cons1 hvs
  obtain rfl := VRs.nil1 h2
  refine (CloneI_ok l v I w (VR.lf.1 h1) hi hb).mono ?_
  rintro e w' ⟨v', rfl, hA, he⟩
  obtain ⟨I', g, hr⟩ := hA.done (hi.ext he) (Nat.le_refl _) he
  exact ⟨I', v', rfl, g, VR.lf.2 hr⟩
noncomputable def M_slices_Clone_bool (l : List Bool) : Option (List Bool) := if l.length ≤ 16777216 then some l else none
theorem M_slices_Clone_bool_ok (l : List Bool) (r : List Bool) (h : M_slices_Clone_bool l = some r) : Fn Tryd.prog GI 34 [.lf (.rows 1 (l.map lfB))] (.lf (.rows 1 (r.map lfB))) := by
  obtain ⟨hb, h⟩ := guard_some h
  injection h with h; subst h
  refine Fn.of (by kernel_rfl) fun I w vs hG hi hvs => ?_
  obtain ⟨v, q, rfl, h1, h2⟩ := VRs.cons1 hvs
  obtain rfl := VRs.nil1 h2
  refine (CloneB_ok l v I w (VR.lf.1 h1) hi hb).mono ?_
  rintro e w' ⟨v', rfl, hA, he⟩
  obtain ⟨I', g, hr⟩ := hA.done (hi.ext he) (Nat.le_refl _) he
  exact ⟨I', v', rfl, g, VR.lf.2 hr⟩
noncomputable def M_docstoreref40_Code (e : GEntry) : Option ByteArray := if 12 * bulkL e.lf1 ≤ 562949953421312 then some ⟨(codeL e.lf1).toArray⟩ else none
theorem M_docstoreref40_Code_ok (e : GEntry) (r : ByteArray) (h : M_docstoreref40_Code e = some r) : Fn Tryd.prog GI 23 [.dat e.lf1] (.lf (.str r)) := by
  obtain ⟨hb, h⟩ := guard_some h
  injection h with h; subst h
  refine Fn.of (by kernel_rfl) fun I w vs hG hi hvs => ?_
  obtain ⟨v, q, rfl, h1, h2⟩ := VRs.cons1 hvs
  obtain rfl := VRs.nil1 h2
  obtain ⟨cs, rfl, h3⟩ := VR.dat.1 h1
  have hle := codeL_le e.lf1 cs h3
  have hc : (codeL e.lf1).length ≤ 9223372036854775807 := by omega
  refine (Code_ok e.lf1 cs I w (GEntry.wt e) h3 hi hb).mono ?_
  rintro e w' ⟨rfl, he⟩
  exact ⟨I, _, rfl, Gr.of_ext hi he, VR.lf.2 (by unfold LRp; exact ⟨rfl, by unfold maxLen; simpa [ByteArray.size] using hc⟩)⟩
end Go.Proofs.YtplokbmdcfakbaaDoor
