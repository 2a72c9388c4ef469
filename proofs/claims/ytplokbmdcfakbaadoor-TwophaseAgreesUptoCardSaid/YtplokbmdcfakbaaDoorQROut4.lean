/- docstoreref40.Code. -/
import Derived.Test.YtplokbmdcfakbaaDoorQROut3
set_option linter.unusedSimpArgs false
set_option linter.unusedVariables false
namespace Go.Proofs.YtplokbmdcfakbaaDoor
open Go.RowKit
theorem rg_all {w : World} {g : Nat} {cs : List Value} {T0 : TypeId} (h : w.heap[g]? = some (.cells cs.toArray T0 (0, 0))) : w.rangeAt g 0 cs := fun j v hj => by
  rw [Nat.zero_add, blk_cell h j]; simpa using hj
set_option maxRecDepth 20000 in
set_option maxHeartbeats 4000000 in
theorem Code_ok (r : List Lf) (cs : List Value) (I : Gh) (w : World) (hw : WTr Tryd.prog r fEntry) (hv : VsRp I r cs) (hi : Inv I w) (hb : 12 * bulkL r ≤ 562949953421312) :
    Calls Tryd.prog 23 #[.agg cs.toArray] w fun e w' => e = .returned (.string ⟨(codeL r).toArray⟩) ∧ Ext w w' := by
  have hlen : cs.length = 82 := by rw [VsRp.len _ _ hv, WTr.len _ _ hw]; rfl
  have HW := Lib.hid hw
  have HV := Lib.hid hv
  have HI := Lib.hid hi
  have HB := Lib.hid hb
  have HL := Lib.hid hlen
  clear hw hv hi hb hlen
  have rg := rg_all (T0 := 66) (blk_alloc (blk_at0 w (.cells cs.toArray 66)) (.cells #[.string ⟨#[]⟩, .bool false, .bool true] 93))
  have li := sz_of info_Entry HL.out
  go_enter Tryd.func23, Tryd.ntmps23
  go_wp2_with (refine wpList_load_mid rfl 66 _ rfl _ _ rfl _ _ rg Tryd.underlying66 rfl li ?_)
  clear rg li
  have hx := blk_at1 w (.cells cs.toArray 66) (.cells #[.string ⟨#[]⟩, .bool false, .bool true] 93)
  have hi2 := (HI.out.alloc (.cells cs.toArray 66)).alloc (.cells #[.string ⟨#[]⟩, .bool false, .bool true] 93)
  have hav : Av I (w.heap.size + 1) := HI.out.av (by omega)
  refine (oEntry_ok r I cs (w.heap.size + 1) [] false _ HW.out HV.out hi2 hav (by simpa using HB.out) hx).mono ?_
  rintro e w1 ⟨rfl, h1, g1⟩
  have ck := blk_cell h1
  have lk := blk_lt h1
  have HE : Hid (Ext w w1) := Ext.of_only ((Ext.refl w).alloc _ |>.alloc _) g1 (by omega)
  clear h1 g1
  go_wp2_with fail
  go_ret
  exact ⟨rfl, HE.out⟩
end Go.Proofs.YtplokbmdcfakbaaDoor
