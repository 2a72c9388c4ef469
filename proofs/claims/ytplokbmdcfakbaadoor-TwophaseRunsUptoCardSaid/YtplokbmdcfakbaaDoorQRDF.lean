/- The shapes of the program's data (printed by gendf.py). -/
import Derived.Test.YtplokbmdcfakbaaDoorQROutQ
set_option linter.unusedSimpArgs false
set_option linter.unusedVariables false
namespace Go.Proofs.YtplokbmdcfakbaaDoor
open Go.RowKit
def fint : List Shp := [.int .i64]
def fstr : List Shp := [.str]
def fbool : List Shp := [.bool]
theorem flat_int : flat Tryd.prog 12 3 = some fint := by kernel_rfl
theorem flat_str : flat Tryd.prog 12 9 = some fstr := by kernel_rfl
theorem flat_bool : flat Tryd.prog 12 4 = some fbool := by kernel_rfl
theorem cells_int : Tryd.prog.cellsOf 3 = 1 := by kernel_rfl
theorem cells_str : Tryd.prog.cellsOf 9 = 1 := by kernel_rfl
theorem cells_bool : Tryd.prog.cellsOf 4 = 1 := by kernel_rfl
def fVal : List Shp := [.int .i64, .int .i64, .str, .rows 37, .rows 90]
def fFld : List Shp := [.str] ++ fVal
def fPoint : List Shp := [.int .i64, .int .i64]
def fShape : List Shp := [.int .i64, .rows 134, .int .i64]
def fExpr : List Shp := [.int .i64, .rows 9, .str, .rows 9] ++ fVal ++ [.int .i64, .rows 52]
def fPred : List Shp := [.int .i64, .rows 9] ++ fVal ++ [.rows 37, .int .i64, .int .i64] ++ fShape ++ fExpr ++ [.rows 55]
def fOrder : List Shp := [.rows 9, .bool]
def fIndex : List Shp := [.str, .int .i64, .rows 125, .bool, .bool, .bool] ++ fPred
def fSchema : List Shp := [.int .i64, .bool] ++ fVal ++ [.bool] ++ fVal ++ [.rows 37, .int .i64, .int .i64, .rows 9, .rows 129, .bool, .rows 43, .bool]
def fProp : List Shp := [.str] ++ fSchema
def fSpace : List Shp := [.str, .rows 57] ++ fSchema ++ [.int .i64, .int .i64]
def fWrite : List Shp := [.int .i64, .str] ++ fVal ++ fVal ++ fVal ++ fSpace ++ fIndex ++ [.str, .int .i64, .rows 60, .rows 3, .bool]
def fEntry : List Shp := [.int .i64, .int .i64, .str, .int .i64] ++ fWrite
theorem flat_Val : flat Tryd.prog 12 37 = some fVal := by kernel_rfl
theorem cells_Val : Tryd.prog.cellsOf 37 = 5 := by kernel_rfl
theorem info_Val : (Tryd.prog.info? 37).map (·.size) = some 5 := by kernel_rfl
theorem flat_Fld : flat Tryd.prog 12 90 = some fFld := by kernel_rfl
theorem cells_Fld : Tryd.prog.cellsOf 90 = 6 := by kernel_rfl
theorem info_Fld : (Tryd.prog.info? 90).map (·.size) = some 6 := by kernel_rfl
theorem flat_Point : flat Tryd.prog 12 134 = some fPoint := by kernel_rfl
theorem cells_Point : Tryd.prog.cellsOf 134 = 2 := by kernel_rfl
theorem info_Point : (Tryd.prog.info? 134).map (·.size) = some 2 := by kernel_rfl
theorem flat_Shape : flat Tryd.prog 12 49 = some fShape := by kernel_rfl
theorem cells_Shape : Tryd.prog.cellsOf 49 = 3 := by kernel_rfl
theorem info_Shape : (Tryd.prog.info? 49).map (·.size) = some 3 := by kernel_rfl
theorem flat_Expr : flat Tryd.prog 12 52 = some fExpr := by kernel_rfl
theorem cells_Expr : Tryd.prog.cellsOf 52 = 11 := by kernel_rfl
theorem info_Expr : (Tryd.prog.info? 52).map (·.size) = some 11 := by kernel_rfl
theorem flat_Pred : flat Tryd.prog 12 55 = some fPred := by kernel_rfl
theorem cells_Pred : Tryd.prog.cellsOf 55 = 25 := by kernel_rfl
theorem info_Pred : (Tryd.prog.info? 55).map (·.size) = some 25 := by kernel_rfl
theorem flat_Order : flat Tryd.prog 12 125 = some fOrder := by kernel_rfl
theorem cells_Order : Tryd.prog.cellsOf 125 = 2 := by kernel_rfl
theorem info_Order : (Tryd.prog.info? 125).map (·.size) = some 2 := by kernel_rfl
theorem flat_Index : flat Tryd.prog 12 57 = some fIndex := by kernel_rfl
theorem cells_Index : Tryd.prog.cellsOf 57 = 31 := by kernel_rfl
theorem info_Index : (Tryd.prog.info? 57).map (·.size) = some 31 := by kernel_rfl
theorem flat_Schema : flat Tryd.prog 12 43 = some fSchema := by kernel_rfl
theorem cells_Schema : Tryd.prog.cellsOf 43 = 21 := by kernel_rfl
theorem info_Schema : (Tryd.prog.info? 43).map (·.size) = some 21 := by kernel_rfl
theorem flat_Prop : flat Tryd.prog 12 129 = some fProp := by kernel_rfl
theorem cells_Prop : Tryd.prog.cellsOf 129 = 22 := by kernel_rfl
theorem info_Prop : (Tryd.prog.info? 129).map (·.size) = some 22 := by kernel_rfl
theorem flat_Space : flat Tryd.prog 12 45 = some fSpace := by kernel_rfl
theorem cells_Space : Tryd.prog.cellsOf 45 = 25 := by kernel_rfl
theorem info_Space : (Tryd.prog.info? 45).map (·.size) = some 25 := by kernel_rfl
theorem flat_Write : flat Tryd.prog 12 60 = some fWrite := by kernel_rfl
theorem cells_Write : Tryd.prog.cellsOf 60 = 78 := by kernel_rfl
theorem info_Write : (Tryd.prog.info? 60).map (·.size) = some 78 := by kernel_rfl
theorem flat_Entry : flat Tryd.prog 12 66 = some fEntry := by kernel_rfl
theorem cells_Entry : Tryd.prog.cellsOf 66 = 82 := by kernel_rfl
theorem info_Entry : (Tryd.prog.info? 66).map (·.size) = some 82 := by kernel_rfl
theorem tys_ok : okT Tryd.prog [37, 90, 134, 49, 52, 55, 125, 57, 43, 129, 45, 60, 66, 3, 9, 4] = true := by kernel_rfl
/-- a struct in a block of the call's own, or in ghost cells -/
theorem rg_box {w : World} {g : Nat} {cs : List Value} {T0 : TypeId} (h : w.heap[g]? = some (.cells cs.toArray T0 (0, 0))) (o n : Nat) : w.rangeAt g o ((cs.drop o).take n) := fun j v hj => by
  rw [blk_cell h (o + j)]
  rw [List.getElem?_take] at hj
  split at hj
  · rw [List.getElem?_drop] at hj; simpa using hj
  · cases hj
theorem rg_el {I : Gh} {w : World} (hi : Inv I w) {b o : Nat} {cs : List Value} (hI : ∀ q u, cs[q]? = some u → I b (o + q) = some u) : w.rangeAt b o cs := fun j v hj => hi _ _ _ (hI j v hj)
theorem hI_sub {I : Gh} {b o : Nat} {ce : List Value} (hI : ∀ q u, ce[q]? = some u → I b (o + q) = some u) (q n : Nat) : ∀ k u, ((ce.drop q).take n)[k]? = some u → I b (o + q + k) = some u := fun k u hk => by
  rw [List.getElem?_take] at hk
  split at hk
  · rw [List.getElem?_drop] at hk
    have := hI (q + k) u hk
    rwa [← Nat.add_assoc] at this
  · cases hk
theorem sz_of {ty : TypeId} {n : Nat} (h : (Tryd.prog.info? ty).map (·.size) = some n) {cs : List Value} (hl : cs.length = n) : (Tryd.prog.info? ty).map (·.size) = some cs.length := by rw [hl]; exact h
theorem len_sub {cs : List Value} {N : Nat} (h : cs.length = N) (o n : Nat) (hn : o + n ≤ N) : ((cs.drop o).take n).length = n := by rw [List.length_take, List.length_drop]; omega
end Go.Proofs.YtplokbmdcfakbaaDoor
