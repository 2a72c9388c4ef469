/- The fixed examples, plain. -/
import Derived.Test.YtdoofmohoamkbaaDoorDec
import Derived.Test.YtdoofmohoamkbaaDoorEnc
set_option linter.unusedSimpArgs false
set_option linter.unusedVariables false
namespace Go.Proofs.YtdoofmohoamkbaaDoor
open Go.RowKit
theorem aw1 : rdV ⟨#[128, 1]⟩ 0 = (64, 2, 0) := by decide
theorem aw2 : rdV ⟨#[128, 0]⟩ 0 = (0, 0, 4) := by decide
def awT : Tr := .mk 6 0 ⟨#[]⟩ [.mk 3 1 ⟨#[]⟩ [] [] []] [] []
theorem aw_n1 : numL (zz (-1)) = [1] := by rw [show zz (-1) = 1 by decide, numL_lo (by omega)]; rfl
theorem aw_n64 : numL (zz 64) = [128, 1] := by rw [show zz 64 = 128 by decide, numL_hi (by omega), numL_lo (by omega)]; rfl
theorem aw_n2 : numL (zz 1) = [2] := by rw [show zz 1 = 2 by decide, numL_lo (by omega)]; rfl
theorem aw_valid : validB awT = true := by simp [validB, awT, Tr.cnt, Tr.cntL, Tr.dep, Tr.depL, snd, sndL, sndF, headOk, leafOk, bytes_e]
theorem aw_enc : enc awT = [6, 2, 3, 2] := by
  simp [awT, enc, encL]
  rw [aw_n2]; rfl
theorem aw3 : encR awT = (⟨#[6, 2, 3, 2]⟩, 0) := by unfold encR; rw [aw_valid, aw_enc]; rfl
theorem aw4 : decR ⟨#[3, 2]⟩ = (.mk 3 1 ⟨#[]⟩ [] [] [], 0) := by
  have : readR ⟨#[3, 2]⟩ 0 = (.mk 3 1 ⟨#[]⟩ [] [] [], 2, 0) := by
    unfold readR
    rw [if_neg (by decide), show ((0 : Int)).toNat = 0 from rfl, rdT_eq]
    rfl
  unfold decR; rw [this]; rfl
theorem aw5 : decR ⟨#[3, 2, 255]⟩ = (zeroT, 6) := by
  have : readR ⟨#[3, 2, 255]⟩ 0 = (.mk 3 1 ⟨#[]⟩ [] [] [], 2, 0) := by
    unfold readR
    rw [if_neg (by decide), show ((0 : Int)).toNat = 0 from rfl, rdT_eq]
    rfl
  unfold decR; rw [this]; rfl
end Go.Proofs.YtdoofmohoamkbaaDoor
