/- Strings, as the walk spells their tests. -/
import Derived.Test.YtipphlhaaienpaaDoorKit
set_option linter.unusedSimpArgs false
set_option linter.unusedVariables false
namespace Go.Proofs.YtipphlhaaienpaaDoor
theorem str_inj {a b : ByteArray} (h : a.toList = b.toList) : a = b := by
  rw [ByteArray.toList_eq, ByteArray.toList_eq] at h
  cases a; cases b; simp at h; subst h; rfl
theorem str_ne {a b : ByteArray} (h : ¬ a = b) : (a.toList == b.toList) = false := by
  rw [beq_eq_false_iff_ne]; exact fun e => h (str_inj e)
theorem str_neq {a b : ByteArray} (h : ¬ a = b) : (a.toList != b.toList) = true := by
  rw [bne_iff_ne]; exact fun e => h (str_inj e)
theorem str_eqv (a b : ByteArray) : (a.toList == b.toList) = decide (a = b) := by
  by_cases h : a = b
  · subst h; simp
  · rw [str_ne h, decide_eq_false h]
end Go.Proofs.YtipphlhaaienpaaDoor
