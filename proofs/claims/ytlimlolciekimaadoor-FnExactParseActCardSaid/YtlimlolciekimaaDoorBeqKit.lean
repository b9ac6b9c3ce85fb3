/- Equal bytes, where a seat has no eqStringS. -/
import Derived.Test.YtlimlolciekimaaDoorLaw1
namespace Go.Proofs.YtlimlolciekimaaDoor
set_option linter.unusedVariables false

theorem beq_toList_true {a b : ByteArray} (h : a = b) : (a.toList == b.toList) = true := by rw [h]; simp
theorem toList_inj {a b : ByteArray} (h : a.toList = b.toList) : a = b := by
  rw [ByteArray.toList_eq, ByteArray.toList_eq] at h
  exact ba_ext h
theorem beq_toList_false {a b : ByteArray} (h : a ≠ b) : (a.toList == b.toList) = false := by
  rw [beq_eq_false_iff_ne]; exact fun h' => h (toList_inj h')
end Go.Proofs.YtlimlolciekimaaDoor
