/- Do some rows make a table; a table of rows that came in. -/
import Derived.Test.YtjpalkggmefpfaaTabFrom
set_option linter.unusedVariables false
set_option linter.unusedSimpArgs false
namespace Go.Proofs.Ytjpalkggmefpfaa.Tab
open Go.RowKit Go.Proofs.Ytjpalkggmefpfaa.Mem Go.Proofs.YtjpalkggmefpfaaW.PrintWords Go.Proofs.YtjpalkggmefpfaaW.PrintLast Go.Deep Go.Proofs.Ytjpalkggmefpfaa.Opn
attribute [local go_sem ↓] execOp_call_tmp
attribute [local go_sem] callVal_func
theorem scan_next {l : List Row} {k : Nat} {r : Row} (h : l[k]? = some r) : (if k + 1 = 0 then none else l[k + 1 - 1]?) = some r := by simp [h]
theorem ngt_lt {a b : ByteArray} (h : (Op.bytesLess a.toList b.toList || a.toList == b.toList) = false) : lt b a = true := by
  rw [Bool.or_eq_false_iff] at h
  exact gt_of h.1 h.2
theorem ge_nlt {a b : ByteArray} (h : (Op.bytesLess a.toList b.toList || a.toList == b.toList) = true) : lt b a = false := by
  rw [Bool.or_eq_true] at h
  rcases h with h | h
  · exact lt_asymm h
  · exact ngt_of h
end Go.Proofs.Ytjpalkggmefpfaa.Tab
