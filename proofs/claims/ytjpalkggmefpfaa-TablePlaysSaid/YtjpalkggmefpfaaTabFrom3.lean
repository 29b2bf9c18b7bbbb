/- A table of rows that came in. -/
import Derived.Test.YtjpalkggmefpfaaTabFrom2
set_option linter.unusedVariables false
set_option linter.unusedSimpArgs false
namespace Go.Proofs.Ytjpalkggmefpfaa.Tab
open Go.RowKit Go.Proofs.Ytjpalkggmefpfaa.Mem Go.Proofs.YtjpalkggmefpfaaW.PrintWords Go.Proofs.YtjpalkggmefpfaaW.PrintLast Go.Deep Go.Proofs.Ytjpalkggmefpfaa.Opn
attribute [local go_sem ↓] execOp_call_tmp
attribute [local go_sem] callVal_func
theorem size_take {l : List Row} {k : Nat} {r : Row} (h : l[k]? = some r) : size (l.take (k + 1)) = size (l.take k) + r.bytes := by
  rw [List.take_add_one, h, size_append]
  simp [size]
end Go.Proofs.Ytjpalkggmefpfaa.Tab
