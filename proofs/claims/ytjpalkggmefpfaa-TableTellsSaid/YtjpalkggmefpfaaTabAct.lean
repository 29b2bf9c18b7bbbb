/- A table's place, size; a list turned; one call that changes a table. -/
import Derived.Test.YtjpalkggmefpfaaTabRep
import Derived.Test.YtjpalkggmefpfaaTabKinds
import Derived.Test.YtjpalkggmefpfaaTableMap
set_option linter.unusedVariables false
set_option linter.unusedSimpArgs false
namespace Go.Proofs.Ytjpalkggmefpfaa.Tab
open Go.RowKit Go.Proofs.Ytjpalkggmefpfaa.Mem Go.Proofs.YtjpalkggmefpfaaW.PrintWords Go.Proofs.YtjpalkggmefpfaaW.PrintLast Go.Deep Go.Proofs.Ytjpalkggmefpfaa.Opn
attribute [local go_sem ↓] execOp_call_tmp
attribute [local go_sem] callVal_func
def actL (l : List Row) (s : TStep) : List Row := if s.call = 0 then (putL l s.row).2 else if s.call = 1 then without s.key l else if s.call = 2 then (replL l s.from_ s.upto s.rows).2 else l
theorem LOk.actL {l : List Row} (h : LOk l) (s : TStep) : LOk (Tab.actL l s) := by
  unfold Tab.actL
  split
  · exact h.putL s.row
  · split
    · exact h.without s.key
    · split
      · exact LOk.replL h _ _ _
      · exact h
end Go.Proofs.Ytjpalkggmefpfaa.Tab
