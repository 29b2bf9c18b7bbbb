/- Small words for memory: the cells of a block that is known whole. -/
import Derived.Test.YtjpalkggmefpfaaWWords
import Derived.Lib.Hide
set_option linter.unusedVariables false
set_option linter.unusedSimpArgs false
namespace Go.Proofs.Ytjpalkggmefpfaa.Mem
open Go.RowKit Go.Proofs.YtjpalkggmefpfaaW.PrintWords
theorem blk1 {w : World} {g : Nat} {t : TypeId} {a0 : Value} (h : w.heap[g]? = some (.cells #[a0] t (0, 0))) : w.cell? ⟨g, 0, none⟩ = some a0 := blk_cell h 0
theorem blkc {w : World} {g : Nat} {t : TypeId} {cs : Array Value} (h : w.heap[g]? = some (.cells cs t (0, 0))) : ∀ o, w.cell? ⟨g, o, none⟩ = cs[o]? := fun o => blk_cell h o
theorem blkz {w : World} {g : Nat} {t : TypeId} {cs : Array Value} (h : w.heap[g]? = some (.cells cs t (0, 0))) : ∀ o, w.frozen? ⟨g, o, none⟩ = false := fun o => blk_frozen h o
end Go.Proofs.Ytjpalkggmefpfaa.Mem
