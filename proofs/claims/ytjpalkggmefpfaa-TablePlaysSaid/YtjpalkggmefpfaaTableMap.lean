/- TableMap, walked. -/
import Derived.Test.YtjpalkggmefpfaaTable
import Derived.Test.YtjpalkggmefpfaaTabKinds
set_option linter.unusedVariables false
set_option linter.unusedSimpArgs false
namespace Go.Proofs.Ytjpalkggmefpfaa.Tab
open Go.RowKit Go.Proofs.Ytjpalkggmefpfaa.Mem Go.Proofs.YtjpalkggmefpfaaW.PrintWords Go.Proofs.YtjpalkggmefpfaaW.PrintLast Go.Deep Go.Proofs.Ytjpalkggmefpfaa.Opn
abbrev tOp : TypeId := 47
theorem TabR.set_row {w : World} {g b j : Nat} {l : List Row} {v : Value} {cs : Array Value} (h : TabR w g l) (hb : w.heap[b]? = some (.cells cs tRow (0, 0))) : TabR (w.setCell ⟨b, j, none⟩ v) g l := by
  obtain ⟨t, root, h1, h2, h3⟩ := h
  exact ⟨t, root, blk_far (p := ⟨b, j, none⟩) h1 (blk_ne h1 hb (show tTab ≠ tRow by decide)) v, h2.set hb (show tN ≠ tRow by decide), h3⟩
theorem new_some (w : World) : Calls Try.prog 21 #[] w fun e w' => ∃ g, e = .returned (.pointer (some ⟨g, 0, none⟩)) ∧ w.heap.size ≤ g ∧ TabR w' g [] ∧ Below w.heap.size w w' :=
  (new_any w).mono fun e w' ⟨h1, h2, h3⟩ => ⟨_, h1, Nat.le_refl _, h2, h3⟩
/-- Three stores of a row into a block of its own. -/
theorem set_row3 {w : World} {b : Nat} {cs : Array Value} (h : w.heap[b]? = some (.cells cs tRow (0, 0))) (hs : cs.size = 3) (x y z : Value) : (((w.setCell ⟨b, 0, none⟩ x).setCell ⟨b, 1, none⟩ y).setCell ⟨b, 2, none⟩ z).heap[b]? = some (.cells #[x, y, z] tRow (0, 0)) := by
  have h1 := blk_set (blk_set (blk_set h 0 x) 1 y) 2 z
  rw [h1]
  obtain ⟨l⟩ := cs
  match l, hs with
  | [a, b, c], _ => simp
theorem TabR.set_row3 {w : World} {g b : Nat} {l : List Row} {cs : Array Value} (h : TabR w g l) (hb : w.heap[b]? = some (.cells cs tRow (0, 0))) (x y z : Value) : TabR (((w.setCell ⟨b, 0, none⟩ x).setCell ⟨b, 1, none⟩ y).setCell ⟨b, 2, none⟩ z) g l :=
  ((h.set_row hb (j := 0) (v := x)).set_row (blk_set hb 0 x) (j := 1) (v := y)).set_row (blk_set (blk_set hb 0 x) 1 y) (j := 2) (v := z)
theorem below_row3 {w W : World} {b : Nat} (h : Below w.heap.size w W) (hb : w.heap.size ≤ b) (x y z : Value) : Below w.heap.size w (((W.setCell ⟨b, 0, none⟩ x).setCell ⟨b, 1, none⟩ y).setCell ⟨b, 2, none⟩ z) :=
  below_set (below_set (below_set h hb) hb) hb
end Go.Proofs.Ytjpalkggmefpfaa.Tab
namespace Go.Proofs.Ytjpalkggmefpfaa.Walk
open Go.RowKit Go.Proofs.Ytjpalkggmefpfaa.Opn Go.Proofs.Ytjpalkggmefpfaa.Tab Go.Proofs.YtjpalkggmefpfaaW.PrintWords
end Go.Proofs.Ytjpalkggmefpfaa.Walk
