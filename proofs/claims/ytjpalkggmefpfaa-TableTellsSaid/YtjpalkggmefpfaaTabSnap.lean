/- Snapshot; a table's rows in a list of their own. -/
import Derived.Test.YtjpalkggmefpfaaTabEq
import Derived.Test.YtjpalkggmefpfaaTableFroms
import Derived.Test.YtjpalkggmefpfaaTabRep
set_option linter.unusedVariables false
set_option linter.unusedSimpArgs false
namespace Go.Proofs.Ytjpalkggmefpfaa.Tab
open Go.RowKit Go.Proofs.Ytjpalkggmefpfaa.Mem Go.Proofs.YtjpalkggmefpfaaW.PrintWords Go.Proofs.YtjpalkggmefpfaaW.PrintLast Go.Deep Go.Proofs.Ytjpalkggmefpfaa.Opn
section
attribute [local go_sem ↓] execOp_call_tmp
attribute [local go_sem] callVal_func
theorem snap_any {w : World} {g : Nat} {l : List Row} (h : TabR w g l) : Calls Try.prog 34 #[.pointer (some ⟨g, 0, none⟩)] w fun e w' => ∃ q, e = .returned (.pointer (some ⟨q, 0, none⟩)) ∧ w.heap.size ≤ q ∧ TabR w' q l ∧ Below w.heap.size w w' := by
  obtain ⟨t, root, h1, h2, h3, h4⟩ := h
  have H := Lib.hid h1
  have HT := Lib.hid h2
  have B0 := Lib.hid (below_alloc (Below.refl w.heap.size w) (.cells #[Value.pointer root, .int .i64 (size l), .bool true] tTab))
  have Q0 := Lib.hid (blk_new w (.cells #[Value.pointer root, .int .i64 (size l), .bool true] tTab))
  clear h1 h2
  have cg := blkc H.out
  go_enter Try.func34, Try.ntmps34
  go_wp2_with fail
  refine (is_any H.out).mono ?_
  rintro e w1 ⟨rfl, rfl⟩
  go_wp2
  go_ret
  exact ⟨w.heap.size, rfl, Nat.le_refl _, ⟨t, root, Q0.out, HT.out.below B0.out, h3, h4⟩, B0.out⟩
end
attribute [local go_sem] Oper.semAt_some
/-- What lies in the list that is made. -/
def AllI (n0 bl : Nat) (w : World) (pre : List Row) (W : World) : Prop :=
  (∃ v, Boxed W bl tRows v ∧ W.ownsRow n0 tRow 3 v pre.length (rowsC pre) ∧ True) ∧ Below n0 w W
theorem AllI.below {n0 bl : Nat} {w : World} {pre : List Row} {A B : World} (h : AllI n0 bl w pre A) (hb : Below A.heap.size A B) (hn : n0 ≤ A.heap.size) : AllI n0 bl w pre B := by
  obtain ⟨⟨v, hv, hr, hm⟩, hb2⟩ := h
  exact ⟨⟨v, blk_below hv hb, pw_own_below hr hb, hm⟩, hb2.trans (hb.mono hn)⟩
end Go.Proofs.Ytjpalkggmefpfaa.Tab
