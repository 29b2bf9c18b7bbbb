/- What Check answers of a row, in plain words; the program's and the document's. -/
import Derived.Test.YtjpalkggmefpfaaRowKind
import Derived.Test.YtjpalkggmefpfaaMem
import Derived.WalkKit
import Derived.WalkSpells
import Derived.WalkLawsBesides
import Derived.Deep.QuietTactic
import Derived.BigQuiet
import Derived.Lib.Hide
import Derived.Deep.RegionHeld3
set_option linter.unusedVariables false
set_option linter.unusedSimpArgs false
namespace Go.Proofs.Ytjpalkggmefpfaa.Tab
open Go.RowKit Go.Proofs.Ytjpalkggmefpfaa.Opn Go.Proofs.YtjpalkggmefpfaaW.PrintWords Go.Proofs.Ytjpalkggmefpfaa.Mem
theorem ret_int {k : IntKind} {a b : Int} (h : a = b) : Ending.returned (.int k a) = .returned (.int k b) := by rw [h]
def checkRow (r : RowT) : Int :=
  if (r.1.size : Int) < 1 ∨ (r.1.size : Int) > 1024 then 70 else if (r.2.1.size : Int) > 65536 then 71 else if r.2.2 < 1 ∨ r.2.2 > 1152921504606846976 then 72 else 0
theorem isEmpty_size (s : ByteArray) : s.toList.isEmpty = decide (s.size = 0) := by
  have e : s.toList.length = s.size := by rw [ByteArray.toList_eq, Array.length_toList]; rfl
  rw [← e]
  cases s.toList <;> rfl
theorem toList_nil (s : ByteArray) : s.toList = [] ↔ s.size = 0 := by
  rw [← List.isEmpty_iff, isEmpty_size, decide_eq_true_eq]
set_option maxHeartbeats 400000 in
theorem check_any (key val : ByteArray) (ver : Int) (w : World) :
    Calls Try.prog 11 #[.agg #[.string key, .string val, .int .i64 ver]] w fun e w' => e = .returned (.int .i64 (checkRow (key, val, ver))) ∧ Below w.heap.size w w' := by
  go_enter Try.func11, Try.ntmps11
  go_wp2
  all_goals
    go_ret
    refine ⟨ret_int ?_, (Below.refl _ _).alloc (Nat.le_refl _) _⟩
    simp only [checkRow]
    simp only [isEmpty_size, toList_nil, decide_eq_true_eq, decide_eq_false_iff_not] at *
    (repeat' split) <;> omega
set_option maxHeartbeats 400000 in
theorem rCheck_any (key val : ByteArray) (ver : Int) (w : World) :
    Calls Try.prog 12 #[.agg #[.string key, .string val, .int .i64 ver]] w fun e w' => e = .returned (.int .i64 (checkRow (key, val, ver))) ∧ Below w.heap.size w w' := by
  go_enter Try.func12, Try.ntmps12
  go_wp2
  all_goals
    go_ret
    refine ⟨ret_int ?_, (Below.refl _ _).alloc (Nat.le_refl _) _⟩
    simp only [checkRow]
    first | (simp_all; done) | (simp_all; omega)
end Go.Proofs.Ytjpalkggmefpfaa.Tab
