/- The kind of a row. -/
import Derived.Test.YtjpalkggmefpfaaOpen
set_option linter.unusedVariables false
set_option linter.unusedSimpArgs false
namespace Go.Proofs.Ytjpalkggmefpfaa.Opn
open Go.RowKit Go.Proofs.YtjpalkggmefpfaaW.PrintWords
/-- A row: key, value, version. -/
abbrev RowT := ByteArray × ByteArray × Int
def i64ok (n : Int) : Prop := (Lit.int .i64 n).wf = true
def strok (s : ByteArray) : Prop := s.size ≤ 9223372036854775807
theorem cellsInt : Try.prog.cellsOf 3 = 1 := by kernel_rfl
theorem cellsStr : Try.prog.cellsOf 9 = 1 := by kernel_rfl
theorem opInt : Op_ Try.prog 3 (Kd.int .i64) i64ok (fun _ => 1) := op_int Try.underlying3
theorem opStr : Op_ Try.prog 9 Kd.string strok (fun s => s.size + 1) := op_string Try.underlying9
def kRow : Kd RowT := Kd.pair Kd.string (Kd.pair Kd.string (Kd.int .i64))
def pRow (x : RowT) : Prop := strok x.1 ∧ strok x.2.1 ∧ i64ok x.2.2
def mRow (x : RowT) : Nat := (x.1.size + 1) + ((x.2.1.size + 1) + 1)
theorem cellsRow : Try.prog.cellsOf 25 = 3 := by kernel_rfl
theorem opRow : Op_ Try.prog 25 kRow pRow mRow :=
  op_struct3 Try.underlying25 rfl rfl rfl cellsStr cellsStr cellsInt opStr opStr opInt cellsRow
theorem kRow_cells {w : World} {r : RowT} {cs : List Value} (h : kRow.K w r cs) : cs = [.string r.1, .string r.2.1, .int .i64 r.2.2] := by
  obtain ⟨_, _, rfl, rfl, _, _, rfl, rfl, rfl⟩ := h
  rfl
end Go.Proofs.Ytjpalkggmefpfaa.Opn
