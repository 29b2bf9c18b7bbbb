/- The kinds of the program's own structures: an operation, an update, a row. -/
import Derived.Test.YtiboiociaedocaaOpen
set_option linter.unusedVariables false
set_option linter.unusedSimpArgs false
namespace Go.Proofs.Ytiboiociaedocaa.Opn
open Go.RowKit Go.Proofs.YtiboiociaedocaaW.PrintWords
/-- An operation: kind, key, value, version. -/
abbrev OpT := Int × ByteArray × ByteArray × Int
/-- An update: number, client, request, operation. -/
abbrev UpdT := Int × Int × Int × OpT
def i64ok (n : Int) : Prop := (Lit.int .i64 n).wf = true
def strok (s : ByteArray) : Prop := s.size ≤ 9223372036854775807
def kOp : Kd OpT := Kd.pair (Kd.int .i64) (Kd.pair Kd.string (Kd.pair Kd.string (Kd.int .i64)))
def kUpd : Kd UpdT := Kd.pair (Kd.int .i64) (Kd.pair (Kd.int .i64) (Kd.pair (Kd.int .i64) kOp))
def pOp (x : OpT) : Prop := i64ok x.1 ∧ strok x.2.1 ∧ strok x.2.2.1 ∧ i64ok x.2.2.2
def mOp (x : OpT) : Nat := 1 + ((x.2.1.size + 1) + ((x.2.2.1.size + 1) + 1))
def pUpd (x : UpdT) : Prop := i64ok x.1 ∧ i64ok x.2.1 ∧ i64ok x.2.2.1 ∧ pOp x.2.2.2
def mUpd (x : UpdT) : Nat := 1 + (1 + (1 + mOp x.2.2.2))
theorem cellsInt : Try.prog.cellsOf 3 = 1 := by kernel_rfl
theorem cellsStr : Try.prog.cellsOf 9 = 1 := by kernel_rfl
theorem cellsKind : Try.prog.cellsOf 33 = 1 := by kernel_rfl
theorem cellsOp : Try.prog.cellsOf 35 = 4 := by kernel_rfl
theorem cellsUpd : Try.prog.cellsOf 38 = 7 := by kernel_rfl
theorem opInt : Op_ Try.prog 3 (Kd.int .i64) i64ok (fun _ => 1) := op_int Try.underlying3
theorem opStr : Op_ Try.prog 9 Kd.string strok (fun s => s.size + 1) := op_string Try.underlying9
theorem opKind : Op_ Try.prog 33 (Kd.int .i64) i64ok (fun _ => 1) := op_int Try.underlying33
theorem opOp : Op_ Try.prog 35 kOp pOp mOp :=
  op_struct4 Try.underlying35 rfl rfl rfl rfl cellsKind cellsStr cellsStr cellsInt opKind opStr opStr opInt cellsOp
theorem opUpd : Op_ Try.prog 38 kUpd pUpd mUpd :=
  op_struct4 Try.underlying38 rfl rfl rfl rfl cellsInt cellsInt cellsInt cellsOp opInt opInt opInt opOp cellsUpd
theorem kUpd_cells {w : World} {u : UpdT} {cs : List Value} (h : kUpd.K w u cs) : cs = [.int .i64 u.1, .int .i64 u.2.1, .int .i64 u.2.2.1, .int .i64 u.2.2.2.1, .string u.2.2.2.2.1, .string u.2.2.2.2.2.1, .int .i64 u.2.2.2.2.2.2] := by
  obtain ⟨_, _, rfl, rfl, _, _, rfl, rfl, _, _, rfl, rfl, _, _, rfl, rfl, _, _, rfl, rfl, _, _, rfl, rfl, rfl⟩ := h
  rfl
end Go.Proofs.Ytiboiociaedocaa.Opn
