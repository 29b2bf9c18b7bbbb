/- The kinds of what the layer's statements take: packets, steps, lists of them. -/
import Derived.Test.YtpjbgcpieijeaaaNetMap
import Derived.Test.YtpjbgcpieijeaaaOpen
set_option linter.unusedVariables false
set_option linter.unusedSimpArgs false
namespace Go.Proofs.Ytpjbgcpieijeaaa.Opn
open Go.RowKit Go.Proofs.YtpjbgcpieijeaaaW.PrintWords
def i64ok (n : Int) : Prop := (Lit.int .i64 n).wf = true
def u8ok (n : Int) : Prop := (Lit.int .u8 n).wf = true
theorem u8ok_range {n : Int} (h : u8ok n) : 0 ≤ n ∧ n < 256 := by
  simp [u8ok, Lit.wf] at h
  have h1 : IntKind.u8.min = 0 := by decide
  have h2 : IntKind.u8.max = 255 := by decide
  omega
abbrev kI : Kd Int := Kd.int .i64
abbrev kB : Kd Int := Kd.int .u8
/-- A packet: from, to, bytes. -/
abbrev PkT := Int × Int × List Int
def kPk : Kd PkT := Kd.pair kI (Kd.pair kI (Kd.slice 5 kB))
theorem cellsInt : Try.prog.cellsOf 3 = 1 := by kernel_rfl
theorem cellsU8 : Try.prog.cellsOf 5 = 1 := by kernel_rfl
theorem cellsBs : Try.prog.cellsOf 28 = 1 := by kernel_rfl
theorem cellsPk : Try.prog.cellsOf 30 = 3 := by kernel_rfl
theorem cellsSt : Try.prog.cellsOf 59 = 6 := by kernel_rfl
theorem opInt : Op_ Try.prog 3 kI i64ok (fun _ => 1) := op_int Try.underlying3
theorem opU8 : Op_ Try.prog 5 kB u8ok (fun _ => 1) := op_int Try.underlying5
def pBs (xs : List Int) : Prop := xs.length ≤ 9223372036854775807 ∧ ∀ x ∈ xs, u8ok x
def mBs (xs : List Int) : Nat := sumOf (fun _ => 1) xs + 1
theorem opBs : Op_ Try.prog 28 (Kd.slice 5 kB) pBs mBs := op_slice Try.underlying28 cellsU8 opU8
def pPk (x : PkT) : Prop := i64ok x.1 ∧ i64ok x.2.1 ∧ pBs x.2.2
def mPk (x : PkT) : Nat := 1 + (1 + mBs x.2.2)
theorem opPk : Op_ Try.prog 30 kPk pPk mPk := op_struct3 Try.underlying30 rfl rfl rfl cellsInt cellsInt cellsBs opInt opInt opBs cellsPk
/-- A step: its kind, its packet, its two numbers. -/
abbrev StT := Int × PkT × Int × Int
def kSt : Kd StT := Kd.pair kI (Kd.pair kPk (Kd.pair kI kI))
def pSt (x : StT) : Prop := i64ok x.1 ∧ pPk x.2.1 ∧ i64ok x.2.2.1 ∧ i64ok x.2.2.2
def mSt (x : StT) : Nat := 1 + (mPk x.2.1 + (1 + 1))
theorem opSt : Op_ Try.prog 59 kSt pSt mSt := op_struct4 Try.underlying59 rfl rfl rfl rfl cellsInt cellsPk cellsInt cellsInt opInt opPk opInt opInt cellsSt
theorem kPk_cells {w : World} {x : PkT} {cs : List Value} (h : kPk.K w x cs) : ∃ A c, cs = [.int .i64 x.1, .int .i64 x.2.1, .slice A x.2.2.length c] ∧ x.2.2.length ≤ c ∧ kB.C w A x.2.2.length x.2.2 := by
  obtain ⟨_, _, rfl, rfl, _, _, rfl, rfl, A, c, rfl, hl, hC⟩ := h
  exact ⟨A, c, rfl, hl, hC⟩
theorem kSt_cells {w : World} {x : StT} {cs : List Value} (h : kSt.K w x cs) : ∃ A c, cs = [.int .i64 x.1, .int .i64 x.2.1.1, .int .i64 x.2.1.2.1, .slice A x.2.1.2.2.length c, .int .i64 x.2.2.1, .int .i64 x.2.2.2] ∧ x.2.1.2.2.length ≤ c ∧ kB.C w A x.2.1.2.2.length x.2.1.2.2 := by
  obtain ⟨_, _, rfl, rfl, _, _, rfl, hp, _, _, rfl, rfl, rfl⟩ := h
  obtain ⟨A, c, rfl, hl, hC⟩ := kPk_cells hp
  exact ⟨A, c, rfl, hl, hC⟩
end Go.Proofs.Ytpjbgcpieijeaaa.Opn
