/- The kinds of what the layer's statements take: rows, calls of a script. -/
import Derived.Test.YtjpalkggmefpfaaTabList
set_option linter.unusedVariables false
set_option linter.unusedSimpArgs false
namespace Go.Proofs.Ytjpalkggmefpfaa.Opn
open Go.RowKit Go.Proofs.YtjpalkggmefpfaaW.PrintWords Go.Proofs.Ytjpalkggmefpfaa.Tab
abbrev kI : Kd Int := Kd.int .i64
def kR : Kd Row := Kd.iso kRow (fun r => (r.key, r.value, r.version))
def pR (r : Row) : Prop := pRow (r.key, r.value, r.version)
def mR (r : Row) : Nat := mRow (r.key, r.value, r.version)
theorem opR : Op_ Try.prog 25 kR pR mR := op_iso opRow (fun r : Row => (r.key, r.value, r.version)) (fun x => ⟨x.1, x.2.1, x.2.2⟩) (fun _ => rfl)
theorem kR_cells {w : World} {r : Row} {cs : List Value} (h : kR.K w r cs) : cs = r.cells := kRow_cells h
abbrev RangeT := ByteArray × ByteArray
def kRange : Kd RangeT := Kd.pair Kd.string Kd.string
def pRange (x : RangeT) : Prop := strok x.1 ∧ strok x.2
def mRange (x : RangeT) : Nat := (x.1.size + 1) + (x.2.size + 1)
theorem cellsRange : Try.prog.cellsOf 39 = 2 := by kernel_rfl
theorem opRange : Op_ Try.prog 39 kRange pRange mRange :=
  op_struct2 Try.underlying39 rfl rfl cellsStr cellsStr opStr opStr cellsRange
def kRows : Kd (List Row) := Kd.slice 25 kR
def pRows (l : List Row) : Prop := l.length ≤ 9223372036854775807 ∧ ∀ x ∈ l, pR x
def mRows (l : List Row) : Nat := sumOf mR l + 1
theorem cellsRows : Try.prog.cellsOf 29 = 1 := by kernel_rfl
theorem opRows : Op_ Try.prog 29 kRows pRows mRows := op_slice Try.underlying29 cellsRow opR
/-- One call of a script. -/
structure TStep where
  call : Int
  table : Int
  to2 : Int
  row : Row
  key : ByteArray
  from_ : ByteArray
  upto : ByteArray
  rows : List Row
  n : Int
abbrev TStepT := Int × Int × Int × Row × ByteArray × RangeT × List Row × Int
def TStep.to_ (s : TStep) : TStepT := (s.call, s.table, s.to2, s.row, s.key, (s.from_, s.upto), s.rows, s.n)
def TStep.of_ (x : TStepT) : TStep := ⟨x.1, x.2.1, x.2.2.1, x.2.2.2.1, x.2.2.2.2.1, x.2.2.2.2.2.1.1, x.2.2.2.2.2.1.2, x.2.2.2.2.2.2.1, x.2.2.2.2.2.2.2⟩
def TStep.cells (s : TStep) (v : Value) : List Value := [.int .i64 s.call, .int .i64 s.table, .int .i64 s.to2, .string s.row.key, .string s.row.value, .int .i64 s.row.version, .string s.key, .string s.from_, .string s.upto, v, .int .i64 s.n]
def kTOp : Kd TStep := Kd.iso (Kd.pair kI (Kd.pair kI (Kd.pair kI (Kd.pair kR (Kd.pair Kd.string (Kd.pair kRange (Kd.pair kRows kI))))))) TStep.to_
def pTOp (s : TStep) : Prop := i64ok s.call ∧ i64ok s.table ∧ i64ok s.to2 ∧ pR s.row ∧ strok s.key ∧ pRange (s.from_, s.upto) ∧ pRows s.rows ∧ i64ok s.n
def mTOp (s : TStep) : Nat := 1 + (1 + (1 + (mR s.row + ((s.key.size + 1) + (mRange (s.from_, s.upto) + (mRows s.rows + 1))))))
theorem cellsTOp : Try.prog.cellsOf 47 = 11 := by kernel_rfl
theorem opTOp : Op_ Try.prog 47 kTOp pTOp mTOp :=
  op_iso (op_struct8 Try.underlying47 rfl rfl rfl rfl rfl rfl rfl rfl cellsInt cellsInt cellsInt cellsRow cellsStr cellsRange cellsRows cellsInt opInt opInt opInt opR opStr opRange opRows opInt cellsTOp) TStep.to_ TStep.of_ (fun _ => rfl)
theorem kTOp_cells {w : World} {s : TStep} {cs : List Value} (h : kTOp.K w s cs) : ∃ v, cs = s.cells v ∧ kRows.K w s.rows [v] := by
  obtain ⟨_, _, rfl, rfl, _, _, rfl, rfl, _, _, rfl, rfl, _, _, rfl, hr, _, _, rfl, rfl, _, _, rfl, hg, _, _, rfl, hv, rfl⟩ := h
  obtain rfl := kRow_cells hr
  obtain ⟨_, _, rfl, rfl, rfl⟩ := hg
  obtain ⟨A, c, rfl, hh⟩ := hv
  exact ⟨_, rfl, A, c, rfl, hh⟩
end Go.Proofs.Ytjpalkggmefpfaa.Opn
namespace Go.Proofs.Ytjpalkggmefpfaa.Tab
open Go.RowKit Go.Proofs.YtjpalkggmefpfaaW.PrintWords Go.Proofs.Ytjpalkggmefpfaa.Opn
/-- A call of a script, at one place. -/
theorem at_TOp {w : World} {A : Option Addr} {n : Nat} {xs : List TStep} (h : kTOp.C w A n xs) {i : Nat} {s : TStep} (hi : xs[i]? = some s) : ∃ ad v, A = some ad ∧ kRows.K w s.rows [v] ∧ w.cell? (ad.add (i * 11)) = some (.int .i64 s.call) ∧ ∀ j, 0 < j → j < 11 → w.cell? ⟨(ad.add (i * 11)).block, (ad.add (i * 11)).off + j, none⟩ = (s.cells v)[j]? := by
  have hl := (List.getElem?_eq_some_iff.1 hi).1
  obtain ⟨ad, c, ha, hcl, hK, hcell⟩ := Kd.C_get h s (i : Int) (by omega) (by have := h.1; omega)
  have hK' : kTOp.K w s c := by simpa [List.getD_eq_getElem?_getD, hi] using hK
  obtain ⟨v, rfl, hv⟩ := kTOp_cells hK'
  simp only [Int.toNat_natCast] at hcell
  have hz : kTOp.sz = 11 := rfl
  refine ⟨ad, v, ha, hv, ?_, fun j hj hj2 => ?_⟩
  · have := hcell 0 _ rfl
    rw [hz] at this
    simpa using this
  · rw [← add_field ad (i * 11) j hj]
    have hlen : (s.cells v).length = 11 := rfl
    rw [List.getElem?_eq_getElem (by omega)]
    have := hcell j _ (List.getElem?_eq_getElem (by omega))
    rw [hz] at this
    exact this
end Go.Proofs.Ytjpalkggmefpfaa.Tab
