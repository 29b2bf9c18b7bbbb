/- A tree built of rows that came in. -/
import Derived.Test.YtjpalkggmefpfaaTabTold
import Derived.Test.YtjpalkggmefpfaaTableMap
set_option linter.unusedVariables false
set_option linter.unusedSimpArgs false
namespace Go.Proofs.Ytjpalkggmefpfaa.Tab
open Go.RowKit Go.Proofs.Ytjpalkggmefpfaa.Mem Go.Proofs.YtjpalkggmefpfaaW.PrintWords Go.Proofs.YtjpalkggmefpfaaW.PrintLast Go.Deep Go.Proofs.Ytjpalkggmefpfaa.Opn
attribute [local go_sem ↓] execOp_call_tmp
attribute [local go_sem] callVal_func
/-- A list of rows, at one place. -/
theorem at_R {w : World} {A : Option Addr} {n : Nat} {xs : List Row} (h : kR.C w A n xs) {i : Nat} {r : Row} (hi : xs[i]? = some r) : ∃ ad, A = some ad ∧ w.cell? (ad.add (i * 3)) = some (.string r.key) ∧ w.cell? ⟨(ad.add (i * 3)).block, (ad.add (i * 3)).off + 1, none⟩ = some (.string r.value) ∧ w.cell? ⟨(ad.add (i * 3)).block, (ad.add (i * 3)).off + 2, none⟩ = some (.int .i64 r.version) := by
  have hl := (List.getElem?_eq_some_iff.1 hi).1
  obtain ⟨ad, c, ha, hcl, hK, hcell⟩ := Kd.C_get h r (i : Int) (by omega) (by have := h.1; omega)
  have hK' : kR.K w r c := by simpa [List.getD_eq_getElem?_getD, hi] using hK
  obtain rfl := kR_cells hK'
  simp only [Int.toNat_natCast] at hcell
  have hz : kR.sz = 3 := rfl
  rw [hz] at hcell
  refine ⟨ad, ha, ?_, ?_, ?_⟩
  · simpa using hcell 0 _ rfl
  · rw [← add_field ad (i * 3) 1 (by omega)]; exact hcell 1 _ rfl
  · rw [← add_field ad (i * 3) 2 (by omega)]; exact hcell 2 _ rfl
end Go.Proofs.Ytjpalkggmefpfaa.Tab
