/- TableFroms, walked. -/
import Derived.Test.YtjpalkggmefpfaaTabLend
import Derived.Test.YtjpalkggmefpfaaTable
set_option linter.unusedVariables false
set_option linter.unusedSimpArgs false
namespace Go.Proofs.Ytjpalkggmefpfaa.Tab
open Go.RowKit Go.Proofs.Ytjpalkggmefpfaa.Mem Go.Proofs.YtjpalkggmefpfaaW.PrintWords Go.Proofs.YtjpalkggmefpfaaW.PrintLast Go.Deep Go.Proofs.Ytjpalkggmefpfaa.Opn
attribute [local go_sem ↓] execOp_call_tmp
attribute [local go_sem] callVal_func
theorem below_set3 {w W : World} {b : Nat} (h : Below w.heap.size w W) (hb : w.heap.size ≤ b) (i : Nat) (x y z : Value) : Below w.heap.size w (((W.setCell ⟨b, i, none⟩ x).setCell ⟨b, i + 1, none⟩ y).setCell ⟨b, i + 2, none⟩ z) :=
  below_set (below_set (below_set h hb) hb) hb
theorem some_at {cs : Array Value} {i : Nat} (h : i < cs.size) : ∃ x, cs[i]? = some x := ⟨cs[i], Array.getElem?_eq_getElem h⟩
theorem own_blk {w : World} {base v n cap : Nat} {ok : Nat → Prop} {l : List Row} (h : kR.R tRow w base ok (.slice (some ⟨v, 0, none⟩) n cap) l) (hp : 0 < n) : ∃ cs, w.heap[v]? = some (.cells cs tRow (0, 0)) ∧ cs.size = cap * 3 ∧ n ≤ cap ∧ base ≤ v := by
  have hb := Kd.R_base h v (by simp [Value.ownBlock])
  have hn := (Kd.R_reads' h).1
  obtain ⟨inner, ho⟩ := Kd.R_own h
  rcases ho.2 with ⟨_, h0⟩ | ⟨g, cap', cur, he, hb, hh, hnc, hcm, hcs, ht⟩
  · omega
  · injection he with h1 h2 h3
    injection h1 with h1
    injection h1 with h1
    subst h1
    subst h3
    exact ⟨cur, hh, hcs, by omega, hb⟩
theorem lt_none (k : ByteArray) : lt k ⟨#[]⟩ = false := by
  cases h : lt k ⟨#[]⟩ with
  | false => rfl
  | true =>
    exfalso
    unfold lt at h
    revert h
    cases k.toList <;> simp [Op.bytesLess, ByteArray.toList_eq]
theorem told_all (l : List Row) : firstN (segD false l (below ⟨#[]⟩ l).length (upTo l ⟨#[]⟩)) (-1) = l := by
  have h1 : below ⟨#[]⟩ l = [] := by
    unfold below
    rw [List.filter_eq_nil_iff]
    intro x _
    simp [lt_none]
  rw [h1, show upTo l ⟨#[]⟩ = l.length from rfl]
  show firstN (seg l 0 l.length) (-1) = l
  rw [seg_all]
  exact firstN_all (by omega)
abbrev ra : Row := ⟨⟨#[97]⟩, ⟨#[]⟩, 1⟩
end Go.Proofs.Ytjpalkggmefpfaa.Tab
namespace Go.Proofs.Ytjpalkggmefpfaa.Walk
open Go.RowKit Go.Proofs.Ytjpalkggmefpfaa.Opn Go.Proofs.Ytjpalkggmefpfaa.Tab Go.Proofs.YtjpalkggmefpfaaW.PrintWords
end Go.Proofs.Ytjpalkggmefpfaa.Walk
