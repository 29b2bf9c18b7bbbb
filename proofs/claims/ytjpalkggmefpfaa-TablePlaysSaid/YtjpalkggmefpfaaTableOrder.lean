/- TableOrder, walked. -/
import Derived.Test.YtjpalkggmefpfaaTabAct
import Derived.Test.YtjpalkggmefpfaaTableFroms
set_option linter.unusedVariables false
set_option linter.unusedSimpArgs false
namespace Go.Proofs.Ytjpalkggmefpfaa.Tab
open Go.RowKit Go.Proofs.Ytjpalkggmefpfaa.Mem Go.Proofs.YtjpalkggmefpfaaW.PrintWords Go.Proofs.YtjpalkggmefpfaaW.PrintLast Go.Deep Go.Proofs.Ytjpalkggmefpfaa.Opn
attribute [local go_sem ↓] execOp_call_tmp
attribute [local go_sem] callVal_func
theorem split_at {l : List Row} {i : Nat} {r : Row} (h : l[i]? = some r) : l = l.take i ++ r :: l.drop (i + 1) := by
  have hl := (List.getElem?_eq_some_iff.1 h).1
  have h2 := List.drop_eq_getElem_cons hl
  rw [(List.getElem?_eq_some_iff.1 h).2] at h2
  rw [← h2, List.take_append_drop]
theorem below_at {l : List Row} (hu : Up l) {i : Nat} {r : Row} (h : l[i]? = some r) : (below r.key l).length = i := by
  have hl := (List.getElem?_eq_some_iff.1 h).1
  have hs := split_at h
  rw [hs] at hu
  obtain ⟨_, _, h1, h2⟩ := up_node hu
  rw [hs, below_app, lt_irrefl, below_all h1, below_none (fun x hx => lt_asymm (h2 x hx))]
  simp
  omega
theorem wrap_kv {l : List Row} (h : LOk l) {i : Nat} {r : Row} (hu : l[i]? = some r) : wrap64 ((r.key.size : Int) + (r.value.size : Int)) = (r.key.size : Int) + (r.value.size : Int) := by
  obtain ⟨h1, h2, h3, _⟩ := (h.rows r (List.mem_of_getElem? hu)).facts
  generalize (r.key.size : Int) = a at *
  have h4 : 0 ≤ (r.value.size : Int) := Int.natCast_nonneg _
  generalize (r.value.size : Int) = b at *
  rw [← i64_w]
  exact IntWalk.i64_in _ (by omega)
theorem wrap_sum {l : List Row} (h : LOk l) {i : Nat} {r : Row} (hu : l[i]? = some r) : wrap64 (size (l.take i) + ((r.key.size : Int) + (r.value.size : Int))) = size (l.take (i + 1)) := by
  obtain ⟨h1, h2, h3, _⟩ := (h.rows r (List.mem_of_getElem? hu)).facts
  have hz := size_bound (l := l.take i) (fun x hx => h.rows x (List.mem_of_mem_take hx))
  have hlt : ((l.take i).length : Int) ≤ 1048576 := by have := h.len; rw [List.length_take]; omega
  rw [size_take hu, show r.bytes = (r.key.size : Int) + (r.value.size : Int) from rfl]
  generalize (r.key.size : Int) = a at *
  have h4 : 0 ≤ (r.value.size : Int) := Int.natCast_nonneg _
  generalize (r.value.size : Int) = b at *
  generalize size (l.take i) = z at *
  generalize ((l.take i).length : Int) = m at *
  rw [← i64_w]
  exact IntWalk.i64_in _ (by omega)
end Go.Proofs.Ytjpalkggmefpfaa.Tab
namespace Go.Proofs.Ytjpalkggmefpfaa.Walk
open Go.RowKit Go.Proofs.Ytjpalkggmefpfaa.Opn Go.Proofs.Ytjpalkggmefpfaa.Tab Go.Proofs.YtjpalkggmefpfaaW.PrintWords
end Go.Proofs.Ytjpalkggmefpfaa.Walk
