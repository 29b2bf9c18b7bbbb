/- A net's small functions. -/
import Derived.Test.YtpjbgcpieijeaaaProg
import Derived.Test.YtpjbgcpieijeaaaMem
import Derived.WalkKit
import Derived.ProofKit
import Derived.Below
import Derived.Carry
import Derived.Laws.Cover3
import Derived.Deep.RegionHeld3
import Derived.Laws.ResultCell
set_option linter.unusedVariables false
set_option linter.unusedSimpArgs false
namespace Go.Proofs.Ytpjbgcpieijeaaa.Net
open Go.RowKit Go.Proofs.Ytpjbgcpieijeaaa.Mem Go.Proofs.YtpjbgcpieijeaaaW.PrintWords
/-- A net's own block: nodes, clients, the packets under way, what was sent. -/
abbrev netC (nodes clients : Int) (way : Value) (m : Nat) : Obj := .cells #[.int .i64 nodes, .int .i64 clients, way, .map (some m)] 71 (0, 0)
section
variable {w : World} {g m : Nat} {nodes clients : Int} {way : Value}
theorem ret_bool {a b : Bool} (h : a = b) : Ending.returned (Value.bool a) = Ending.returned (Value.bool b) := by rw [h]
theorem num_any (n : Int) (w : World) : Calls Try.prog 9 #[.int .i64 n] w fun e w' => e = .returned (.int .i64 n) ∧ w = w' := by
  go_enter Try.func9, Try.ntmps9
  go_wp2
  go_ret
  exact ⟨rfl, rfl⟩
set_option maxRecDepth 100000 in
theorem made_any (h : w.heap[g]? = some (netC nodes clients way m)) :
    Calls Try.prog 31 #[.pointer (some ⟨g, 0, none⟩)] w fun e w' => e = .returned (.bool true) ∧ w = w' := by
  have c1 := blkc h
  have hmt := fun u => run_neq_map_nil (P := Try.prog) u _ _ _ (some m) Try.underlying69
  go_enter Try.func31, Try.ntmps31
  go_wp2
  go_ret
  exact ⟨rfl, rfl⟩
def addrB (nodes clients a : Int) : Bool := a == 0 || (decide (1 ≤ a) && decide (a ≤ nodes)) || (decide (100 < a) && decide (a ≤ 100 + clients))
set_option maxRecDepth 100000 in
set_option maxHeartbeats 400000 in
theorem addr_any (h : w.heap[g]? = some (netC nodes clients way m)) (a : Int) (hc : 0 ≤ clients ∧ clients ≤ 16) :
    Calls Try.prog 32 #[.pointer (some ⟨g, 0, none⟩), .int .i64 a] w fun e w' => e = .returned (.bool (addrB nodes clients a)) ∧ w = w' := by
  have c1 := blkc h
  have hw : wrap64 (100 + clients) = 100 + clients := by unfold wrap64; omega
  go_enter Try.func32, Try.ntmps32
  go_wp2
  all_goals (go_ret; refine ⟨ret_bool ?_, rfl⟩; simp only [addrB]; rw [Bool.eq_iff_iff]; simp only [Bool.or_eq_true, Bool.and_eq_true, decide_eq_true_eq, beq_iff_eq, true_iff, eq_self]; omega)
set_option maxRecDepth 100000 in
theorem len_any {A : Option Addr} {n c : Nat} (h : w.heap[g]? = some (netC nodes clients (.slice A n c) m)) :
    Calls Try.prog 12 #[.pointer (some ⟨g, 0, none⟩)] w fun e w' => e = .returned (.int .i64 (n : Int)) ∧ w = w' := by
  have c1 := blkc h
  go_enter Try.func12, Try.ntmps12
  go_wp2_with fail
  refine (made_any h).mono ?_
  rintro e w1 ⟨rfl, rfl⟩
  go_wp2
  go_ret
  exact ⟨rfl, rfl⟩
theorem nil_eq (u : World) : (binOp .eql 28 (.slice none 0 0) (.slice none 0 0)).run Try.prog u = .ok (.bool true) u := by
  simp only [binOp]
  simp [run_equal_slice_nil u _ _ none 0 0 Try.underlying28]
set_option maxRecDepth 100000 in
theorem clone_nil (w : World) : Calls Try.prog 33 #[.slice none 0 0] w fun e w' => e = .returned (.slice none 0 0) ∧ w = w' := by
  have hq := nil_eq
  go_enter Try.func33, Try.ntmps33
  go_wp2
  go_ret
  exact ⟨rfl, rfl⟩
theorem new_any (w : World) (hn : 1 ≤ nodes ∧ nodes ≤ 8) (hc : 0 ≤ clients ∧ clients ≤ 16) :
    Calls Try.prog 10 #[.int .i64 nodes, .int .i64 clients] w fun e w' => ∃ g m, e = .returned (.tuple #[.pointer (some ⟨g, 0, none⟩), .int .i64 0]) ∧ w'.heap[g]? = some (netC nodes clients (.slice none 0 0) m) ∧ w'.heap[m]? = some (.map #[] 0) ∧ w.heap.size ≤ g ∧ w.heap.size ≤ m ∧ g ≠ m ∧ Below w.heap.size w w' := by
  have mk := fun u => run_makeMap (P := Try.prog) 69 u
  go_enter Try.func10, Try.ntmps10
  go_wp2
  go_ret2
  exact ⟨_, w.heap.size, rfl, heap_alloc2_new _ _ _, heap_alloc2_old _ _ _, by omega, Nat.le_refl _, by omega, below_alloc (below_alloc (Below.refl _ _) _) _⟩
end
end Go.Proofs.Ytpjbgcpieijeaaa.Net
