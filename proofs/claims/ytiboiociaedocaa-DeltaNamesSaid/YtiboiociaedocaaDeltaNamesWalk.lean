/- DeltaNames: the errors', kinds' and limits' numbers; a new store's Seq is 0; Check of the empty operation answers 80. No condition. -/
import Derived.Test.YtiboiociaedocaaPlainWalk
set_option linter.unusedVariables false
set_option linter.unusedSimpArgs false
namespace Go.Proofs.Ytiboiociaedocaa.Walk
open Go.RowKit Go.Proofs.Ytiboiociaedocaa.Opn Go.Proofs.YtiboiociaedocaaW.PrintWords Go.Proofs.Ytiboiociaedocaa.Mem Go.Proofs.Ytiboiociaedocaa.Chk
theorem check_zero_any (w : World) : Calls Try.prog 17 #[.agg #[.int .i64 0, .string ⟨#[]⟩, .string ⟨#[]⟩, .int .i64 0]] w fun e w' => e = .returned (.int .i64 80) ∧ Below w.heap.size w w' := by
  have := check_any 0 0 ⟨#[]⟩ ⟨#[]⟩ (by decide) w
  rwa [show checkOp (0, ⟨#[]⟩, ⟨#[]⟩, 0) = 80 by decide] at this
set_option maxHeartbeats 1000000 in
set_option maxRecDepth 100000 in
theorem DeltaNames (w : World) :
    Calls Try.prog 4 #[] w fun e w' => e = .returned (.bool true) ∧ Below w.heap.size w w' := by
  go_enter Try.func4, Try.ntmps4
  go_wp2_with (first | (go_at_call 17; refine (check_zero_any _).mono ?_; rintro e w1 ⟨rfl, hb1⟩) | (go_at_call 14; refine (num_any _ _).mono ?_; rintro e w1 ⟨rfl, rfl⟩) | go_in)
  go_ret
  have h := ((Below.refl w.heap.size w).alloc (Nat.le_refl _) (.cells #[.pointer none, .int .i64 0, .bool true] 104)).alloc (by simp) (.cells #[.int .i64 0, .int .i64 0, .pointer (some ⟨w.heap.size, 0, none⟩)] 82)
  exact ⟨rfl, below_then h h.size hb1⟩
end Go.Proofs.Ytiboiociaedocaa.Walk
