/- Settings. -/
import Derived.Test.YtofmgijdeeikeaaHopAt
import Derived.WalkSpells
import Derived.WalkLawsBesides
set_option linter.unusedVariables false
set_option linter.unusedSimpArgs false
namespace Go.Proofs.Ytofmgijdeeikeaa.Hop
open Go.RowKit Go.Proofs.Ytofmgijdeeikeaa.Mem Go.Proofs.YtofmgijdeeikeaaW.PrintWords Go.Proofs.YtofmgijdeeikeaaW.PrintLast Go.Deep
def callVal (v : Value) (args : Array Value) : Sem Next := do let d ← Deferred.ofValue v args; invoke d.target d.args
theorem callVal_func (f : FuncId) (first caps args : Array Value) : callVal (.func (.func f) first caps) args = callFunc f (first ++ args ++ caps) := rfl
theorem execOp_call_tmp (a : Act) (dst : Option Tmp) (t : Tmp) (xs : Array Operand) (ats : Array TypeId) (ty : TypeId) (pos : String) (after : Array Edge) (guard : Option (Nat × Bool)) :
    execOp a.eval { dst, op := .call { callee := .value (.tmp t), args := xs, argTypes := ats }, type := ty, pos, after, guard } = callVal (a.eval (.tmp t)) (xs.map a.eval) := rfl
attribute [local go_sem ↓] execOp_call_tmp
attribute [local go_sem] callVal_func
def inB (n lo hi : Int) : Bool := decide (lo ≤ n) && decide (n ≤ hi)
theorem within_any (n lo hi : Int) (w : World) :
    Calls Try.prog 46 #[.int .i64 n, .int .i64 lo, .int .i64 hi] w fun e w' => e = .returned (.bool (inB n lo hi)) ∧ w = w' := by
  by_cases h : lo ≤ n
  · have h' : decide (lo ≤ n) = true := by simpa using h
    go_enter Try.func46, Try.ntmps46
    go_wp2
    go_ret
    exact ⟨by simp [inB, h], rfl⟩
  · have h' : decide (lo ≤ n) = false := by simpa using h
    go_enter Try.func46, Try.ntmps46
    go_wp2
    go_ret
    exact ⟨by simp [inB, h'], rfl⟩
def setB (d wi p c l : Int) : Bool := inB d 1 3 && inB wi 1 64 && inB p 1 100 && inB c 64 262144 && inB l 1 4096
def setE (d wi p c l : Int) : Int := if setB d wi p c l then 0 else 1
set_option maxHeartbeats 1000000 in
theorem settings_any (d wi p c l : Int) (w : World) :
    Calls Try.prog 45 #[.agg #[.int .i64 d, .int .i64 wi, .int .i64 p, .int .i64 c, .int .i64 l]] w fun e w' => e = .returned (.int .i64 (setE d wi p c l)) ∧ Below w.heap.size w w' := by
  rcases h1 : inB d 1 3 with _ | _
  · rw [show setE d wi p c l = 1 by simp [setE, setB, h1]]
    go_enter Try.func45, Try.ntmps45
    go_wp2_with (go_at_call 46; refine (within_any _ _ _ _).mono ?_; rintro e w' ⟨rfl, rfl⟩)
    go_ret
    exact ⟨rfl, (Below.refl _ _).alloc (Nat.le_refl _) _⟩
  rcases h2 : inB wi 1 64 with _ | _
  · rw [show setE d wi p c l = 1 by simp [setE, setB, h1, h2]]
    go_enter Try.func45, Try.ntmps45
    go_wp2_with (go_at_call 46; refine (within_any _ _ _ _).mono ?_; rintro e w' ⟨rfl, rfl⟩)
    go_ret
    exact ⟨rfl, (Below.refl _ _).alloc (Nat.le_refl _) _⟩
  rcases h3 : inB p 1 100 with _ | _
  · rw [show setE d wi p c l = 1 by simp [setE, setB, h1, h2, h3]]
    go_enter Try.func45, Try.ntmps45
    go_wp2_with (go_at_call 46; refine (within_any _ _ _ _).mono ?_; rintro e w' ⟨rfl, rfl⟩)
    go_ret
    exact ⟨rfl, (Below.refl _ _).alloc (Nat.le_refl _) _⟩
  rcases h4 : inB c 64 262144 with _ | _
  · rw [show setE d wi p c l = 1 by simp [setE, setB, h1, h2, h3, h4]]
    go_enter Try.func45, Try.ntmps45
    go_wp2_with (go_at_call 46; refine (within_any _ _ _ _).mono ?_; rintro e w' ⟨rfl, rfl⟩)
    go_ret
    exact ⟨rfl, (Below.refl _ _).alloc (Nat.le_refl _) _⟩
  rcases h5 : inB l 1 4096 with _ | _
  · rw [show setE d wi p c l = 1 by simp [setE, setB, h1, h2, h3, h4, h5]]
    go_enter Try.func45, Try.ntmps45
    go_wp2_with (go_at_call 46; refine (within_any _ _ _ _).mono ?_; rintro e w' ⟨rfl, rfl⟩)
    go_ret
    exact ⟨rfl, (Below.refl _ _).alloc (Nat.le_refl _) _⟩
  rw [show setE d wi p c l = 0 by simp [setE, setB, h1, h2, h3, h4, h5]]
  go_enter Try.func45, Try.ntmps45
  go_wp2_with (go_at_call 46; refine (within_any _ _ _ _).mono ?_; rintro e w' ⟨rfl, rfl⟩)
  go_ret
  exact ⟨rfl, (Below.refl _ _).alloc (Nat.le_refl _) _⟩
end Go.Proofs.Ytofmgijdeeikeaa.Hop
