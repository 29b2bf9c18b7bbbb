import Derived.Test.YtiboiociaedocaaCheckSpec
import Derived.WalkKit
import Derived.WalkSpells
import Derived.WalkLawsBesides
import Derived.Deep.QuietTactic
import Derived.BigQuiet
import Derived.Lib.Hide
set_option linter.unusedVariables false
set_option linter.unusedSimpArgs false
namespace Go.Proofs.Ytiboiociaedocaa.Chk
open Go.RowKit Go.Proofs.Ytiboiociaedocaa.Opn Go.Proofs.YtiboiociaedocaaW.PrintWords
theorem ret_int {k : IntKind} {a b : Int} (h : a = b) : Ending.returned (.int k a) = .returned (.int k b) := by rw [h]
theorem ret_bool {a b : Bool} (h : a = b) : Ending.returned (.bool a) = .returned (.bool b) := by rw [h]
set_option maxHeartbeats 400000 in
theorem within_any (n lo hi : Int) (w : World) :
    Calls Try.prog 37 #[.int .i64 n, .int .i64 lo, .int .i64 hi] w fun e w' => e = .returned (.bool (inB n lo hi)) ∧ w = w' := by
  by_cases h : lo ≤ n
  · have h' : decide (lo ≤ n) = true := by simpa using h
    go_enter Try.func37, Try.ntmps37
    go_wp2
    go_ret
    exact ⟨by simp [inB, h], rfl⟩
  · have h' : decide (lo ≤ n) = false := by simpa using h
    go_enter Try.func37, Try.ntmps37
    go_wp2
    go_ret
    exact ⟨by simp [inB, h'], rfl⟩

set_option maxHeartbeats 400000 in
theorem isUser_any (k : ByteArray) (hk : k.size ≤ 9223372036854775807) (w : World) :
    Calls Try.prog 40 #[.string k] w fun e w' => e = .returned (.bool (isUserB k)) ∧ w = w' := by
  go_enter Try.func40, Try.ntmps40
  go_wp2
  all_goals
    go_ret
    refine ⟨ret_bool ?_, rfl⟩
    unfold isUserB
  · rw [decide_eq_true (by omega), decide_eq_true (by omega)]
    simp only [bt]
    rw [dif_pos (by omega)]
    rfl
  · have h2 : ¬ (k.size : Int) ≤ 1024 := by omega
    simp [h2]
  · rw [decide_eq_false (by omega)]; rfl

set_option maxHeartbeats 400000 in
theorem check_any (kd ver : Int) (key val : ByteArray) (hk : key.size ≤ 9223372036854775807) (w : World) :
    Calls Try.prog 17 #[.agg #[.int .i64 kd, .string key, .string val, .int .i64 ver]] w fun e w' => e = .returned (.int .i64 (checkOp (kd, key, val, ver))) ∧ Below w.heap.size w w' := by
  go_enter Try.func17, Try.ntmps17
  go_wp2_with (first | (go_at_call 40; refine (isUser_any _ hk _).mono ?_; rintro e w' ⟨rfl, rfl⟩) | (go_at_call 37; refine (within_any _ _ _ _).mono ?_; rintro e w' ⟨rfl, rfl⟩))
  all_goals
    go_ret
    refine ⟨ret_int ?_, (Below.refl _ _).alloc (Nat.le_refl _) _⟩
    clear hk
    simp only [checkOp]
    first | (simp_all [inB]; done) | (simp_all [inB]; omega)

set_option maxHeartbeats 800000 in
theorem checkUpd_any (sq cl nu kd ver : Int) (key val : ByteArray) (hk : key.size ≤ 9223372036854775807) (w : World) :
    Calls Try.prog 20 #[.agg #[.int .i64 sq, .int .i64 cl, .int .i64 nu, .int .i64 kd, .string key, .string val, .int .i64 ver]] w fun e w' => e = .returned (.int .i64 (checkUpd (sq, cl, nu, kd, key, val, ver))) ∧ Below w.heap.size w w' := by
  go_enter Try.func20, Try.ntmps20
  go_wp2_with (first | (go_at_call 17; refine (check_any _ _ _ _ hk _).mono ?_; rintro e w1 ⟨rfl, hb1⟩) | (go_at_call 37; refine (within_any _ _ _ _).mono ?_; rintro e w' ⟨rfl, rfl⟩))
  all_goals
    go_ret
    first
    | (refine ⟨ret_int ?_, (Below.refl _ _).alloc (Nat.le_refl _) _⟩; clear hk; simp only [checkUpd]; first | (simp_all [inB]; done) | (simp_all [inB]; omega))
    | (refine ⟨ret_int ?_, ((Below.refl _ _).alloc (Nat.le_refl _) _).trans (hb1.mono (by simp))⟩; clear hk; simp only [checkUpd]; clear hb1; first | (simp_all [inB]; done) | (simp_all [inB]; omega))

/-! The document's -/
set_option maxHeartbeats 400000 in
theorem rIsUser_any (k : ByteArray) (hk : k.size ≤ 9223372036854775807) (w : World) :
    Calls Try.prog 41 #[.string k] w fun e w' => e = .returned (.bool (isUserB k)) ∧ w = w' := by
  go_enter Try.func41, Try.ntmps41
  go_wp2
  all_goals
    go_ret
    refine ⟨ret_bool ?_, rfl⟩
    unfold isUserB
  · rw [decide_eq_true (by omega), decide_eq_true (by omega)]
    simp only [bt]
    rw [dif_pos (by omega)]
    rfl
  · have h2 : ¬ (k.size : Int) ≤ 1024 := by omega
    simp [h2]
  · rw [decide_eq_false (by omega)]; rfl

set_option maxHeartbeats 400000 in
theorem rCheck_any (kd ver : Int) (key val : ByteArray) (hk : key.size ≤ 9223372036854775807) (w : World) :
    Calls Try.prog 18 #[.agg #[.int .i64 kd, .string key, .string val, .int .i64 ver]] w fun e w' => e = .returned (.int .i64 (checkOp (kd, key, val, ver))) ∧ Below w.heap.size w w' := by
  go_enter Try.func18, Try.ntmps18
  go_wp2_with ((go_at_call 41; refine (rIsUser_any _ hk _).mono ?_; rintro e w' ⟨rfl, rfl⟩))
  all_goals
    go_ret
    refine ⟨ret_int ?_, (Below.refl _ _).alloc (Nat.le_refl _) _⟩
    clear hk
    simp only [checkOp]
    first | (simp_all; done) | (simp_all; omega)

set_option maxHeartbeats 800000 in
theorem rCheckUpd_any (sq cl nu kd ver : Int) (key val : ByteArray) (hk : key.size ≤ 9223372036854775807) (w : World) :
    Calls Try.prog 21 #[.agg #[.int .i64 sq, .int .i64 cl, .int .i64 nu, .int .i64 kd, .string key, .string val, .int .i64 ver]] w fun e w' => e = .returned (.int .i64 (checkUpd (sq, cl, nu, kd, key, val, ver))) ∧ Below w.heap.size w w' := by
  go_enter Try.func21, Try.ntmps21
  go_wp2_with ((go_at_call 18; refine (rCheck_any _ _ _ _ hk _).mono ?_; rintro e w1 ⟨rfl, hb1⟩))
  all_goals
    go_ret
    first
    | (refine ⟨ret_int ?_, (Below.refl _ _).alloc (Nat.le_refl _) _⟩; clear hk; simp only [checkUpd]; first | (simp_all; done) | (simp_all; omega))
    | (refine ⟨ret_int ?_, ((Below.refl _ _).alloc (Nat.le_refl _) _).trans (hb1.mono (by simp))⟩; clear hk; simp only [checkUpd]; clear hb1; first | (simp_all; done) | (simp_all; omega))
end Go.Proofs.Ytiboiociaedocaa.Chk
