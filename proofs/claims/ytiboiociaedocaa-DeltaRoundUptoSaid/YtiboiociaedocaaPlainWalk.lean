/- The law's own small functions: num, plainOp, plain. -/
import Derived.Test.YtiboiociaedocaaCheckWalk
import Derived.Test.YtiboiociaedocaaMem
import Derived.Deep.RegionHeld3
import Derived.Laws.ResultCell
set_option linter.unusedVariables false
set_option linter.unusedSimpArgs false
namespace Go.Proofs.Ytiboiociaedocaa.Chk
open Go.RowKit Go.Proofs.Ytiboiociaedocaa.Opn Go.Proofs.YtiboiociaedocaaW.PrintWords Go.Proofs.Ytiboiociaedocaa.Mem
set_option maxHeartbeats 400000 in
theorem num_any (n : Int) (w : World) : Calls Try.prog 14 #[.int .i64 n] w fun e w' => e = .returned (.int .i64 n) ∧ w = w' := by
  go_enter Try.func14, Try.ntmps14
  go_wp2
  go_ret
  exact ⟨rfl, rfl⟩
set_option maxHeartbeats 400000 in
theorem plainOp_any (kd ver : Int) (key val : ByteArray) (w : World) :
    Calls Try.prog 19 #[.agg #[.int .i64 kd, .string key, .string val, .int .i64 ver]] w fun e w' => e = .returned (.agg #[.int .i64 kd, .string key, .string val, .int .i64 ver]) ∧ Below w.heap.size w w' := by
  go_enter Try.func19, Try.ntmps19
  go_wp2
  refine bodyPost_ret (v := .agg #[.int .i64 kd, .string key, .string val, .int .i64 ver]) (by simp [results, Try.results19, go_sem]) rfl ⟨rfl, ?_⟩
  exact ((Below.refl _ _).alloc (Nat.le_refl _) _).alloc (by simp) _
set_option maxHeartbeats 400000 in
theorem plain_any (sq cl nu kd ver : Int) (key val : ByteArray) (w : World) :
    Calls Try.prog 22 #[.agg #[.int .i64 sq, .int .i64 cl, .int .i64 nu, .int .i64 kd, .string key, .string val, .int .i64 ver]] w fun e w' => e = .returned (.agg #[.int .i64 sq, .int .i64 cl, .int .i64 nu, .int .i64 kd, .string key, .string val, .int .i64 ver]) ∧ Below w.heap.size w w' := by
  go_enter Try.func22, Try.ntmps22
  go_wp2
  have hB0 : Below w.heap.size w ((w.alloc (.cells #[.int .i64 sq, .int .i64 cl, .int .i64 nu, .int .i64 kd, .string key, .string val, .int .i64 ver] 38)).alloc (.cells #[.int .i64 0, .int .i64 0, .int .i64 0, .int .i64 0, .string ⟨#[]⟩, .string ⟨#[]⟩, .int .i64 0] 46)) := ((Below.refl _ _).alloc (Nat.le_refl _) _).alloc (by simp) _
  have b0 := heap_alloc2_old w (.cells #[.int .i64 sq, .int .i64 cl, .int .i64 nu, .int .i64 kd, .string key, .string val, .int .i64 ver] 38) (.cells #[.int .i64 0, .int .i64 0, .int .i64 0, .int .i64 0, .string ⟨#[]⟩, .string ⟨#[]⟩, .int .i64 0] 46)
  have b1 := heap_alloc2_new w (.cells #[.int .i64 sq, .int .i64 cl, .int .i64 nu, .int .i64 kd, .string key, .string val, .int .i64 ver] 38) (.cells #[.int .i64 0, .int .i64 0, .int .i64 0, .int .i64 0, .string ⟨#[]⟩, .string ⟨#[]⟩, .int .i64 0] 46)
  generalize ((w.alloc _).alloc _) = W at *
  have HB := Lib.hid hB0
  have B0 := Lib.hid b0
  have B1 := Lib.hid b1
  clear hB0 b0 b1
  go_region_held3 (fun w' => ∀ o, w'.cell? ⟨w.heap.size, o, none⟩ = #[Value.int .i64 sq, .int .i64 cl, .int .i64 nu, .int .i64 kd, .string key, .string val, .int .i64 ver][o]?) (((try dsimp only); refine blkc (t := 38) ?_; (with_reducible repeat (first | refine blk_drew ?_ | refine blk_far ?_ (by simp; done) _)); (first | (with_reducible exact B0.out) | (with_reducible exact B0'.out)))) (first | (go_at_call 19; refine (plainOp_any _ _ _ _ _).mono ?_; rintro e w1 ⟨rfl, hb1⟩; have B0' := Lib.hid (blk_below (blk_drew B0.out) hb1); have B1' := Lib.hid (blk_below (blk_drew B1.out) hb1); have c1 := blkc B1'.out; have z1 := blkz B1'.out))
  go_wp2
  refine bodyPost_ret (v := .agg #[.int .i64 sq, .int .i64 cl, .int .i64 nu, .int .i64 kd, .string key, .string val, .int .i64 ver]) (by simp [results, Try.results22, go_sem, c1]) rfl ⟨rfl, ?_⟩
  have h1 : Below w.heap.size w w1 := below_then HB.out.drew HB.out.size hb1
  repeat (first | (with_reducible exact h1) | refine below_set ?_ (by simp))
end Go.Proofs.Ytiboiociaedocaa.Chk
