/- TableNames: Check of the empty row answers 70 (the other parts are constants that the translation has worked out). No condition. TableChecks: for every row the program's Check answers the document's number. No condition. -/
import Derived.Test.YtjpalkggmefpfaaRowCheck
set_option linter.unusedVariables false
set_option linter.unusedSimpArgs false
namespace Go.Proofs.Ytjpalkggmefpfaa.Walk
open Go.RowKit Go.Proofs.Ytjpalkggmefpfaa.Opn Go.Proofs.YtjpalkggmefpfaaW.PrintWords Go.Proofs.Ytjpalkggmefpfaa.Mem Go.Proofs.Ytjpalkggmefpfaa.Tab
theorem check_zero : checkRow (⟨#[]⟩, ⟨#[]⟩, 0) = 70 := by decide
set_option maxHeartbeats 400000 in
theorem TableNames (w : World) :
    Calls Try.prog 3 #[] w fun e w' => e = .returned (.bool true) ∧ Below w.heap.size w w' := by
  go_enter Try.func3, Try.ntmps3
  go_wp2_with (go_at_call 11; refine (check_any _ _ _ _).mono ?_; rintro e w1 ⟨rfl, hb1⟩)
  go_ret
  refine ⟨ret_bool ?_, by first | exact hb1 | exact hb1.drew⟩
  rw [check_zero]; rfl
theorem check_k : checkRow (⟨#[107]⟩, ⟨#[]⟩, 1) = 0 := by decide
theorem check_zero_any (w : World) : Calls Try.prog 11 #[.agg #[.string ⟨#[]⟩, .string ⟨#[]⟩, .int .i64 0]] w fun e w' => e = .returned (.int .i64 70) ∧ Below w.heap.size w w' := by
  have := check_any ⟨#[]⟩ ⟨#[]⟩ 0 w
  rwa [check_zero] at this
theorem check_k_any (w : World) : Calls Try.prog 11 #[.agg #[.string ⟨#[107]⟩, .string ⟨#[]⟩, .int .i64 1]] w fun e w' => e = .returned (.int .i64 0) ∧ Below w.heap.size w w' := by
  have := check_any ⟨#[107]⟩ ⟨#[]⟩ 1 w
  rwa [check_k] at this
set_option maxHeartbeats 1000000 in
theorem checks_any (key val : ByteArray) (ver : Int) (w : World) :
    Calls Try.prog 4 #[.agg #[.string key, .string val, .int .i64 ver]] w fun e w' => e = .returned (.bool true) ∧ Below w.heap.size w w' := by
  go_enter Try.func4, Try.ntmps4
  go_wp2
  have hB0 : Below w.heap.size w (w.alloc (.cells #[.string key, .string val, .int .i64 ver] 25)) := (Below.refl _ _).alloc (Nat.le_refl _) _
  have b0 := blk_new w (.cells #[.string key, .string val, .int .i64 ver] 25)
  generalize (w.alloc _) = W at *
  have HB := Lib.hid hB0.drew
  have B0 := Lib.hid (blk_drew b0)
  clear hB0 b0
  go_region_held3 (fun w' => ∀ o, w'.cell? ⟨w.heap.size, o, none⟩ = #[Value.string key, .string val, .int .i64 ver][o]?) (((try dsimp only); refine blkc (t := 25) ?_; (with_reducible exact B0.out)))
    (first
    | (go_at_call 11; ((with_reducible refine (check_zero_any _).mono ?_); rintro e w1 ⟨rfl, hb1⟩); have B0 := Lib.hid (blk_below B0.out hb1); have HB := Lib.hid (below_then HB.out HB.out.size hb1); clear hb1)
    | (go_at_call 11; ((with_reducible refine (check_k_any _).mono ?_); rintro e w1 ⟨rfl, hb1⟩); have B0 := Lib.hid (blk_below B0.out hb1); have HB := Lib.hid (below_then HB.out HB.out.size hb1); clear hb1)
    | (go_at_call 11; ((with_reducible refine (check_any _ _ _ _).mono ?_); rintro e w1 ⟨rfl, hb1⟩); have B0 := Lib.hid (blk_below B0.out hb1); have HB := Lib.hid (below_then HB.out HB.out.size hb1); clear hb1)
    | (go_at_call 12; ((with_reducible refine (rCheck_any _ _ _ _).mono ?_); rintro e w1 ⟨rfl, hb1⟩); have B0 := Lib.hid (blk_below B0.out hb1); have HB := Lib.hid (below_then HB.out HB.out.size hb1); clear hb1))
  go_wp2
  go_ret
  exact ⟨rfl, HB.out⟩
theorem TableChecks (r : RowT) (cs : List Value) (W : World) (hc : kRow.K W r cs) (hp : pRow r) :
    Calls Try.prog 4 #[.agg cs.toArray] W fun e W' => e = .returned (.bool true) ∧ Below W.heap.size W W' := by
  obtain rfl := kRow_cells hc
  exact checks_any _ _ _ W
end Go.Proofs.Ytjpalkggmefpfaa.Walk
