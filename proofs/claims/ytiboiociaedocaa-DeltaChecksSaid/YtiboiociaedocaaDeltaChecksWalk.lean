/- DeltaChecks: for every update the program's Check and CheckUpdate answer the document's numbers. No condition. -/
import Derived.Test.YtiboiociaedocaaPlainWalk
namespace Go.Proofs.Ytiboiociaedocaa.Walk
open Go.RowKit Go.Proofs.Ytiboiociaedocaa.Opn Go.Proofs.YtiboiociaedocaaW.PrintWords Go.Proofs.Ytiboiociaedocaa.Mem Go.Proofs.Ytiboiociaedocaa.Chk

theorem kUpd_cells {w : World} {u : UpdT} {cs : List Value} (h : kUpd.K w u cs) : cs = [.int .i64 u.1, .int .i64 u.2.1, .int .i64 u.2.2.1, .int .i64 u.2.2.2.1, .string u.2.2.2.2.1, .string u.2.2.2.2.2.1, .int .i64 u.2.2.2.2.2.2] := by
  obtain ⟨_, _, rfl, rfl, _, _, rfl, rfl, _, _, rfl, rfl, _, _, rfl, rfl, _, _, rfl, rfl, _, _, rfl, rfl, rfl⟩ := h
  rfl

set_option maxHeartbeats 1000000 in
theorem checks_any (sq cl nu kd ver : Int) (key val : ByteArray) (hk : key.size ≤ 9223372036854775807) (w : World) :
    Calls Try.prog 5 #[.agg #[.int .i64 sq, .int .i64 cl, .int .i64 nu, .int .i64 kd, .string key, .string val, .int .i64 ver]] w fun e w' => e = .returned (.bool true) ∧ Below w.heap.size w w' := by
  go_enter Try.func5, Try.ntmps5
  go_wp2
  have hB0 : Below w.heap.size w (w.alloc (.cells #[.int .i64 sq, .int .i64 cl, .int .i64 nu, .int .i64 kd, .string key, .string val, .int .i64 ver] 38)) := (Below.refl _ _).alloc (Nat.le_refl _) _
  have b0 := blk_new w (.cells #[.int .i64 sq, .int .i64 cl, .int .i64 nu, .int .i64 kd, .string key, .string val, .int .i64 ver] 38)
  generalize (w.alloc _) = W at *
  have HB := Lib.hid hB0.drew
  have B0 := Lib.hid (blk_drew b0)
  clear hB0 b0
  go_region_held3 (fun w' => ∀ o, w'.cell? ⟨w.heap.size, o, none⟩ = #[Value.int .i64 sq, .int .i64 cl, .int .i64 nu, .int .i64 kd, .string key, .string val, .int .i64 ver][o]?) (((try dsimp only); refine blkc (t := 38) ?_; (with_reducible exact B0.out)))
    (first
    | (go_at_call 14; refine (num_any _ _).mono ?_; rintro e w1 ⟨rfl, rfl⟩)
    | (go_at_call 17; refine (check_any _ _ _ _ hk _).mono ?_; rintro e w1 ⟨rfl, hb1⟩; have B0 := Lib.hid (blk_below B0.out hb1); have HB := Lib.hid (below_then HB.out HB.out.size hb1); clear hb1)
    | (go_at_call 18; refine (rCheck_any _ _ _ _ hk _).mono ?_; rintro e w1 ⟨rfl, hb1⟩; have B0 := Lib.hid (blk_below B0.out hb1); have HB := Lib.hid (below_then HB.out HB.out.size hb1); clear hb1)
    | (go_at_call 19; refine (plainOp_any _ _ _ _ _).mono ?_; rintro e w1 ⟨rfl, hb1⟩; have B0 := Lib.hid (blk_below B0.out hb1); have HB := Lib.hid (below_then HB.out HB.out.size hb1); clear hb1)
    | (go_at_call 20; refine (checkUpd_any _ _ _ _ _ _ _ hk _).mono ?_; rintro e w1 ⟨rfl, hb1⟩; have B0 := Lib.hid (blk_below B0.out hb1); have HB := Lib.hid (below_then HB.out HB.out.size hb1); clear hb1)
    | (go_at_call 21; refine (rCheckUpd_any _ _ _ _ _ _ _ hk _).mono ?_; rintro e w1 ⟨rfl, hb1⟩; have B0 := Lib.hid (blk_below B0.out hb1); have HB := Lib.hid (below_then HB.out HB.out.size hb1); clear hb1)
    | (go_at_call 22; refine (plain_any _ _ _ _ _ _ _ _).mono ?_; rintro e w1 ⟨rfl, hb1⟩; have B0 := Lib.hid (blk_below B0.out hb1); have HB := Lib.hid (below_then HB.out HB.out.size hb1); clear hb1))
  go_wp2
  go_ret
  exact ⟨rfl, HB.out⟩

theorem DeltaChecks (u : UpdT) (cs : List Value) (W : World) (hc : kUpd.K W u cs) (hp : pUpd u) :
    Calls Try.prog 5 #[.agg cs.toArray] W fun e W' => e = .returned (.bool true) ∧ Below W.heap.size W W' := by
  obtain rfl := kUpd_cells hc
  exact checks_any _ _ _ _ _ _ _ hp.2.2.2.2.1 W
end Go.Proofs.Ytiboiociaedocaa.Walk
