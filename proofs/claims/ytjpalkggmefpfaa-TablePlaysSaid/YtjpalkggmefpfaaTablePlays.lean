/- ask, same, TablePlays, walked. -/
import Derived.Test.YtjpalkggmefpfaaTabAsk
import Derived.Test.YtjpalkggmefpfaaTabPlay2
set_option linter.unusedVariables false
set_option linter.unusedSimpArgs false
namespace Go.Proofs.Ytjpalkggmefpfaa.Tab
open Go.RowKit Go.Proofs.Ytjpalkggmefpfaa.Mem Go.Proofs.YtjpalkggmefpfaaW.PrintWords Go.Proofs.YtjpalkggmefpfaaW.PrintLast Go.Deep Go.Proofs.Ytjpalkggmefpfaa.Opn
attribute [local go_sem ↓] execOp_call_tmp
attribute [local go_sem] callVal_func
set_option maxHeartbeats 6400000 in
set_option maxRecDepth 100000 in
theorem same_play {w : World} {n0 b : Nat} {g : Nat → Nat} {l : Nat → List Row} {A : Nat → Option Addr} {c : Nat → Nat} (h : PlayR n0 w b g l A c) :
    Calls Try.prog 39 #[.pointer (some ⟨b, 0, none⟩)] w fun e w' => e = .returned (.bool true) ∧ Below w.heap.size w w' := by
  have PL := Lib.hid h
  clear h
  go_enter Try.func39, Try.ntmps39
  go_wp2_with fail
  go_loopg [4] 3 (fun kq v4 w' => ∃ (i : Nat), v4 = .int .i64 (i : Int) ∧ Hid (i + kq = 3) ∧ Hid (PlayR n0 w' b g l A c) ∧ Hid (Below w.heap.size w w'))
  case atStart => exact ⟨0, rfl, (show _ + _ = _ by omega), PL, Lib.hid (Below.refl _ _)⟩
  case round =>
    clear PL
    obtain ⟨i, rfl, HI, PL, B⟩ := hrel
    cases gk with
    | zero =>
      have hi : i = 3 := HI.out
      subst hi
      go_wp2
      go_ret
      exact ⟨rfl, B.out⟩
    | succ k1 =>
      have hi : i < 3 := by have := HI.out; omega
      have p0 := eq_true (show 0 ≤ (i : Int) by omega)
      have p3 := eq_true (show (i : Int) < 3 by omega)
      have p4 := eq_true (show i < 3 by omega)
      have PD := Lib.hid (PL.out.below (below_drew (Below.refl wr.heap.size wr)))
      have BD := Lib.hid B.out.drew
      go_wp2_with fail
      refine start_ (n := 33) (S := fun w' => w'.cell? ⟨b, i, none⟩ = some (.pointer (some ⟨g i, 0, none⟩)) ∧ w'.cell? ⟨b, 3 + i, none⟩ = some (.slice (A i) (l i).length (c i))) (ds := []) #[false, false, false, false, false, false, false, false, false, false, false, false, false, false, false, false, false, false, false, false, false, false, false, false, false, false, false, false, false, false, false, false, false] (by kernel_rfl) rfl rfl ⟨(PL.out.cellT hi), (PL.out.cellX hi)⟩ (fun hHeld => ?_)
      refine pure_ (i := 0) (N := some 7) (v := ?_) (a' := ?_) #[true, false, false, false, false, false, false, false, false, false, false, false, false, false, false, false, false, false, false, false, false, false, false, false, false, false, false, false, false, false, false, false, false] rfl rfl (by kernel_rfl) (fun _ _ _ h => h) (Or.inl ⟨by rfl, ?_⟩) ?_ ?_
      rotate_left
      · intro w'
        go_simp
        with_reducible rfl
      rotate_left
      · simp only [Act.put, List.setIfInBounds_toArray, List.set_cons_zero, List.set_cons_succ, i64_w, i32_w]
        rfl
      refine pure_ (i := 1) (N := some 8) (v := ?_) (a' := ?_) #[true, true, false, false, false, false, false, false, false, false, false, false, false, false, false, false, false, false, false, false, false, false, false, false, false, false, false, false, false, false, false, false, false] rfl rfl (by kernel_rfl) (fun _ _ _ h => h) (Or.inl ⟨by rfl, ?_⟩) ?_ ?_
      rotate_left
      · intro w'
        go_simp
        with_reducible rfl
      rotate_left
      · simp only [Act.put, List.setIfInBounds_toArray, List.set_cons_zero, List.set_cons_succ, i64_w, i32_w]
        rfl
      refine pure_ (i := 2) (N := some 9) (v := ?_) (a' := ?_) #[true, true, true, false, false, false, false, false, false, false, false, false, false, false, false, false, false, false, false, false, false, false, false, false, false, false, false, false, false, false, false, false, false] rfl rfl (by kernel_rfl) (fun _ _ _ h => h) (Or.inl ⟨by rfl, ?_⟩) ?_ ?_
      rotate_left
      · intro w'
        go_simp
        with_reducible rfl
      rotate_left
      · simp only [Act.put, List.setIfInBounds_toArray, List.set_cons_zero, List.set_cons_succ, i64_w, i32_w]
        rfl
      refine pure_ (i := 3) (N := some 10) (v := ?_) (a' := ?_) #[true, true, true, true, false, false, false, false, false, false, false, false, false, false, false, false, false, false, false, false, false, false, false, false, false, false, false, false, false, false, false, false, false] rfl rfl (by kernel_rfl) (fun _ _ _ h => h) (Or.inl ⟨by rfl, ?_⟩) ?_ ?_
      rotate_left
      · intro w'
        go_simp
        with_reducible rfl
      rotate_left
      · simp only [Act.put, List.setIfInBounds_toArray, List.set_cons_zero, List.set_cons_succ, i64_w, i32_w]
        rfl
      refine pure_ (i := 4) (N := some 11) (v := ?_) (a' := ?_) #[true, true, true, true, true, false, false, false, false, false, false, false, false, false, false, false, false, false, false, false, false, false, false, false, false, false, false, false, false, false, false, false, false] rfl rfl (by kernel_rfl) (fun _ _ _ h => h) (Or.inl ⟨by rfl, ?_⟩) ?_ ?_
      rotate_left
      · intro w'
        go_simp
        with_reducible rfl
      rotate_left
      · simp only [Act.put, List.setIfInBounds_toArray, List.set_cons_zero, List.set_cons_succ, i64_w, i32_w]
        rfl
      refine pure_ (i := 8) (N := some 15) (v := ?_) (a' := ?_) #[true, true, true, true, true, false, false, false, true, false, false, false, false, false, false, false, false, false, false, false, false, false, false, false, false, false, false, false, false, false, false, false, false] rfl rfl (by kernel_rfl) (fun _ _ _ h => h) (Or.inl ⟨by rfl, ?_⟩) ?_ ?_
      rotate_left
      · intro w'
        go_simp
        with_reducible rfl
      rotate_left
      · simp only [Act.put, List.setIfInBounds_toArray, List.set_cons_zero, List.set_cons_succ, i64_w, i32_w]
        rfl
      refine pure_ (i := 9) (N := some 16) (v := ?_) (a' := ?_) #[true, true, true, true, true, false, false, false, true, true, false, false, false, false, false, false, false, false, false, false, false, false, false, false, false, false, false, false, false, false, false, false, false] rfl rfl (by kernel_rfl) (fun _ _ _ h => h) (Or.inl ⟨by rfl, ?_⟩) ?_ ?_
      rotate_left
      · intro w'
        go_simp
        with_reducible rfl
      rotate_left
      · simp only [Act.put, List.setIfInBounds_toArray, List.set_cons_zero, List.set_cons_succ, i64_w, i32_w]
        rfl
      refine pure_ (i := 10) (N := some 17) (v := ?_) (a' := ?_) #[true, true, true, true, true, false, false, false, true, true, true, false, false, false, false, false, false, false, false, false, false, false, false, false, false, false, false, false, false, false, false, false, false] rfl rfl (by kernel_rfl) (fun _ _ _ h => h) (Or.inl ⟨by rfl, ?_⟩) ?_ ?_
      rotate_left
      · intro w'
        go_simp
        with_reducible rfl
      rotate_left
      · simp only [Act.put, List.setIfInBounds_toArray, List.set_cons_zero, List.set_cons_succ, i64_w, i32_w]
        rfl
      refine pure_ (i := 11) (N := some 18) (v := ?_) (a' := ?_) #[true, true, true, true, true, false, false, false, true, true, true, true, false, false, false, false, false, false, false, false, false, false, false, false, false, false, false, false, false, false, false, false, false] rfl rfl (by kernel_rfl) (fun _ _ _ h => h) (Or.inl ⟨by rfl, ?_⟩) ?_ ?_
      rotate_left
      · intro w'
        go_simp
        with_reducible rfl
      rotate_left
      · simp only [Act.put, List.setIfInBounds_toArray, List.set_cons_zero, List.set_cons_succ, i64_w, i32_w]
        rfl
      refine pure_ (i := 12) (N := some 19) (v := ?_) (a' := ?_) #[true, true, true, true, true, false, false, false, true, true, true, true, true, false, false, false, false, false, false, false, false, false, false, false, false, false, false, false, false, false, false, false, false] rfl rfl (by kernel_rfl) (fun _ _ _ h => h) (Or.inl ⟨by rfl, ?_⟩) ?_ ?_
      rotate_left
      · intro w'
        go_simp
        with_reducible rfl
      rotate_left
      · simp only [Act.put, List.setIfInBounds_toArray, List.set_cons_zero, List.set_cons_succ, i64_w, i32_w]
        rfl
      refine take_ (i := 5) (N := some 12) (v := ?_) (a' := ?_) #[true, true, true, true, true, true, false, false, true, true, true, true, true, false, false, false, false, false, false, false, false, false, false, false, false, false, false, false, false, false, false, false, false] rfl rfl (by kernel_rfl) (fun _ _ _ h => h) (Or.inl ⟨by rfl, ?_⟩) hHeld ?_ ?_
      rotate_left
      · rintro w' ⟨s0, s1⟩
        go_simp
        with_reducible rfl
      rotate_left
      · simp only [Act.put, List.setIfInBounds_toArray, List.set_cons_zero, List.set_cons_succ, i64_w, i32_w]
        rfl
      refine take_ (i := 13) (N := some 20) (v := ?_) (a' := ?_) #[true, true, true, true, true, true, false, false, true, true, true, true, true, true, false, false, false, false, false, false, false, false, false, false, false, false, false, false, false, false, false, false, false] rfl rfl (by kernel_rfl) (fun _ _ _ h => h) (Or.inl ⟨by rfl, ?_⟩) hHeld ?_ ?_
      rotate_left
      · rintro w' ⟨s0, s1⟩
        go_simp
        with_reducible rfl
      rotate_left
      · simp only [Act.put, List.setIfInBounds_toArray, List.set_cons_zero, List.set_cons_succ, i64_w, i32_w]
        rfl
      refine one_ (i := 6) (N := some 13) #[true, true, true, true, true, true, true, false, true, true, true, true, true, true, false, false, false, false, false, false, false, false, false, false, false, false, false, false, false, false, false, false, false] rfl rfl (by kernel_rfl) (by decide) (fun K hK => ?_)
      refine goes_ Try.func19 (by kernel_rfl) rfl #[] (by rfl) rfl rfl (by simp only [List.map_toArray, List.map_cons, List.map_nil]) ?_
      with_reducible refine (whole_any _).mono ?_
      rintro e w6 ⟨rfl, hb6⟩
      refine ⟨_, rfl, ?_⟩
      have P6 := Lib.hid (PD.out.below hb6)
      have B6 := Lib.hid (below_then BD.out BD.out.size hb6)
      clear hb6
      refine hK.out _ _ ⟨(P6.out.cellT hi), (P6.out.cellX hi)⟩ (fun hHeld => ?_)
      clear hK K
      refine norm_ (a' := ?_) ?_ ?_
      rotate_left
      · show Act.put _ (some 13) _ = _
        simp only [Act.put, List.setIfInBounds_toArray, List.set_cons_zero, List.set_cons_succ, i64_w, i32_w]
        rfl
      refine one_ (i := 7) (N := some 14) #[true, true, true, true, true, true, true, true, true, true, true, true, true, true, false, false, false, false, false, false, false, false, false, false, false, false, false, false, false, false, false, false, false] rfl rfl (by kernel_rfl) (by decide) (fun K hK => ?_)
      refine goes_ Try.func18 (by kernel_rfl) rfl #[.pointer (some ⟨g i, 0, none⟩), .bool false, .agg #[.string ⟨#[]⟩, .string ⟨#[]⟩], .int .i64 (-1)] (by rfl) rfl rfl (by simp only [List.map_toArray, List.map_cons, List.map_nil]; rfl) ?_
      with_reducible refine (told_up (P6.out.tab i hi) (P6.out.ok i hi) ⟨#[]⟩ ⟨#[]⟩ (-1)).mono ?_
      rintro e w7 ⟨v7, rfl, hr7, hb7⟩
      refine ⟨_, rfl, ?_⟩
      rw [told_all] at hr7
      obtain ⟨A7, c7, rfl, _, hC7⟩ := C_of_own hr7
      have C7 := Lib.hid hC7
      have P7 := Lib.hid (P6.out.below hb7)
      have B7 := Lib.hid (below_then B6.out B6.out.size hb7)
      clear hr7 hC7 hb7
      refine hK.out _ _ ⟨(P7.out.cellT hi), (P7.out.cellX hi)⟩ (fun hHeld => ?_)
      clear hK K
      refine norm_ (a' := ?_) ?_ ?_
      rotate_left
      · show Act.put _ (some 14) _ = _
        simp only [Act.put, List.setIfInBounds_toArray, List.set_cons_zero, List.set_cons_succ, i64_w, i32_w]
        rfl
      refine one_ (i := 14) (N := some 21) #[true, true, true, true, true, true, true, true, true, true, true, true, true, true, true, false, false, false, false, false, false, false, false, false, false, false, false, false, false, false, false, false, false] rfl rfl (by kernel_rfl) (by decide) (fun K hK => ?_)
      refine goes_ Try.func17 (by kernel_rfl) rfl #[.slice A7 (l i).length c7, .slice (A i) (l i).length (c i)] (by rfl) rfl rfl (by simp only [List.map_toArray, List.map_cons, List.map_nil]; rfl) ?_
      with_reducible refine (same_any _ A7 (A i) c7 (c i) (l i) C7.out (P7.out.xr i hi).c_).mono ?_
      rintro e w8 ⟨rfl, hb8⟩
      refine ⟨_, rfl, ?_⟩
      have P8 := Lib.hid (P7.out.below hb8)
      have B8 := Lib.hid (below_then B7.out B7.out.size hb8)
      clear hb8
      refine hK.out _ _ ⟨(P8.out.cellT hi), (P8.out.cellX hi)⟩ (fun hHeld => ?_)
      clear hK K
      refine norm_ (a' := ?_) ?_ ?_
      rotate_left
      · show Act.put _ (some 21) _ = _
        simp only [Act.put, List.setIfInBounds_toArray, List.set_cons_zero, List.set_cons_succ, i64_w, i32_w]
        rfl
      refine pure_ (i := 15) (N := some 22) (v := ?_) (a' := ?_) #[true, true, true, true, true, true, true, true, true, true, true, true, true, true, true, true, false, false, false, false, false, false, false, false, false, false, false, false, false, false, false, false, false] rfl rfl (by kernel_rfl) (fun _ _ _ h => h) (Or.inl ⟨by rfl, ?_⟩) ?_ ?_
      rotate_left
      · intro w'
        go_simp
        with_reducible rfl
      rotate_left
      · simp only [Act.put, List.setIfInBounds_toArray, List.set_cons_zero, List.set_cons_succ, i64_w, i32_w]
        rfl
      refine pure_ (i := 16) (N := some 23) (v := ?_) (a' := ?_) #[true, true, true, true, true, true, true, true, true, true, true, true, true, true, true, true, true, false, false, false, false, false, false, false, false, false, false, false, false, false, false, false, false] rfl rfl (by kernel_rfl) (fun _ _ _ h => h) (Or.inl ⟨by rfl, ?_⟩) ?_ ?_
      rotate_left
      · intro w'
        go_simp
        with_reducible rfl
      rotate_left
      · simp only [Act.put, List.setIfInBounds_toArray, List.set_cons_zero, List.set_cons_succ, i64_w, i32_w]
        rfl
      refine pure_ (i := 17) (N := some 24) (v := ?_) (a' := ?_) #[true, true, true, true, true, true, true, true, true, true, true, true, true, true, true, true, true, true, false, false, false, false, false, false, false, false, false, false, false, false, false, false, false] rfl rfl (by kernel_rfl) (fun _ _ _ h => h) (Or.inl ⟨by rfl, ?_⟩) ?_ ?_
      rotate_left
      · intro w'
        go_simp
        with_reducible rfl
      rotate_left
      · simp only [Act.put, List.setIfInBounds_toArray, List.set_cons_zero, List.set_cons_succ, i64_w, i32_w]
        rfl
      refine pure_ (i := 18) (N := some 25) (v := ?_) (a' := ?_) #[true, true, true, true, true, true, true, true, true, true, true, true, true, true, true, true, true, true, true, false, false, false, false, false, false, false, false, false, false, false, false, false, false] rfl rfl (by kernel_rfl) (fun _ _ _ h => h) (Or.inl ⟨by rfl, ?_⟩) ?_ ?_
      rotate_left
      · intro w'
        go_simp
        with_reducible rfl
      rotate_left
      · simp only [Act.put, List.setIfInBounds_toArray, List.set_cons_zero, List.set_cons_succ, i64_w, i32_w]
        rfl
      refine pure_ (i := 19) (N := some 26) (v := ?_) (a' := ?_) #[true, true, true, true, true, true, true, true, true, true, true, true, true, true, true, true, true, true, true, true, false, false, false, false, false, false, false, false, false, false, false, false, false] rfl rfl (by kernel_rfl) (fun _ _ _ h => h) (Or.inl ⟨by rfl, ?_⟩) ?_ ?_
      rotate_left
      · intro w'
        go_simp
        with_reducible rfl
      rotate_left
      · simp only [Act.put, List.setIfInBounds_toArray, List.set_cons_zero, List.set_cons_succ, i64_w, i32_w]
        rfl
      refine pure_ (i := 20) (N := some 27) (v := ?_) (a' := ?_) #[true, true, true, true, true, true, true, true, true, true, true, true, true, true, true, true, true, true, true, true, true, false, false, false, false, false, false, false, false, false, false, false, false] rfl rfl (by kernel_rfl) (fun _ _ _ h => h) (Or.inl ⟨by rfl, ?_⟩) ?_ ?_
      rotate_left
      · intro w'
        go_simp
        with_reducible rfl
      rotate_left
      · simp only [Act.put, List.setIfInBounds_toArray, List.set_cons_zero, List.set_cons_succ, i64_w, i32_w]
        rfl
      refine pure_ (i := 21) (N := some 28) (v := ?_) (a' := ?_) #[true, true, true, true, true, true, true, true, true, true, true, true, true, true, true, true, true, true, true, true, true, true, false, false, false, false, false, false, false, false, false, false, false] rfl rfl (by kernel_rfl) (fun _ _ _ h => h) (Or.inl ⟨by rfl, ?_⟩) ?_ ?_
      rotate_left
      · intro w'
        go_simp
        with_reducible rfl
      rotate_left
      · simp only [Act.put, List.setIfInBounds_toArray, List.set_cons_zero, List.set_cons_succ, i64_w, i32_w]
        rfl
      refine pure_ (i := 24) (N := some 31) (v := ?_) (a' := ?_) #[true, true, true, true, true, true, true, true, true, true, true, true, true, true, true, true, true, true, true, true, true, true, false, false, true, false, false, false, false, false, false, false, false] rfl rfl (by kernel_rfl) (fun _ _ _ h => h) (Or.inl ⟨by rfl, ?_⟩) ?_ ?_
      rotate_left
      · intro w'
        go_simp
        with_reducible rfl
      rotate_left
      · simp only [Act.put, List.setIfInBounds_toArray, List.set_cons_zero, List.set_cons_succ, i64_w, i32_w]
        rfl
      refine pure_ (i := 25) (N := some 32) (v := ?_) (a' := ?_) #[true, true, true, true, true, true, true, true, true, true, true, true, true, true, true, true, true, true, true, true, true, true, false, false, true, true, false, false, false, false, false, false, false] rfl rfl (by kernel_rfl) (fun _ _ _ h => h) (Or.inl ⟨by rfl, ?_⟩) ?_ ?_
      rotate_left
      · intro w'
        go_simp
        with_reducible rfl
      rotate_left
      · simp only [Act.put, List.setIfInBounds_toArray, List.set_cons_zero, List.set_cons_succ, i64_w, i32_w]
        rfl
      refine pure_ (i := 26) (N := some 33) (v := ?_) (a' := ?_) #[true, true, true, true, true, true, true, true, true, true, true, true, true, true, true, true, true, true, true, true, true, true, false, false, true, true, true, false, false, false, false, false, false] rfl rfl (by kernel_rfl) (fun _ _ _ h => h) (Or.inl ⟨by rfl, ?_⟩) ?_ ?_
      rotate_left
      · intro w'
        go_simp
        with_reducible rfl
      rotate_left
      · simp only [Act.put, List.setIfInBounds_toArray, List.set_cons_zero, List.set_cons_succ, i64_w, i32_w]
        rfl
      refine pure_ (i := 27) (N := some 34) (v := ?_) (a' := ?_) #[true, true, true, true, true, true, true, true, true, true, true, true, true, true, true, true, true, true, true, true, true, true, false, false, true, true, true, true, false, false, false, false, false] rfl rfl (by kernel_rfl) (fun _ _ _ h => h) (Or.inl ⟨by rfl, ?_⟩) ?_ ?_
      rotate_left
      · intro w'
        go_simp
        with_reducible rfl
      rotate_left
      · simp only [Act.put, List.setIfInBounds_toArray, List.set_cons_zero, List.set_cons_succ, i64_w, i32_w]
        rfl
      refine pure_ (i := 28) (N := some 35) (v := ?_) (a' := ?_) #[true, true, true, true, true, true, true, true, true, true, true, true, true, true, true, true, true, true, true, true, true, true, false, false, true, true, true, true, true, false, false, false, false] rfl rfl (by kernel_rfl) (fun _ _ _ h => h) (Or.inl ⟨by rfl, ?_⟩) ?_ ?_
      rotate_left
      · intro w'
        go_simp
        with_reducible rfl
      rotate_left
      · simp only [Act.put, List.setIfInBounds_toArray, List.set_cons_zero, List.set_cons_succ, i64_w, i32_w]
        rfl
      refine take_ (i := 22) (N := some 29) (v := ?_) (a' := ?_) #[true, true, true, true, true, true, true, true, true, true, true, true, true, true, true, true, true, true, true, true, true, true, true, false, true, true, true, true, true, false, false, false, false] rfl rfl (by kernel_rfl) (fun _ _ _ h => h) (Or.inl ⟨by rfl, ?_⟩) hHeld ?_ ?_
      rotate_left
      · rintro w' ⟨s0, s1⟩
        go_simp
        with_reducible rfl
      rotate_left
      · simp only [Act.put, List.setIfInBounds_toArray, List.set_cons_zero, List.set_cons_succ, i64_w, i32_w]
        rfl
      refine take_ (i := 29) (N := some 36) (v := ?_) (a' := ?_) #[true, true, true, true, true, true, true, true, true, true, true, true, true, true, true, true, true, true, true, true, true, true, true, false, true, true, true, true, true, true, false, false, false] rfl rfl (by kernel_rfl) (fun _ _ _ h => h) (Or.inl ⟨by rfl, ?_⟩) hHeld ?_ ?_
      rotate_left
      · rintro w' ⟨s0, s1⟩
        go_simp
        with_reducible rfl
      rotate_left
      · simp only [Act.put, List.setIfInBounds_toArray, List.set_cons_zero, List.set_cons_succ, i64_w, i32_w]
        rfl
      refine pure_ (i := 30) (N := some 37) (v := ?_) (a' := ?_) #[true, true, true, true, true, true, true, true, true, true, true, true, true, true, true, true, true, true, true, true, true, true, true, false, true, true, true, true, true, true, true, false, false] rfl rfl (by kernel_rfl) (fun _ _ _ h => h) (Or.inl ⟨by rfl, ?_⟩) ?_ ?_
      rotate_left
      · intro w'
        go_simp
        with_reducible rfl
      rotate_left
      · simp only [Act.put, List.setIfInBounds_toArray, List.set_cons_zero, List.set_cons_succ, i64_w, i32_w]
        rfl
      refine one_ (i := 23) (N := some 30) #[true, true, true, true, true, true, true, true, true, true, true, true, true, true, true, true, true, true, true, true, true, true, true, true, true, true, true, true, true, true, true, false, false] rfl rfl (by kernel_rfl) (by decide) (fun K hK => ?_)
      refine goes_ Try.func20 (by kernel_rfl) rfl #[.pointer (some ⟨g i, 0, none⟩)] (by rfl) rfl rfl (by simp only [List.map_toArray, List.map_cons, List.map_nil]; rfl) ?_
      with_reducible refine (len_any (P8.out.tab i hi)).mono ?_
      rintro e w9 ⟨rfl, rfl⟩
      refine ⟨_, rfl, ?_⟩
      have P9 := P8
      have B9 := B8
      refine hK.out _ _ ⟨(P9.out.cellT hi), (P9.out.cellX hi)⟩ (fun hHeld => ?_)
      clear hK K
      refine norm_ (a' := ?_) ?_ ?_
      rotate_left
      · show Act.put _ (some 30) _ = _
        simp only [Act.put, List.setIfInBounds_toArray, List.set_cons_zero, List.set_cons_succ, i64_w, i32_w]
        rfl
      refine pure_ (i := 31) (N := some 38) (v := ?_) (a' := ?_) #[true, true, true, true, true, true, true, true, true, true, true, true, true, true, true, true, true, true, true, true, true, true, true, true, true, true, true, true, true, true, true, true, false] rfl rfl (by kernel_rfl) (fun _ _ _ h => h) (Or.inl ⟨by rfl, ?_⟩) ?_ ?_
      rotate_left
      · intro w'
        go_simp
        with_reducible rfl
      rotate_left
      · simp only [Act.put, List.setIfInBounds_toArray, List.set_cons_zero, List.set_cons_succ, i64_w, i32_w]
        rfl
      refine pure_ (i := 32) (N := some 39) (v := ?_) (a' := ?_) #[true, true, true, true, true, true, true, true, true, true, true, true, true, true, true, true, true, true, true, true, true, true, true, true, true, true, true, true, true, true, true, true, true] rfl rfl (by kernel_rfl) (fun _ _ _ h => h) (Or.inl ⟨by rfl, ?_⟩) ?_ ?_
      rotate_left
      · intro w'
        go_simp
        with_reducible rfl
      rotate_left
      · simp only [Act.put, List.setIfInBounds_toArray, List.set_cons_zero, List.set_cons_succ, i64_w, i32_w]
        rfl
      refine done_ (by kernel_rfl) ?_
      clear p0 p3 p4
      go_wp2_with fail
      go_roundg k1
      case measure => exact Nat.lt_succ_self _
      case rel => exact ⟨i + 1, by go_num, Lib.hid (by have := HI.out; omega), P9, B9⟩
def rMi (i : Nat) : Row := ⟨⟨#[109]⟩, ⟨#[]⟩, 1 + (i : Int)⟩
theorem putL_mi {i : Nat} (hi : i < 3) : putL [] (rMi i) = (0, [rMi i]) := by
  have : i = 0 ∨ i = 1 ∨ i = 2 := by omega
  unfold putL
  rcases this with rfl | rfl | rfl <;> (rw [if_pos (by decide), if_pos (.inr (by simp))] <;> rfl)
theorem xr_nil {n0 : Nat} {w : World} : XR n0 w none 0 [] := ⟨⟨rfl, by decide, fun h => absurd h (by decide)⟩, Nat.le_refl _, fun ad ha => by cases ha⟩
theorem rput_mi {n0 : Nat} {w : World} (i : Nat) :
    Calls Try.prog 37 #[.slice none 0 0, .agg #[.string ⟨#[109]⟩, .string ⟨#[]⟩, .int .i64 (1 + (i : Int))]] w fun e w' => ∃ A' c', e = .returned (.tuple #[.slice A' (putL [] (rMi i)).2.length c', .int .i64 (putL [] (rMi i)).1]) ∧ XR n0 w' A' c' (putL [] (rMi i)).2 ∧ Below w.heap.size w w' :=
  rput_any (l := []) xr_nil LOk.nil (rMi i)
def three {α : Type} (x y z : α) : Nat → α := fun j => if j = 0 then x else if j = 1 then y else z
theorem play_new3 {n0 : Nat} {w : World} {b g0 g1 g2 : Nat} (hb : w.heap[b]? = some (.cells #[.pointer (some ⟨g0, 0, none⟩), .pointer (some ⟨g1, 0, none⟩), .pointer (some ⟨g2, 0, none⟩), .slice none 0 0, .slice none 0 0, .slice none 0 0] tPl (0, 0))) (T0 : TabR w g0 []) (T1 : TabR w g1 []) (T2 : TabR w g2 []) (h0 : n0 ≤ g0) (h1 : n0 ≤ g1) (h2 : n0 ≤ g2) (h01 : g0 ≠ g1) (h02 : g0 ≠ g2) (h12 : g1 ≠ g2) (hn : n0 ≤ b) :
    PlayR n0 w b (three g0 g1 g2) (fun _ => []) (fun _ => none) (fun _ => 0) := by
  have cs3 : ∀ j, j < 3 → j = 0 ∨ j = 1 ∨ j = 2 := fun j hj => by omega
  refine ⟨⟨_, hb, rfl, fun j hj => ?_⟩, fun j hj => ?_, fun j hj => LOk.nil, fun j hj => xr_nil, fun j hj => ?_, fun i j hi hj hij => ?_, hn⟩
  · rcases cs3 j hj with rfl | rfl | rfl <;> exact ⟨rfl, rfl⟩
  · rcases cs3 j hj with rfl | rfl | rfl
    · exact T0
    · exact T1
    · exact T2
  · rcases cs3 j hj with rfl | rfl | rfl
    · exact h0
    · exact h1
    · exact h2
  · rcases cs3 i hi with rfl | rfl | rfl <;> rcases cs3 j hj with rfl | rfl | rfl
    · exact absurd rfl hij
    · exact h01
    · exact h02
    · exact fun e => h01 e.symm
    · exact absurd rfl hij
    · exact h12
    · exact fun e => h02 e.symm
    · exact fun e => h12 e.symm
    · exact absurd rfl hij
set_option maxHeartbeats 12800000 in
set_option maxRecDepth 100000 in
theorem plays_ok (script : List TStep) (Ag : Option Addr) (cg : Nat) (w : World) (hcg : script.length ≤ cg) (hlen : script.length ≤ 1649267441664) (hG : kTOp.C w Ag script.length script) (hrows : ∀ s, s ∈ script → s.rows.length ≤ 3518437208780) :
    Calls Try.prog 10 #[.slice Ag script.length cg] w fun e w' => e = .returned (.bool true) ∧ Below w.heap.size w w' := by
  have HG := Lib.hid hG
  have HR := Lib.hid hrows
  clear hG hrows
  go_enter Try.func10, Try.ntmps10
  go_wp2_with fail
  refine (new_some w).mono ?_
  rintro e w1 ⟨g0, rfl, hg0, hT1, hb1⟩
  have HG0 := Lib.hid hg0
  have T1 := Lib.hid hT1
  have B1 := Lib.hid hb1
  clear hg0 hT1 hb1
  go_wp2_with fail
  refine (new_some w1).mono ?_
  rintro e w2 ⟨g1, rfl, hg1, hT2, hb2⟩
  have HG1 := Lib.hid (And.intro (Nat.le_trans B1.out.size hg1) (show g0 ≠ g1 by have := T1.out.lt; omega))
  have T2 := Lib.hid (T1.out.below hb2)
  have U2 := Lib.hid hT2
  have B2 := Lib.hid (below_then B1.out B1.out.size hb2)
  clear hg1 hT2 hb2 T1 B1
  go_wp2_with fail
  refine (new_some w2).mono ?_
  rintro e w3 ⟨g2, rfl, hg2, hT3, hb3⟩
  have HG2 := Lib.hid (And.intro (Nat.le_trans B2.out.size hg2) (And.intro (show g0 ≠ g2 by have := T2.out.lt; omega) (show g1 ≠ g2 by have := U2.out.lt; omega)))
  have bp := below_then hb3 hb3.size (below_alloc (Below.refl w3.heap.size w3) (.cells #[.pointer (some ⟨g0, 0, none⟩), .pointer (some ⟨g1, 0, none⟩), .pointer (some ⟨g2, 0, none⟩), .slice none 0 0, .slice none 0 0, .slice none 0 0] tPl))
  have T3 := Lib.hid (T2.out.below bp)
  have U3 := Lib.hid (U2.out.below bp)
  have V3 := Lib.hid (hT3.below (below_alloc (Below.refl w3.heap.size w3) (.cells #[.pointer (some ⟨g0, 0, none⟩), .pointer (some ⟨g1, 0, none⟩), .pointer (some ⟨g2, 0, none⟩), .slice none 0 0, .slice none 0 0, .slice none 0 0] tPl)))
  have B3 := Lib.hid (below_then B2.out B2.out.size bp)
  have hw3 : w.heap.size ≤ w3.heap.size := Nat.le_trans B2.out.size hb3.size
  have PL := Lib.hid (play_new3 (blk_new w3 (.cells #[.pointer (some ⟨g0, 0, none⟩), .pointer (some ⟨g1, 0, none⟩), .pointer (some ⟨g2, 0, none⟩), .slice none 0 0, .slice none 0 0, .slice none 0 0] tPl)) T3.out U3.out V3.out HG0.out HG1.out.1 HG2.out.1 HG1.out.2 HG2.out.2.1 HG2.out.2.2 hw3)
  clear hg2 hT3 hb3 bp B2 T2 U2 T3 U3 V3 HG0 HG1 HG2 hw3
  go_upto_region 2 with (fail)
  generalize w3.heap.size = b at *
  generalize (World.alloc w3 _) = W3 at *
  generalize three g0 g1 g2 = gs at *
  go_wp2_with fail
  go_loopg [13] 3 (fun kq v13 w' => ∃ (i : Nat) (l' : Nat → List Row) (A' : Nat → Option Addr) (c' : Nat → Nat), v13 = .int .i64 (i : Int) ∧ Hid (i + kq = 3) ∧ Hid (PlayR w.heap.size w' b gs l' A' c') ∧ Hid (∀ j, i ≤ j → l' j = []) ∧ Hid (Below w.heap.size w w'))
  case atStart => exact ⟨0, _, _, _, rfl, (show _ + _ = _ by omega), PL, Lib.hid (fun _ _ => rfl), B3⟩
  case round =>
    clear PL B3
    obtain ⟨i, l', A', c', rfl, HI, PL, HE, B⟩ := hrel
    cases gk with
    | zero =>
      have hi : i = 3 := HI.out
      subst hi
      clear HI HE
      go_wp2_with fail
      go_loopg [51] script.length (fun kq v51 w' => ∃ (k : Nat) (g' : Nat → Nat) (l' : Nat → List Row) (A' : Nat → Option Addr) (c' : Nat → Nat), v51 = .int .i64 (k : Int) ∧ Hid (k + kq = script.length) ∧ Hid (PlayR w.heap.size w' b g' l' A' c') ∧ Hid (Below w.heap.size w w'))
      case atStart => exact ⟨0, gs, _, _, _, rfl, (show _ + _ = _ by omega), PL, B⟩
      case round =>
        clear PL B
        obtain ⟨k, g', l', A', c', rfl, HK, PL, B⟩ := hrel
        cases gk with
        | zero =>
          have hk : k = script.length := HK.out
          have c2 : decide (k < script.length) = false := by simp; omega
          clear hk HK
          go_wp2_with fail
          refine (same_play PL.out).mono ?_
          rintro e w9 ⟨rfl, hb9⟩
          have B9 := Lib.hid (below_then B.out B.out.size hb9)
          clear hb9 B
          go_wp2
          go_ret
          exact ⟨rfl, B9.out⟩
        | succ k1 =>
          have hk : k < script.length := by have := HK.out; omega
          have hu := List.getElem?_eq_getElem hk
          have hrs := HR.out script[k] (List.getElem_mem hk)
          generalize script[k] = s at *
          obtain ⟨ad, v, hA, hv, hx0, hx⟩ := at_TOp HG.out hu
          cases hA
          obtain ⟨Av, cv, ev, hvv⟩ := hv
          cases ev
          have HVV := Lib.hid hvv.2
          have hx0 := pw_cell_below (w1 := wr) B.out hx0
          have hx1 := pw_cell_below (w1 := wr) B.out (show w.cell? ⟨(ad.add (k * 11)).block, (ad.add (k * 11)).off + 1, none⟩ = some (.int .i64 s.table) from hx 1 (by omega) (by omega))
          have hx2 := pw_cell_below (w1 := wr) B.out (show w.cell? ⟨(ad.add (k * 11)).block, (ad.add (k * 11)).off + 2, none⟩ = some (.int .i64 s.to2) from hx 2 (by omega) (by omega))
          have hx3 := pw_cell_below (w1 := wr) B.out (show w.cell? ⟨(ad.add (k * 11)).block, (ad.add (k * 11)).off + 3, none⟩ = some (.string s.row.key) from hx 3 (by omega) (by omega))
          have hx4 := pw_cell_below (w1 := wr) B.out (show w.cell? ⟨(ad.add (k * 11)).block, (ad.add (k * 11)).off + 4, none⟩ = some (.string s.row.value) from hx 4 (by omega) (by omega))
          have hx5 := pw_cell_below (w1 := wr) B.out (show w.cell? ⟨(ad.add (k * 11)).block, (ad.add (k * 11)).off + 5, none⟩ = some (.int .i64 s.row.version) from hx 5 (by omega) (by omega))
          have hx6 := pw_cell_below (w1 := wr) B.out (show w.cell? ⟨(ad.add (k * 11)).block, (ad.add (k * 11)).off + 6, none⟩ = some (.string s.key) from hx 6 (by omega) (by omega))
          have hx7 := pw_cell_below (w1 := wr) B.out (show w.cell? ⟨(ad.add (k * 11)).block, (ad.add (k * 11)).off + 7, none⟩ = some (.string s.from_) from hx 7 (by omega) (by omega))
          have hx8 := pw_cell_below (w1 := wr) B.out (show w.cell? ⟨(ad.add (k * 11)).block, (ad.add (k * 11)).off + 8, none⟩ = some (.string s.upto) from hx 8 (by omega) (by omega))
          have hx9 := pw_cell_below (w1 := wr) B.out (show w.cell? ⟨(ad.add (k * 11)).block, (ad.add (k * 11)).off + 9, none⟩ = some (.slice Av s.rows.length cv) from hx 9 (by omega) (by omega))
          have hx10 := pw_cell_below (w1 := wr) B.out (show w.cell? ⟨(ad.add (k * 11)).block, (ad.add (k * 11)).off + 10, none⟩ = some (.int .i64 s.n) from hx 10 (by omega) (by omega))
          have c2 : decide (k < script.length) = true := by simpa using hk
          have p1 := eq_true (show 0 ≤ (k : Int) by omega)
          have p2 := eq_true (show k < script.length by omega)
          have ba := below_alloc (Below.refl wr.heap.size wr) (.cells #[Value.int .i64 s.call, .int .i64 s.table, .int .i64 s.to2, .string s.row.key, .string s.row.value, .int .i64 s.row.version, .string s.key, .string s.from_, .string s.upto, .slice Av s.rows.length cv, .int .i64 s.n] tOp)
          have Q5 := Lib.hid (blk_new wr (.cells #[Value.int .i64 s.call, .int .i64 s.table, .int .i64 s.to2, .string s.row.key, .string s.row.value, .int .i64 s.row.version, .string s.key, .string s.from_, .string s.upto, .slice Av s.rows.length cv, .int .i64 s.n] tOp))
          have PL5 := Lib.hid (PL.out.below ba)
          have B5 := Lib.hid (below_then B.out B.out.size ba)
          have HRS := Lib.hid hrs
          clear hu hx PL B hvv hrs ba
          go_upto_region 12 with (fail)
          generalize wr.heap.size = q at *
          generalize (World.alloc wr _) = WA at *
          clear hx0 hx1 hx2 hx3 hx4 hx5 hx6 hx7 hx8 hx9 hx10 p1 p2
          have cp := blkc Q5.out
          go_wp2_with fail
          clear cp
          refine (change_any (w0 := w) PL5.out B5.out (s) (Av := Av) (cv := cv) HRS.out (fun W hb => Kd.C_below HVV.out hb)).mono ?_
          rintro e w6 ⟨rfl, ⟨g2, A2, c2, hPL, hgj⟩, hK, hB⟩
          have PL6 := Lib.hid hPL
          have Q6 := Lib.hid (op_kept Q5.out hK)
          have B6 := Lib.hid hB
          clear hPL hgj hK hB PL5 B5 Q5
          have cp := blkc Q6.out
          go_wp2_with fail
          clear cp
          refine (ask_any PL6.out s).mono ?_
          rintro e w7 ⟨rfl, hb7⟩
          have PL7 := Lib.hid (PL6.out.below hb7)
          have B7 := Lib.hid (below_then B6.out B6.out.size hb7)
          clear hb7 PL6 B6 Q6
          go_wp2_with fail
          go_roundg k1
          case measure => exact Nat.lt_succ_self _
          case rel => exact ⟨k + 1, g2, _, A2, c2, by go_num, Lib.hid (by have := HK.out; omega), PL7, B7⟩
    | succ k1 =>
      have hi : i < 3 := by have := HI.out; omega
      have hli := HE.out i (Nat.le_refl _)
      have HPX := Lib.hid (show putL (l' i) (rMi i) = (0, [rMi i]) by rw [hli]; exact putL_mi hi)
      have HPN := Lib.hid (putL_mi hi)
      have OKX := Lib.hid (show LOk [rMi i] by have h := (PL.out.ok i hi).putL (rMi i); rw [HPX.out] at h; exact h)
      have p0 := eq_true (show 0 ≤ (i : Int) by omega)
      have p3 := eq_true (show (i : Int) < 3 by omega)
      have p4 := eq_true (show i < 3 by omega)
      have HF1 : wrap64 (1 + (i : Int)) = 1 + (i : Int) := by rw [← i64_w, IntWalk.i64_in _ (by omega)]
      have ct := PL.out.cellT hi
      clear hli
      go_wp2_with fail
      refine (tput_any (w0 := w) (rMi i) (PL.out.tab i hi) (PL.out.ok i hi) (PL.out.ge i hi) B.out).mono ?_
      rintro e w4 ⟨rfl, hT4, hK4, hB4⟩
      rw [HPX.out] at hT4 ⊢
      have HTB := Lib.hid (PL.out.tabbed hi hK4)
      have T4 := Lib.hid hT4
      have B4 := Lib.hid hB4
      have hK4 := Lib.hid hK4
      have PB4 := Lib.hid (show PB w4 b gs l' A' c' from HTB.out.2.1)
      clear hT4 hB4 ct
      go_wp2_with fail
      refine start_ (n := 13) (S := fun w' => w'.cell? ⟨b, 3 + i, none⟩ = some (.slice (A' i) (l' i).length (c' i))) (ds := [12]) #[false, false, false, false, false, false, false, false, false, false, false, false, false] (by kernel_rfl) rfl rfl ((PB4.out.cellX hi)) (fun hHeld => ?_)
      refine pure_ (i := 0) (N := some 37) (v := ?_) (a' := ?_) #[true, false, false, false, false, false, false, false, false, false, false, false, false] rfl rfl (by kernel_rfl) (fun _ _ _ h => h) (Or.inl ⟨by rfl, ?_⟩) ?_ ?_
      rotate_left
      · intro w'
        go_simp
        with_reducible rfl
      rotate_left
      · simp only [Act.put, List.setIfInBounds_toArray, List.set_cons_zero, List.set_cons_succ, i64_w, i32_w]
        rfl
      refine pure_ (i := 1) (N := some 38) (v := ?_) (a' := ?_) #[true, true, false, false, false, false, false, false, false, false, false, false, false] rfl rfl (by kernel_rfl) (fun _ _ _ h => h) (Or.inl ⟨by rfl, ?_⟩) ?_ ?_
      rotate_left
      · intro w'
        go_simp
        with_reducible rfl
      rotate_left
      · simp only [Act.put, List.setIfInBounds_toArray, List.set_cons_zero, List.set_cons_succ, i64_w, i32_w]
        rfl
      refine pure_ (i := 2) (N := some 39) (v := ?_) (a' := ?_) #[true, true, true, false, false, false, false, false, false, false, false, false, false] rfl rfl (by kernel_rfl) (fun _ _ _ h => h) (Or.inl ⟨by rfl, ?_⟩) ?_ ?_
      rotate_left
      · intro w'
        go_simp
        with_reducible rfl
      rotate_left
      · simp only [Act.put, List.setIfInBounds_toArray, List.set_cons_zero, List.set_cons_succ, i64_w, i32_w]
        rfl
      refine pure_ (i := 3) (N := some 40) (v := ?_) (a' := ?_) #[true, true, true, true, false, false, false, false, false, false, false, false, false] rfl rfl (by kernel_rfl) (fun _ _ _ h => h) (Or.inl ⟨by rfl, ?_⟩) ?_ ?_
      rotate_left
      · intro w'
        go_simp
        with_reducible rfl
      rotate_left
      · simp only [Act.put, List.setIfInBounds_toArray, List.set_cons_zero, List.set_cons_succ, i64_w, i32_w]
        rfl
      refine pure_ (i := 4) (N := some 41) (v := ?_) (a' := ?_) #[true, true, true, true, true, false, false, false, false, false, false, false, false] rfl rfl (by kernel_rfl) (fun _ _ _ h => h) (Or.inl ⟨by rfl, ?_⟩) ?_ ?_
      rotate_left
      · intro w'
        go_simp
        with_reducible rfl
      rotate_left
      · simp only [Act.put, List.setIfInBounds_toArray, List.set_cons_zero, List.set_cons_succ, i64_w, i32_w]
        rfl
      refine pure_ (i := 9) (N := some 45) (v := ?_) (a' := ?_) #[true, true, true, true, true, false, false, false, false, true, false, false, false] rfl rfl (by kernel_rfl) (fun _ _ _ h => h) (Or.inl ⟨by rfl, ?_⟩) ?_ ?_
      rotate_left
      · intro w'
        go_simp
        with_reducible rfl
      rotate_left
      · simp only [Act.put, List.setIfInBounds_toArray, List.set_cons_zero, List.set_cons_succ, i64_w, i32_w]
        rfl
      refine pure_ (i := 10) (N := some 46) (v := ?_) (a' := ?_) #[true, true, true, true, true, false, false, false, false, true, true, false, false] rfl rfl (by kernel_rfl) (fun _ _ _ h => h) (Or.inl ⟨by rfl, ?_⟩) ?_ ?_
      rotate_left
      · intro w'
        go_simp
        with_reducible rfl
      rotate_left
      · simp only [Act.put, List.setIfInBounds_toArray, List.set_cons_zero, List.set_cons_succ, i64_w, i32_w]
        rfl
      refine one_ (i := 5) (N := some 42) #[true, true, true, true, true, true, false, false, false, true, true, false, false] rfl rfl (by kernel_rfl) (by decide) (fun K hK => ?_)
      refine goes_ Try.func37 (by kernel_rfl) rfl #[.slice none 0 0, .agg #[.string ⟨#[109]⟩, .string ⟨#[]⟩, .int .i64 (1 + (i : Int))]] (by rfl) rfl rfl (by simp only [List.map_toArray, List.map_cons, List.map_nil]; rfl) ?_
      with_reducible refine (rput_mi (n0 := w.heap.size) i).mono ?_
      rintro e w6 ⟨A6, c6, rfl, hX6, hb6⟩
      refine ⟨_, rfl, ?_⟩
      rw [HPN.out] at hX6
      rw [HPN.out]
      have X6 := Lib.hid hX6
      have BW6 := Lib.hid (below_then (below_drew (Below.refl w4.heap.size w4)) (Nat.le_refl _) hb6)
      have PB6 := Lib.hid (PB4.out.below BW6.out)
      have FIN := Lib.hid (change_done hi (Kept.of_below (Below.refl wr.heap.size wr) (SP w.heap.size wr)) PL.out hK4.out T4.out OKX.out BW6.out X6.out (below_then B4.out B4.out.size BW6.out))
      clear hX6 hb6
      refine hK.out _ _ ((PB6.out.cellX hi)) (fun hHeld => ?_)
      clear hK K
      refine norm_ (a' := ?_) ?_ ?_
      rotate_left
      · show Act.put _ (some 42) _ = _
        simp only [Act.put, List.setIfInBounds_toArray, List.set_cons_zero, List.set_cons_succ, i64_w, i32_w]
        rfl
      refine pure_ (i := 6) (N := some 36) (v := ?_) (a' := ?_) #[true, true, true, true, true, true, true, false, false, true, true, false, false] rfl rfl (by kernel_rfl) (fun _ _ _ h => h) (Or.inl ⟨by rfl, ?_⟩) ?_ ?_
      rotate_left
      · intro w'
        go_simp
        with_reducible rfl
      rotate_left
      · simp only [Act.put, List.setIfInBounds_toArray, List.set_cons_zero, List.set_cons_succ, i64_w, i32_w]
        rfl
      refine pure_ (i := 7) (N := some 43) (v := ?_) (a' := ?_) #[true, true, true, true, true, true, true, true, false, true, true, false, false] rfl rfl (by kernel_rfl) (fun _ _ _ h => h) (Or.inl ⟨by rfl, ?_⟩) ?_ ?_
      rotate_left
      · intro w'
        go_simp
        with_reducible rfl
      rotate_left
      · simp only [Act.put, List.setIfInBounds_toArray, List.set_cons_zero, List.set_cons_succ, i64_w, i32_w]
        rfl
      refine pure_ (i := 8) (N := some 44) (v := ?_) (a' := ?_) #[true, true, true, true, true, true, true, true, true, true, true, false, false] rfl rfl (by kernel_rfl) (fun _ _ _ h => h) (Or.inl ⟨by rfl, ?_⟩) ?_ ?_
      rotate_left
      · intro w'
        go_simp
        with_reducible rfl
      rotate_left
      · simp only [Act.put, List.setIfInBounds_toArray, List.set_cons_zero, List.set_cons_succ, i64_w, i32_w]
        rfl
      refine pure_ (i := 11) (N := some 47) (v := ?_) (a' := ?_) #[true, true, true, true, true, true, true, true, true, true, true, true, false] rfl rfl (by kernel_rfl) (fun _ _ _ h => h) (Or.inl ⟨by rfl, ?_⟩) ?_ ?_
      rotate_left
      · intro w'
        go_simp
        with_reducible rfl
      rotate_left
      · simp only [Act.put, List.setIfInBounds_toArray, List.set_cons_zero, List.set_cons_succ, i64_w, i32_w]
        rfl
      refine last_ (i := 12) (N := none) #[true, true, true, true, true, true, true, true, true, true, true, true, true] rfl rfl (by kernel_rfl) (by decide) (fun K hK => ?_)
      have zp := PB6.out.frozen
      have cp := PB6.out.cellX hi
      refine skip_ (w1 := ?_) (by rfl) rfl ?_ ?_
      rotate_left
      · go_simp
        rfl
      refine hK.out _ _ ?_
      clear hK K
      refine done_ (by kernel_rfl) ?_
      clear p0 p3 p4 HF1
      go_wp2_with fail
      go_roundg k1
      case measure => exact Nat.lt_succ_self _
      case rel => exact ⟨i + 1, _, _, _, by go_num, Lib.hid (by have := HI.out; omega), Lib.hid FIN.out.1, Lib.hid (fun j hj => by rw [upd_other _ _ (by omega)]; exact HE.out j (by omega)), Lib.hid FIN.out.2.2⟩

end Go.Proofs.Ytjpalkggmefpfaa.Tab
namespace Go.Proofs.Ytjpalkggmefpfaa.Walk
open Go.RowKit Go.Proofs.Ytjpalkggmefpfaa.Opn Go.Proofs.Ytjpalkggmefpfaa.Tab Go.Proofs.YtjpalkggmefpfaaW.PrintWords
theorem TablePlays (l2 : List TStep) (A2 : Option Addr) (n2 : Nat) (W : World) (hl2 : l2.length ≤ n2) (hC2 : kTOp.C W A2 l2.length l2) (hm2 : l2.length ≤ 9223372036854775807) (hq2 : ∀ a ∈ l2, pTOp a) (hr2 : l2.length * Try.prog.bytesOf 47 ≤ 140737488351232) (hi2 : ∀ s, s ∈ l2 → s.rows.length ≤ 3518437208780) :
    Calls Try.prog 10 #[.slice A2 l2.length n2] W fun e W' => e = .returned (.bool true) ∧ Below W.heap.size W W' := by
  have hb : Try.prog.bytesOf 47 = 144 := by kernel_rfl
  rw [hb] at hr2
  exact Tab.plays_ok l2 A2 n2 W hl2 (by omega) hC2 hi2
end Go.Proofs.Ytjpalkggmefpfaa.Walk
