/- A copy of bytes in memory of its own; a flight's packet. -/
import Derived.Test.YtpjbgcpieijeaaaNetR
import Derived.Test.YtpjbgcpieijeaaaNetNone
set_option linter.unusedVariables false
set_option linter.unusedSimpArgs false
namespace Go.Proofs.Ytpjbgcpieijeaaa.Net
open Go.RowKit Go.Proofs.Ytpjbgcpieijeaaa.Mem Go.Proofs.YtpjbgcpieijeaaaW.PrintWords Go.Proofs.YtpjbgcpieijeaaaW.PrintLast Go.Proofs.Ytpjbgcpieijeaaa.Byt Go.Proofs.Ytpjbgcpieijeaaa.Opn Go.Deep
section
variable {w w0 : World}
theorem ow_of {w : World} {base : Nat} {v : Value} {bs : List Int} {ok : Nat → Prop} (h : kB.R tU8 w base ok v bs) : Ow w base v bs := owns_of_R h
theorem Ow.R {w : World} {base : Nat} {v : Value} {bs : List Int} (h : Ow w base v bs) : kB.R tU8 w base (fun _ => True) v bs := R_of_owns h (fun _ _ => trivial)
theorem Ow.lower {w : World} {b b' : Nat} {v : Value} {bs : List Int} (h : Ow w b v bs) (hb : b' ≤ b) : Ow w b' v bs := own_weaken h hb
/-- What is read of it. -/
theorem Ow.reads {w : World} {base : Nat} {v : Value} {bs : List Int} (h : Ow w base v bs) : ∃ A c, v = .slice A bs.length c ∧ bs.length ≤ c ∧ kB.C w A bs.length bs := Kd.R_reads h.R
theorem eq_nil (u : World) (A : Option Addr) (n c : Nat) : (binOp .eql 28 (.slice A n c) (.slice none 0 0)).run Try.prog u = .ok (.bool A.isNone) u := by
  simp only [binOp]
  simp [run_equal_slice_nil u _ _ A n c Try.underlying28]
set_option maxHeartbeats 1600000 in
set_option maxRecDepth 100000 in
theorem clone_any {A : Option Addr} {n c : Nat} {bs : List Int} (h : kB.C w A n bs) (hn : n ≤ 140737488355328) :
    Calls Try.prog 33 #[.slice A n c] w fun e w' => ∃ v, e = .returned v ∧ Ow w' w.heap.size v bs ∧ Below w.heap.size w w' := by
  have hbl : bs.length = n := h.1
  have HC := Lib.hid h
  have hq := fun (u : World) => eq_nil u A n c
  cases A with
  | none =>
    have hn0 : n = 0 := by
      rcases Nat.eq_zero_or_pos n with h0 | h0
      · exact h0
      · obtain ⟨ad, e, _⟩ := h.2.2 h0
        cases e
    have hb0 : bs = [] := List.eq_nil_of_length_eq_zero (by omega)
    subst hb0 hn0
    clear h
    go_enter Try.func33, Try.ntmps33
    go_wp2
    go_ret
    exact ⟨_, rfl, own_nil _ _ _ _, Below.refl _ _⟩
  | some ad =>
    clear h
    have HO := Lib.hid (show kB.R tU8 (w.alloc (.cells #[] tU8)) w.heap.size (fun _ => True) (.slice (some ⟨w.heap.size, 0, none⟩) 0 0) [] from R_of_owns (World.ownsRow_made w #[] 0 (Nat.le_refl _) (by simp [maxLen]) rfl) (fun _ _ => trivial))
    have HC1 := Lib.hid (Kd.C_below HC.out (below_alloc (Below.refl w.heap.size w) (.cells #[] tU8)))
    have HB := Lib.hid (below_alloc (Below.refl w.heap.size w) (.cells #[] tU8))
    go_enter Try.func33, Try.ntmps33
    go_wp2_with (at_builtin; refine Kd.R_append_rows kB (Rr := kB.K (w.alloc (.cells #[] tU8))) (w0 := w) w.heap.size rfl (.tmp 5) (.tmp 6) 28 tU8 (.int .u8 0) 1 rfl Try.underlying28 info_u8 rfl (by decide) (by decide) (.slice (some ⟨w.heap.size, 0, none⟩) 0 0) [] bs (some ad) n c (fun _ => True) (fun _ => False) rfl rfl HO.out HC1.out (fun x cs h => by rw [show cs = [.int .u8 x] from h]; exact rfl) (fun _ hk => hk.elim) (fun _ _ => trivial) HB.out HB.out.size (by simp only [List.length_nil]; omega) ?_; intro v3 w3 ho3 hb3 hg3 hat3; (have O3 := Lib.hid (show kB.R tU8 w3 w.heap.size (fun _ => True) v3 bs from ho3)); (have B3 := Lib.hid hb3); clear ho3 hb3 hg3 hat3)
    go_ret
    exact ⟨_, rfl, ow_of O3.out, B3.out⟩
theorem ow_far3 {W : World} {b q : Nat} {v : Value} {bs : List Int} (h : Ow W b v bs) (hq : q < b) (x y z : Value) : Ow (((W.setCell ⟨q, 0, none⟩ x).setCell ⟨q, 1, none⟩ y).setCell ⟨q, 2, none⟩ z) b v bs :=
  h.move (fun k hk => by
    have hbk := own_base h k hk
    rw [Below.heap_setCell _ ⟨q, 2, none⟩ _ k (show k ≠ q by omega), Below.heap_setCell _ ⟨q, 1, none⟩ _ k (show k ≠ q by omega), Below.heap_setCell _ ⟨q, 0, none⟩ _ k (show k ≠ q by omega)])
theorem res_pk2 {fn : Func} (hr : fn.results = #[.cell 2 tPk]) {W : World} {bu : Nat} {a b c : Value} {tm : Array Value} (h1 : tm[2]? = some (.pointer (some ⟨bu, 0, none⟩))) (hU : W.heap[bu]? = some (.cells #[a, b, c] tPk (0, 0))) :
    (results fn tm).run Try.prog W = .ok (.agg #[a, b, c]) W := by
  have cu := blkc hU
  have zu := blkz hU
  have hus := Try.underlying30
  simp [results, hr, go_sem, h1, cu, hus]
set_option maxHeartbeats 3200000 in
set_option maxRecDepth 100000 in
theorem packet_any {A : Option Addr} {n c : Nat} {bs : List Int} (x y : Int) (sv : Value) (h : kB.C w A n bs) (hn : n ≤ 140737488355328) :
    Calls Try.prog 36 #[.agg #[.int .i64 x, .int .i64 y, sv, .slice A n c]] w fun e w' => ∃ v, e = .returned (.agg #[.int .i64 x, .int .i64 y, v]) ∧ Ow w' w.heap.size v bs ∧ Below w.heap.size w w' := by
  have B0 := below_alloc (Below.refl w.heap.size w) (.cells #[.int .i64 x, .int .i64 y, sv, .slice A n c] tFl)
  have B1 := below_alloc (Below.refl _ (w.alloc (.cells #[.int .i64 x, .int .i64 y, sv, .slice A n c] tFl))) (.cells #[.int .i64 0, .int .i64 0, .slice none 0 0] tPk)
  have PB := Lib.hid (blk_below (blk_new w (.cells #[.int .i64 x, .int .i64 y, sv, .slice A n c] tFl)) B1)
  have PR := Lib.hid (blk_new (w.alloc (.cells #[.int .i64 x, .int .i64 y, sv, .slice A n c] tFl)) (.cells #[.int .i64 0, .int .i64 0, .slice none 0 0] tPk))
  have BB := Lib.hid (below_then B0 B0.size B1)
  have HC := Lib.hid (Kd.C_below h BB.out)
  clear h B0 B1
  rw [World.size_alloc] at PR
  go_enter Try.func36, Try.ntmps36
  go_upto_region 1 with (fail)
  generalize (World.alloc (World.alloc _ _) _) = W1 at *
  have hbp : w.heap.size + 1 < W1.heap.size := blk_lt PR.out
  generalize hb : w.heap.size = b at *
  generalize hq : b + 1 = q at *
  have hbq : b < q := by omega
  have PD := Lib.hid (blk_drew PB.out)
  have BD := Lib.hid (show Below b w W1.drew from BB.out.drew)
  have RD := Lib.hid (blk_drew PR.out)
  have HD := Lib.hid (show kB.C W1.drew A n bs from HC.out)
  refine start_ (n := 9) (S := fun w' => (∀ o, w'.cell? ⟨b, o, none⟩ = #[Value.int .i64 x, .int .i64 y, sv, .slice A n c][o]?)) (ds := [8]) #[false, false, false, false, false, false, false, false, false] (by kernel_rfl) rfl rfl ((blkc PD.out)) (fun hHeld => ?_)
  refine pure_ (i := 0) (N := some 3) (v := ?_) (a' := ?_) #[true, false, false, false, false, false, false, false, false] rfl rfl (by kernel_rfl) (fun _ _ _ h => h) (Or.inl ⟨by rfl, ?_⟩) ?_ ?_
  rotate_left
  · intro w'
    go_simp
    with_reducible rfl
  rotate_left
  · simp only [Act.put, List.setIfInBounds_toArray, List.set_cons_zero, List.set_cons_succ, i64_w, i32_w]
    rfl
  refine pure_ (i := 2) (N := some 5) (v := ?_) (a' := ?_) #[true, false, true, false, false, false, false, false, false] rfl rfl (by kernel_rfl) (fun _ _ _ h => h) (Or.inl ⟨by rfl, ?_⟩) ?_ ?_
  rotate_left
  · intro w'
    go_simp
    with_reducible rfl
  rotate_left
  · simp only [Act.put, List.setIfInBounds_toArray, List.set_cons_zero, List.set_cons_succ, i64_w, i32_w]
    rfl
  refine pure_ (i := 4) (N := some 7) (v := ?_) (a' := ?_) #[true, false, true, false, true, false, false, false, false] rfl rfl (by kernel_rfl) (fun _ _ _ h => h) (Or.inl ⟨by rfl, ?_⟩) ?_ ?_
  rotate_left
  · intro w'
    go_simp
    with_reducible rfl
  rotate_left
  · simp only [Act.put, List.setIfInBounds_toArray, List.set_cons_zero, List.set_cons_succ, i64_w, i32_w]
    rfl
  refine take_ (i := 1) (N := some 4) (v := ?_) (a' := ?_) #[true, true, true, false, true, false, false, false, false] rfl rfl (by kernel_rfl) (fun _ _ _ h => h) (Or.inl ⟨by rfl, ?_⟩) hHeld ?_ ?_
  rotate_left
  · intro w' s0
    go_simp
    with_reducible rfl
  rotate_left
  · simp only [Act.put, List.setIfInBounds_toArray, List.set_cons_zero, List.set_cons_succ, i64_w, i32_w]
    rfl
  refine take_ (i := 3) (N := some 6) (v := ?_) (a' := ?_) #[true, true, true, true, true, false, false, false, false] rfl rfl (by kernel_rfl) (fun _ _ _ h => h) (Or.inl ⟨by rfl, ?_⟩) hHeld ?_ ?_
  rotate_left
  · intro w' s0
    go_simp
    with_reducible rfl
  rotate_left
  · simp only [Act.put, List.setIfInBounds_toArray, List.set_cons_zero, List.set_cons_succ, i64_w, i32_w]
    rfl
  refine take_ (i := 5) (N := some 8) (v := ?_) (a' := ?_) #[true, true, true, true, true, true, false, false, false] rfl rfl (by kernel_rfl) (fun _ _ _ h => h) (Or.inl ⟨by rfl, ?_⟩) hHeld ?_ ?_
  rotate_left
  · intro w' s0
    go_simp
    with_reducible rfl
  rotate_left
  · simp only [Act.put, List.setIfInBounds_toArray, List.set_cons_zero, List.set_cons_succ, i64_w, i32_w]
    rfl
  refine one_ (i := 6) (N := some 9) #[true, true, true, true, true, true, true, false, false] rfl rfl (by kernel_rfl) (by decide) (fun K hK => ?_)
  refine goes_ Try.func33 (by kernel_rfl) rfl #[.slice A n c] (by rfl) rfl rfl (by simp only [List.map_toArray, List.map_cons, List.map_nil]; rfl) ?_
  with_reducible refine ((clone_any HD.out hn)).mono ?_
  rintro e w3 ⟨v3, rfl, ho3, hb3⟩
  refine ⟨_, rfl, ?_⟩
  obtain ⟨A3, c3, rfl⟩ := own_slice ho3
  have O3 := Lib.hid ho3
  have P3 := Lib.hid (blk_below PD.out hb3)
  have R3 := Lib.hid (blk_below RD.out hb3)
  have B3 := Lib.hid (below_then BD.out (show b ≤ W1.heap.size by omega) hb3)
  clear ho3 hb3
  refine hK.out _ _ ((blkc P3.out)) (fun hHeld => ?_)
  clear hK K
  refine norm_ (a' := ?_) ?_ ?_
  rotate_left
  · show Act.put _ (some 9) _ = _
    simp only [Act.put, List.setIfInBounds_toArray, List.set_cons_zero, List.set_cons_succ, i64_w, i32_w]
    rfl
  refine pure_ (i := 7) (N := some 10) (v := ?_) (a' := ?_) #[true, true, true, true, true, true, true, true, false] rfl rfl (by kernel_rfl) (fun _ _ _ h => h) (Or.inl ⟨by rfl, ?_⟩) ?_ ?_
  rotate_left
  · intro w'
    go_simp
    with_reducible rfl
  rotate_left
  · simp only [Act.put, List.setIfInBounds_toArray, List.set_cons_zero, List.set_cons_succ, i64_w, i32_w]
    rfl
  refine last_ (i := 8) (N := none) #[true, true, true, true, true, true, true, true, true] rfl rfl (by kernel_rfl) (by decide) (fun K hK => ?_)
  have z3 := blkz R3.out
  have cc3 := blkc R3.out
  refine skip_ (w1 := ?_) (by rfl) rfl ?_ ?_
  rotate_left
  · go_simp
    rfl
  refine hK.out _ _ ?_
  clear hK K
  refine done_ (by kernel_rfl) ?_
  have R5 := Lib.hid (zero3' R3.out (.int .i64 x) (.int .i64 y) (.slice A3 bs.length c3))
  have O5 := Lib.hid (Ow.lower (ow_far3 O3.out (show q < W1.drew.heap.size from hbp) (.int .i64 x) (.int .i64 y) (.slice A3 bs.length c3)) (show b ≤ W1.drew.heap.size by show b ≤ W1.heap.size; omega))
  have B5 : Hid (Below w.heap.size w _) := Lib.hid (set3 (b := q) (by rw [hb]; exact B3.out) (by omega) (.int .i64 x) (.int .i64 y) (.slice A3 bs.length c3))
  go_wp2_with fail
  exact bodyPost_ret (res_pk2 rfl rfl R5.out) rfl ⟨_, rfl, by rw [hb]; exact O5.out, B5.out⟩
end
end Go.Proofs.Ytpjbgcpieijeaaa.Net

