/- A net that no call made: all its methods answer so, and a range over it tells nothing. -/
import Derived.Test.YtpjbgcpieijeaaaNetKinds
import Derived.Test.YtpjbgcpieijeaaaWLast
import Derived.RangeFuncKeeps
import Derived.RangeFuncNested
import Derived.WideLaws
import Derived.LoopN
import Derived.Shelf.Abstract
import Derived.LaidEqlPtr
import Derived.Laws.EntriesVeiled
set_option linter.unusedVariables false
set_option linter.unusedSimpArgs false
namespace Go.Proofs.Ytpjbgcpieijeaaa.Net
open Go.RowKit Go.Proofs.Ytpjbgcpieijeaaa.Mem Go.Proofs.YtpjbgcpieijeaaaW.PrintWords Go.Proofs.YtpjbgcpieijeaaaW.PrintLast Go.Proofs.Ytpjbgcpieijeaaa.Opn
/-- A pointer to a net that is not made. -/
def Un (w : World) (P : Value) : Prop := ∀ u, Below w.heap.size w u → Calls Try.prog 31 #[P] u fun e w' => e = .returned (.bool false) ∧ u = w'
theorem Un.below {w w' : World} {P : Value} (h : Un w P) (hb : Below w.heap.size w w') : Un w' P := fun u hu => h u (below_then hb hb.size hu)
theorem Un.out {w : World} {P : Value} (h : Un w P) : Calls Try.prog 31 #[P] w fun e w' => e = .returned (.bool false) ∧ w = w' := h w (Below.refl _ _)
abbrev zp : Value := .agg #[.int .i64 0, .int .i64 0, .slice none 0 0]
abbrev tPk : TypeId := 30
abbrev zeroC : Obj := .cells #[.int .i64 0, .int .i64 0, .slice none 0 0, .map none] 71
set_option maxHeartbeats 3200000 in
set_option maxRecDepth 100000 in
theorem un_nil (w : World) : Un w (.pointer none) := by
  intro u _
  go_enter Try.func31, Try.ntmps31
  go_wp2
  go_ret
  exact ⟨rfl, rfl⟩
set_option maxHeartbeats 3200000 in
set_option maxRecDepth 100000 in
theorem un_zero {w : World} {g : Nat} (h : w.heap[g]? = some zeroC) : Un w (.pointer (some ⟨g, 0, none⟩)) := by
  intro u hu
  have c1 := blkc (blk_below h hu)
  have hmt := fun u => run_neq_map_nil (P := Try.prog) u _ _ _ none Try.underlying69
  go_enter Try.func31, Try.ntmps31
  go_wp2
  go_ret
  exact ⟨rfl, rfl⟩
section
variable {w : World} {p : Option Addr}
set_option maxHeartbeats 3200000 in
set_option maxRecDepth 100000 in
theorem at_no (h : Un w (.pointer p)) (v : Value) : Calls Try.prog 34 #[.pointer p, v] w fun e w' => e = .returned (.int .i64 2) ∧ w = w' := by
  go_enter Try.func34, Try.ntmps34
  go_wp2_with fail
  refine h.out.mono ?_
  rintro e w1 ⟨rfl, rfl⟩
  go_wp2
  go_ret
  exact ⟨rfl, rfl⟩
set_option maxHeartbeats 3200000 in
set_option maxRecDepth 100000 in
theorem len_no (h : Un w (.pointer p)) : Calls Try.prog 12 #[.pointer p] w fun e w' => e = .returned (.int .i64 0) ∧ w = w' := by
  go_enter Try.func12, Try.ntmps12
  go_wp2_with fail
  refine h.out.mono ?_
  rintro e w1 ⟨rfl, rfl⟩
  go_wp2
  go_ret
  exact ⟨rfl, rfl⟩

theorem res_pk {fn : Func} (hr : fn.results = #[.cell 4 tPk, .tmp 5]) {W : World} {bu : Nat} {a b c e : Value} {tm : Array Value} (h1 : tm[4]? = some (.pointer (some ⟨bu, 0, none⟩))) (h2 : tm[5]? = some e) (hU : W.heap[bu]? = some (.cells #[a, b, c] tPk (0, 0))) :
    (results fn tm).run Try.prog W = .ok (.tuple #[.agg #[a, b, c], e]) W := by
  have cu := blkc hU
  have zu := blkz hU
  have hus := Try.underlying30
  simp [results, hr, go_sem, h1, h2, cu, hus]
theorem set3 {w W : World} {b : Nat} (h : Below w.heap.size w W) (hb : w.heap.size ≤ b) (x y z : Value) : Below w.heap.size w (((W.setCell ⟨b, 0, none⟩ x).setCell ⟨b, 1, none⟩ y).setCell ⟨b, 2, none⟩ z) := below_set (below_set (below_set h hb) hb) hb
theorem zero3' {W : World} {b : Nat} {x y z : Value} (h : W.heap[b]? = some (.cells #[x, y, z] tPk (0, 0))) (x' y' z' : Value) : (((W.setCell ⟨b, 0, none⟩ x').setCell ⟨b, 1, none⟩ y').setCell ⟨b, 2, none⟩ z').heap[b]? = some (.cells #[x', y', z'] tPk (0, 0)) := by
  have h1 := blk_set h 0 x'
  have h2 := blk_set h1 1 y'
  have h3 := blk_set h2 2 z'
  simpa using h3
theorem far3 {W : World} {b q : Nat} {xs : Array Value} {tt : TypeId} (h : W.heap[b]? = some (.cells xs tt (0, 0))) (hn : b ≠ q) (x y z : Value) : (((W.setCell ⟨q, 0, none⟩ x).setCell ⟨q, 1, none⟩ y).setCell ⟨q, 2, none⟩ z).heap[b]? = some (.cells xs tt (0, 0)) := blk_far (p := ⟨q, 2, none⟩) (blk_far (p := ⟨q, 1, none⟩) (blk_far (p := ⟨q, 0, none⟩) h hn x) hn y) hn z
set_option maxHeartbeats 3200000 in
set_option maxRecDepth 100000 in
theorem get_no (h : Un w (.pointer p)) (i : Int) : Calls Try.prog 17 #[.pointer p, .int .i64 i] w fun e w' => e = .returned (.tuple #[zp, .int .i64 2]) ∧ Below w.heap.size w w' := by
  have H := Lib.hid h
  clear h
  go_enter Try.func17, Try.ntmps17
  go_wp2_with fail
  have BA := below_alloc (Below.refl w.heap.size w) (.cells #[.int .i64 0, .int .i64 0, .slice none 0 0] tPk)
  have BS := Lib.hid (below_then BA BA.size (below_alloc (Below.refl _ _) (.cells #[.int .i64 i] 3)))
  have PA := Lib.hid (blk_below (blk_new w (.cells #[.int .i64 0, .int .i64 0, .slice none 0 0] tPk)) (below_alloc (Below.refl _ _) (.cells #[.int .i64 i] 3)))
  have cp := blkc PA.out
  have zp := blkz PA.out
  clear BA
  refine (at_no (H.out.below BS.out) _).mono ?_
  rintro e w1 ⟨rfl, rfl⟩
  generalize ((w.alloc (.cells #[.int .i64 0, .int .i64 0, .slice none 0 0] tPk)).alloc (.cells #[.int .i64 i] 3)) = W2 at *
  have hpl : w.heap.size < W2.heap.size := blk_lt PA.out
  have PS : Hid (((((W2.setCell ⟨w.heap.size, 0, none⟩ (.int .i64 0)).setCell ⟨w.heap.size, 0 + 1, none⟩ (.int .i64 0)).setCell ⟨w.heap.size, 0 + 2, none⟩ (.slice none 0 0))).heap[w.heap.size]? = some (.cells #[.int .i64 0, .int .i64 0, .slice none 0 0] tPk (0, 0))) := Lib.hid (zero3' PA.out _ _ _)
  go_wp2
  exact bodyPost_ret (res_pk rfl rfl rfl PS.out) rfl ⟨rfl, set3 BS.out (Nat.le_refl _) _ _ _⟩

set_option maxHeartbeats 3200000 in
set_option maxRecDepth 100000 in
theorem take_no (h : Un w (.pointer p)) (i : Int) : Calls Try.prog 20 #[.pointer p, .int .i64 i] w fun e w' => e = .returned (.tuple #[zp, .int .i64 2]) ∧ Below w.heap.size w w' := by
  have H := Lib.hid h
  clear h
  go_enter Try.func20, Try.ntmps20
  go_wp2_with fail
  have BA := Lib.hid (below_alloc (Below.refl w.heap.size w) (.cells #[.int .i64 0, .int .i64 0, .slice none 0 0] tPk))
  have PA := Lib.hid (blk_new w (.cells #[.int .i64 0, .int .i64 0, .slice none 0 0] tPk))
  generalize (w.alloc (.cells #[.int .i64 0, .int .i64 0, .slice none 0 0] tPk)) = W1 at *
  refine (get_no (H.out.below BA.out) i).mono ?_
  rintro e w2 ⟨rfl, hb2⟩
  have P2 := blk_below PA.out hb2
  have B2 := below_then BA.out BA.out.size hb2
  have hpl : w.heap.size < w2.heap.size := blk_lt P2
  have BB := below_alloc (Below.refl w2.heap.size w2) (.cells #[.int .i64 0, .int .i64 0, .slice none 0 0] tPk)
  have P3 := Lib.hid (blk_below P2 BB)
  have Q3 := Lib.hid (blk_new w2 (.cells #[.int .i64 0, .int .i64 0, .slice none 0 0] tPk))
  have B3 := Lib.hid (below_then B2 B2.size BB)
  clear hb2 BA PA H B2 BB
  clear hpl P2
  go_upto_region 2 with (fail)
  generalize (w2.alloc _) = W3 at *
  have cp := blkc P3.out
  have z3 := blkz P3.out
  have cq := blkc Q3.out
  have PS := Lib.hid (zero3' P3.out (.int .i64 0) (.int .i64 0) (.slice none 0 0))
  go_wp2_with fail
  exact bodyPost_ret (res_pk rfl rfl rfl PS.out) rfl ⟨rfl, set3 B3.out (Nat.le_refl _) _ _ _⟩

set_option maxHeartbeats 1600000 in
set_option maxRecDepth 100000 in
theorem drop_no (h : Un w (.pointer p)) (i : Int) : Calls Try.prog 27 #[.pointer p, .int .i64 i] w fun e w' => e = .returned (.int .i64 2) ∧ Below w.heap.size w w' := by
  have H := Lib.hid h
  clear h
  go_enter Try.func27, Try.ntmps27
  go_wp2_with fail
  refine (take_no H.out i).mono ?_
  rintro e w1 ⟨rfl, hb⟩
  have HB := Lib.hid (below_then hb hb.size (below_alloc (Below.refl w1.heap.size w1) (.cells #[.int .i64 0, .int .i64 0, .slice none 0 0] tPk)))
  clear hb
  go_wp2
  go_ret
  exact ⟨rfl, HB.out⟩
set_option maxHeartbeats 1600000 in
set_option maxRecDepth 100000 in
theorem copy_no (h : Un w (.pointer p)) (i : Int) : Calls Try.prog 15 #[.pointer p, .int .i64 i] w fun e w' => e = .returned (.int .i64 2) ∧ Below w.heap.size w w' := by
  have H := Lib.hid h
  clear h
  go_enter Try.func15, Try.ntmps15
  go_wp2_with fail
  have BS := Lib.hid (below_alloc (Below.refl w.heap.size w) (.cells #[.int .i64 i] 3))
  refine (at_no (H.out.below BS.out) _).mono ?_
  rintro e w1 ⟨rfl, rfl⟩
  go_wp2
  go_ret
  exact ⟨rfl, BS.out⟩
set_option maxHeartbeats 1600000 in
set_option maxRecDepth 100000 in
theorem swap_no (h : Un w (.pointer p)) (i k : Int) : Calls Try.prog 28 #[.pointer p, .int .i64 i, .int .i64 k] w fun e w' => e = .returned (.int .i64 2) ∧ Below w.heap.size w w' := by
  have H := Lib.hid h
  clear h
  go_enter Try.func28, Try.ntmps28
  go_wp2_with fail
  have BS := Lib.hid (below_alloc (Below.refl w.heap.size w) (.cells #[.int .i64 i, .int .i64 k] 3))
  refine (at_no (H.out.below BS.out) _).mono ?_
  rintro e w1 ⟨rfl, rfl⟩
  go_wp2
  go_ret
  exact ⟨rfl, BS.out⟩
set_option maxHeartbeats 1600000 in
set_option maxRecDepth 100000 in
theorem flip_no (h : Un w (.pointer p)) (i k : Int) : Calls Try.prog 14 #[.pointer p, .int .i64 i, .int .i64 k] w fun e w' => e = .returned (.int .i64 2) ∧ Below w.heap.size w w' := by
  have H := Lib.hid h
  clear h
  go_enter Try.func14, Try.ntmps14
  go_wp2_with fail
  have BS := Lib.hid (below_alloc (Below.refl w.heap.size w) (.cells #[.int .i64 i] 3))
  refine (at_no (H.out.below BS.out) _).mono ?_
  rintro e w1 ⟨rfl, rfl⟩
  go_wp2
  go_ret
  exact ⟨rfl, BS.out⟩
set_option maxHeartbeats 1600000 in
set_option maxRecDepth 100000 in
theorem flips_no (h : Un w (.pointer p)) (i : Int) : Calls Try.prog 16 #[.pointer p, .int .i64 i] w fun e w' => e = .returned (.tuple #[.int .i64 0, .int .i64 2]) ∧ Below w.heap.size w w' := by
  have H := Lib.hid h
  clear h
  go_enter Try.func16, Try.ntmps16
  go_wp2_with fail
  have BS := Lib.hid (below_alloc (Below.refl w.heap.size w) (.cells #[.int .i64 i] 3))
  refine (at_no (H.out.below BS.out) _).mono ?_
  rintro e w1 ⟨rfl, rfl⟩
  go_wp2
  go_ret2
  exact ⟨rfl, BS.out⟩
set_option maxHeartbeats 1600000 in
set_option maxRecDepth 100000 in
theorem cut_no (h : Un w (.pointer p)) (i : Int) : Calls Try.prog 29 #[.pointer p, .int .i64 i] w fun e w' => e = .returned (.int .i64 0) ∧ Below w.heap.size w w' := by
  have H := Lib.hid h
  clear h
  go_enter Try.func29, Try.ntmps29
  go_wp2_with fail
  have BA := below_alloc (Below.refl w.heap.size w) (.cells #[.pointer p] 24)
  have BS := Lib.hid (below_then BA BA.size (below_alloc (Below.refl _ _) (.cells #[.int .i64 i] 3)))
  clear BA
  refine (H.out.below BS.out).out.mono ?_
  rintro e w1 ⟨rfl, rfl⟩
  go_wp2
  go_ret
  exact ⟨rfl, BS.out⟩
set_option maxHeartbeats 1600000 in
set_option maxRecDepth 100000 in
theorem send_no (h : Un w (.pointer p)) (a b s : Value) : Calls Try.prog 11 #[.pointer p, .agg #[a, b, s]] w fun e w' => e = .returned (.int .i64 2) ∧ Below w.heap.size w w' := by
  have H := Lib.hid h
  clear h
  go_enter Try.func11, Try.ntmps11
  go_wp2_with fail
  have BS := Lib.hid (below_alloc (Below.refl w.heap.size w) (.cells #[a, b, s] tPk))
  refine (H.out.below BS.out).out.mono ?_
  rintro e w1 ⟨rfl, rfl⟩
  go_wp2
  go_ret
  exact ⟨rfl, BS.out⟩
set_option maxHeartbeats 1600000 in
set_option maxRecDepth 100000 in
theorem sent_no (h : Un w (.pointer p)) (a b s : Value) : Calls Try.prog 21 #[.pointer p, .agg #[a, b, s]] w fun e w' => e = .returned (.bool false) ∧ Below w.heap.size w w' := by
  have H := Lib.hid h
  clear h
  go_enter Try.func21, Try.ntmps21
  go_upto_region 1 with (fail)
  have BS := Lib.hid (below_alloc (Below.refl w.heap.size w) (.cells #[a, b, s] tPk))
  have H2 := Lib.hid (H.out.below BS.out.drew)
  generalize (w.alloc _) = W1 at *
  refine start_ (n := 19) (S := fun w' => w'.heap.size = w'.heap.size) (ds := []) #[false, false, false, false, false, false, false, false, false, false, false, false, false, false, false, false, false, false, false] (by kernel_rfl) rfl rfl (rfl) (fun hHeld => ?_)
  refine pure_ (i := 0) (N := some 5) (v := ?_) (a' := ?_) #[true, false, false, false, false, false, false, false, false, false, false, false, false, false, false, false, false, false, false] rfl rfl (by kernel_rfl) (fun _ _ _ h => h) (Or.inl ⟨by rfl, ?_⟩) ?_ ?_
  rotate_left
  · intro w'
    go_simp
    with_reducible rfl
  rotate_left
  · simp only [Act.put, List.setIfInBounds_toArray, List.set_cons_zero, List.set_cons_succ, i64_w, i32_w]
    rfl
  refine one_ (i := 1) (N := some 6) #[true, true, false, false, false, false, false, false, false, false, false, false, false, false, false, false, false, false, false] rfl rfl (by kernel_rfl) (by decide) (fun K hK => ?_)
  refine goes_ Try.func31 (by kernel_rfl) rfl #[.pointer p] (by rfl) rfl rfl (by simp only [List.map_toArray, List.map_cons, List.map_nil]; rfl) ?_
  with_reducible refine (H2.out.out).mono ?_
  rintro e w1 ⟨rfl, rfl⟩
  refine ⟨_, rfl, ?_⟩
  refine hK.out _ _ (rfl) (fun hHeld => ?_)
  clear hK K
  refine norm_ (a' := ?_) ?_ ?_
  rotate_left
  · show Act.put _ (some 6) _ = _
    simp only [Act.put, List.setIfInBounds_toArray, List.set_cons_zero, List.set_cons_succ, i64_w, i32_w]
    rfl
  refine pure_ (i := 2) (N := some 7) (v := ?_) (a' := ?_) #[true, true, true, false, false, false, false, false, false, false, false, false, false, false, false, false, false, false, false] rfl rfl (by kernel_rfl) (fun _ _ _ h => h) (Or.inl ⟨by rfl, ?_⟩) ?_ ?_
  rotate_left
  · intro w'
    go_simp
    with_reducible rfl
  rotate_left
  · simp only [Act.put, List.setIfInBounds_toArray, List.set_cons_zero, List.set_cons_succ, i64_w, i32_w]
    rfl
  refine pure_ (i := 3) (N := some 8) (v := undef) (a' := ?_) #[true, true, true, true, false, false, false, false, false, false, false, false, false, false, false, false, false, false, false] rfl rfl (by kernel_rfl) (fun _ _ _ h => h) (Or.inr ⟨by rfl, rfl⟩) ?_ ?_
  rotate_left
  · simp only [Act.put, List.setIfInBounds_toArray, List.set_cons_zero, List.set_cons_succ, i64_w, i32_w]
    rfl
  refine pure_ (i := 4) (N := some 9) (v := undef) (a' := ?_) #[true, true, true, true, true, false, false, false, false, false, false, false, false, false, false, false, false, false, false] rfl rfl (by kernel_rfl) (fun _ _ _ h => h) (Or.inr ⟨by rfl, rfl⟩) ?_ ?_
  rotate_left
  · simp only [Act.put, List.setIfInBounds_toArray, List.set_cons_zero, List.set_cons_succ, i64_w, i32_w]
    rfl
  refine pure_ (i := 5) (N := some 10) (v := undef) (a' := ?_) #[true, true, true, true, true, true, false, false, false, false, false, false, false, false, false, false, false, false, false] rfl rfl (by kernel_rfl) (fun _ _ _ h => h) (Or.inr ⟨by rfl, rfl⟩) ?_ ?_
  rotate_left
  · simp only [Act.put, List.setIfInBounds_toArray, List.set_cons_zero, List.set_cons_succ, i64_w, i32_w]
    rfl
  refine pure_ (i := 6) (N := some 11) (v := undef) (a' := ?_) #[true, true, true, true, true, true, true, false, false, false, false, false, false, false, false, false, false, false, false] rfl rfl (by kernel_rfl) (fun _ _ _ h => h) (Or.inr ⟨by rfl, rfl⟩) ?_ ?_
  rotate_left
  · simp only [Act.put, List.setIfInBounds_toArray, List.set_cons_zero, List.set_cons_succ, i64_w, i32_w]
    rfl
  refine pure_ (i := 7) (N := some 12) (v := undef) (a' := ?_) #[true, true, true, true, true, true, true, true, false, false, false, false, false, false, false, false, false, false, false] rfl rfl (by kernel_rfl) (fun _ _ _ h => h) (Or.inr ⟨by rfl, rfl⟩) ?_ ?_
  rotate_left
  · simp only [Act.put, List.setIfInBounds_toArray, List.set_cons_zero, List.set_cons_succ, i64_w, i32_w]
    rfl
  refine pure_ (i := 8) (N := some 13) (v := undef) (a' := ?_) #[true, true, true, true, true, true, true, true, true, false, false, false, false, false, false, false, false, false, false] rfl rfl (by kernel_rfl) (fun _ _ _ h => h) (Or.inr ⟨by rfl, rfl⟩) ?_ ?_
  rotate_left
  · simp only [Act.put, List.setIfInBounds_toArray, List.set_cons_zero, List.set_cons_succ, i64_w, i32_w]
    rfl
  refine pure_ (i := 9) (N := some 14) (v := undef) (a' := ?_) #[true, true, true, true, true, true, true, true, true, true, false, false, false, false, false, false, false, false, false] rfl rfl (by kernel_rfl) (fun _ _ _ h => h) (Or.inr ⟨by rfl, rfl⟩) ?_ ?_
  rotate_left
  · simp only [Act.put, List.setIfInBounds_toArray, List.set_cons_zero, List.set_cons_succ, i64_w, i32_w]
    rfl
  refine pure_ (i := 10) (N := some 15) (v := undef) (a' := ?_) #[true, true, true, true, true, true, true, true, true, true, true, false, false, false, false, false, false, false, false] rfl rfl (by kernel_rfl) (fun _ _ _ h => h) (Or.inr ⟨by rfl, rfl⟩) ?_ ?_
  rotate_left
  · simp only [Act.put, List.setIfInBounds_toArray, List.set_cons_zero, List.set_cons_succ, i64_w, i32_w]
    rfl
  refine pure_ (i := 11) (N := some 16) (v := undef) (a' := ?_) #[true, true, true, true, true, true, true, true, true, true, true, true, false, false, false, false, false, false, false] rfl rfl (by kernel_rfl) (fun _ _ _ h => h) (Or.inr ⟨by rfl, rfl⟩) ?_ ?_
  rotate_left
  · simp only [Act.put, List.setIfInBounds_toArray, List.set_cons_zero, List.set_cons_succ, i64_w, i32_w]
    rfl
  refine pure_ (i := 12) (N := some 17) (v := undef) (a' := ?_) #[true, true, true, true, true, true, true, true, true, true, true, true, true, false, false, false, false, false, false] rfl rfl (by kernel_rfl) (fun _ _ _ h => h) (Or.inr ⟨by rfl, rfl⟩) ?_ ?_
  rotate_left
  · simp only [Act.put, List.setIfInBounds_toArray, List.set_cons_zero, List.set_cons_succ, i64_w, i32_w]
    rfl
  refine pure_ (i := 13) (N := some 18) (v := undef) (a' := ?_) #[true, true, true, true, true, true, true, true, true, true, true, true, true, true, false, false, false, false, false] rfl rfl (by kernel_rfl) (fun _ _ _ h => h) (Or.inr ⟨by rfl, rfl⟩) ?_ ?_
  rotate_left
  · simp only [Act.put, List.setIfInBounds_toArray, List.set_cons_zero, List.set_cons_succ, i64_w, i32_w]
    rfl
  refine pure_ (i := 14) (N := some 19) (v := undef) (a' := ?_) #[true, true, true, true, true, true, true, true, true, true, true, true, true, true, true, false, false, false, false] rfl rfl (by kernel_rfl) (fun _ _ _ h => h) (Or.inr ⟨by rfl, rfl⟩) ?_ ?_
  rotate_left
  · simp only [Act.put, List.setIfInBounds_toArray, List.set_cons_zero, List.set_cons_succ, i64_w, i32_w]
    rfl
  refine pure_ (i := 15) (N := some 20) (v := undef) (a' := ?_) #[true, true, true, true, true, true, true, true, true, true, true, true, true, true, true, true, false, false, false] rfl rfl (by kernel_rfl) (fun _ _ _ h => h) (Or.inr ⟨by rfl, rfl⟩) ?_ ?_
  rotate_left
  · simp only [Act.put, List.setIfInBounds_toArray, List.set_cons_zero, List.set_cons_succ, i64_w, i32_w]
    rfl
  refine pure_ (i := 16) (N := some 21) (v := undef) (a' := ?_) #[true, true, true, true, true, true, true, true, true, true, true, true, true, true, true, true, true, false, false] rfl rfl (by kernel_rfl) (fun _ _ _ h => h) (Or.inr ⟨by rfl, rfl⟩) ?_ ?_
  rotate_left
  · simp only [Act.put, List.setIfInBounds_toArray, List.set_cons_zero, List.set_cons_succ, i64_w, i32_w]
    rfl
  refine pure_ (i := 17) (N := some 22) (v := ?_) (a' := ?_) #[true, true, true, true, true, true, true, true, true, true, true, true, true, true, true, true, true, true, false] rfl rfl (by kernel_rfl) (fun _ _ _ h => h) (Or.inl ⟨by rfl, ?_⟩) ?_ ?_
  rotate_left
  · intro w'
    go_simp
    with_reducible rfl
  rotate_left
  · simp only [Act.put, List.setIfInBounds_toArray, List.set_cons_zero, List.set_cons_succ, i64_w, i32_w]
    rfl
  refine pure_ (i := 18) (N := some 4) (v := ?_) (a' := ?_) #[true, true, true, true, true, true, true, true, true, true, true, true, true, true, true, true, true, true, true] rfl rfl (by kernel_rfl) (fun _ _ _ h => h) (Or.inl ⟨by rfl, ?_⟩) ?_ ?_
  rotate_left
  · intro w'
    go_simp
    with_reducible rfl
  rotate_left
  · simp only [Act.put, List.setIfInBounds_toArray, List.set_cons_zero, List.set_cons_succ, i64_w, i32_w]
    rfl
  refine done_ (by kernel_rfl) ?_
  go_wp2
  go_ret
  exact ⟨rfl, pw_below_drewN BS.out _⟩
abbrev tPks : TypeId := 33
set_option maxHeartbeats 1600000 in
set_option maxRecDepth 100000 in
theorem all_no (h : Un w (.pointer p)) : Calls Try.prog 19 #[.pointer p] w fun e w' => ∃ b, e = .returned (.func (.func 37) #[] #[.pointer (some ⟨b, 0, none⟩)]) ∧ w'.heap[b]? = some (.cells #[.slice none 0 0] tPks (0, 0)) ∧ Below w.heap.size w w' := by
  have H := Lib.hid h
  clear h
  go_enter Try.func19, Try.ntmps19
  go_wp2_with fail
  have BS := Lib.hid (below_alloc (Below.refl w.heap.size w) (.cells #[.slice none 0 0] tPks))
  have PS := Lib.hid (blk_new w (.cells #[.slice none 0 0] tPks))
  refine (H.out.below BS.out).out.mono ?_
  rintro e w1 ⟨rfl, rfl⟩
  go_wp2
  go_ret
  exact ⟨_, rfl, PS.out, BS.out⟩
set_option maxHeartbeats 1600000 in
set_option maxRecDepth 100000 in
theorem iter_none {b : Nat} {x : Value} (h : w.heap[b]? = some (.cells #[.slice none 0 0] tPks (0, 0))) : Calls Try.prog 37 (#[x] ++ #[.pointer (some ⟨b, 0, none⟩)]) w fun e w' => (∃ v, e = .returned v) ∧ w = w' := by
  have cp := blkc h
  go_enter Try.func37, Try.ntmps37
  go_wp2_with fail
  refine wp_loop_rounds 1 ?_
  rw [rounds_succ]
  go_wp2_with fail
  go_end0
  exact ⟨⟨_, rfl⟩, rfl⟩
theorem none_stops {n b : Nat} (h : w.heap[b]? = some (.cells #[.slice none 0 0] tPks (0, 0))) : SeqStopsK Fence.wide n Try.prog 37 #[.pointer (some ⟨b, 0, none⟩)] (fun _ : Unit => #[.int .i64 0, zp]) (fun _ _ => True) (fun xs => xs = []) (fun _ => False) 0 w := by
  intro l J Jx W hW hJ hJx hY h0
  refine callsIn_wide.2 ((iter_none (blk_below h hW)).mono ?_)
  rintro e W1 ⟨he, rfl⟩
  exact ⟨he, .inl ⟨[], rfl, h0⟩⟩

end
section
abbrev tB : TypeId := 4
abbrev tSt : TypeId := 59
/-- A body's end that may have a mark of a range over a function to take in; no panic. -/
def postM (F : Fence) (n : Nat) (P : Program) (fn : Func) (R : Ending → World → Prop) : Exit → Act → World → Prop
  | .normal, a, w | .ret, a, w => LeavesInM F n P fn a.tmps R a.defers .returning w
  | _, _, _ => False
theorem postM_le {F : Fence} {n : Nat} {P : Program} {fn : Func} {R : Ending → World → Prop} : ∀ (e : Exit) (a : Act) (w : World), postM F n P fn R e a w → bodyPostM F n P fn R e a w
  | .normal, _, _, h => h
  | .ret, _, _, h => h
  | .panic _, _, _, h => h.elim
  | .outgrown, _, _, h => h.elim
  | .exit _, _, _, h => h.elim
  | .goto _, _, _, h => h.elim
theorem postM_ret2 {F : Fence} {n D1 D0 : Nat} {P : Program} {fn : Func} {R : Ending → World → Prop} {a : Act} {w : World} {v : Value} {args1 args0 : Array Value} (hk1 : w.heap[D1]? = some (.deferred (some []))) (hk0 : (w.putObj D1 (.deferred none)).heap[D0]? = some (.deferred (some []))) (hr : (results fn a.tmps).run P ((w.putObj D1 (.deferred none)).putObj D0 (.deferred none)) = .ok v ((w.putObj D1 (.deferred none)).putObj D0 (.deferred none))) (hd : a.defers = [{ target := .collected D1, args := args1 }, { target := .collected D0, args := args0 }]) (hR : R (.returned v) ((w.putObj D1 (.deferred none)).putObj D0 (.deferred none))) : postM F n P fn R .ret a w := by
  show LeavesInM F n P fn a.tmps R a.defers .returning w
  rw [hd]
  exact ⟨by simp, .inl ⟨D1, _, rfl, run_takeDeferred hk1, ⟨by simp, .inl ⟨D0, _, rfl, run_takeDeferred hk0, ⟨v, hr, hR⟩⟩⟩⟩⟩
theorem two_end {w W : World} {D0 D1 br : Nat} (v0 : Value) (hne : D0 ≠ D1) (h0 : W.heap[D0]? = some (.deferred (some []))) (h1 : W.heap[D1]? = some (.deferred (some []))) (hr : W.heap[br]? = some (.cells #[v0] tB (0, 0))) (hB : Below w.heap.size w W) (hbr : w.heap.size ≤ br) (hd0 : w.heap.size ≤ D0) (hd1 : w.heap.size ≤ D1) :
    (W.setCell ⟨br, 0, none⟩ (.bool true)).heap[D1]? = some (.deferred (some [])) ∧ ((W.setCell ⟨br, 0, none⟩ (.bool true)).putObj D1 (.deferred none)).heap[D0]? = some (.deferred (some [])) ∧ ((((W.setCell ⟨br, 0, none⟩ (.bool true)).putObj D1 (.deferred none)).putObj D0 (.deferred none)).heap[br]? = some (.cells #[.bool true] tB (0, 0))) ∧ Below w.heap.size w (((W.setCell ⟨br, 0, none⟩ (.bool true)).putObj D1 (.deferred none)).putObj D0 (.deferred none)) := by
  have n0 : D0 ≠ br := fun e => by rw [e, hr] at h0; cases h0
  have n1 : D1 ≠ br := fun e => by rw [e, hr] at h1; cases h1
  have k0 : (W.setCell ⟨br, 0, none⟩ (.bool true)).heap[D0]? = some (.deferred (some [])) := (Below.heap_setCell W ⟨br, 0, none⟩ _ D0 n0).trans h0
  have k1 : (W.setCell ⟨br, 0, none⟩ (.bool true)).heap[D1]? = some (.deferred (some [])) := (Below.heap_setCell W ⟨br, 0, none⟩ _ D1 n1).trans h1
  have kr : (W.setCell ⟨br, 0, none⟩ (.bool true)).heap[br]? = some (.cells #[.bool true] tB (0, 0)) := blk_set hr 0 (.bool true)
  have g1 := grownBy_putObj' (W.setCell ⟨br, 0, none⟩ (.bool true)) D1 (.deferred none)
  have m0 := (g1.block D0 (blk_lt k0) (fun e => hne (Option.some.inj e))).trans k0
  have mr := (g1.block br (blk_lt kr) (fun e => n1 (Option.some.inj e).symm)).trans kr
  have g0 := grownBy_putObj' ((W.setCell ⟨br, 0, none⟩ (.bool true)).putObj D1 (.deferred none)) D0 (.deferred none)
  have nr := (g0.block br (blk_lt mr) (fun e => n0 (Option.some.inj e).symm)).trans mr
  have b1 := below_set (j := 0) (v := .bool true) hB hbr
  have b2 := b1.trans ((Below.refl w.heap.size _).grown g1 b1.size (fun k e => by cases e; exact hd1))
  have b3 := b2.trans ((Below.refl w.heap.size _).grown g0 b2.size (fun k e => by cases e; exact hd0))
  exact ⟨k1, m0, nr, b3⟩
theorem block_own {β : Type} (B k : Nat) (o : β → Obj) (ho : ∀ s, (o s).isCells = true) : OwnFrom B (fun s W => W.heap[k]? = some (o s)) := fun s X Y row hs hg hr => by
  refine (hg.block k (blk_lt hs) (fun e => ?_)).trans hs
  obtain ⟨_, o', h1, h2⟩ := hr k e.symm
  rw [hs] at h1
  cases h1
  rw [ho s] at h2
  cases h2
theorem pure_own {β : Type} {B : Nat} (P : β → Prop) : OwnFrom B (fun s (_ : World) => P s) := fun _ _ _ _ h _ _ => h
theorem seq_nil (u : World) (f : Fn) (lb : Array Value) : (binOp .eql 47 (.func f #[] lb) .nilFunc).run Try.prog u = .ok (.bool false) u := by
  have h : ∀ d, (Op.equalIn (d + 1) 47 (.func f #[] lb) .nilFunc).run Try.prog u = .ok false u := fun d => by
    simp [Op.equalIn, run_underlying Try.underlying47]
  have h2 : (Op.equal 47 (.func f #[] lb) .nilFunc).run Try.prog u = .ok false u := h 9999
  simp only [binOp]
  simp [h2]
/-- What stays while the law goes on. -/
def NI (w : World) (k a b i kk : Int) (sl : Value) (dm : Option Nat) (W : World) : Prop :=
  W.heap[w.heap.size]? = some (.cells #[.int .i64 k, .int .i64 a, .int .i64 b, sl, .int .i64 i, .int .i64 kk] tSt (0, 0)) ∧ W.heap[w.heap.size + 1]? = some (.cells #[.bool false] tB (0, 0)) ∧ W.heap[w.heap.size + 2]? = some zeroC ∧
  W.heap[w.heap.size + 3]? = some (.cells #[.pointer none, .pointer (some ⟨w.heap.size + 2, 0, none⟩)] 24 (0, 0)) ∧ Below w.heap.size w W ∧ ∀ d, dm = some d → d < W.heap.size ∧ W.heap[d]? = some (.deferred (some []))
theorem NI.below {w W W' : World} {k a b i kk : Int} {sl : Value} {dm : Option Nat} (h : NI w k a b i kk sl dm W) (hb : Below W.heap.size W W') : NI w k a b i kk sl dm W' :=
  ⟨blk_below h.1 hb, blk_below h.2.1 hb, blk_below h.2.2.1 hb, blk_below h.2.2.2.1 hb, below_then h.2.2.2.2.1 h.2.2.2.2.1.size hb, fun d hd => ⟨Nat.lt_of_lt_of_le (h.2.2.2.2.2 d hd).1 hb.size, (hb.block d (h.2.2.2.2.2 d hd).1).trans (h.2.2.2.2.2 d hd).2⟩⟩
theorem ni_own {w : World} {k a b i kk : Int} {sl : Value} {dm : Option Nat} {B : Nat} (hB : w.heap.size ≤ B) (hd0 : ∀ d, dm = some d → d < B) : OwnFrom B (fun (_ : List Unit) W => NI w k a b i kk sl dm W) :=
  OwnFrom.and (block_own B _ (fun _ => _) (fun _ => rfl)) (OwnFrom.and (block_own B _ (fun _ => _) (fun _ => rfl)) (OwnFrom.and (block_own B _ (fun _ => _) (fun _ => rfl)) (OwnFrom.and (block_own B _ (fun _ => _) (fun _ => rfl)) (OwnFrom.and (ownFrom_below (Nat.le_refl _) hB) (fun s X Y row h hg hr => fun d hd => ⟨Nat.lt_of_lt_of_le (h d hd).1 hg.size, (hg.block d (h d hd).1 (fun e => by have h1 := (hr d e.symm).1; have h2 := hd0 d hd; omega)).trans (h d hd).2⟩)))))
theorem res_none {tm : Array Value} {W : World} {br : Nat} {v : Value} (h1 : tm[2]? = some (.pointer (some ⟨br, 0, none⟩))) (hU : W.heap[br]? = some (.cells #[v] tB (0, 0))) : (results Try.f7 tm).run Try.prog W = .ok v W := by
  have cu := blk1 hU
  simp [results, Try.results7, go_sem, h1, cu]
set_option maxHeartbeats 6400000 in
set_option maxRecDepth 100000 in
theorem none_any (w : World) (k a b i kk : Int) (sl : Value) : Calls Try.prog 7 #[.agg #[.int .i64 k, .int .i64 a, .int .i64 b, sl, .int .i64 i, .int .i64 kk]] w fun e w' => e = .returned (.bool true) ∧ Below w.heap.size w w' := by
  refine (callsIn_wide (n := 5)).1 ?_
  refine callsIn_of_wp_marks Try.func7 rfl trivial ?_ rfl
  refine wpIn_wide.2 ?_
  refine Code.wp_mono (fun e a w h => postM_le e a w h) ?_
  simp only [Try.ntmps7, List.size_toArray, List.length_cons, List.length_nil, Nat.reduceAdd, Nat.reduceSub, Array.replicate_succ, Array.replicate_zero, List.push_toArray, List.append_toArray, List.nil_append, List.cons_append]
  have ba := below_alloc (Below.refl w.heap.size w) (.cells #[.int .i64 k, .int .i64 a, .int .i64 b, sl, .int .i64 i, .int .i64 kk] tSt)
  have h1 := blk_new w (.cells #[.int .i64 k, .int .i64 a, .int .i64 b, sl, .int .i64 i, .int .i64 kk] tSt)
  have h2 := blk_new (w.alloc (.cells #[.int .i64 k, .int .i64 a, .int .i64 b, sl, .int .i64 i, .int .i64 kk] tSt)) (.cells #[.bool false] tB)
  have bb := below_alloc (Below.refl _ (w.alloc (.cells #[.int .i64 k, .int .i64 a, .int .i64 b, sl, .int .i64 i, .int .i64 kk] tSt))) (.cells #[.bool false] tB)
  have h3 := blk_new ((w.alloc (.cells #[.int .i64 k, .int .i64 a, .int .i64 b, sl, .int .i64 i, .int .i64 kk] tSt)).alloc (.cells #[.bool false] tB)) (.cells #[.int .i64 0, .int .i64 0, .slice none 0 0, .map none] 71)
  have bc := below_alloc (Below.refl _ ((w.alloc (.cells #[.int .i64 k, .int .i64 a, .int .i64 b, sl, .int .i64 i, .int .i64 kk] tSt)).alloc (.cells #[.bool false] tB))) (.cells #[.int .i64 0, .int .i64 0, .slice none 0 0, .map none] 71)
  have h4 := blk_new (((w.alloc (.cells #[.int .i64 k, .int .i64 a, .int .i64 b, sl, .int .i64 i, .int .i64 kk] tSt)).alloc (.cells #[.bool false] tB)).alloc (.cells #[.int .i64 0, .int .i64 0, .slice none 0 0, .map none] 71)) (.cells #[.pointer none, .pointer (some ⟨w.heap.size + 2, 0, none⟩)] 24)
  have bd := below_alloc (Below.refl _ (((w.alloc (.cells #[.int .i64 k, .int .i64 a, .int .i64 b, sl, .int .i64 i, .int .i64 kk] tSt)).alloc (.cells #[.bool false] tB)).alloc (.cells #[.int .i64 0, .int .i64 0, .slice none 0 0, .map none] 71))) (.cells #[.pointer none, .pointer (some ⟨w.heap.size + 2, 0, none⟩)] 24)
  rw [World.size_alloc] at h2 h3 h4
  rw [World.size_alloc] at h3 h4
  rw [World.size_alloc] at h4
  have I0 : Hid (NI w k a b i kk sl none _) := Lib.hid ⟨blk_below (blk_below (blk_below h1 bb) bc) bd, blk_below (blk_below h2 bc) bd, blk_below h3 bd, h4, below_then (below_then (below_then ba ba.size bb) (below_then ba ba.size bb).size bc) (below_then (below_then ba ba.size bb) (below_then ba ba.size bb).size bc).size bd, fun d hd => by cases hd⟩
  clear ba bb bc bd h1 h2 h3 h4
  go_wp2_with fail
  generalize (World.alloc (World.alloc _ _) _) = W at *
  refine wp_loop_rounds 3 ?_
  rw [rounds_succ]

  have cl := blkc I0.out.2.2.2.1
  have cs := blkc I0.out.1
  go_wp2_with fail
  refine (get_no (un_nil _) _).mono ?_
  rintro e w1 ⟨rfl, hb⟩
  have ba := below_alloc (Below.refl w1.heap.size w1) (.cells #[.int .i64 0, .int .i64 0, .slice none 0 0] tPk)
  replace I0 := Lib.hid ((I0.out.below hb).below ba)
  have P1 := Lib.hid (blk_new w1 (.cells #[.int .i64 0, .int .i64 0, .slice none 0 0] tPk))
  clear cs cl hb ba
  go_upto_region 7 with (fail)
  generalize (World.alloc w1 _) = W1 at *
  generalize w1.heap.size = bp at *
  have cs := blkc I0.out.1
  go_wp2_with fail
  refine (take_no (un_nil _) _).mono ?_
  rintro e w2 ⟨rfl, hb⟩
  have ba := below_alloc (Below.refl w2.heap.size w2) (.cells #[.int .i64 0, .int .i64 0, .slice none 0 0] tPk)
  replace I0 := Lib.hid ((I0.out.below hb).below ba)
  have P2 := Lib.hid (blk_new w2 (.cells #[.int .i64 0, .int .i64 0, .slice none 0 0] tPk))
  replace P1 := Lib.hid (blk_below (blk_below P1.out hb) ba)
  clear cs hb ba
  go_upto_region 8 with (fail)
  generalize (World.alloc w2 _) = W2 at *
  generalize w2.heap.size = bq at *
  have cs := blkc I0.out.1
  go_wp2_with fail
  refine (flips_no (un_nil _) _).mono ?_
  rintro e w3 ⟨rfl, hb⟩
  replace I0 := Lib.hid (I0.out.below hb)
  replace P1 := Lib.hid (blk_below P1.out hb)
  replace P2 := Lib.hid (blk_below P2.out hb)
  clear cs hb
  have cp := blkc P1.out
  have cq := blkc P2.out
  have cs := blkc I0.out.1
  go_wp2_with fail
  clear cp cq P1 P2
  refine (send_no (un_nil _) _ _ _).mono ?_
  rintro e w4 ⟨rfl, hb⟩
  replace I0 := Lib.hid (I0.out.below hb)
  clear cs hb
  have cs := blkc I0.out.1
  go_wp2_with fail
  refine (drop_no (un_nil _) _).mono ?_
  rintro e w5 ⟨rfl, hb⟩
  replace I0 := Lib.hid (I0.out.below hb)
  clear cs hb
  have cs := blkc I0.out.1
  go_wp2_with fail
  refine (copy_no (un_nil _) _).mono ?_
  rintro e w6 ⟨rfl, hb⟩
  replace I0 := Lib.hid (I0.out.below hb)
  clear cs hb
  have cs := blkc I0.out.1
  go_wp2_with fail
  refine (swap_no (un_nil _) _ _).mono ?_
  rintro e w7 ⟨rfl, hb⟩
  replace I0 := Lib.hid (I0.out.below hb)
  clear cs hb
  have cs := blkc I0.out.1
  go_wp2_with fail
  refine (flip_no (un_nil _) _ _).mono ?_
  rintro e w8 ⟨rfl, hb⟩
  replace I0 := Lib.hid (I0.out.below hb)
  clear cs hb
  go_wp2_with fail
  refine (len_no (un_nil _)).mono ?_
  rintro e w9 ⟨rfl, rfl⟩
  have cs := blkc I0.out.1
  go_wp2_with fail
  refine (cut_no (un_nil _) _).mono ?_
  rintro e w10 ⟨rfl, hb⟩
  replace I0 := Lib.hid (I0.out.below hb)
  clear cs hb
  have cs := blkc I0.out.1
  go_wp2_with fail
  refine (sent_no (un_nil _) _ _ _).mono ?_
  rintro e w11 ⟨rfl, hb⟩
  replace I0 := Lib.hid (I0.out.below hb)
  clear cs hb
  go_wp2_with fail
  refine (all_no (un_nil _)).mono ?_
  rintro e w12 ⟨b12, rfl, hbk, hb⟩
  replace I0 := Lib.hid (I0.out.below hb)
  have PL := Lib.hid hbk
  clear hb hbk
  have hsn := fun u => seq_nil u (.func 37) #[.pointer (some ⟨b12, 0, none⟩)]
  go_wp2_with fail
  clear hsn
  refine (wpIn_wide (n := 5)).1 ?_
  refine wpIn_rangeFunc_ownH rfl (by omega) (gf := 37) (lb := #[.pointer (some ⟨b12, 0, none⟩)]) rfl trivial (enters_of Try.func37 (by kernel_rfl) rfl)
    (none_stops PL.out) (fun _ _ => trivial) (fun _ _ _ _ _ _ _ _ => trivial) (Below.refl _ _) (fun _ => rfl)
    (fun _ W => NI w k a b i kk sl none W) (fun _ _ _ => False)
    (ni_own I0.out.2.2.2.2.1.size (fun d hd => (I0.out.2.2.2.2.2 d hd).1)) (fun c => fun s X Y row hs _ _ => hs.elim) I0.out
    (fun _ _ _ => True) (fun _ _ => fun _ _ _ _ _ _ _ => trivial) ?assign0 ?body0 ?done0 ?stop0
  case assign0 =>
    intro lp pre x W K hI hK
    have HK := Lib.hid hK
    have HI := Lib.hid hI
    clear hK hI
    gi_wp2
    exact HK.out _ _ ((KeepsOthers.refl _).from _) trivial HI.out trivial
  case body0 =>
    rintro lp pre x a' W hlp ⟨r, hr⟩ hI hA hlt
    exact absurd hlt (Nat.not_lt_zero _)
  case stop0 =>
    rintro D c pre W hD hp
    exact hp.elim
  case done0 =>
    rintro D0 xs W hD rfl hI hKD
    have HD0 := Lib.hid (Nat.le_trans I0.out.2.2.2.2.1.size hD)
    clear I0 PL hD
    have I0 : Hid (NI w k a b i kk sl (some D0) W) := Lib.hid ⟨hI.1, hI.2.1, hI.2.2.1, hI.2.2.2.1, hI.2.2.2.2.1, fun d hd => by cases hd; exact ⟨blk_lt hKD, hKD⟩⟩
    clear hI hKD
    go_wp2_with fail
    rw [rounds_succ]
    have cl := blkc I0.out.2.2.2.1
    have cs := blkc I0.out.1
    go_wp2_with fail
    refine (get_no (un_zero I0.out.2.2.1) _).mono ?_
    rintro e w1 ⟨rfl, hb⟩
    have ba := below_alloc (Below.refl w1.heap.size w1) (.cells #[.int .i64 0, .int .i64 0, .slice none 0 0] tPk)
    replace I0 := Lib.hid ((I0.out.below hb).below ba)
    have P1 := Lib.hid (blk_new w1 (.cells #[.int .i64 0, .int .i64 0, .slice none 0 0] tPk))
    clear cs cl hb ba
    go_upto_region 7 with (fail)
    generalize (World.alloc w1 _) = W1 at *
    generalize w1.heap.size = bp at *
    have cs := blkc I0.out.1
    go_wp2_with fail
    refine (take_no (un_zero I0.out.2.2.1) _).mono ?_
    rintro e w2 ⟨rfl, hb⟩
    have ba := below_alloc (Below.refl w2.heap.size w2) (.cells #[.int .i64 0, .int .i64 0, .slice none 0 0] tPk)
    replace I0 := Lib.hid ((I0.out.below hb).below ba)
    have P2 := Lib.hid (blk_new w2 (.cells #[.int .i64 0, .int .i64 0, .slice none 0 0] tPk))
    replace P1 := Lib.hid (blk_below (blk_below P1.out hb) ba)
    clear cs hb ba
    go_upto_region 8 with (fail)
    generalize (World.alloc w2 _) = W2 at *
    generalize w2.heap.size = bq at *
    have cs := blkc I0.out.1
    go_wp2_with fail
    refine (flips_no (un_zero I0.out.2.2.1) _).mono ?_
    rintro e w3 ⟨rfl, hb⟩
    replace I0 := Lib.hid (I0.out.below hb)
    replace P1 := Lib.hid (blk_below P1.out hb)
    replace P2 := Lib.hid (blk_below P2.out hb)
    clear cs hb
    have cp := blkc P1.out
    have cq := blkc P2.out
    have cs := blkc I0.out.1
    go_wp2_with fail
    clear cp cq P1 P2
    refine (send_no (un_zero I0.out.2.2.1) _ _ _).mono ?_
    rintro e w4 ⟨rfl, hb⟩
    replace I0 := Lib.hid (I0.out.below hb)
    clear cs hb
    have cs := blkc I0.out.1
    go_wp2_with fail
    refine (drop_no (un_zero I0.out.2.2.1) _).mono ?_
    rintro e w5 ⟨rfl, hb⟩
    replace I0 := Lib.hid (I0.out.below hb)
    clear cs hb
    have cs := blkc I0.out.1
    go_wp2_with fail
    refine (copy_no (un_zero I0.out.2.2.1) _).mono ?_
    rintro e w6 ⟨rfl, hb⟩
    replace I0 := Lib.hid (I0.out.below hb)
    clear cs hb
    have cs := blkc I0.out.1
    go_wp2_with fail
    refine (swap_no (un_zero I0.out.2.2.1) _ _).mono ?_
    rintro e w7 ⟨rfl, hb⟩
    replace I0 := Lib.hid (I0.out.below hb)
    clear cs hb
    have cs := blkc I0.out.1
    go_wp2_with fail
    refine (flip_no (un_zero I0.out.2.2.1) _ _).mono ?_
    rintro e w8 ⟨rfl, hb⟩
    replace I0 := Lib.hid (I0.out.below hb)
    clear cs hb
    go_wp2_with fail
    refine (len_no (un_zero I0.out.2.2.1)).mono ?_
    rintro e w9 ⟨rfl, rfl⟩
    have cs := blkc I0.out.1
    go_wp2_with fail
    refine (cut_no (un_zero I0.out.2.2.1) _).mono ?_
    rintro e w10 ⟨rfl, hb⟩
    replace I0 := Lib.hid (I0.out.below hb)
    clear cs hb
    have cs := blkc I0.out.1
    go_wp2_with fail
    refine (sent_no (un_zero I0.out.2.2.1) _ _ _).mono ?_
    rintro e w11 ⟨rfl, hb⟩
    replace I0 := Lib.hid (I0.out.below hb)
    clear cs hb
    go_wp2_with fail
    refine (all_no (un_zero I0.out.2.2.1)).mono ?_
    rintro e w12 ⟨b12, rfl, hbk, hb⟩
    replace I0 := Lib.hid (I0.out.below hb)
    have PL := Lib.hid hbk
    clear hb hbk
    have hsn := fun u => seq_nil u (.func 37) #[.pointer (some ⟨b12, 0, none⟩)]
    go_wp2_with fail
    clear hsn
    refine (wpIn_wide (n := 5)).1 ?_
    refine wpIn_rangeFunc_ownH rfl (by omega) (gf := 37) (lb := #[.pointer (some ⟨b12, 0, none⟩)]) rfl trivial (enters_of Try.func37 (by kernel_rfl) rfl)
      (none_stops PL.out) (fun _ _ => trivial) (fun _ _ _ _ _ _ _ _ => trivial) (Below.refl _ _) (fun _ => rfl)
      (fun _ W => NI w k a b i kk sl (some D0) W) (fun _ _ _ => False)
      (ni_own I0.out.2.2.2.2.1.size (fun d hd => (I0.out.2.2.2.2.2 d hd).1)) (fun c => fun s X Y row hs _ _ => hs.elim) I0.out
      (fun _ _ _ => True) (fun _ _ => fun _ _ _ _ _ _ _ => trivial) ?assign1 ?body1 ?done1 ?stop1
    case assign1 =>
      intro lp pre x W K hI hK
      have HK := Lib.hid hK
      have HI := Lib.hid hI
      clear hK hI
      gi_wp2
      exact HK.out _ _ ((KeepsOthers.refl _).from _) trivial HI.out trivial
    case body1 =>
      rintro lp pre x a' W hlp ⟨r, hr⟩ hI hA hlt
      exact absurd hlt (Nat.not_lt_zero _)
    case stop1 =>
      rintro D c pre W hD hp
      exact hp.elim
    case done1 =>
      rintro D1 xs W hD rfl hI hKD
      have HD1 := Lib.hid (Nat.le_trans I0.out.2.2.2.2.1.size hD)
      have HDD := Lib.hid (show D0 < D1 from Nat.lt_of_lt_of_le (I0.out.2.2.2.2.2 D0 rfl).1 hD)
      clear I0 PL hD
      have I0 := Lib.hid hI
      have K1 := Lib.hid hKD
      clear hI hKD
      go_wp2_with fail
      rw [rounds_succ]
      go_wp2_with fail
      refine (new_any W (nodes := 1) (clients := 1) (by omega) (by omega)).mono ?_
      rintro e w1 ⟨g, m, rfl, hg, hm, h1, h2, h3, hb⟩
      have G := Lib.hid hg
      have I1 := Lib.hid (I0.out.below hb)
      have K2 := Lib.hid ((hb.block D1 (blk_lt K1.out)).trans K1.out)
      clear hg hm h1 h2 h3 hb I0 K1
      go_wp2_with fail
      refine (len_any G.out).mono ?_
      rintro e w2 ⟨rfl, rfl⟩
      have FIN := Lib.hid (two_end (.bool false) (show D0 ≠ D1 by have := HDD.out; omega) (I1.out.2.2.2.2.2 D0 rfl).2 K2.out I1.out.2.1 I1.out.2.2.2.2.1 (show w.heap.size ≤ w.heap.size + 1 by omega) HD0.out HD1.out)
      have cbr := blk1 I1.out.2.1
      have zbr := blkz I1.out.2.1
      go_wp2_with fail
      (try simp only [Exit.inBlock, Exit.then])
      obtain ⟨f1, f2, f3, f4⟩ := FIN.out
      exact postM_ret2 f1 f2 (res_none rfl f3) rfl ⟨rfl, f4⟩
end
end Go.Proofs.Ytpjbgcpieijeaaa.Net
namespace Go.Proofs.Ytpjbgcpieijeaaa.Walk
open Go.RowKit Go.Proofs.Ytpjbgcpieijeaaa.Opn
theorem NetNone (x : StT) (cs : List Value) (W : World) (hc : kSt.K W x cs) (hp : pSt x) : Calls Try.prog 7 #[.agg cs.toArray] W fun e W' => e = .returned (.bool true) ∧ Below W.heap.size W W' := by
  obtain ⟨A, c, rfl, _, _⟩ := kSt_cells hc
  exact Net.none_any W _ _ _ _ _ _
end Go.Proofs.Ytpjbgcpieijeaaa.Walk
