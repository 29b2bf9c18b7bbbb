/- A tree gone over: each and its closures. -/
import Derived.Test.YtjpalkggmefpfaaTabSeg
import Derived.Shelf.Abstract
import Derived.Shelf.RegionOpen
import Derived.OwnWalkIn
import Derived.TacticsInMore
import Derived.Stop.RegionWithIn
set_option linter.unusedVariables false
set_option linter.unusedSimpArgs false
namespace Go.Proofs.Ytjpalkggmefpfaa.Tab
open Go.RowKit Go.Proofs.Ytjpalkggmefpfaa.Mem Go.Proofs.YtjpalkggmefpfaaW.PrintWords Go.Proofs.YtjpalkggmefpfaaW.PrintLast Go.Deep
theorem room_wide_all (k : Nat) : Fence.wide.room k := fun d h => by cases h
theorem RoundIn.anyDepth {m m' : Nat} {P : Program} {l : Nat} {f : FuncId} {tmps : Array Value} {assign body : Code} {w : World} {R : Ending → World → Prop}
    (h : RoundIn Fence.wide m P l f tmps assign body w R) : RoundIn Fence.wide m' P l f tmps assign body w R := ⟨h.1, fun c cs _ => h.2 c cs (room_wide_all _)⟩
theorem YieldAt.anyDepth {m : Nat} (m' : Nat) {P : Program} {l : Nat} {args : Array Value} {W : World} {R : Ending → World → Prop} (h : YieldAt Fence.wide m P l args W R) : YieldAt Fence.wide m' P l args W R := by
  obtain ⟨fn, tmps, assign, body, hy, hR⟩ := h
  exact ⟨fn, tmps, assign, body, hy, RoundIn.anyDepth hR⟩
/-- What a round of the loop l does with a row. -/
def Rounds (l b0 N : Nat) (J Jx : List Row → World → Prop) : Prop := ∀ (m : Nat) (pre : List Row) (x : Row) (W : World), J pre W → pre.length < N → YieldAt Fence.wide m Try.prog l #[x.val] W fun e W' =>
  (e = .returned (.bool true) ∧ J (pre ++ [x]) W' ∧ KeepI b0 W W') ∨ (e = .returned (.bool false) ∧ Jx (pre ++ [x]) W')
def Abide (J : List Row → World → Prop) : Prop := ∀ s A B, J s A → Below A.heap.size A B → J s B
abbrev bx (v : Value) (t : TypeId) : Obj := .cells #[v] t (0, 0)

set_option maxRecDepth 100000 in
theorem here_low {l b0 N : Nat} {J Jx : List Row → World → Prop} (hY : Rounds l b0 N J Jx) (hA : Abide J) {W : World} {t : T} {pl pr : Option Addr} {bm bf bt by_ bn gn : Nat} {mid from_ to_ : Int}
    (hm : W.heap[bm]? = some (bx (.int .i64 mid) tI)) (hf : W.heap[bf]? = some (bx (.int .i64 from_) tI)) (ht : W.heap[bt]? = some (bx (.int .i64 to_) tI)) (hy : W.heap[by_]? = some (bx (.func (.yield l) #[] #[]) tY)) (hn : W.heap[bn]? = some (bx (.pointer (some ⟨gn, 0, none⟩)) tPN)) (hg : W.heap[gn]? = some (nodeC t pl pr))
    (pre : List Row) (hJ : J pre W) (h : mid < from_) :
    Calls Try.prog 75 #[.pointer (some ⟨bm, 0, none⟩), .pointer (some ⟨bf, 0, none⟩), .pointer (some ⟨bt, 0, none⟩), .pointer (some ⟨by_, 0, none⟩), .pointer (some ⟨bn, 0, none⟩)] W fun e W' => e = .returned (.bool true) ∧ J pre W' ∧ KeepI b0 W W' := by
  have d1 : decide (mid < from_) = true := by simpa using h
  go_enter Try.func75, Try.ntmps75
  go_wp2_with fail
  have hm1 := blk1 (blk_drew hm)
  have hf1 := blk1 (blk_drew hf)
  have ht1 := blk1 (blk_drew ht)
  clear hm hf ht hy hn hg
  refine start_ (n := 17) (S := fun w' => (w'.cell? ⟨bm, 0, none⟩ = some (.int .i64 mid)) ∧ (w'.cell? ⟨bf, 0, none⟩ = some (.int .i64 from_)) ∧ (w'.cell? ⟨bt, 0, none⟩ = some (.int .i64 to_))) (ds := []) #[false, false, false, false, false, false, false, false, false, false, false, false, false, false, false, false, false] (by kernel_rfl) rfl rfl ⟨hm1, hf1, ht1⟩ (fun hHeld => ?_)
  refine take_ (i := 0) (N := some 6) (v := ?_) (a' := ?_) #[true, false, false, false, false, false, false, false, false, false, false, false, false, false, false, false, false] rfl rfl (by kernel_rfl) (fun _ _ _ h => h) (Or.inl ⟨by rfl, ?_⟩) hHeld ?_ ?_
  rotate_left
  · rintro w' ⟨s0, s1, s2⟩
    go_simp
    with_reducible rfl
  rotate_left
  · simp only [Act.put, List.setIfInBounds_toArray, List.set_cons_zero, List.set_cons_succ, i64_w, i32_w]
    rfl
  refine take_ (i := 1) (N := some 7) (v := ?_) (a' := ?_) #[true, true, false, false, false, false, false, false, false, false, false, false, false, false, false, false, false] rfl rfl (by kernel_rfl) (fun _ _ _ h => h) (Or.inl ⟨by rfl, ?_⟩) hHeld ?_ ?_
  rotate_left
  · rintro w' ⟨s0, s1, s2⟩
    go_simp
    with_reducible rfl
  rotate_left
  · simp only [Act.put, List.setIfInBounds_toArray, List.set_cons_zero, List.set_cons_succ, i64_w, i32_w]
    rfl
  refine pure_ (i := 2) (N := some 8) (v := ?_) (a' := ?_) #[true, true, true, false, false, false, false, false, false, false, false, false, false, false, false, false, false] rfl rfl (by kernel_rfl) (fun _ _ _ h => h) (Or.inl ⟨by rfl, ?_⟩) ?_ ?_
  rotate_left
  · intro w'
    go_simp
    with_reducible rfl
  rotate_left
  · simp only [Act.put, List.setIfInBounds_toArray, List.set_cons_zero, List.set_cons_succ, i64_w, i32_w]
    rfl
  refine pure_ (i := 3) (N := some 9) (v := ?_) (a' := ?_) #[true, true, true, true, false, false, false, false, false, false, false, false, false, false, false, false, false] rfl rfl (by kernel_rfl) (fun _ _ _ h => h) (Or.inl ⟨by rfl, ?_⟩) ?_ ?_
  rotate_left
  · intro w'
    go_simp
    with_reducible rfl
  rotate_left
  · simp only [Act.put, List.setIfInBounds_toArray, List.set_cons_zero, List.set_cons_succ, i64_w, i32_w]
    rfl
  refine pure_ (i := 4) (N := some 10) (v := undef) (a' := ?_) #[true, true, true, true, true, false, false, false, false, false, false, false, false, false, false, false, false] rfl rfl (by kernel_rfl) (fun _ _ _ h => h) (Or.inr ⟨by rfl, rfl⟩) ?_ ?_
  rotate_left
  · simp only [Act.put, List.setIfInBounds_toArray, List.set_cons_zero, List.set_cons_succ, i64_w, i32_w]
    rfl
  refine pure_ (i := 5) (N := some 11) (v := undef) (a' := ?_) #[true, true, true, true, true, true, false, false, false, false, false, false, false, false, false, false, false] rfl rfl (by kernel_rfl) (fun _ _ _ h => h) (Or.inr ⟨by rfl, rfl⟩) ?_ ?_
  rotate_left
  · simp only [Act.put, List.setIfInBounds_toArray, List.set_cons_zero, List.set_cons_succ, i64_w, i32_w]
    rfl
  refine pure_ (i := 6) (N := some 12) (v := undef) (a' := ?_) #[true, true, true, true, true, true, true, false, false, false, false, false, false, false, false, false, false] rfl rfl (by kernel_rfl) (fun _ _ _ h => h) (Or.inr ⟨by rfl, rfl⟩) ?_ ?_
  rotate_left
  · simp only [Act.put, List.setIfInBounds_toArray, List.set_cons_zero, List.set_cons_succ, i64_w, i32_w]
    rfl
  refine pure_ (i := 7) (N := some 13) (v := ?_) (a' := ?_) #[true, true, true, true, true, true, true, true, false, false, false, false, false, false, false, false, false] rfl rfl (by kernel_rfl) (fun _ _ _ h => h) (Or.inl ⟨by rfl, ?_⟩) ?_ ?_
  rotate_left
  · intro w'
    go_simp
    with_reducible rfl
  rotate_left
  · simp only [Act.put, List.setIfInBounds_toArray, List.set_cons_zero, List.set_cons_succ, i64_w, i32_w]
    rfl
  refine pure_ (i := 8) (N := some 14) (v := ?_) (a' := ?_) #[true, true, true, true, true, true, true, true, true, false, false, false, false, false, false, false, false] rfl rfl (by kernel_rfl) (fun _ _ _ h => h) (Or.inl ⟨by rfl, ?_⟩) ?_ ?_
  rotate_left
  · intro w'
    go_simp
    with_reducible rfl
  rotate_left
  · simp only [Act.put, List.setIfInBounds_toArray, List.set_cons_zero, List.set_cons_succ, i64_w, i32_w]
    rfl
  refine pure_ (i := 9) (N := some 15) (v := undef) (a' := ?_) #[true, true, true, true, true, true, true, true, true, true, false, false, false, false, false, false, false] rfl rfl (by kernel_rfl) (fun _ _ _ h => h) (Or.inr ⟨by rfl, rfl⟩) ?_ ?_
  rotate_left
  · simp only [Act.put, List.setIfInBounds_toArray, List.set_cons_zero, List.set_cons_succ, i64_w, i32_w]
    rfl
  refine pure_ (i := 10) (N := some 16) (v := undef) (a' := ?_) #[true, true, true, true, true, true, true, true, true, true, true, false, false, false, false, false, false] rfl rfl (by kernel_rfl) (fun _ _ _ h => h) (Or.inr ⟨by rfl, rfl⟩) ?_ ?_
  rotate_left
  · simp only [Act.put, List.setIfInBounds_toArray, List.set_cons_zero, List.set_cons_succ, i64_w, i32_w]
    rfl
  refine pure_ (i := 11) (N := some 17) (v := undef) (a' := ?_) #[true, true, true, true, true, true, true, true, true, true, true, true, false, false, false, false, false] rfl rfl (by kernel_rfl) (fun _ _ _ h => h) (Or.inr ⟨by rfl, rfl⟩) ?_ ?_
  rotate_left
  · simp only [Act.put, List.setIfInBounds_toArray, List.set_cons_zero, List.set_cons_succ, i64_w, i32_w]
    rfl
  refine pure_ (i := 12) (N := some 18) (v := undef) (a' := ?_) #[true, true, true, true, true, true, true, true, true, true, true, true, true, false, false, false, false] rfl rfl (by kernel_rfl) (fun _ _ _ h => h) (Or.inr ⟨by rfl, rfl⟩) ?_ ?_
  rotate_left
  · simp only [Act.put, List.setIfInBounds_toArray, List.set_cons_zero, List.set_cons_succ, i64_w, i32_w]
    rfl
  refine pure_ (i := 13) (N := some 19) (v := undef) (a' := ?_) #[true, true, true, true, true, true, true, true, true, true, true, true, true, true, false, false, false] rfl rfl (by kernel_rfl) (fun _ _ _ h => h) (Or.inr ⟨by rfl, rfl⟩) ?_ ?_
  rotate_left
  · simp only [Act.put, List.setIfInBounds_toArray, List.set_cons_zero, List.set_cons_succ, i64_w, i32_w]
    rfl
  refine pure_ (i := 14) (N := some 20) (v := undef) (a' := ?_) #[true, true, true, true, true, true, true, true, true, true, true, true, true, true, true, false, false] rfl rfl (by kernel_rfl) (fun _ _ _ h => h) (Or.inr ⟨by rfl, rfl⟩) ?_ ?_
  rotate_left
  · simp only [Act.put, List.setIfInBounds_toArray, List.set_cons_zero, List.set_cons_succ, i64_w, i32_w]
    rfl
  refine pure_ (i := 15) (N := some 21) (v := ?_) (a' := ?_) #[true, true, true, true, true, true, true, true, true, true, true, true, true, true, true, true, false] rfl rfl (by kernel_rfl) (fun _ _ _ h => h) (Or.inl ⟨by rfl, ?_⟩) ?_ ?_
  rotate_left
  · intro w'
    go_simp
    with_reducible rfl
  rotate_left
  · simp only [Act.put, List.setIfInBounds_toArray, List.set_cons_zero, List.set_cons_succ, i64_w, i32_w]
    rfl
  refine pure_ (i := 16) (N := some 5) (v := ?_) (a' := ?_) #[true, true, true, true, true, true, true, true, true, true, true, true, true, true, true, true, true] rfl rfl (by kernel_rfl) (fun _ _ _ h => h) (Or.inl ⟨by rfl, ?_⟩) ?_ ?_
  rotate_left
  · intro w'
    go_simp
    with_reducible rfl
  rotate_left
  · simp only [Act.put, List.setIfInBounds_toArray, List.set_cons_zero, List.set_cons_succ, i64_w, i32_w]
    rfl
  refine done_ (by kernel_rfl) ?_
  go_wp2
  go_ret
  have HB := below_drew (Below.refl W.heap.size W)
  exact ⟨rfl, hA _ _ _ hJ HB, KeepI.of_below HB⟩
set_option maxRecDepth 100000 in
theorem here_high {l b0 N : Nat} {J Jx : List Row → World → Prop} (hY : Rounds l b0 N J Jx) (hA : Abide J) {W : World} {t : T} {pl pr : Option Addr} {bm bf bt by_ bn gn : Nat} {mid from_ to_ : Int}
    (hm : W.heap[bm]? = some (bx (.int .i64 mid) tI)) (hf : W.heap[bf]? = some (bx (.int .i64 from_) tI)) (ht : W.heap[bt]? = some (bx (.int .i64 to_) tI)) (hy : W.heap[by_]? = some (bx (.func (.yield l) #[] #[]) tY)) (hn : W.heap[bn]? = some (bx (.pointer (some ⟨gn, 0, none⟩)) tPN)) (hg : W.heap[gn]? = some (nodeC t pl pr))
    (pre : List Row) (hJ : J pre W) (h : ¬ mid < from_) (h2 : to_ ≤ mid) :
    Calls Try.prog 75 #[.pointer (some ⟨bm, 0, none⟩), .pointer (some ⟨bf, 0, none⟩), .pointer (some ⟨bt, 0, none⟩), .pointer (some ⟨by_, 0, none⟩), .pointer (some ⟨bn, 0, none⟩)] W fun e W' => e = .returned (.bool true) ∧ J pre W' ∧ KeepI b0 W W' := by
  have d1 : decide (mid < from_) = false := by simpa using h
  have d2 : decide (to_ ≤ mid) = true := by simpa using h2
  go_enter Try.func75, Try.ntmps75
  go_wp2_with fail
  have hm1 := blk1 (blk_drew hm)
  have hf1 := blk1 (blk_drew hf)
  have ht1 := blk1 (blk_drew ht)
  clear hm hf ht hy hn hg
  refine start_ (n := 17) (S := fun w' => (w'.cell? ⟨bm, 0, none⟩ = some (.int .i64 mid)) ∧ (w'.cell? ⟨bf, 0, none⟩ = some (.int .i64 from_)) ∧ (w'.cell? ⟨bt, 0, none⟩ = some (.int .i64 to_))) (ds := []) #[false, false, false, false, false, false, false, false, false, false, false, false, false, false, false, false, false] (by kernel_rfl) rfl rfl ⟨hm1, hf1, ht1⟩ (fun hHeld => ?_)
  refine take_ (i := 0) (N := some 6) (v := ?_) (a' := ?_) #[true, false, false, false, false, false, false, false, false, false, false, false, false, false, false, false, false] rfl rfl (by kernel_rfl) (fun _ _ _ h => h) (Or.inl ⟨by rfl, ?_⟩) hHeld ?_ ?_
  rotate_left
  · rintro w' ⟨s0, s1, s2⟩
    go_simp
    with_reducible rfl
  rotate_left
  · simp only [Act.put, List.setIfInBounds_toArray, List.set_cons_zero, List.set_cons_succ, i64_w, i32_w]
    rfl
  refine take_ (i := 1) (N := some 7) (v := ?_) (a' := ?_) #[true, true, false, false, false, false, false, false, false, false, false, false, false, false, false, false, false] rfl rfl (by kernel_rfl) (fun _ _ _ h => h) (Or.inl ⟨by rfl, ?_⟩) hHeld ?_ ?_
  rotate_left
  · rintro w' ⟨s0, s1, s2⟩
    go_simp
    with_reducible rfl
  rotate_left
  · simp only [Act.put, List.setIfInBounds_toArray, List.set_cons_zero, List.set_cons_succ, i64_w, i32_w]
    rfl
  refine pure_ (i := 2) (N := some 8) (v := ?_) (a' := ?_) #[true, true, true, false, false, false, false, false, false, false, false, false, false, false, false, false, false] rfl rfl (by kernel_rfl) (fun _ _ _ h => h) (Or.inl ⟨by rfl, ?_⟩) ?_ ?_
  rotate_left
  · intro w'
    go_simp
    with_reducible rfl
  rotate_left
  · simp only [Act.put, List.setIfInBounds_toArray, List.set_cons_zero, List.set_cons_succ, i64_w, i32_w]
    rfl
  refine pure_ (i := 3) (N := some 9) (v := ?_) (a' := ?_) #[true, true, true, true, false, false, false, false, false, false, false, false, false, false, false, false, false] rfl rfl (by kernel_rfl) (fun _ _ _ h => h) (Or.inl ⟨by rfl, ?_⟩) ?_ ?_
  rotate_left
  · intro w'
    go_simp
    with_reducible rfl
  rotate_left
  · simp only [Act.put, List.setIfInBounds_toArray, List.set_cons_zero, List.set_cons_succ, i64_w, i32_w]
    rfl
  refine take_ (i := 4) (N := some 10) (v := ?_) (a' := ?_) #[true, true, true, true, true, false, false, false, false, false, false, false, false, false, false, false, false] rfl rfl (by kernel_rfl) (fun _ _ _ h => h) (Or.inl ⟨by rfl, ?_⟩) hHeld ?_ ?_
  rotate_left
  · rintro w' ⟨s0, s1, s2⟩
    go_simp
    with_reducible rfl
  rotate_left
  · simp only [Act.put, List.setIfInBounds_toArray, List.set_cons_zero, List.set_cons_succ, i64_w, i32_w]
    rfl
  refine take_ (i := 5) (N := some 11) (v := ?_) (a' := ?_) #[true, true, true, true, true, true, false, false, false, false, false, false, false, false, false, false, false] rfl rfl (by kernel_rfl) (fun _ _ _ h => h) (Or.inl ⟨by rfl, ?_⟩) hHeld ?_ ?_
  rotate_left
  · rintro w' ⟨s0, s1, s2⟩
    go_simp
    with_reducible rfl
  rotate_left
  · simp only [Act.put, List.setIfInBounds_toArray, List.set_cons_zero, List.set_cons_succ, i64_w, i32_w]
    rfl
  refine pure_ (i := 6) (N := some 12) (v := ?_) (a' := ?_) #[true, true, true, true, true, true, true, false, false, false, false, false, false, false, false, false, false] rfl rfl (by kernel_rfl) (fun _ _ _ h => h) (Or.inl ⟨by rfl, ?_⟩) ?_ ?_
  rotate_left
  · intro w'
    go_simp
    with_reducible rfl
  rotate_left
  · simp only [Act.put, List.setIfInBounds_toArray, List.set_cons_zero, List.set_cons_succ, i64_w, i32_w]
    rfl
  refine pure_ (i := 7) (N := some 13) (v := ?_) (a' := ?_) #[true, true, true, true, true, true, true, true, false, false, false, false, false, false, false, false, false] rfl rfl (by kernel_rfl) (fun _ _ _ h => h) (Or.inl ⟨by rfl, ?_⟩) ?_ ?_
  rotate_left
  · intro w'
    go_simp
    with_reducible rfl
  rotate_left
  · simp only [Act.put, List.setIfInBounds_toArray, List.set_cons_zero, List.set_cons_succ, i64_w, i32_w]
    rfl
  refine pure_ (i := 8) (N := some 14) (v := ?_) (a' := ?_) #[true, true, true, true, true, true, true, true, true, false, false, false, false, false, false, false, false] rfl rfl (by kernel_rfl) (fun _ _ _ h => h) (Or.inl ⟨by rfl, ?_⟩) ?_ ?_
  rotate_left
  · intro w'
    go_simp
    with_reducible rfl
  rotate_left
  · simp only [Act.put, List.setIfInBounds_toArray, List.set_cons_zero, List.set_cons_succ, i64_w, i32_w]
    rfl
  refine pure_ (i := 9) (N := some 15) (v := undef) (a' := ?_) #[true, true, true, true, true, true, true, true, true, true, false, false, false, false, false, false, false] rfl rfl (by kernel_rfl) (fun _ _ _ h => h) (Or.inr ⟨by rfl, rfl⟩) ?_ ?_
  rotate_left
  · simp only [Act.put, List.setIfInBounds_toArray, List.set_cons_zero, List.set_cons_succ, i64_w, i32_w]
    rfl
  refine pure_ (i := 10) (N := some 16) (v := undef) (a' := ?_) #[true, true, true, true, true, true, true, true, true, true, true, false, false, false, false, false, false] rfl rfl (by kernel_rfl) (fun _ _ _ h => h) (Or.inr ⟨by rfl, rfl⟩) ?_ ?_
  rotate_left
  · simp only [Act.put, List.setIfInBounds_toArray, List.set_cons_zero, List.set_cons_succ, i64_w, i32_w]
    rfl
  refine pure_ (i := 11) (N := some 17) (v := undef) (a' := ?_) #[true, true, true, true, true, true, true, true, true, true, true, true, false, false, false, false, false] rfl rfl (by kernel_rfl) (fun _ _ _ h => h) (Or.inr ⟨by rfl, rfl⟩) ?_ ?_
  rotate_left
  · simp only [Act.put, List.setIfInBounds_toArray, List.set_cons_zero, List.set_cons_succ, i64_w, i32_w]
    rfl
  refine pure_ (i := 12) (N := some 18) (v := undef) (a' := ?_) #[true, true, true, true, true, true, true, true, true, true, true, true, true, false, false, false, false] rfl rfl (by kernel_rfl) (fun _ _ _ h => h) (Or.inr ⟨by rfl, rfl⟩) ?_ ?_
  rotate_left
  · simp only [Act.put, List.setIfInBounds_toArray, List.set_cons_zero, List.set_cons_succ, i64_w, i32_w]
    rfl
  refine pure_ (i := 13) (N := some 19) (v := undef) (a' := ?_) #[true, true, true, true, true, true, true, true, true, true, true, true, true, true, false, false, false] rfl rfl (by kernel_rfl) (fun _ _ _ h => h) (Or.inr ⟨by rfl, rfl⟩) ?_ ?_
  rotate_left
  · simp only [Act.put, List.setIfInBounds_toArray, List.set_cons_zero, List.set_cons_succ, i64_w, i32_w]
    rfl
  refine pure_ (i := 14) (N := some 20) (v := undef) (a' := ?_) #[true, true, true, true, true, true, true, true, true, true, true, true, true, true, true, false, false] rfl rfl (by kernel_rfl) (fun _ _ _ h => h) (Or.inr ⟨by rfl, rfl⟩) ?_ ?_
  rotate_left
  · simp only [Act.put, List.setIfInBounds_toArray, List.set_cons_zero, List.set_cons_succ, i64_w, i32_w]
    rfl
  refine pure_ (i := 15) (N := some 21) (v := ?_) (a' := ?_) #[true, true, true, true, true, true, true, true, true, true, true, true, true, true, true, true, false] rfl rfl (by kernel_rfl) (fun _ _ _ h => h) (Or.inl ⟨by rfl, ?_⟩) ?_ ?_
  rotate_left
  · intro w'
    go_simp
    with_reducible rfl
  rotate_left
  · simp only [Act.put, List.setIfInBounds_toArray, List.set_cons_zero, List.set_cons_succ, i64_w, i32_w]
    rfl
  refine pure_ (i := 16) (N := some 5) (v := ?_) (a' := ?_) #[true, true, true, true, true, true, true, true, true, true, true, true, true, true, true, true, true] rfl rfl (by kernel_rfl) (fun _ _ _ h => h) (Or.inl ⟨by rfl, ?_⟩) ?_ ?_
  rotate_left
  · intro w'
    go_simp
    with_reducible rfl
  rotate_left
  · simp only [Act.put, List.setIfInBounds_toArray, List.set_cons_zero, List.set_cons_succ, i64_w, i32_w]
    rfl
  refine done_ (by kernel_rfl) ?_
  go_wp2
  go_ret
  have HB := below_drew (Below.refl W.heap.size W)
  exact ⟨rfl, hA _ _ _ hJ HB, KeepI.of_below HB⟩
set_option maxHeartbeats 4000000 in
set_option maxRecDepth 100000 in
theorem here_yield {l b0 N : Nat} {J Jx : List Row → World → Prop} (hY : Rounds l b0 N J Jx) (hA : Abide J) {W : World} {t : T} {pl pr : Option Addr} {bm bf bt by_ bn gn : Nat} {mid from_ to_ : Int}
    (hm : W.heap[bm]? = some (bx (.int .i64 mid) tI)) (hf : W.heap[bf]? = some (bx (.int .i64 from_) tI)) (ht : W.heap[bt]? = some (bx (.int .i64 to_) tI)) (hy : W.heap[by_]? = some (bx (.func (.yield l) #[] #[]) tY)) (hn : W.heap[bn]? = some (bx (.pointer (some ⟨gn, 0, none⟩)) tPN)) (hg : W.heap[gn]? = some (nodeC t pl pr))
    (pre : List Row) (hJ : J pre W) (h : ¬ mid < from_) (h2 : ¬ to_ ≤ mid) (hl : pre.length < N) :
    Calls Try.prog 75 #[.pointer (some ⟨bm, 0, none⟩), .pointer (some ⟨bf, 0, none⟩), .pointer (some ⟨bt, 0, none⟩), .pointer (some ⟨by_, 0, none⟩), .pointer (some ⟨bn, 0, none⟩)] W fun e W' => (e = .returned (.bool true) ∧ J (pre ++ [t.row]) W' ∧ KeepI b0 W W') ∨ (e = .returned (.bool false) ∧ Jx (pre ++ [t.row]) W') := by
  have d1 : decide (mid < from_) = false := by simpa using h
  have d2 : decide (to_ ≤ mid) = false := by simpa using h2
  have HB := below_drew (Below.refl W.heap.size W)
  obtain ⟨fn, tmps, assign, body, hy1, hR⟩ := hY 2 pre t.row W.drew (hA _ _ _ hJ HB) hl
  have HR := Lib.hid (hR.mono (R' := fun e W' => ∃ b : Bool, e = .returned (.bool b) ∧ Hid ((b = true ∧ J (pre ++ [t.row]) W' ∧ KeepI b0 W.drew W') ∨ (b = false ∧ Jx (pre ++ [t.row]) W'))) (fun e W' h => h.elim (fun ⟨h1, h2⟩ => ⟨true, h1, Lib.hid (.inl ⟨rfl, h2⟩)⟩) (fun ⟨h1, h2⟩ => ⟨false, h1, Lib.hid (.inr ⟨rfl, h2⟩)⟩)))
  have cm := blk1 hm
  have cf := blk1 hf
  have ct := blk1 ht
  have cy := blk1 hy
  have cn := blk1 hn
  have cg := blkc hg
  clear hR h h2 hm hf ht hy hn hg hY
  refine (callsIn_wide (n := 3)).1 ?_
  refine callsIn_of_wp Try.func75 rfl trivial ?_ rfl
  simp only [Try.ntmps75, List.size_toArray, List.length_cons, List.length_nil, Nat.reduceAdd, Nat.reduceSub, Array.replicate_succ, Array.replicate_zero, List.push_toArray, List.append_toArray, List.nil_append, List.cons_append]
  gi_wp2
  gi_region_with ((try refine ⟨fun h => (by cases h), ?_⟩); refine HR.out.mono ?_; rintro e W2 ⟨bb, rfl, HP⟩)
  all_goals
    gi_wp2
    go_ret
    rcases HP.out with ⟨rfl, h1, h2⟩ | ⟨rfl, h1⟩
    · exact .inl ⟨rfl, h1, KeepI.trans (KeepI.of_below (below_drew (Below.refl _ _))) h2⟩
    · exact .inr ⟨rfl, h1⟩
/-- How it ends: all have come, or a round has said 'no more'. -/
def EndB (b0 : Nat) (J Jx : List Row → World → Prop) (pre sel : List Row) (W : World) (bb : Bool) (W' : World) : Prop :=
  (bb = true ∧ J (pre ++ sel) W' ∧ KeepI b0 W W') ∨ (bb = false ∧ ∃ q, q <+: sel ∧ Jx (pre ++ q) W')
theorem EndB.before {b0 : Nat} {J Jx : List Row → World → Prop} {pre sel : List Row} {W0 W W' : World} {bb : Bool} (h : EndB b0 J Jx pre sel W bb W') (hb : Below W0.heap.size W0 W) : EndB b0 J Jx pre sel W0 bb W' := by
  rcases h with ⟨h1, h2, h3⟩ | h
  · exact .inl ⟨h1, h2, (KeepI.of_below hb).trans h3⟩
  · exact .inr h
def selHere (t : T) (mid a b : Int) : List Row := if a ≤ mid ∧ mid < b then [t.row] else []
theorem here_any {l b0 N : Nat} {J Jx : List Row → World → Prop} (hY : Rounds l b0 N J Jx) (hA : Abide J) {W : World} {t : T} {pl pr : Option Addr} {bm bf bt by_ bn gn : Nat} {mid from_ to_ : Int}
    (hm : W.heap[bm]? = some (bx (.int .i64 mid) tI)) (hf : W.heap[bf]? = some (bx (.int .i64 from_) tI)) (ht : W.heap[bt]? = some (bx (.int .i64 to_) tI)) (hy : W.heap[by_]? = some (bx (.func (.yield l) #[] #[]) tY)) (hn : W.heap[bn]? = some (bx (.pointer (some ⟨gn, 0, none⟩)) tPN)) (hg : W.heap[gn]? = some (nodeC t pl pr))
    (pre : List Row) (hJ : J pre W) (hl : (selHere t mid from_ to_).length + pre.length ≤ N) :
    Calls Try.prog 75 #[.pointer (some ⟨bm, 0, none⟩), .pointer (some ⟨bf, 0, none⟩), .pointer (some ⟨bt, 0, none⟩), .pointer (some ⟨by_, 0, none⟩), .pointer (some ⟨bn, 0, none⟩)] W fun e W' => ∃ bb : Bool, e = .returned (.bool bb) ∧ EndB b0 J Jx pre (selHere t mid from_ to_) W bb W' := by
  unfold selHere at *
  by_cases h : mid < from_
  · rw [if_neg (by omega)]
    refine (here_low hY hA hm hf ht hy hn hg pre hJ h).mono ?_
    rintro e W' ⟨h1, h2, h3⟩
    exact ⟨true, h1, .inl ⟨rfl, by simpa using h2, h3⟩⟩
  · by_cases h2 : to_ ≤ mid
    · rw [if_neg (by omega)]
      refine (here_high hY hA hm hf ht hy hn hg pre hJ h h2).mono ?_
      rintro e W' ⟨h1, h2, h3⟩
      exact ⟨true, h1, .inl ⟨rfl, by simpa using h2, h3⟩⟩
    · rw [if_pos (by omega)] at hl ⊢
      refine (here_yield hY hA hm hf ht hy hn hg pre hJ h h2 (by simp at hl; omega)).mono ?_
      rintro e W' (⟨h1, h2, h3⟩ | ⟨h1, h2⟩)
      · exact ⟨true, h1, .inl ⟨rfl, h2, h3⟩⟩
      · exact ⟨false, h1, .inr ⟨rfl, [t.row], List.prefix_refl _, h2⟩⟩
/-- What 'each' does with a tree. -/
def EachP (l b0 N : Nat) (J Jx : List Row → World → Prop) (down : Bool) (t : T) : Prop := ∀ (a b : Int) (p : Option Addr) (pre : List Row) (W : World), TR W t p → J pre W → b0 ≤ W.heap.size → 0 ≤ a → a ≤ 1152921504606846976 → -1152921504606846976 ≤ b → b ≤ 1152921504606846976 → pre.length + (segD down t.list a b).length ≤ N →
  Calls Try.prog 69 #[.pointer p, .int .i64 a, .int .i64 b, .bool down, .func (.yield l) #[] #[]] W fun e W' => ∃ bb : Bool, e = .returned (.bool bb) ∧ EndB b0 J Jx pre (segD down t.list a b) W bb W' 
end Go.Proofs.Ytjpalkggmefpfaa.Tab
