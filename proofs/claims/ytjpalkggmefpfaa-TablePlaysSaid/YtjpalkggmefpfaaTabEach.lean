/- A tree gone over: each. -/
import Derived.Test.YtjpalkggmefpfaaTabHere
set_option linter.unusedVariables false
set_option linter.unusedSimpArgs false
namespace Go.Proofs.Ytjpalkggmefpfaa.Tab
open Go.RowKit Go.Proofs.Ytjpalkggmefpfaa.Mem Go.Proofs.YtjpalkggmefpfaaW.PrintWords Go.Proofs.YtjpalkggmefpfaaW.PrintLast Go.Deep
set_option maxHeartbeats 800000 in
set_option maxRecDepth 100000 in
theorem before_l {l b0 N : Nat} {J Jx : List Row → World → Prop} (hA : Abide J) {W : World} {t : T} {pl pr : Option Addr} {bm bf bt bd by_ bn gn : Nat} {mid from_ to_ : Int} {down : Bool}
    (hm : W.heap[bm]? = some (bx (.int .i64 mid) tI)) (hf : W.heap[bf]? = some (bx (.int .i64 from_) tI)) (ht : W.heap[bt]? = some (bx (.int .i64 to_) tI)) (hd : W.heap[bd]? = some (bx (.bool down) tB)) (hy : W.heap[by_]? = some (bx (.func (.yield l) #[] #[]) tY)) (hn : W.heap[bn]? = some (bx (.pointer (some ⟨gn, 0, none⟩)) tPN)) (hg : W.heap[gn]? = some (nodeC t pl pr))
    (hb0 : b0 ≤ W.heap.size) (pre : List Row) (hJ : J pre W) (hm0 : 0 ≤ mid) (hm1 : mid ≤ 1099511627776) (hf0 : 0 ≤ from_) (hf1 : from_ ≤ 1152921504606846976) (ht0 : 0 < to_) (ht1 : to_ ≤ 1152921504606846976) (hT : TR W t.left pl) (IH : EachP l b0 N J Jx down t.left) (hl : pre.length + (segD down t.left.list from_ to_).length ≤ N) (h : to_ ≤ mid) :
    Calls Try.prog 73 #[.pointer (some ⟨bn, 0, none⟩), .pointer (some ⟨bf, 0, none⟩), .pointer (some ⟨bt, 0, none⟩), .pointer (some ⟨bm, 0, none⟩), .pointer (some ⟨bd, 0, none⟩), .pointer (some ⟨by_, 0, none⟩)] W fun e W' => ∃ bb : Bool, e = .returned (.bool bb) ∧ EndB b0 J Jx pre (segD down t.left.list from_ to_) W bb W' := by
  have HB := Lib.hid (below_drew (Below.refl W.heap.size W))
  have HC := Lib.hid (IH from_ to_ pl pre W.drew (hT.below HB.out) (hA _ _ _ hJ HB.out) hb0 (by omega) (by omega) (by omega) (by omega) hl)
  clear IH hT hJ hl hA
  have h3 : (mid < to_) = False := _root_.eq_false (by omega)
  go_enter Try.func73, Try.ntmps73
  go_wp2_with fail
  have xm := blk1 (blk_drew hm)
  have xf := blk1 (blk_drew hf)
  have xt := blk1 (blk_drew ht)
  have xd := blk1 (blk_drew hd)
  have xy := blk1 (blk_drew hy)
  have xn := blk1 (blk_drew hn)
  have xg := blkc (blk_drew hg)
  clear hm hf ht hd hy hn hg
  refine start_ (n := 12) (S := fun w' => (w'.cell? ⟨bm, 0, none⟩ = some (.int .i64 mid)) ∧ (w'.cell? ⟨bf, 0, none⟩ = some (.int .i64 from_)) ∧ (w'.cell? ⟨bt, 0, none⟩ = some (.int .i64 to_)) ∧ (w'.cell? ⟨bd, 0, none⟩ = some (.bool down)) ∧ (w'.cell? ⟨by_, 0, none⟩ = some (.func (.yield l) #[] #[])) ∧ (w'.cell? ⟨bn, 0, none⟩ = some (.pointer (some ⟨gn, 0, none⟩))) ∧ (∀ o, w'.cell? ⟨gn, o, none⟩ = #[Value.string t.key, .string t.row.key, .string t.row.value, .int .i64 t.row.version, .pointer pl, .pointer pr, .int .i64 t.high, .int .i64 t.count][o]?)) (ds := [10]) #[false, false, false, false, false, false, false, false, false, false, false, false] (by kernel_rfl) rfl rfl ⟨xm, xf, xt, xd, xy, xn, xg⟩ (fun hHeld => ?_)
  refine take_ (i := 0) (N := some 7) (v := ?_) (a' := ?_) #[true, false, false, false, false, false, false, false, false, false, false, false] rfl rfl (by kernel_rfl) (fun _ _ _ h => h) (Or.inl ⟨by rfl, ?_⟩) hHeld ?_ ?_
  rotate_left
  · rintro w' ⟨s0, s1, s2, s3, s4, s5, s6⟩
    go_simp
    with_reducible rfl
  rotate_left
  · simp only [Act.put, List.setIfInBounds_toArray, List.set_cons_zero, List.set_cons_succ, i64_w, i32_w]
    rfl
  refine pure_ (i := 1) (N := some 8) (v := ?_) (a' := ?_) #[true, true, false, false, false, false, false, false, false, false, false, false] rfl rfl (by kernel_rfl) (fun _ _ _ h => h) (Or.inl ⟨by rfl, ?_⟩) ?_ ?_
  rotate_left
  · intro w'
    go_simp
    with_reducible rfl
  rotate_left
  · simp only [Act.put, List.setIfInBounds_toArray, List.set_cons_zero, List.set_cons_succ, i64_w, i32_w]
    rfl
  refine pure_ (i := 2) (N := some 9) (v := ?_) (a' := ?_) #[true, true, true, false, false, false, false, false, false, false, false, false] rfl rfl (by kernel_rfl) (fun _ _ _ h => h) (Or.inl ⟨by rfl, ?_⟩) ?_ ?_
  rotate_left
  · intro w'
    go_simp
    with_reducible rfl
  rotate_left
  · simp only [Act.put, List.setIfInBounds_toArray, List.set_cons_zero, List.set_cons_succ, i64_w, i32_w]
    rfl
  refine take_ (i := 3) (N := some 10) (v := ?_) (a' := ?_) #[true, true, true, true, false, false, false, false, false, false, false, false] rfl rfl (by kernel_rfl) (fun _ _ _ h => h) (Or.inl ⟨by rfl, ?_⟩) hHeld ?_ ?_
  rotate_left
  · rintro w' ⟨s0, s1, s2, s3, s4, s5, s6⟩
    go_simp
    with_reducible rfl
  rotate_left
  · simp only [Act.put, List.setIfInBounds_toArray, List.set_cons_zero, List.set_cons_succ, i64_w, i32_w]
    rfl
  refine take_ (i := 4) (N := some 11) (v := ?_) (a' := ?_) #[true, true, true, true, true, false, false, false, false, false, false, false] rfl rfl (by kernel_rfl) (fun _ _ _ h => h) (Or.inl ⟨by rfl, ?_⟩) hHeld ?_ ?_
  rotate_left
  · rintro w' ⟨s0, s1, s2, s3, s4, s5, s6⟩
    go_simp
    with_reducible rfl
  rotate_left
  · simp only [Act.put, List.setIfInBounds_toArray, List.set_cons_zero, List.set_cons_succ, i64_w, i32_w]
    rfl
  refine take_ (i := 5) (N := some 12) (v := ?_) (a' := ?_) #[true, true, true, true, true, true, false, false, false, false, false, false] rfl rfl (by kernel_rfl) (fun _ _ _ h => h) (Or.inl ⟨by rfl, ?_⟩) hHeld ?_ ?_
  rotate_left
  · rintro w' ⟨s0, s1, s2, s3, s4, s5, s6⟩
    go_simp
    with_reducible rfl
  rotate_left
  · simp only [Act.put, List.setIfInBounds_toArray, List.set_cons_zero, List.set_cons_succ, i64_w, i32_w]
    rfl
  refine take_ (i := 6) (N := some 13) (v := ?_) (a' := ?_) #[true, true, true, true, true, true, true, false, false, false, false, false] rfl rfl (by kernel_rfl) (fun _ _ _ h => h) (Or.inl ⟨by rfl, ?_⟩) hHeld ?_ ?_
  rotate_left
  · rintro w' ⟨s0, s1, s2, s3, s4, s5, s6⟩
    go_simp
    with_reducible rfl
  rotate_left
  · simp only [Act.put, List.setIfInBounds_toArray, List.set_cons_zero, List.set_cons_succ, i64_w, i32_w]
    rfl
  refine pure_ (i := 7) (N := some 14) (v := ?_) (a' := ?_) #[true, true, true, true, true, true, true, true, false, false, false, false] rfl rfl (by kernel_rfl) (fun _ _ _ h => h) (Or.inl ⟨by rfl, ?_⟩) ?_ ?_
  rotate_left
  · intro w'
    go_simp
    with_reducible rfl
  rotate_left
  · simp only [Act.put, List.setIfInBounds_toArray, List.set_cons_zero, List.set_cons_succ, i64_w, i32_w]
    rfl
  refine take_ (i := 8) (N := some 15) (v := ?_) (a' := ?_) #[true, true, true, true, true, true, true, true, true, false, false, false] rfl rfl (by kernel_rfl) (fun _ _ _ h => h) (Or.inl ⟨by rfl, ?_⟩) hHeld ?_ ?_
  rotate_left
  · rintro w' ⟨s0, s1, s2, s3, s4, s5, s6⟩
    go_simp
    with_reducible rfl
  rotate_left
  · simp only [Act.put, List.setIfInBounds_toArray, List.set_cons_zero, List.set_cons_succ, i64_w, i32_w]
    rfl
  refine take_ (i := 9) (N := some 16) (v := ?_) (a' := ?_) #[true, true, true, true, true, true, true, true, true, true, false, false] rfl rfl (by kernel_rfl) (fun _ _ _ h => h) (Or.inl ⟨by rfl, ?_⟩) hHeld ?_ ?_
  rotate_left
  · rintro w' ⟨s0, s1, s2, s3, s4, s5, s6⟩
    go_simp
    with_reducible rfl
  rotate_left
  · simp only [Act.put, List.setIfInBounds_toArray, List.set_cons_zero, List.set_cons_succ, i64_w, i32_w]
    rfl
  refine last_ (i := 10) (N := some 17) #[true, true, true, true, true, true, true, true, true, true, true, false] rfl rfl (by kernel_rfl) (by decide) (fun K hK => ?_)
  refine goes_ Try.func69 (by kernel_rfl) rfl #[.pointer pl, .int .i64 from_, .int .i64 to_, .bool down, .func (.yield l) #[] #[]] (by rfl) rfl rfl (by simp only [List.map_toArray, List.map_cons, List.map_nil]; rfl) ?_
  with_reducible refine (HC.out).mono ?_
  rintro e w1 ⟨bb, rfl, HE⟩
  refine ⟨_, rfl, ?_⟩
  refine hK.out _ _ ?_
  clear hK K
  refine norm_ (a' := ?_) ?_ ?_
  rotate_left
  · show Act.put _ (some 17) _ = _
    simp only [Act.put, List.setIfInBounds_toArray, List.set_cons_zero, List.set_cons_succ, i64_w, i32_w]
    rfl
  refine pure_ (i := 11) (N := some 6) (v := ?_) (a' := ?_) #[true, true, true, true, true, true, true, true, true, true, true, true] rfl rfl (by kernel_rfl) (fun _ _ _ h => h) (Or.inl ⟨by rfl, ?_⟩) ?_ ?_
  rotate_left
  · intro w'
    go_simp
    with_reducible rfl
  rotate_left
  · simp only [Act.put, List.setIfInBounds_toArray, List.set_cons_zero, List.set_cons_succ, i64_w, i32_w]
    rfl
  refine done_ (by kernel_rfl) ?_
  go_wp2
  go_ret
  exact ⟨bb, rfl, HE.before HB.out⟩
set_option maxHeartbeats 800000 in
set_option maxRecDepth 100000 in
theorem before_m {l b0 N : Nat} {J Jx : List Row → World → Prop} (hA : Abide J) {W : World} {t : T} {pl pr : Option Addr} {bm bf bt bd by_ bn gn : Nat} {mid from_ to_ : Int} {down : Bool}
    (hm : W.heap[bm]? = some (bx (.int .i64 mid) tI)) (hf : W.heap[bf]? = some (bx (.int .i64 from_) tI)) (ht : W.heap[bt]? = some (bx (.int .i64 to_) tI)) (hd : W.heap[bd]? = some (bx (.bool down) tB)) (hy : W.heap[by_]? = some (bx (.func (.yield l) #[] #[]) tY)) (hn : W.heap[bn]? = some (bx (.pointer (some ⟨gn, 0, none⟩)) tPN)) (hg : W.heap[gn]? = some (nodeC t pl pr))
    (hb0 : b0 ≤ W.heap.size) (pre : List Row) (hJ : J pre W) (hm0 : 0 ≤ mid) (hm1 : mid ≤ 1099511627776) (hf0 : 0 ≤ from_) (hf1 : from_ ≤ 1152921504606846976) (ht0 : 0 < to_) (ht1 : to_ ≤ 1152921504606846976) (hT : TR W t.left pl) (IH : EachP l b0 N J Jx down t.left) (hl : pre.length + (segD down t.left.list from_ mid).length ≤ N) (h : ¬ to_ ≤ mid) :
    Calls Try.prog 73 #[.pointer (some ⟨bn, 0, none⟩), .pointer (some ⟨bf, 0, none⟩), .pointer (some ⟨bt, 0, none⟩), .pointer (some ⟨bm, 0, none⟩), .pointer (some ⟨bd, 0, none⟩), .pointer (some ⟨by_, 0, none⟩)] W fun e W' => ∃ bb : Bool, e = .returned (.bool bb) ∧ EndB b0 J Jx pre (segD down t.left.list from_ mid) W bb W' := by
  have HB := Lib.hid (below_drew (Below.refl W.heap.size W))
  have HC := Lib.hid (IH from_ mid pl pre W.drew (hT.below HB.out) (hA _ _ _ hJ HB.out) hb0 (by omega) (by omega) (by omega) (by omega) hl)
  clear IH hT hJ hl hA
  have h3 : mid < to_ := by omega
  go_enter Try.func73, Try.ntmps73
  go_wp2_with fail
  have xm := blk1 (blk_drew hm)
  have xf := blk1 (blk_drew hf)
  have xt := blk1 (blk_drew ht)
  have xd := blk1 (blk_drew hd)
  have xy := blk1 (blk_drew hy)
  have xn := blk1 (blk_drew hn)
  have xg := blkc (blk_drew hg)
  clear hm hf ht hd hy hn hg
  refine start_ (n := 12) (S := fun w' => (w'.cell? ⟨bm, 0, none⟩ = some (.int .i64 mid)) ∧ (w'.cell? ⟨bf, 0, none⟩ = some (.int .i64 from_)) ∧ (w'.cell? ⟨bt, 0, none⟩ = some (.int .i64 to_)) ∧ (w'.cell? ⟨bd, 0, none⟩ = some (.bool down)) ∧ (w'.cell? ⟨by_, 0, none⟩ = some (.func (.yield l) #[] #[])) ∧ (w'.cell? ⟨bn, 0, none⟩ = some (.pointer (some ⟨gn, 0, none⟩))) ∧ (∀ o, w'.cell? ⟨gn, o, none⟩ = #[Value.string t.key, .string t.row.key, .string t.row.value, .int .i64 t.row.version, .pointer pl, .pointer pr, .int .i64 t.high, .int .i64 t.count][o]?)) (ds := [10]) #[false, false, false, false, false, false, false, false, false, false, false, false] (by kernel_rfl) rfl rfl ⟨xm, xf, xt, xd, xy, xn, xg⟩ (fun hHeld => ?_)
  refine take_ (i := 0) (N := some 7) (v := ?_) (a' := ?_) #[true, false, false, false, false, false, false, false, false, false, false, false] rfl rfl (by kernel_rfl) (fun _ _ _ h => h) (Or.inl ⟨by rfl, ?_⟩) hHeld ?_ ?_
  rotate_left
  · rintro w' ⟨s0, s1, s2, s3, s4, s5, s6⟩
    go_simp
    with_reducible rfl
  rotate_left
  · simp only [Act.put, List.setIfInBounds_toArray, List.set_cons_zero, List.set_cons_succ, i64_w, i32_w]
    rfl
  refine pure_ (i := 1) (N := some 8) (v := ?_) (a' := ?_) #[true, true, false, false, false, false, false, false, false, false, false, false] rfl rfl (by kernel_rfl) (fun _ _ _ h => h) (Or.inl ⟨by rfl, ?_⟩) ?_ ?_
  rotate_left
  · intro w'
    go_simp
    with_reducible rfl
  rotate_left
  · simp only [Act.put, List.setIfInBounds_toArray, List.set_cons_zero, List.set_cons_succ, i64_w, i32_w]
    rfl
  refine pure_ (i := 2) (N := some 9) (v := ?_) (a' := ?_) #[true, true, true, false, false, false, false, false, false, false, false, false] rfl rfl (by kernel_rfl) (fun _ _ _ h => h) (Or.inl ⟨by rfl, ?_⟩) ?_ ?_
  rotate_left
  · intro w'
    go_simp
    with_reducible rfl
  rotate_left
  · simp only [Act.put, List.setIfInBounds_toArray, List.set_cons_zero, List.set_cons_succ, i64_w, i32_w]
    rfl
  refine take_ (i := 3) (N := some 10) (v := ?_) (a' := ?_) #[true, true, true, true, false, false, false, false, false, false, false, false] rfl rfl (by kernel_rfl) (fun _ _ _ h => h) (Or.inl ⟨by rfl, ?_⟩) hHeld ?_ ?_
  rotate_left
  · rintro w' ⟨s0, s1, s2, s3, s4, s5, s6⟩
    go_simp
    with_reducible rfl
  rotate_left
  · simp only [Act.put, List.setIfInBounds_toArray, List.set_cons_zero, List.set_cons_succ, i64_w, i32_w]
    rfl
  refine take_ (i := 4) (N := some 11) (v := ?_) (a' := ?_) #[true, true, true, true, true, false, false, false, false, false, false, false] rfl rfl (by kernel_rfl) (fun _ _ _ h => h) (Or.inl ⟨by rfl, ?_⟩) hHeld ?_ ?_
  rotate_left
  · rintro w' ⟨s0, s1, s2, s3, s4, s5, s6⟩
    go_simp
    with_reducible rfl
  rotate_left
  · simp only [Act.put, List.setIfInBounds_toArray, List.set_cons_zero, List.set_cons_succ, i64_w, i32_w]
    rfl
  refine take_ (i := 5) (N := some 12) (v := ?_) (a' := ?_) #[true, true, true, true, true, true, false, false, false, false, false, false] rfl rfl (by kernel_rfl) (fun _ _ _ h => h) (Or.inl ⟨by rfl, ?_⟩) hHeld ?_ ?_
  rotate_left
  · rintro w' ⟨s0, s1, s2, s3, s4, s5, s6⟩
    go_simp
    with_reducible rfl
  rotate_left
  · simp only [Act.put, List.setIfInBounds_toArray, List.set_cons_zero, List.set_cons_succ, i64_w, i32_w]
    rfl
  refine take_ (i := 6) (N := some 13) (v := ?_) (a' := ?_) #[true, true, true, true, true, true, true, false, false, false, false, false] rfl rfl (by kernel_rfl) (fun _ _ _ h => h) (Or.inl ⟨by rfl, ?_⟩) hHeld ?_ ?_
  rotate_left
  · rintro w' ⟨s0, s1, s2, s3, s4, s5, s6⟩
    go_simp
    with_reducible rfl
  rotate_left
  · simp only [Act.put, List.setIfInBounds_toArray, List.set_cons_zero, List.set_cons_succ, i64_w, i32_w]
    rfl
  refine pure_ (i := 7) (N := some 14) (v := ?_) (a' := ?_) #[true, true, true, true, true, true, true, true, false, false, false, false] rfl rfl (by kernel_rfl) (fun _ _ _ h => h) (Or.inl ⟨by rfl, ?_⟩) ?_ ?_
  rotate_left
  · intro w'
    go_simp
    with_reducible rfl
  rotate_left
  · simp only [Act.put, List.setIfInBounds_toArray, List.set_cons_zero, List.set_cons_succ, i64_w, i32_w]
    rfl
  refine take_ (i := 8) (N := some 15) (v := ?_) (a' := ?_) #[true, true, true, true, true, true, true, true, true, false, false, false] rfl rfl (by kernel_rfl) (fun _ _ _ h => h) (Or.inl ⟨by rfl, ?_⟩) hHeld ?_ ?_
  rotate_left
  · rintro w' ⟨s0, s1, s2, s3, s4, s5, s6⟩
    go_simp
    with_reducible rfl
  rotate_left
  · simp only [Act.put, List.setIfInBounds_toArray, List.set_cons_zero, List.set_cons_succ, i64_w, i32_w]
    rfl
  refine take_ (i := 9) (N := some 16) (v := ?_) (a' := ?_) #[true, true, true, true, true, true, true, true, true, true, false, false] rfl rfl (by kernel_rfl) (fun _ _ _ h => h) (Or.inl ⟨by rfl, ?_⟩) hHeld ?_ ?_
  rotate_left
  · rintro w' ⟨s0, s1, s2, s3, s4, s5, s6⟩
    go_simp
    with_reducible rfl
  rotate_left
  · simp only [Act.put, List.setIfInBounds_toArray, List.set_cons_zero, List.set_cons_succ, i64_w, i32_w]
    rfl
  refine last_ (i := 10) (N := some 17) #[true, true, true, true, true, true, true, true, true, true, true, false] rfl rfl (by kernel_rfl) (by decide) (fun K hK => ?_)
  refine goes_ Try.func69 (by kernel_rfl) rfl #[.pointer pl, .int .i64 from_, .int .i64 mid, .bool down, .func (.yield l) #[] #[]] (by rfl) rfl rfl (by simp only [List.map_toArray, List.map_cons, List.map_nil]; rfl) ?_
  with_reducible refine (HC.out).mono ?_
  rintro e w1 ⟨bb, rfl, HE⟩
  refine ⟨_, rfl, ?_⟩
  refine hK.out _ _ ?_
  clear hK K
  refine norm_ (a' := ?_) ?_ ?_
  rotate_left
  · show Act.put _ (some 17) _ = _
    simp only [Act.put, List.setIfInBounds_toArray, List.set_cons_zero, List.set_cons_succ, i64_w, i32_w]
    rfl
  refine pure_ (i := 11) (N := some 6) (v := ?_) (a' := ?_) #[true, true, true, true, true, true, true, true, true, true, true, true] rfl rfl (by kernel_rfl) (fun _ _ _ h => h) (Or.inl ⟨by rfl, ?_⟩) ?_ ?_
  rotate_left
  · intro w'
    go_simp
    with_reducible rfl
  rotate_left
  · simp only [Act.put, List.setIfInBounds_toArray, List.set_cons_zero, List.set_cons_succ, i64_w, i32_w]
    rfl
  refine done_ (by kernel_rfl) ?_
  go_wp2
  go_ret
  exact ⟨bb, rfl, HE.before HB.out⟩
set_option maxHeartbeats 800000 in
set_option maxRecDepth 100000 in
theorem behind_p {l b0 N : Nat} {J Jx : List Row → World → Prop} (hA : Abide J) {W : World} {t : T} {pl pr : Option Addr} {bm bf bt bd by_ bn gn : Nat} {mid from_ to_ : Int} {down : Bool}
    (hm : W.heap[bm]? = some (bx (.int .i64 mid) tI)) (hf : W.heap[bf]? = some (bx (.int .i64 from_) tI)) (ht : W.heap[bt]? = some (bx (.int .i64 to_) tI)) (hd : W.heap[bd]? = some (bx (.bool down) tB)) (hy : W.heap[by_]? = some (bx (.func (.yield l) #[] #[]) tY)) (hn : W.heap[bn]? = some (bx (.pointer (some ⟨gn, 0, none⟩)) tPN)) (hg : W.heap[gn]? = some (nodeC t pl pr))
    (hb0 : b0 ≤ W.heap.size) (pre : List Row) (hJ : J pre W) (hm0 : 0 ≤ mid) (hm1 : mid ≤ 1099511627776) (hf0 : 0 ≤ from_) (hf1 : from_ ≤ 1152921504606846976) (ht0 : 0 < to_) (ht1 : to_ ≤ 1152921504606846976) (hT : TR W t.right pr) (IH : EachP l b0 N J Jx down t.right) (hl : pre.length + (segD down t.right.list (from_ - mid - 1) (to_ - mid - 1)).length ≤ N) (h : 0 ≤ from_ - mid - 1) :
    Calls Try.prog 74 #[.pointer (some ⟨bn, 0, none⟩), .pointer (some ⟨bf, 0, none⟩), .pointer (some ⟨bm, 0, none⟩), .pointer (some ⟨bt, 0, none⟩), .pointer (some ⟨bd, 0, none⟩), .pointer (some ⟨by_, 0, none⟩)] W fun e W' => ∃ bb : Bool, e = .returned (.bool bb) ∧ EndB b0 J Jx pre (segD down t.right.list (from_ - mid - 1) (to_ - mid - 1)) W bb W' := by
  have HB := Lib.hid (below_drew (Below.refl W.heap.size W))
  have HC := Lib.hid (IH (from_ - mid - 1) (to_ - mid - 1) pr pre W.drew (hT.below HB.out) (hA _ _ _ hJ HB.out) hb0 (by omega) (by omega) (by omega) (by omega) hl)
  clear IH hT hJ hl hA
  have h3 : (from_ - mid - 1 < 0) = False := _root_.eq_false (by omega)
  have e1 : IntKind.i64.wrap (from_ - mid) = from_ - mid := IntWalk.i64_in _ (by omega)
  have e2 : IntKind.i64.wrap (from_ - mid - 1) = from_ - mid - 1 := IntWalk.i64_in _ (by omega)
  have e3 : IntKind.i64.wrap (to_ - mid) = to_ - mid := IntWalk.i64_in _ (by omega)
  have e4 : IntKind.i64.wrap (to_ - mid - 1) = to_ - mid - 1 := IntWalk.i64_in _ (by omega)
  have f1 : wrap64 (from_ - mid) = from_ - mid := by rw [← i64_w]; exact e1
  have f2 : wrap64 (from_ - mid - 1) = from_ - mid - 1 := by rw [← i64_w]; exact e2
  have f3 : wrap64 (to_ - mid) = to_ - mid := by rw [← i64_w]; exact e3
  have f4 : wrap64 (to_ - mid - 1) = to_ - mid - 1 := by rw [← i64_w]; exact e4
  go_enter Try.func74, Try.ntmps74
  go_wp2_with fail
  have xm := blk1 (blk_drew hm)
  have xf := blk1 (blk_drew hf)
  have xt := blk1 (blk_drew ht)
  have xd := blk1 (blk_drew hd)
  have xy := blk1 (blk_drew hy)
  have xn := blk1 (blk_drew hn)
  have xg := blkc (blk_drew hg)
  clear hm hf ht hd hy hn hg
  refine start_ (n := 17) (S := fun w' => (w'.cell? ⟨bm, 0, none⟩ = some (.int .i64 mid)) ∧ (w'.cell? ⟨bf, 0, none⟩ = some (.int .i64 from_)) ∧ (w'.cell? ⟨bt, 0, none⟩ = some (.int .i64 to_)) ∧ (w'.cell? ⟨bd, 0, none⟩ = some (.bool down)) ∧ (w'.cell? ⟨by_, 0, none⟩ = some (.func (.yield l) #[] #[])) ∧ (w'.cell? ⟨bn, 0, none⟩ = some (.pointer (some ⟨gn, 0, none⟩))) ∧ (∀ o, w'.cell? ⟨gn, o, none⟩ = #[Value.string t.key, .string t.row.key, .string t.row.value, .int .i64 t.row.version, .pointer pl, .pointer pr, .int .i64 t.high, .int .i64 t.count][o]?)) (ds := [15]) #[false, false, false, false, false, false, false, false, false, false, false, false, false, false, false, false, false] (by kernel_rfl) rfl rfl ⟨xm, xf, xt, xd, xy, xn, xg⟩ (fun hHeld => ?_)
  refine take_ (i := 0) (N := some 7) (v := ?_) (a' := ?_) #[true, false, false, false, false, false, false, false, false, false, false, false, false, false, false, false, false] rfl rfl (by kernel_rfl) (fun _ _ _ h => h) (Or.inl ⟨by rfl, ?_⟩) hHeld ?_ ?_
  rotate_left
  · rintro w' ⟨s0, s1, s2, s3, s4, s5, s6⟩
    go_simp
    with_reducible rfl
  rotate_left
  · simp only [Act.put, List.setIfInBounds_toArray, List.set_cons_zero, List.set_cons_succ, i64_w, i32_w]
    rfl
  refine pure_ (i := 1) (N := some 8) (v := ?_) (a' := ?_) #[true, true, false, false, false, false, false, false, false, false, false, false, false, false, false, false, false] rfl rfl (by kernel_rfl) (fun _ _ _ h => h) (Or.inl ⟨by rfl, ?_⟩) ?_ ?_
  rotate_left
  · intro w'
    go_simp
    with_reducible rfl
  rotate_left
  · simp only [Act.put, List.setIfInBounds_toArray, List.set_cons_zero, List.set_cons_succ, i64_w, i32_w]
    rfl
  refine pure_ (i := 2) (N := some 9) (v := ?_) (a' := ?_) #[true, true, true, false, false, false, false, false, false, false, false, false, false, false, false, false, false] rfl rfl (by kernel_rfl) (fun _ _ _ h => h) (Or.inl ⟨by rfl, ?_⟩) ?_ ?_
  rotate_left
  · intro w'
    go_simp
    with_reducible rfl
  rotate_left
  · simp only [Act.put, List.setIfInBounds_toArray, List.set_cons_zero, List.set_cons_succ, i64_w, i32_w]
    rfl
  refine take_ (i := 3) (N := some 10) (v := ?_) (a' := ?_) #[true, true, true, true, false, false, false, false, false, false, false, false, false, false, false, false, false] rfl rfl (by kernel_rfl) (fun _ _ _ h => h) (Or.inl ⟨by rfl, ?_⟩) hHeld ?_ ?_
  rotate_left
  · rintro w' ⟨s0, s1, s2, s3, s4, s5, s6⟩
    go_simp
    with_reducible rfl
  rotate_left
  · simp only [Act.put, List.setIfInBounds_toArray, List.set_cons_zero, List.set_cons_succ, i64_w, i32_w]
    rfl
  refine take_ (i := 4) (N := some 11) (v := ?_) (a' := ?_) #[true, true, true, true, true, false, false, false, false, false, false, false, false, false, false, false, false] rfl rfl (by kernel_rfl) (fun _ _ _ h => h) (Or.inl ⟨by rfl, ?_⟩) hHeld ?_ ?_
  rotate_left
  · rintro w' ⟨s0, s1, s2, s3, s4, s5, s6⟩
    go_simp
    with_reducible rfl
  rotate_left
  · simp only [Act.put, List.setIfInBounds_toArray, List.set_cons_zero, List.set_cons_succ, i64_w, i32_w]
    rfl
  refine take_ (i := 5) (N := some 12) (v := ?_) (a' := ?_) #[true, true, true, true, true, true, false, false, false, false, false, false, false, false, false, false, false] rfl rfl (by kernel_rfl) (fun _ _ _ h => h) (Or.inl ⟨by rfl, ?_⟩) hHeld ?_ ?_
  rotate_left
  · rintro w' ⟨s0, s1, s2, s3, s4, s5, s6⟩
    go_simp
    with_reducible rfl
  rotate_left
  · simp only [Act.put, List.setIfInBounds_toArray, List.set_cons_zero, List.set_cons_succ, i64_w, i32_w]
    rfl
  refine pure_ (i := 6) (N := some 13) (v := ?_) (a' := ?_) #[true, true, true, true, true, true, true, false, false, false, false, false, false, false, false, false, false] rfl rfl (by kernel_rfl) (fun _ _ _ h => h) (Or.inl ⟨by rfl, ?_⟩) ?_ ?_
  rotate_left
  · intro w'
    go_simp
    with_reducible rfl
  rotate_left
  · simp only [Act.put, List.setIfInBounds_toArray, List.set_cons_zero, List.set_cons_succ, i64_w, i32_w]
    rfl
  refine pure_ (i := 7) (N := some 14) (v := ?_) (a' := ?_) #[true, true, true, true, true, true, true, true, false, false, false, false, false, false, false, false, false] rfl rfl (by kernel_rfl) (fun _ _ _ h => h) (Or.inl ⟨by rfl, ?_⟩) ?_ ?_
  rotate_left
  · intro w'
    go_simp
    with_reducible rfl
  rotate_left
  · simp only [Act.put, List.setIfInBounds_toArray, List.set_cons_zero, List.set_cons_succ, i64_w, i32_w]
    rfl
  refine pure_ (i := 8) (N := some 15) (v := ?_) (a' := ?_) #[true, true, true, true, true, true, true, true, true, false, false, false, false, false, false, false, false] rfl rfl (by kernel_rfl) (fun _ _ _ h => h) (Or.inl ⟨by rfl, ?_⟩) ?_ ?_
  rotate_left
  · intro w'
    go_simp
    with_reducible rfl
  rotate_left
  · simp only [Act.put, List.setIfInBounds_toArray, List.set_cons_zero, List.set_cons_succ, i64_w, i32_w]
    rfl
  refine take_ (i := 9) (N := some 16) (v := ?_) (a' := ?_) #[true, true, true, true, true, true, true, true, true, true, false, false, false, false, false, false, false] rfl rfl (by kernel_rfl) (fun _ _ _ h => h) (Or.inl ⟨by rfl, ?_⟩) hHeld ?_ ?_
  rotate_left
  · rintro w' ⟨s0, s1, s2, s3, s4, s5, s6⟩
    go_simp
    with_reducible rfl
  rotate_left
  · simp only [Act.put, List.setIfInBounds_toArray, List.set_cons_zero, List.set_cons_succ, i64_w, i32_w]
    rfl
  refine take_ (i := 10) (N := some 17) (v := ?_) (a' := ?_) #[true, true, true, true, true, true, true, true, true, true, true, false, false, false, false, false, false] rfl rfl (by kernel_rfl) (fun _ _ _ h => h) (Or.inl ⟨by rfl, ?_⟩) hHeld ?_ ?_
  rotate_left
  · rintro w' ⟨s0, s1, s2, s3, s4, s5, s6⟩
    go_simp
    with_reducible rfl
  rotate_left
  · simp only [Act.put, List.setIfInBounds_toArray, List.set_cons_zero, List.set_cons_succ, i64_w, i32_w]
    rfl
  refine pure_ (i := 11) (N := some 18) (v := ?_) (a' := ?_) #[true, true, true, true, true, true, true, true, true, true, true, true, false, false, false, false, false] rfl rfl (by kernel_rfl) (fun _ _ _ h => h) (Or.inl ⟨by rfl, ?_⟩) ?_ ?_
  rotate_left
  · intro w'
    go_simp
    with_reducible rfl
  rotate_left
  · simp only [Act.put, List.setIfInBounds_toArray, List.set_cons_zero, List.set_cons_succ, i64_w, i32_w]
    rfl
  refine pure_ (i := 12) (N := some 19) (v := ?_) (a' := ?_) #[true, true, true, true, true, true, true, true, true, true, true, true, true, false, false, false, false] rfl rfl (by kernel_rfl) (fun _ _ _ h => h) (Or.inl ⟨by rfl, ?_⟩) ?_ ?_
  rotate_left
  · intro w'
    go_simp
    with_reducible rfl
  rotate_left
  · simp only [Act.put, List.setIfInBounds_toArray, List.set_cons_zero, List.set_cons_succ, i64_w, i32_w]
    rfl
  refine take_ (i := 13) (N := some 20) (v := ?_) (a' := ?_) #[true, true, true, true, true, true, true, true, true, true, true, true, true, true, false, false, false] rfl rfl (by kernel_rfl) (fun _ _ _ h => h) (Or.inl ⟨by rfl, ?_⟩) hHeld ?_ ?_
  rotate_left
  · rintro w' ⟨s0, s1, s2, s3, s4, s5, s6⟩
    go_simp
    with_reducible rfl
  rotate_left
  · simp only [Act.put, List.setIfInBounds_toArray, List.set_cons_zero, List.set_cons_succ, i64_w, i32_w]
    rfl
  refine take_ (i := 14) (N := some 21) (v := ?_) (a' := ?_) #[true, true, true, true, true, true, true, true, true, true, true, true, true, true, true, false, false] rfl rfl (by kernel_rfl) (fun _ _ _ h => h) (Or.inl ⟨by rfl, ?_⟩) hHeld ?_ ?_
  rotate_left
  · rintro w' ⟨s0, s1, s2, s3, s4, s5, s6⟩
    go_simp
    with_reducible rfl
  rotate_left
  · simp only [Act.put, List.setIfInBounds_toArray, List.set_cons_zero, List.set_cons_succ, i64_w, i32_w]
    rfl
  refine last_ (i := 15) (N := some 22) #[true, true, true, true, true, true, true, true, true, true, true, true, true, true, true, true, false] rfl rfl (by kernel_rfl) (by decide) (fun K hK => ?_)
  refine goes_ Try.func69 (by kernel_rfl) rfl #[.pointer pr, .int .i64 (from_ - mid - 1), .int .i64 (to_ - mid - 1), .bool down, .func (.yield l) #[] #[]] (by rfl) rfl rfl (by simp only [List.map_toArray, List.map_cons, List.map_nil]; rfl) ?_
  with_reducible refine (HC.out).mono ?_
  rintro e w1 ⟨bb, rfl, HE⟩
  refine ⟨_, rfl, ?_⟩
  refine hK.out _ _ ?_
  clear hK K
  refine norm_ (a' := ?_) ?_ ?_
  rotate_left
  · show Act.put _ (some 22) _ = _
    simp only [Act.put, List.setIfInBounds_toArray, List.set_cons_zero, List.set_cons_succ, i64_w, i32_w]
    rfl
  refine pure_ (i := 16) (N := some 6) (v := ?_) (a' := ?_) #[true, true, true, true, true, true, true, true, true, true, true, true, true, true, true, true, true] rfl rfl (by kernel_rfl) (fun _ _ _ h => h) (Or.inl ⟨by rfl, ?_⟩) ?_ ?_
  rotate_left
  · intro w'
    go_simp
    with_reducible rfl
  rotate_left
  · simp only [Act.put, List.setIfInBounds_toArray, List.set_cons_zero, List.set_cons_succ, i64_w, i32_w]
    rfl
  refine done_ (by kernel_rfl) ?_
  go_wp2
  go_ret
  exact ⟨bb, rfl, HE.before HB.out⟩
set_option maxHeartbeats 800000 in
set_option maxRecDepth 100000 in
theorem behind_n {l b0 N : Nat} {J Jx : List Row → World → Prop} (hA : Abide J) {W : World} {t : T} {pl pr : Option Addr} {bm bf bt bd by_ bn gn : Nat} {mid from_ to_ : Int} {down : Bool}
    (hm : W.heap[bm]? = some (bx (.int .i64 mid) tI)) (hf : W.heap[bf]? = some (bx (.int .i64 from_) tI)) (ht : W.heap[bt]? = some (bx (.int .i64 to_) tI)) (hd : W.heap[bd]? = some (bx (.bool down) tB)) (hy : W.heap[by_]? = some (bx (.func (.yield l) #[] #[]) tY)) (hn : W.heap[bn]? = some (bx (.pointer (some ⟨gn, 0, none⟩)) tPN)) (hg : W.heap[gn]? = some (nodeC t pl pr))
    (hb0 : b0 ≤ W.heap.size) (pre : List Row) (hJ : J pre W) (hm0 : 0 ≤ mid) (hm1 : mid ≤ 1099511627776) (hf0 : 0 ≤ from_) (hf1 : from_ ≤ 1152921504606846976) (ht0 : 0 < to_) (ht1 : to_ ≤ 1152921504606846976) (hT : TR W t.right pr) (IH : EachP l b0 N J Jx down t.right) (hl : pre.length + (segD down t.right.list 0 (to_ - mid - 1)).length ≤ N) (h : ¬ 0 ≤ from_ - mid - 1) :
    Calls Try.prog 74 #[.pointer (some ⟨bn, 0, none⟩), .pointer (some ⟨bf, 0, none⟩), .pointer (some ⟨bm, 0, none⟩), .pointer (some ⟨bt, 0, none⟩), .pointer (some ⟨bd, 0, none⟩), .pointer (some ⟨by_, 0, none⟩)] W fun e W' => ∃ bb : Bool, e = .returned (.bool bb) ∧ EndB b0 J Jx pre (segD down t.right.list 0 (to_ - mid - 1)) W bb W' := by
  have HB := Lib.hid (below_drew (Below.refl W.heap.size W))
  have HC := Lib.hid (IH 0 (to_ - mid - 1) pr pre W.drew (hT.below HB.out) (hA _ _ _ hJ HB.out) hb0 (by omega) (by omega) (by omega) (by omega) hl)
  clear IH hT hJ hl hA
  have h3 : from_ - mid - 1 < 0 := by omega
  have e1 : IntKind.i64.wrap (from_ - mid) = from_ - mid := IntWalk.i64_in _ (by omega)
  have e2 : IntKind.i64.wrap (from_ - mid - 1) = from_ - mid - 1 := IntWalk.i64_in _ (by omega)
  have e3 : IntKind.i64.wrap (to_ - mid) = to_ - mid := IntWalk.i64_in _ (by omega)
  have e4 : IntKind.i64.wrap (to_ - mid - 1) = to_ - mid - 1 := IntWalk.i64_in _ (by omega)
  have f1 : wrap64 (from_ - mid) = from_ - mid := by rw [← i64_w]; exact e1
  have f2 : wrap64 (from_ - mid - 1) = from_ - mid - 1 := by rw [← i64_w]; exact e2
  have f3 : wrap64 (to_ - mid) = to_ - mid := by rw [← i64_w]; exact e3
  have f4 : wrap64 (to_ - mid - 1) = to_ - mid - 1 := by rw [← i64_w]; exact e4
  go_enter Try.func74, Try.ntmps74
  go_wp2_with fail
  have xm := blk1 (blk_drew hm)
  have xf := blk1 (blk_drew hf)
  have xt := blk1 (blk_drew ht)
  have xd := blk1 (blk_drew hd)
  have xy := blk1 (blk_drew hy)
  have xn := blk1 (blk_drew hn)
  have xg := blkc (blk_drew hg)
  clear hm hf ht hd hy hn hg
  refine start_ (n := 17) (S := fun w' => (w'.cell? ⟨bm, 0, none⟩ = some (.int .i64 mid)) ∧ (w'.cell? ⟨bf, 0, none⟩ = some (.int .i64 from_)) ∧ (w'.cell? ⟨bt, 0, none⟩ = some (.int .i64 to_)) ∧ (w'.cell? ⟨bd, 0, none⟩ = some (.bool down)) ∧ (w'.cell? ⟨by_, 0, none⟩ = some (.func (.yield l) #[] #[])) ∧ (w'.cell? ⟨bn, 0, none⟩ = some (.pointer (some ⟨gn, 0, none⟩))) ∧ (∀ o, w'.cell? ⟨gn, o, none⟩ = #[Value.string t.key, .string t.row.key, .string t.row.value, .int .i64 t.row.version, .pointer pl, .pointer pr, .int .i64 t.high, .int .i64 t.count][o]?)) (ds := [15]) #[false, false, false, false, false, false, false, false, false, false, false, false, false, false, false, false, false] (by kernel_rfl) rfl rfl ⟨xm, xf, xt, xd, xy, xn, xg⟩ (fun hHeld => ?_)
  refine take_ (i := 0) (N := some 7) (v := ?_) (a' := ?_) #[true, false, false, false, false, false, false, false, false, false, false, false, false, false, false, false, false] rfl rfl (by kernel_rfl) (fun _ _ _ h => h) (Or.inl ⟨by rfl, ?_⟩) hHeld ?_ ?_
  rotate_left
  · rintro w' ⟨s0, s1, s2, s3, s4, s5, s6⟩
    go_simp
    with_reducible rfl
  rotate_left
  · simp only [Act.put, List.setIfInBounds_toArray, List.set_cons_zero, List.set_cons_succ, i64_w, i32_w]
    rfl
  refine pure_ (i := 1) (N := some 8) (v := ?_) (a' := ?_) #[true, true, false, false, false, false, false, false, false, false, false, false, false, false, false, false, false] rfl rfl (by kernel_rfl) (fun _ _ _ h => h) (Or.inl ⟨by rfl, ?_⟩) ?_ ?_
  rotate_left
  · intro w'
    go_simp
    with_reducible rfl
  rotate_left
  · simp only [Act.put, List.setIfInBounds_toArray, List.set_cons_zero, List.set_cons_succ, i64_w, i32_w]
    rfl
  refine pure_ (i := 2) (N := some 9) (v := ?_) (a' := ?_) #[true, true, true, false, false, false, false, false, false, false, false, false, false, false, false, false, false] rfl rfl (by kernel_rfl) (fun _ _ _ h => h) (Or.inl ⟨by rfl, ?_⟩) ?_ ?_
  rotate_left
  · intro w'
    go_simp
    with_reducible rfl
  rotate_left
  · simp only [Act.put, List.setIfInBounds_toArray, List.set_cons_zero, List.set_cons_succ, i64_w, i32_w]
    rfl
  refine take_ (i := 3) (N := some 10) (v := ?_) (a' := ?_) #[true, true, true, true, false, false, false, false, false, false, false, false, false, false, false, false, false] rfl rfl (by kernel_rfl) (fun _ _ _ h => h) (Or.inl ⟨by rfl, ?_⟩) hHeld ?_ ?_
  rotate_left
  · rintro w' ⟨s0, s1, s2, s3, s4, s5, s6⟩
    go_simp
    with_reducible rfl
  rotate_left
  · simp only [Act.put, List.setIfInBounds_toArray, List.set_cons_zero, List.set_cons_succ, i64_w, i32_w]
    rfl
  refine take_ (i := 4) (N := some 11) (v := ?_) (a' := ?_) #[true, true, true, true, true, false, false, false, false, false, false, false, false, false, false, false, false] rfl rfl (by kernel_rfl) (fun _ _ _ h => h) (Or.inl ⟨by rfl, ?_⟩) hHeld ?_ ?_
  rotate_left
  · rintro w' ⟨s0, s1, s2, s3, s4, s5, s6⟩
    go_simp
    with_reducible rfl
  rotate_left
  · simp only [Act.put, List.setIfInBounds_toArray, List.set_cons_zero, List.set_cons_succ, i64_w, i32_w]
    rfl
  refine take_ (i := 5) (N := some 12) (v := ?_) (a' := ?_) #[true, true, true, true, true, true, false, false, false, false, false, false, false, false, false, false, false] rfl rfl (by kernel_rfl) (fun _ _ _ h => h) (Or.inl ⟨by rfl, ?_⟩) hHeld ?_ ?_
  rotate_left
  · rintro w' ⟨s0, s1, s2, s3, s4, s5, s6⟩
    go_simp
    with_reducible rfl
  rotate_left
  · simp only [Act.put, List.setIfInBounds_toArray, List.set_cons_zero, List.set_cons_succ, i64_w, i32_w]
    rfl
  refine pure_ (i := 6) (N := some 13) (v := ?_) (a' := ?_) #[true, true, true, true, true, true, true, false, false, false, false, false, false, false, false, false, false] rfl rfl (by kernel_rfl) (fun _ _ _ h => h) (Or.inl ⟨by rfl, ?_⟩) ?_ ?_
  rotate_left
  · intro w'
    go_simp
    with_reducible rfl
  rotate_left
  · simp only [Act.put, List.setIfInBounds_toArray, List.set_cons_zero, List.set_cons_succ, i64_w, i32_w]
    rfl
  refine pure_ (i := 7) (N := some 14) (v := ?_) (a' := ?_) #[true, true, true, true, true, true, true, true, false, false, false, false, false, false, false, false, false] rfl rfl (by kernel_rfl) (fun _ _ _ h => h) (Or.inl ⟨by rfl, ?_⟩) ?_ ?_
  rotate_left
  · intro w'
    go_simp
    with_reducible rfl
  rotate_left
  · simp only [Act.put, List.setIfInBounds_toArray, List.set_cons_zero, List.set_cons_succ, i64_w, i32_w]
    rfl
  refine pure_ (i := 8) (N := some 15) (v := ?_) (a' := ?_) #[true, true, true, true, true, true, true, true, true, false, false, false, false, false, false, false, false] rfl rfl (by kernel_rfl) (fun _ _ _ h => h) (Or.inl ⟨by rfl, ?_⟩) ?_ ?_
  rotate_left
  · intro w'
    go_simp
    with_reducible rfl
  rotate_left
  · simp only [Act.put, List.setIfInBounds_toArray, List.set_cons_zero, List.set_cons_succ, i64_w, i32_w]
    rfl
  refine take_ (i := 9) (N := some 16) (v := ?_) (a' := ?_) #[true, true, true, true, true, true, true, true, true, true, false, false, false, false, false, false, false] rfl rfl (by kernel_rfl) (fun _ _ _ h => h) (Or.inl ⟨by rfl, ?_⟩) hHeld ?_ ?_
  rotate_left
  · rintro w' ⟨s0, s1, s2, s3, s4, s5, s6⟩
    go_simp
    with_reducible rfl
  rotate_left
  · simp only [Act.put, List.setIfInBounds_toArray, List.set_cons_zero, List.set_cons_succ, i64_w, i32_w]
    rfl
  refine take_ (i := 10) (N := some 17) (v := ?_) (a' := ?_) #[true, true, true, true, true, true, true, true, true, true, true, false, false, false, false, false, false] rfl rfl (by kernel_rfl) (fun _ _ _ h => h) (Or.inl ⟨by rfl, ?_⟩) hHeld ?_ ?_
  rotate_left
  · rintro w' ⟨s0, s1, s2, s3, s4, s5, s6⟩
    go_simp
    with_reducible rfl
  rotate_left
  · simp only [Act.put, List.setIfInBounds_toArray, List.set_cons_zero, List.set_cons_succ, i64_w, i32_w]
    rfl
  refine pure_ (i := 11) (N := some 18) (v := ?_) (a' := ?_) #[true, true, true, true, true, true, true, true, true, true, true, true, false, false, false, false, false] rfl rfl (by kernel_rfl) (fun _ _ _ h => h) (Or.inl ⟨by rfl, ?_⟩) ?_ ?_
  rotate_left
  · intro w'
    go_simp
    with_reducible rfl
  rotate_left
  · simp only [Act.put, List.setIfInBounds_toArray, List.set_cons_zero, List.set_cons_succ, i64_w, i32_w]
    rfl
  refine pure_ (i := 12) (N := some 19) (v := ?_) (a' := ?_) #[true, true, true, true, true, true, true, true, true, true, true, true, true, false, false, false, false] rfl rfl (by kernel_rfl) (fun _ _ _ h => h) (Or.inl ⟨by rfl, ?_⟩) ?_ ?_
  rotate_left
  · intro w'
    go_simp
    with_reducible rfl
  rotate_left
  · simp only [Act.put, List.setIfInBounds_toArray, List.set_cons_zero, List.set_cons_succ, i64_w, i32_w]
    rfl
  refine take_ (i := 13) (N := some 20) (v := ?_) (a' := ?_) #[true, true, true, true, true, true, true, true, true, true, true, true, true, true, false, false, false] rfl rfl (by kernel_rfl) (fun _ _ _ h => h) (Or.inl ⟨by rfl, ?_⟩) hHeld ?_ ?_
  rotate_left
  · rintro w' ⟨s0, s1, s2, s3, s4, s5, s6⟩
    go_simp
    with_reducible rfl
  rotate_left
  · simp only [Act.put, List.setIfInBounds_toArray, List.set_cons_zero, List.set_cons_succ, i64_w, i32_w]
    rfl
  refine take_ (i := 14) (N := some 21) (v := ?_) (a' := ?_) #[true, true, true, true, true, true, true, true, true, true, true, true, true, true, true, false, false] rfl rfl (by kernel_rfl) (fun _ _ _ h => h) (Or.inl ⟨by rfl, ?_⟩) hHeld ?_ ?_
  rotate_left
  · rintro w' ⟨s0, s1, s2, s3, s4, s5, s6⟩
    go_simp
    with_reducible rfl
  rotate_left
  · simp only [Act.put, List.setIfInBounds_toArray, List.set_cons_zero, List.set_cons_succ, i64_w, i32_w]
    rfl
  refine last_ (i := 15) (N := some 22) #[true, true, true, true, true, true, true, true, true, true, true, true, true, true, true, true, false] rfl rfl (by kernel_rfl) (by decide) (fun K hK => ?_)
  refine goes_ Try.func69 (by kernel_rfl) rfl #[.pointer pr, .int .i64 0, .int .i64 (to_ - mid - 1), .bool down, .func (.yield l) #[] #[]] (by rfl) rfl rfl (by simp only [List.map_toArray, List.map_cons, List.map_nil]; rfl) ?_
  with_reducible refine (HC.out).mono ?_
  rintro e w1 ⟨bb, rfl, HE⟩
  refine ⟨_, rfl, ?_⟩
  refine hK.out _ _ ?_
  clear hK K
  refine norm_ (a' := ?_) ?_ ?_
  rotate_left
  · show Act.put _ (some 22) _ = _
    simp only [Act.put, List.setIfInBounds_toArray, List.set_cons_zero, List.set_cons_succ, i64_w, i32_w]
    rfl
  refine pure_ (i := 16) (N := some 6) (v := ?_) (a' := ?_) #[true, true, true, true, true, true, true, true, true, true, true, true, true, true, true, true, true] rfl rfl (by kernel_rfl) (fun _ _ _ h => h) (Or.inl ⟨by rfl, ?_⟩) ?_ ?_
  rotate_left
  · intro w'
    go_simp
    with_reducible rfl
  rotate_left
  · simp only [Act.put, List.setIfInBounds_toArray, List.set_cons_zero, List.set_cons_succ, i64_w, i32_w]
    rfl
  refine done_ (by kernel_rfl) ?_
  go_wp2
  go_ret
  exact ⟨bb, rfl, HE.before HB.out⟩
def callVal (v : Value) (args : Array Value) : Sem Next := do let d ← Deferred.ofValue v args; invoke d.target d.args
theorem callVal_func (f : FuncId) (first caps args : Array Value) : callVal (.func (.func f) first caps) args = callFunc f (first ++ args ++ caps) := rfl
theorem execOp_call_tmp (a : Act) (dst : Option Tmp) (t : Tmp) (xs : Array Operand) (ats : Array TypeId) (ty : TypeId) (pos : String) (after : Array Edge) (guard : Option (Nat × Bool)) :
    execOp a.eval { dst, op := .call { callee := .value (.tmp t), args := xs, argTypes := ats }, type := ty, pos, after, guard } = callVal (a.eval (.tmp t)) (xs.map a.eval) := rfl
attribute [local go_sem ↓] execOp_call_tmp
attribute [local go_sem] callVal_func
theorem boxes5 (W : World) (o0 o1 o2 o3 o4 : Obj) {W5 : World} (e : W5 = ((((W.alloc o0).alloc o1).alloc o2).alloc o3).alloc o4) :
    W5.heap[W.heap.size]? = some o0 ∧ W5.heap[W.heap.size + 1]? = some o1 ∧ W5.heap[W.heap.size + 2]? = some o2 ∧ W5.heap[W.heap.size + 3]? = some o3 ∧ W5.heap[W.heap.size + 4]? = some o4 ∧ Below W.heap.size W W5 ∧ W5.heap.size = W.heap.size + 5 := by
  subst e
  have s0 := blk_new W o0
  have s1 := blk_new (W.alloc o0) o1
  have s2 := blk_new ((W.alloc o0).alloc o1) o2
  have s3 := blk_new (((W.alloc o0).alloc o1).alloc o2) o3
  have s4 := blk_new ((((W.alloc o0).alloc o1).alloc o2).alloc o3) o4
  have k (X : World) (o : Obj) : Below X.heap.size X (X.alloc o) := below_alloc (Below.refl _ _) o
  refine ⟨blk_below (blk_below (blk_below (blk_below s0 (k _ o1)) (k _ o2)) (k _ o3)) (k _ o4), ?_, ?_, ?_, ?_, below_alloc (below_alloc (below_alloc (below_alloc (below_alloc (Below.refl _ _) o0) o1) o2) o3) o4, by simp⟩
  · have := blk_below (blk_below (blk_below s1 (k _ o2)) (k _ o3)) (k _ o4)
    simpa using this
  · have := blk_below (blk_below s2 (k _ o3)) (k _ o4)
    simpa using this
  · have := blk_below s3 (k _ o4)
    simpa using this
  · simpa using s4
set_option maxRecDepth 100000 in
theorem each_nil {l b0 : Nat} {J Jx : List Row → World → Prop} (hA : Abide J) {down : Bool} {W : World} (a b : Int) {t : T} {pl pr : Option Addr} {g : Nat} (pre : List Row) (hJ : J pre W) :
    Calls Try.prog 69 #[.pointer none, .int .i64 a, .int .i64 b, .bool down, .func (.yield l) #[] #[]] W fun e W' => ∃ bb : Bool, e = .returned (.bool bb) ∧ EndB b0 J Jx pre [] W bb W' := by
  have hbx := boxes5 W (bx (.pointer none) tPN) (bx (.int .i64 a) tI) (bx (.int .i64 b) tI) (bx (.bool down) tB) (bx (.func (.yield l) #[] #[]) tY) rfl
  obtain ⟨x0, x1, x2, x3, x4, hb5, hs5⟩ := hbx
  have X0 := Lib.hid (blk_drew x0)
  have X1 := Lib.hid (blk_drew x1)
  have X2 := Lib.hid (blk_drew x2)
  have B5 := Lib.hid hb5.drew
  clear x0 x1 x2 x3 x4 hb5 hs5
  go_enter Try.func69, Try.ntmps69
  go_wp2_with fail
  have HJ := Lib.hid (hA _ _ _ hJ B5.out)
  generalize (World.alloc _ _) = W5 at *
  clear hJ hA
  refine start_ (n := 19) (S := fun w' => (w'.cell? ⟨W.heap.size, 0, none⟩ = some (.pointer none)) ∧ (w'.cell? ⟨(W.heap.size + 1), 0, none⟩ = some (.int .i64 a)) ∧ (w'.cell? ⟨(W.heap.size + 2), 0, none⟩ = some (.int .i64 b))) (ds := []) #[false, false, false, false, false, false, false, false, false, false, false, false, false, false, false, false, false, false, false] (by kernel_rfl) rfl rfl ⟨(blk1 X0.out), (blk1 X1.out), (blk1 X2.out)⟩ (fun hHeld => ?_)
  refine take_ (i := 0) (N := some 15) (v := ?_) (a' := ?_) #[true, false, false, false, false, false, false, false, false, false, false, false, false, false, false, false, false, false, false] rfl rfl (by kernel_rfl) (fun _ _ _ h => h) (Or.inl ⟨by rfl, ?_⟩) hHeld ?_ ?_
  rotate_left
  · rintro w' ⟨s0, s1, s2⟩
    go_simp
    with_reducible rfl
  rotate_left
  · simp only [Act.put, List.setIfInBounds_toArray, List.set_cons_zero, List.set_cons_succ, i64_w, i32_w]
    rfl
  refine pure_ (i := 1) (N := some 16) (v := ?_) (a' := ?_) #[true, true, false, false, false, false, false, false, false, false, false, false, false, false, false, false, false, false, false] rfl rfl (by kernel_rfl) (fun _ _ _ h => h) (Or.inl ⟨by rfl, ?_⟩) ?_ ?_
  rotate_left
  · intro w'
    go_simp
    with_reducible rfl
  rotate_left
  · simp only [Act.put, List.setIfInBounds_toArray, List.set_cons_zero, List.set_cons_succ, i64_w, i32_w]
    rfl
  refine pure_ (i := 2) (N := some 17) (v := ?_) (a' := ?_) #[true, true, true, false, false, false, false, false, false, false, false, false, false, false, false, false, false, false, false] rfl rfl (by kernel_rfl) (fun _ _ _ h => h) (Or.inl ⟨by rfl, ?_⟩) ?_ ?_
  rotate_left
  · intro w'
    go_simp
    with_reducible rfl
  rotate_left
  · simp only [Act.put, List.setIfInBounds_toArray, List.set_cons_zero, List.set_cons_succ, i64_w, i32_w]
    rfl
  refine pure_ (i := 3) (N := some 18) (v := undef) (a' := ?_) #[true, true, true, true, false, false, false, false, false, false, false, false, false, false, false, false, false, false, false] rfl rfl (by kernel_rfl) (fun _ _ _ h => h) (Or.inr ⟨by rfl, rfl⟩) ?_ ?_
  rotate_left
  · simp only [Act.put, List.setIfInBounds_toArray, List.set_cons_zero, List.set_cons_succ, i64_w, i32_w]
    rfl
  refine pure_ (i := 4) (N := some 19) (v := undef) (a' := ?_) #[true, true, true, true, true, false, false, false, false, false, false, false, false, false, false, false, false, false, false] rfl rfl (by kernel_rfl) (fun _ _ _ h => h) (Or.inr ⟨by rfl, rfl⟩) ?_ ?_
  rotate_left
  · simp only [Act.put, List.setIfInBounds_toArray, List.set_cons_zero, List.set_cons_succ, i64_w, i32_w]
    rfl
  refine pure_ (i := 5) (N := some 20) (v := undef) (a' := ?_) #[true, true, true, true, true, true, false, false, false, false, false, false, false, false, false, false, false, false, false] rfl rfl (by kernel_rfl) (fun _ _ _ h => h) (Or.inr ⟨by rfl, rfl⟩) ?_ ?_
  rotate_left
  · simp only [Act.put, List.setIfInBounds_toArray, List.set_cons_zero, List.set_cons_succ, i64_w, i32_w]
    rfl
  refine pure_ (i := 6) (N := some 21) (v := ?_) (a' := ?_) #[true, true, true, true, true, true, true, false, false, false, false, false, false, false, false, false, false, false, false] rfl rfl (by kernel_rfl) (fun _ _ _ h => h) (Or.inl ⟨by rfl, ?_⟩) ?_ ?_
  rotate_left
  · intro w'
    go_simp
    with_reducible rfl
  rotate_left
  · simp only [Act.put, List.setIfInBounds_toArray, List.set_cons_zero, List.set_cons_succ, i64_w, i32_w]
    rfl
  refine pure_ (i := 7) (N := some 22) (v := ?_) (a' := ?_) #[true, true, true, true, true, true, true, true, false, false, false, false, false, false, false, false, false, false, false] rfl rfl (by kernel_rfl) (fun _ _ _ h => h) (Or.inl ⟨by rfl, ?_⟩) ?_ ?_
  rotate_left
  · intro w'
    go_simp
    with_reducible rfl
  rotate_left
  · simp only [Act.put, List.setIfInBounds_toArray, List.set_cons_zero, List.set_cons_succ, i64_w, i32_w]
    rfl
  refine pure_ (i := 8) (N := some 23) (v := undef) (a' := ?_) #[true, true, true, true, true, true, true, true, true, false, false, false, false, false, false, false, false, false, false] rfl rfl (by kernel_rfl) (fun _ _ _ h => h) (Or.inr ⟨by rfl, rfl⟩) ?_ ?_
  rotate_left
  · simp only [Act.put, List.setIfInBounds_toArray, List.set_cons_zero, List.set_cons_succ, i64_w, i32_w]
    rfl
  refine pure_ (i := 9) (N := some 24) (v := undef) (a' := ?_) #[true, true, true, true, true, true, true, true, true, true, false, false, false, false, false, false, false, false, false] rfl rfl (by kernel_rfl) (fun _ _ _ h => h) (Or.inr ⟨by rfl, rfl⟩) ?_ ?_
  rotate_left
  · simp only [Act.put, List.setIfInBounds_toArray, List.set_cons_zero, List.set_cons_succ, i64_w, i32_w]
    rfl
  refine pure_ (i := 10) (N := some 25) (v := ?_) (a' := ?_) #[true, true, true, true, true, true, true, true, true, true, true, false, false, false, false, false, false, false, false] rfl rfl (by kernel_rfl) (fun _ _ _ h => h) (Or.inl ⟨by rfl, ?_⟩) ?_ ?_
  rotate_left
  · intro w'
    go_simp
    with_reducible rfl
  rotate_left
  · simp only [Act.put, List.setIfInBounds_toArray, List.set_cons_zero, List.set_cons_succ, i64_w, i32_w]
    rfl
  refine pure_ (i := 11) (N := some 26) (v := ?_) (a' := ?_) #[true, true, true, true, true, true, true, true, true, true, true, true, false, false, false, false, false, false, false] rfl rfl (by kernel_rfl) (fun _ _ _ h => h) (Or.inl ⟨by rfl, ?_⟩) ?_ ?_
  rotate_left
  · intro w'
    go_simp
    with_reducible rfl
  rotate_left
  · simp only [Act.put, List.setIfInBounds_toArray, List.set_cons_zero, List.set_cons_succ, i64_w, i32_w]
    rfl
  refine pure_ (i := 12) (N := some 27) (v := undef) (a' := ?_) #[true, true, true, true, true, true, true, true, true, true, true, true, true, false, false, false, false, false, false] rfl rfl (by kernel_rfl) (fun _ _ _ h => h) (Or.inr ⟨by rfl, rfl⟩) ?_ ?_
  rotate_left
  · simp only [Act.put, List.setIfInBounds_toArray, List.set_cons_zero, List.set_cons_succ, i64_w, i32_w]
    rfl
  refine pure_ (i := 13) (N := some 28) (v := undef) (a' := ?_) #[true, true, true, true, true, true, true, true, true, true, true, true, true, true, false, false, false, false, false] rfl rfl (by kernel_rfl) (fun _ _ _ h => h) (Or.inr ⟨by rfl, rfl⟩) ?_ ?_
  rotate_left
  · simp only [Act.put, List.setIfInBounds_toArray, List.set_cons_zero, List.set_cons_succ, i64_w, i32_w]
    rfl
  refine pure_ (i := 14) (N := some 29) (v := undef) (a' := ?_) #[true, true, true, true, true, true, true, true, true, true, true, true, true, true, true, false, false, false, false] rfl rfl (by kernel_rfl) (fun _ _ _ h => h) (Or.inr ⟨by rfl, rfl⟩) ?_ ?_
  rotate_left
  · simp only [Act.put, List.setIfInBounds_toArray, List.set_cons_zero, List.set_cons_succ, i64_w, i32_w]
    rfl
  refine pure_ (i := 15) (N := some 30) (v := undef) (a' := ?_) #[true, true, true, true, true, true, true, true, true, true, true, true, true, true, true, true, false, false, false] rfl rfl (by kernel_rfl) (fun _ _ _ h => h) (Or.inr ⟨by rfl, rfl⟩) ?_ ?_
  rotate_left
  · simp only [Act.put, List.setIfInBounds_toArray, List.set_cons_zero, List.set_cons_succ, i64_w, i32_w]
    rfl
  refine pure_ (i := 16) (N := some 31) (v := undef) (a' := ?_) #[true, true, true, true, true, true, true, true, true, true, true, true, true, true, true, true, true, false, false] rfl rfl (by kernel_rfl) (fun _ _ _ h => h) (Or.inr ⟨by rfl, rfl⟩) ?_ ?_
  rotate_left
  · simp only [Act.put, List.setIfInBounds_toArray, List.set_cons_zero, List.set_cons_succ, i64_w, i32_w]
    rfl
  refine pure_ (i := 17) (N := some 32) (v := undef) (a' := ?_) #[true, true, true, true, true, true, true, true, true, true, true, true, true, true, true, true, true, true, false] rfl rfl (by kernel_rfl) (fun _ _ _ h => h) (Or.inr ⟨by rfl, rfl⟩) ?_ ?_
  rotate_left
  · simp only [Act.put, List.setIfInBounds_toArray, List.set_cons_zero, List.set_cons_succ, i64_w, i32_w]
    rfl
  refine pure_ (i := 18) (N := some 33) (v := ?_) (a' := ?_) #[true, true, true, true, true, true, true, true, true, true, true, true, true, true, true, true, true, true, true] rfl rfl (by kernel_rfl) (fun _ _ _ h => h) (Or.inl ⟨by rfl, ?_⟩) ?_ ?_
  rotate_left
  · intro w'
    go_simp
    with_reducible rfl
  rotate_left
  · simp only [Act.put, List.setIfInBounds_toArray, List.set_cons_zero, List.set_cons_succ, i64_w, i32_w]
    rfl
  refine done_ (by kernel_rfl) ?_
  go_wp2
  go_ret
  exact ⟨true, rfl, .inl ⟨rfl, by rw [List.append_nil]; exact HJ.out, KeepI.of_below B5.out⟩⟩
set_option maxRecDepth 100000 in
theorem each_ge {l b0 : Nat} {J Jx : List Row → World → Prop} (hA : Abide J) {down : Bool} {W : World} (a b : Int) {t : T} {pl pr : Option Addr} {g : Nat} (pre : List Row) (hJ : J pre W) (hg : W.heap[g]? = some (nodeC t pl pr)) (h1 : b ≤ a) :
    Calls Try.prog 69 #[.pointer (some ⟨g, 0, none⟩), .int .i64 a, .int .i64 b, .bool down, .func (.yield l) #[] #[]] W fun e W' => ∃ bb : Bool, e = .returned (.bool bb) ∧ EndB b0 J Jx pre [] W bb W' := by
  have d1 : decide (b ≤ a) = true := by simpa using h1
  have hbx := boxes5 W (bx (.pointer (some ⟨g, 0, none⟩)) tPN) (bx (.int .i64 a) tI) (bx (.int .i64 b) tI) (bx (.bool down) tB) (bx (.func (.yield l) #[] #[]) tY) rfl
  have HG := Lib.hid (blk_drew (blk_below hg hbx.2.2.2.2.2.1))
  clear hg
  obtain ⟨x0, x1, x2, x3, x4, hb5, hs5⟩ := hbx
  have X0 := Lib.hid (blk_drew x0)
  have X1 := Lib.hid (blk_drew x1)
  have X2 := Lib.hid (blk_drew x2)
  have B5 := Lib.hid hb5.drew
  clear x0 x1 x2 x3 x4 hb5 hs5
  go_enter Try.func69, Try.ntmps69
  go_wp2_with fail
  have HJ := Lib.hid (hA _ _ _ hJ B5.out)
  generalize (World.alloc _ _) = W5 at *
  clear hJ hA
  refine start_ (n := 19) (S := fun w' => (w'.cell? ⟨W.heap.size, 0, none⟩ = some (.pointer (some ⟨g, 0, none⟩))) ∧ (w'.cell? ⟨(W.heap.size + 1), 0, none⟩ = some (.int .i64 a)) ∧ (w'.cell? ⟨(W.heap.size + 2), 0, none⟩ = some (.int .i64 b)) ∧ (w'.cell? ⟨g, 7, none⟩ = some (.int .i64 t.count))) (ds := []) #[false, false, false, false, false, false, false, false, false, false, false, false, false, false, false, false, false, false, false] (by kernel_rfl) rfl rfl ⟨(blk1 X0.out), (blk1 X1.out), (blk1 X2.out), ((blkc HG.out 7))⟩ (fun hHeld => ?_)
  refine take_ (i := 0) (N := some 15) (v := ?_) (a' := ?_) #[true, false, false, false, false, false, false, false, false, false, false, false, false, false, false, false, false, false, false] rfl rfl (by kernel_rfl) (fun _ _ _ h => h) (Or.inl ⟨by rfl, ?_⟩) hHeld ?_ ?_
  rotate_left
  · rintro w' ⟨s0, s1, s2, s3⟩
    go_simp
    with_reducible rfl
  rotate_left
  · simp only [Act.put, List.setIfInBounds_toArray, List.set_cons_zero, List.set_cons_succ, i64_w, i32_w]
    rfl
  refine pure_ (i := 1) (N := some 16) (v := ?_) (a' := ?_) #[true, true, false, false, false, false, false, false, false, false, false, false, false, false, false, false, false, false, false] rfl rfl (by kernel_rfl) (fun _ _ _ h => h) (Or.inl ⟨by rfl, ?_⟩) ?_ ?_
  rotate_left
  · intro w'
    go_simp
    with_reducible rfl
  rotate_left
  · simp only [Act.put, List.setIfInBounds_toArray, List.set_cons_zero, List.set_cons_succ, i64_w, i32_w]
    rfl
  refine pure_ (i := 2) (N := some 17) (v := ?_) (a' := ?_) #[true, true, true, false, false, false, false, false, false, false, false, false, false, false, false, false, false, false, false] rfl rfl (by kernel_rfl) (fun _ _ _ h => h) (Or.inl ⟨by rfl, ?_⟩) ?_ ?_
  rotate_left
  · intro w'
    go_simp
    with_reducible rfl
  rotate_left
  · simp only [Act.put, List.setIfInBounds_toArray, List.set_cons_zero, List.set_cons_succ, i64_w, i32_w]
    rfl
  refine take_ (i := 3) (N := some 18) (v := ?_) (a' := ?_) #[true, true, true, true, false, false, false, false, false, false, false, false, false, false, false, false, false, false, false] rfl rfl (by kernel_rfl) (fun _ _ _ h => h) (Or.inl ⟨by rfl, ?_⟩) hHeld ?_ ?_
  rotate_left
  · rintro w' ⟨s0, s1, s2, s3⟩
    go_simp
    with_reducible rfl
  rotate_left
  · simp only [Act.put, List.setIfInBounds_toArray, List.set_cons_zero, List.set_cons_succ, i64_w, i32_w]
    rfl
  refine take_ (i := 4) (N := some 19) (v := ?_) (a' := ?_) #[true, true, true, true, true, false, false, false, false, false, false, false, false, false, false, false, false, false, false] rfl rfl (by kernel_rfl) (fun _ _ _ h => h) (Or.inl ⟨by rfl, ?_⟩) hHeld ?_ ?_
  rotate_left
  · rintro w' ⟨s0, s1, s2, s3⟩
    go_simp
    with_reducible rfl
  rotate_left
  · simp only [Act.put, List.setIfInBounds_toArray, List.set_cons_zero, List.set_cons_succ, i64_w, i32_w]
    rfl
  refine pure_ (i := 5) (N := some 20) (v := ?_) (a' := ?_) #[true, true, true, true, true, true, false, false, false, false, false, false, false, false, false, false, false, false, false] rfl rfl (by kernel_rfl) (fun _ _ _ h => h) (Or.inl ⟨by rfl, ?_⟩) ?_ ?_
  rotate_left
  · intro w'
    go_simp
    with_reducible rfl
  rotate_left
  · simp only [Act.put, List.setIfInBounds_toArray, List.set_cons_zero, List.set_cons_succ, i64_w, i32_w]
    rfl
  refine pure_ (i := 6) (N := some 21) (v := ?_) (a' := ?_) #[true, true, true, true, true, true, true, false, false, false, false, false, false, false, false, false, false, false, false] rfl rfl (by kernel_rfl) (fun _ _ _ h => h) (Or.inl ⟨by rfl, ?_⟩) ?_ ?_
  rotate_left
  · intro w'
    go_simp
    with_reducible rfl
  rotate_left
  · simp only [Act.put, List.setIfInBounds_toArray, List.set_cons_zero, List.set_cons_succ, i64_w, i32_w]
    rfl
  refine pure_ (i := 7) (N := some 22) (v := ?_) (a' := ?_) #[true, true, true, true, true, true, true, true, false, false, false, false, false, false, false, false, false, false, false] rfl rfl (by kernel_rfl) (fun _ _ _ h => h) (Or.inl ⟨by rfl, ?_⟩) ?_ ?_
  rotate_left
  · intro w'
    go_simp
    with_reducible rfl
  rotate_left
  · simp only [Act.put, List.setIfInBounds_toArray, List.set_cons_zero, List.set_cons_succ, i64_w, i32_w]
    rfl
  refine pure_ (i := 8) (N := some 23) (v := undef) (a' := ?_) #[true, true, true, true, true, true, true, true, true, false, false, false, false, false, false, false, false, false, false] rfl rfl (by kernel_rfl) (fun _ _ _ h => h) (Or.inr ⟨by rfl, rfl⟩) ?_ ?_
  rotate_left
  · simp only [Act.put, List.setIfInBounds_toArray, List.set_cons_zero, List.set_cons_succ, i64_w, i32_w]
    rfl
  refine pure_ (i := 9) (N := some 24) (v := undef) (a' := ?_) #[true, true, true, true, true, true, true, true, true, true, false, false, false, false, false, false, false, false, false] rfl rfl (by kernel_rfl) (fun _ _ _ h => h) (Or.inr ⟨by rfl, rfl⟩) ?_ ?_
  rotate_left
  · simp only [Act.put, List.setIfInBounds_toArray, List.set_cons_zero, List.set_cons_succ, i64_w, i32_w]
    rfl
  refine pure_ (i := 10) (N := some 25) (v := ?_) (a' := ?_) #[true, true, true, true, true, true, true, true, true, true, true, false, false, false, false, false, false, false, false] rfl rfl (by kernel_rfl) (fun _ _ _ h => h) (Or.inl ⟨by rfl, ?_⟩) ?_ ?_
  rotate_left
  · intro w'
    go_simp
    with_reducible rfl
  rotate_left
  · simp only [Act.put, List.setIfInBounds_toArray, List.set_cons_zero, List.set_cons_succ, i64_w, i32_w]
    rfl
  refine pure_ (i := 11) (N := some 26) (v := ?_) (a' := ?_) #[true, true, true, true, true, true, true, true, true, true, true, true, false, false, false, false, false, false, false] rfl rfl (by kernel_rfl) (fun _ _ _ h => h) (Or.inl ⟨by rfl, ?_⟩) ?_ ?_
  rotate_left
  · intro w'
    go_simp
    with_reducible rfl
  rotate_left
  · simp only [Act.put, List.setIfInBounds_toArray, List.set_cons_zero, List.set_cons_succ, i64_w, i32_w]
    rfl
  refine pure_ (i := 12) (N := some 27) (v := undef) (a' := ?_) #[true, true, true, true, true, true, true, true, true, true, true, true, true, false, false, false, false, false, false] rfl rfl (by kernel_rfl) (fun _ _ _ h => h) (Or.inr ⟨by rfl, rfl⟩) ?_ ?_
  rotate_left
  · simp only [Act.put, List.setIfInBounds_toArray, List.set_cons_zero, List.set_cons_succ, i64_w, i32_w]
    rfl
  refine pure_ (i := 13) (N := some 28) (v := undef) (a' := ?_) #[true, true, true, true, true, true, true, true, true, true, true, true, true, true, false, false, false, false, false] rfl rfl (by kernel_rfl) (fun _ _ _ h => h) (Or.inr ⟨by rfl, rfl⟩) ?_ ?_
  rotate_left
  · simp only [Act.put, List.setIfInBounds_toArray, List.set_cons_zero, List.set_cons_succ, i64_w, i32_w]
    rfl
  refine pure_ (i := 14) (N := some 29) (v := undef) (a' := ?_) #[true, true, true, true, true, true, true, true, true, true, true, true, true, true, true, false, false, false, false] rfl rfl (by kernel_rfl) (fun _ _ _ h => h) (Or.inr ⟨by rfl, rfl⟩) ?_ ?_
  rotate_left
  · simp only [Act.put, List.setIfInBounds_toArray, List.set_cons_zero, List.set_cons_succ, i64_w, i32_w]
    rfl
  refine pure_ (i := 15) (N := some 30) (v := undef) (a' := ?_) #[true, true, true, true, true, true, true, true, true, true, true, true, true, true, true, true, false, false, false] rfl rfl (by kernel_rfl) (fun _ _ _ h => h) (Or.inr ⟨by rfl, rfl⟩) ?_ ?_
  rotate_left
  · simp only [Act.put, List.setIfInBounds_toArray, List.set_cons_zero, List.set_cons_succ, i64_w, i32_w]
    rfl
  refine pure_ (i := 16) (N := some 31) (v := undef) (a' := ?_) #[true, true, true, true, true, true, true, true, true, true, true, true, true, true, true, true, true, false, false] rfl rfl (by kernel_rfl) (fun _ _ _ h => h) (Or.inr ⟨by rfl, rfl⟩) ?_ ?_
  rotate_left
  · simp only [Act.put, List.setIfInBounds_toArray, List.set_cons_zero, List.set_cons_succ, i64_w, i32_w]
    rfl
  refine pure_ (i := 17) (N := some 32) (v := undef) (a' := ?_) #[true, true, true, true, true, true, true, true, true, true, true, true, true, true, true, true, true, true, false] rfl rfl (by kernel_rfl) (fun _ _ _ h => h) (Or.inr ⟨by rfl, rfl⟩) ?_ ?_
  rotate_left
  · simp only [Act.put, List.setIfInBounds_toArray, List.set_cons_zero, List.set_cons_succ, i64_w, i32_w]
    rfl
  refine pure_ (i := 18) (N := some 33) (v := ?_) (a' := ?_) #[true, true, true, true, true, true, true, true, true, true, true, true, true, true, true, true, true, true, true] rfl rfl (by kernel_rfl) (fun _ _ _ h => h) (Or.inl ⟨by rfl, ?_⟩) ?_ ?_
  rotate_left
  · intro w'
    go_simp
    with_reducible rfl
  rotate_left
  · simp only [Act.put, List.setIfInBounds_toArray, List.set_cons_zero, List.set_cons_succ, i64_w, i32_w]
    rfl
  refine done_ (by kernel_rfl) ?_
  go_wp2
  go_ret
  exact ⟨true, rfl, .inl ⟨rfl, by rw [List.append_nil]; exact HJ.out, KeepI.of_below B5.out⟩⟩
set_option maxRecDepth 100000 in
theorem each_le {l b0 : Nat} {J Jx : List Row → World → Prop} (hA : Abide J) {down : Bool} {W : World} (a b : Int) {t : T} {pl pr : Option Addr} {g : Nat} (pre : List Row) (hJ : J pre W) (hg : W.heap[g]? = some (nodeC t pl pr)) (h1 : ¬ b ≤ a) (h2 : b ≤ 0) :
    Calls Try.prog 69 #[.pointer (some ⟨g, 0, none⟩), .int .i64 a, .int .i64 b, .bool down, .func (.yield l) #[] #[]] W fun e W' => ∃ bb : Bool, e = .returned (.bool bb) ∧ EndB b0 J Jx pre [] W bb W' := by
  have d1 : decide (b ≤ a) = false := by simpa using h1
  have d2 : decide (b ≤ 0) = true := by simpa using h2
  have hbx := boxes5 W (bx (.pointer (some ⟨g, 0, none⟩)) tPN) (bx (.int .i64 a) tI) (bx (.int .i64 b) tI) (bx (.bool down) tB) (bx (.func (.yield l) #[] #[]) tY) rfl
  have HG := Lib.hid (blk_drew (blk_below hg hbx.2.2.2.2.2.1))
  clear hg
  obtain ⟨x0, x1, x2, x3, x4, hb5, hs5⟩ := hbx
  have X0 := Lib.hid (blk_drew x0)
  have X1 := Lib.hid (blk_drew x1)
  have X2 := Lib.hid (blk_drew x2)
  have B5 := Lib.hid hb5.drew
  clear x0 x1 x2 x3 x4 hb5 hs5
  go_enter Try.func69, Try.ntmps69
  go_wp2_with fail
  have HJ := Lib.hid (hA _ _ _ hJ B5.out)
  generalize (World.alloc _ _) = W5 at *
  clear hJ hA
  refine start_ (n := 19) (S := fun w' => (w'.cell? ⟨W.heap.size, 0, none⟩ = some (.pointer (some ⟨g, 0, none⟩))) ∧ (w'.cell? ⟨(W.heap.size + 1), 0, none⟩ = some (.int .i64 a)) ∧ (w'.cell? ⟨(W.heap.size + 2), 0, none⟩ = some (.int .i64 b)) ∧ (w'.cell? ⟨g, 7, none⟩ = some (.int .i64 t.count))) (ds := []) #[false, false, false, false, false, false, false, false, false, false, false, false, false, false, false, false, false, false, false] (by kernel_rfl) rfl rfl ⟨(blk1 X0.out), (blk1 X1.out), (blk1 X2.out), ((blkc HG.out 7))⟩ (fun hHeld => ?_)
  refine take_ (i := 0) (N := some 15) (v := ?_) (a' := ?_) #[true, false, false, false, false, false, false, false, false, false, false, false, false, false, false, false, false, false, false] rfl rfl (by kernel_rfl) (fun _ _ _ h => h) (Or.inl ⟨by rfl, ?_⟩) hHeld ?_ ?_
  rotate_left
  · rintro w' ⟨s0, s1, s2, s3⟩
    go_simp
    with_reducible rfl
  rotate_left
  · simp only [Act.put, List.setIfInBounds_toArray, List.set_cons_zero, List.set_cons_succ, i64_w, i32_w]
    rfl
  refine pure_ (i := 1) (N := some 16) (v := ?_) (a' := ?_) #[true, true, false, false, false, false, false, false, false, false, false, false, false, false, false, false, false, false, false] rfl rfl (by kernel_rfl) (fun _ _ _ h => h) (Or.inl ⟨by rfl, ?_⟩) ?_ ?_
  rotate_left
  · intro w'
    go_simp
    with_reducible rfl
  rotate_left
  · simp only [Act.put, List.setIfInBounds_toArray, List.set_cons_zero, List.set_cons_succ, i64_w, i32_w]
    rfl
  refine pure_ (i := 2) (N := some 17) (v := ?_) (a' := ?_) #[true, true, true, false, false, false, false, false, false, false, false, false, false, false, false, false, false, false, false] rfl rfl (by kernel_rfl) (fun _ _ _ h => h) (Or.inl ⟨by rfl, ?_⟩) ?_ ?_
  rotate_left
  · intro w'
    go_simp
    with_reducible rfl
  rotate_left
  · simp only [Act.put, List.setIfInBounds_toArray, List.set_cons_zero, List.set_cons_succ, i64_w, i32_w]
    rfl
  refine take_ (i := 3) (N := some 18) (v := ?_) (a' := ?_) #[true, true, true, true, false, false, false, false, false, false, false, false, false, false, false, false, false, false, false] rfl rfl (by kernel_rfl) (fun _ _ _ h => h) (Or.inl ⟨by rfl, ?_⟩) hHeld ?_ ?_
  rotate_left
  · rintro w' ⟨s0, s1, s2, s3⟩
    go_simp
    with_reducible rfl
  rotate_left
  · simp only [Act.put, List.setIfInBounds_toArray, List.set_cons_zero, List.set_cons_succ, i64_w, i32_w]
    rfl
  refine take_ (i := 4) (N := some 19) (v := ?_) (a' := ?_) #[true, true, true, true, true, false, false, false, false, false, false, false, false, false, false, false, false, false, false] rfl rfl (by kernel_rfl) (fun _ _ _ h => h) (Or.inl ⟨by rfl, ?_⟩) hHeld ?_ ?_
  rotate_left
  · rintro w' ⟨s0, s1, s2, s3⟩
    go_simp
    with_reducible rfl
  rotate_left
  · simp only [Act.put, List.setIfInBounds_toArray, List.set_cons_zero, List.set_cons_succ, i64_w, i32_w]
    rfl
  refine pure_ (i := 5) (N := some 20) (v := ?_) (a' := ?_) #[true, true, true, true, true, true, false, false, false, false, false, false, false, false, false, false, false, false, false] rfl rfl (by kernel_rfl) (fun _ _ _ h => h) (Or.inl ⟨by rfl, ?_⟩) ?_ ?_
  rotate_left
  · intro w'
    go_simp
    with_reducible rfl
  rotate_left
  · simp only [Act.put, List.setIfInBounds_toArray, List.set_cons_zero, List.set_cons_succ, i64_w, i32_w]
    rfl
  refine pure_ (i := 6) (N := some 21) (v := ?_) (a' := ?_) #[true, true, true, true, true, true, true, false, false, false, false, false, false, false, false, false, false, false, false] rfl rfl (by kernel_rfl) (fun _ _ _ h => h) (Or.inl ⟨by rfl, ?_⟩) ?_ ?_
  rotate_left
  · intro w'
    go_simp
    with_reducible rfl
  rotate_left
  · simp only [Act.put, List.setIfInBounds_toArray, List.set_cons_zero, List.set_cons_succ, i64_w, i32_w]
    rfl
  refine pure_ (i := 7) (N := some 22) (v := ?_) (a' := ?_) #[true, true, true, true, true, true, true, true, false, false, false, false, false, false, false, false, false, false, false] rfl rfl (by kernel_rfl) (fun _ _ _ h => h) (Or.inl ⟨by rfl, ?_⟩) ?_ ?_
  rotate_left
  · intro w'
    go_simp
    with_reducible rfl
  rotate_left
  · simp only [Act.put, List.setIfInBounds_toArray, List.set_cons_zero, List.set_cons_succ, i64_w, i32_w]
    rfl
  refine take_ (i := 8) (N := some 23) (v := ?_) (a' := ?_) #[true, true, true, true, true, true, true, true, true, false, false, false, false, false, false, false, false, false, false] rfl rfl (by kernel_rfl) (fun _ _ _ h => h) (Or.inl ⟨by rfl, ?_⟩) hHeld ?_ ?_
  rotate_left
  · rintro w' ⟨s0, s1, s2, s3⟩
    go_simp
    with_reducible rfl
  rotate_left
  · simp only [Act.put, List.setIfInBounds_toArray, List.set_cons_zero, List.set_cons_succ, i64_w, i32_w]
    rfl
  refine pure_ (i := 9) (N := some 24) (v := ?_) (a' := ?_) #[true, true, true, true, true, true, true, true, true, true, false, false, false, false, false, false, false, false, false] rfl rfl (by kernel_rfl) (fun _ _ _ h => h) (Or.inl ⟨by rfl, ?_⟩) ?_ ?_
  rotate_left
  · intro w'
    go_simp
    with_reducible rfl
  rotate_left
  · simp only [Act.put, List.setIfInBounds_toArray, List.set_cons_zero, List.set_cons_succ, i64_w, i32_w]
    rfl
  refine pure_ (i := 10) (N := some 25) (v := ?_) (a' := ?_) #[true, true, true, true, true, true, true, true, true, true, true, false, false, false, false, false, false, false, false] rfl rfl (by kernel_rfl) (fun _ _ _ h => h) (Or.inl ⟨by rfl, ?_⟩) ?_ ?_
  rotate_left
  · intro w'
    go_simp
    with_reducible rfl
  rotate_left
  · simp only [Act.put, List.setIfInBounds_toArray, List.set_cons_zero, List.set_cons_succ, i64_w, i32_w]
    rfl
  refine pure_ (i := 11) (N := some 26) (v := ?_) (a' := ?_) #[true, true, true, true, true, true, true, true, true, true, true, true, false, false, false, false, false, false, false] rfl rfl (by kernel_rfl) (fun _ _ _ h => h) (Or.inl ⟨by rfl, ?_⟩) ?_ ?_
  rotate_left
  · intro w'
    go_simp
    with_reducible rfl
  rotate_left
  · simp only [Act.put, List.setIfInBounds_toArray, List.set_cons_zero, List.set_cons_succ, i64_w, i32_w]
    rfl
  refine pure_ (i := 12) (N := some 27) (v := undef) (a' := ?_) #[true, true, true, true, true, true, true, true, true, true, true, true, true, false, false, false, false, false, false] rfl rfl (by kernel_rfl) (fun _ _ _ h => h) (Or.inr ⟨by rfl, rfl⟩) ?_ ?_
  rotate_left
  · simp only [Act.put, List.setIfInBounds_toArray, List.set_cons_zero, List.set_cons_succ, i64_w, i32_w]
    rfl
  refine pure_ (i := 13) (N := some 28) (v := undef) (a' := ?_) #[true, true, true, true, true, true, true, true, true, true, true, true, true, true, false, false, false, false, false] rfl rfl (by kernel_rfl) (fun _ _ _ h => h) (Or.inr ⟨by rfl, rfl⟩) ?_ ?_
  rotate_left
  · simp only [Act.put, List.setIfInBounds_toArray, List.set_cons_zero, List.set_cons_succ, i64_w, i32_w]
    rfl
  refine pure_ (i := 14) (N := some 29) (v := undef) (a' := ?_) #[true, true, true, true, true, true, true, true, true, true, true, true, true, true, true, false, false, false, false] rfl rfl (by kernel_rfl) (fun _ _ _ h => h) (Or.inr ⟨by rfl, rfl⟩) ?_ ?_
  rotate_left
  · simp only [Act.put, List.setIfInBounds_toArray, List.set_cons_zero, List.set_cons_succ, i64_w, i32_w]
    rfl
  refine pure_ (i := 15) (N := some 30) (v := undef) (a' := ?_) #[true, true, true, true, true, true, true, true, true, true, true, true, true, true, true, true, false, false, false] rfl rfl (by kernel_rfl) (fun _ _ _ h => h) (Or.inr ⟨by rfl, rfl⟩) ?_ ?_
  rotate_left
  · simp only [Act.put, List.setIfInBounds_toArray, List.set_cons_zero, List.set_cons_succ, i64_w, i32_w]
    rfl
  refine pure_ (i := 16) (N := some 31) (v := undef) (a' := ?_) #[true, true, true, true, true, true, true, true, true, true, true, true, true, true, true, true, true, false, false] rfl rfl (by kernel_rfl) (fun _ _ _ h => h) (Or.inr ⟨by rfl, rfl⟩) ?_ ?_
  rotate_left
  · simp only [Act.put, List.setIfInBounds_toArray, List.set_cons_zero, List.set_cons_succ, i64_w, i32_w]
    rfl
  refine pure_ (i := 17) (N := some 32) (v := undef) (a' := ?_) #[true, true, true, true, true, true, true, true, true, true, true, true, true, true, true, true, true, true, false] rfl rfl (by kernel_rfl) (fun _ _ _ h => h) (Or.inr ⟨by rfl, rfl⟩) ?_ ?_
  rotate_left
  · simp only [Act.put, List.setIfInBounds_toArray, List.set_cons_zero, List.set_cons_succ, i64_w, i32_w]
    rfl
  refine pure_ (i := 18) (N := some 33) (v := ?_) (a' := ?_) #[true, true, true, true, true, true, true, true, true, true, true, true, true, true, true, true, true, true, true] rfl rfl (by kernel_rfl) (fun _ _ _ h => h) (Or.inl ⟨by rfl, ?_⟩) ?_ ?_
  rotate_left
  · intro w'
    go_simp
    with_reducible rfl
  rotate_left
  · simp only [Act.put, List.setIfInBounds_toArray, List.set_cons_zero, List.set_cons_succ, i64_w, i32_w]
    rfl
  refine done_ (by kernel_rfl) ?_
  go_wp2
  go_ret
  exact ⟨true, rfl, .inl ⟨rfl, by rw [List.append_nil]; exact HJ.out, KeepI.of_below B5.out⟩⟩
set_option maxRecDepth 100000 in
theorem each_far {l b0 : Nat} {J Jx : List Row → World → Prop} (hA : Abide J) {down : Bool} {W : World} (a b : Int) {t : T} {pl pr : Option Addr} {g : Nat} (pre : List Row) (hJ : J pre W) (hg : W.heap[g]? = some (nodeC t pl pr)) (h1 : ¬ b ≤ a) (h2 : ¬ b ≤ 0) (h3 : t.count ≤ a) :
    Calls Try.prog 69 #[.pointer (some ⟨g, 0, none⟩), .int .i64 a, .int .i64 b, .bool down, .func (.yield l) #[] #[]] W fun e W' => ∃ bb : Bool, e = .returned (.bool bb) ∧ EndB b0 J Jx pre [] W bb W' := by
  have d1 : decide (b ≤ a) = false := by simpa using h1
  have d2 : decide (b ≤ 0) = false := by simpa using h2
  have d3 : decide (t.count ≤ a) = true := by simpa using h3
  have hbx := boxes5 W (bx (.pointer (some ⟨g, 0, none⟩)) tPN) (bx (.int .i64 a) tI) (bx (.int .i64 b) tI) (bx (.bool down) tB) (bx (.func (.yield l) #[] #[]) tY) rfl
  have HG := Lib.hid (blk_drew (blk_below hg hbx.2.2.2.2.2.1))
  clear hg
  obtain ⟨x0, x1, x2, x3, x4, hb5, hs5⟩ := hbx
  have X0 := Lib.hid (blk_drew x0)
  have X1 := Lib.hid (blk_drew x1)
  have X2 := Lib.hid (blk_drew x2)
  have B5 := Lib.hid hb5.drew
  clear x0 x1 x2 x3 x4 hb5 hs5
  go_enter Try.func69, Try.ntmps69
  go_wp2_with fail
  have HJ := Lib.hid (hA _ _ _ hJ B5.out)
  generalize (World.alloc _ _) = W5 at *
  clear hJ hA
  refine start_ (n := 19) (S := fun w' => (w'.cell? ⟨W.heap.size, 0, none⟩ = some (.pointer (some ⟨g, 0, none⟩))) ∧ (w'.cell? ⟨(W.heap.size + 1), 0, none⟩ = some (.int .i64 a)) ∧ (w'.cell? ⟨(W.heap.size + 2), 0, none⟩ = some (.int .i64 b)) ∧ (w'.cell? ⟨g, 7, none⟩ = some (.int .i64 t.count))) (ds := []) #[false, false, false, false, false, false, false, false, false, false, false, false, false, false, false, false, false, false, false] (by kernel_rfl) rfl rfl ⟨(blk1 X0.out), (blk1 X1.out), (blk1 X2.out), ((blkc HG.out 7))⟩ (fun hHeld => ?_)
  refine take_ (i := 0) (N := some 15) (v := ?_) (a' := ?_) #[true, false, false, false, false, false, false, false, false, false, false, false, false, false, false, false, false, false, false] rfl rfl (by kernel_rfl) (fun _ _ _ h => h) (Or.inl ⟨by rfl, ?_⟩) hHeld ?_ ?_
  rotate_left
  · rintro w' ⟨s0, s1, s2, s3⟩
    go_simp
    with_reducible rfl
  rotate_left
  · simp only [Act.put, List.setIfInBounds_toArray, List.set_cons_zero, List.set_cons_succ, i64_w, i32_w]
    rfl
  refine pure_ (i := 1) (N := some 16) (v := ?_) (a' := ?_) #[true, true, false, false, false, false, false, false, false, false, false, false, false, false, false, false, false, false, false] rfl rfl (by kernel_rfl) (fun _ _ _ h => h) (Or.inl ⟨by rfl, ?_⟩) ?_ ?_
  rotate_left
  · intro w'
    go_simp
    with_reducible rfl
  rotate_left
  · simp only [Act.put, List.setIfInBounds_toArray, List.set_cons_zero, List.set_cons_succ, i64_w, i32_w]
    rfl
  refine pure_ (i := 2) (N := some 17) (v := ?_) (a' := ?_) #[true, true, true, false, false, false, false, false, false, false, false, false, false, false, false, false, false, false, false] rfl rfl (by kernel_rfl) (fun _ _ _ h => h) (Or.inl ⟨by rfl, ?_⟩) ?_ ?_
  rotate_left
  · intro w'
    go_simp
    with_reducible rfl
  rotate_left
  · simp only [Act.put, List.setIfInBounds_toArray, List.set_cons_zero, List.set_cons_succ, i64_w, i32_w]
    rfl
  refine take_ (i := 3) (N := some 18) (v := ?_) (a' := ?_) #[true, true, true, true, false, false, false, false, false, false, false, false, false, false, false, false, false, false, false] rfl rfl (by kernel_rfl) (fun _ _ _ h => h) (Or.inl ⟨by rfl, ?_⟩) hHeld ?_ ?_
  rotate_left
  · rintro w' ⟨s0, s1, s2, s3⟩
    go_simp
    with_reducible rfl
  rotate_left
  · simp only [Act.put, List.setIfInBounds_toArray, List.set_cons_zero, List.set_cons_succ, i64_w, i32_w]
    rfl
  refine take_ (i := 4) (N := some 19) (v := ?_) (a' := ?_) #[true, true, true, true, true, false, false, false, false, false, false, false, false, false, false, false, false, false, false] rfl rfl (by kernel_rfl) (fun _ _ _ h => h) (Or.inl ⟨by rfl, ?_⟩) hHeld ?_ ?_
  rotate_left
  · rintro w' ⟨s0, s1, s2, s3⟩
    go_simp
    with_reducible rfl
  rotate_left
  · simp only [Act.put, List.setIfInBounds_toArray, List.set_cons_zero, List.set_cons_succ, i64_w, i32_w]
    rfl
  refine pure_ (i := 5) (N := some 20) (v := ?_) (a' := ?_) #[true, true, true, true, true, true, false, false, false, false, false, false, false, false, false, false, false, false, false] rfl rfl (by kernel_rfl) (fun _ _ _ h => h) (Or.inl ⟨by rfl, ?_⟩) ?_ ?_
  rotate_left
  · intro w'
    go_simp
    with_reducible rfl
  rotate_left
  · simp only [Act.put, List.setIfInBounds_toArray, List.set_cons_zero, List.set_cons_succ, i64_w, i32_w]
    rfl
  refine pure_ (i := 6) (N := some 21) (v := ?_) (a' := ?_) #[true, true, true, true, true, true, true, false, false, false, false, false, false, false, false, false, false, false, false] rfl rfl (by kernel_rfl) (fun _ _ _ h => h) (Or.inl ⟨by rfl, ?_⟩) ?_ ?_
  rotate_left
  · intro w'
    go_simp
    with_reducible rfl
  rotate_left
  · simp only [Act.put, List.setIfInBounds_toArray, List.set_cons_zero, List.set_cons_succ, i64_w, i32_w]
    rfl
  refine pure_ (i := 7) (N := some 22) (v := ?_) (a' := ?_) #[true, true, true, true, true, true, true, true, false, false, false, false, false, false, false, false, false, false, false] rfl rfl (by kernel_rfl) (fun _ _ _ h => h) (Or.inl ⟨by rfl, ?_⟩) ?_ ?_
  rotate_left
  · intro w'
    go_simp
    with_reducible rfl
  rotate_left
  · simp only [Act.put, List.setIfInBounds_toArray, List.set_cons_zero, List.set_cons_succ, i64_w, i32_w]
    rfl
  refine take_ (i := 8) (N := some 23) (v := ?_) (a' := ?_) #[true, true, true, true, true, true, true, true, true, false, false, false, false, false, false, false, false, false, false] rfl rfl (by kernel_rfl) (fun _ _ _ h => h) (Or.inl ⟨by rfl, ?_⟩) hHeld ?_ ?_
  rotate_left
  · rintro w' ⟨s0, s1, s2, s3⟩
    go_simp
    with_reducible rfl
  rotate_left
  · simp only [Act.put, List.setIfInBounds_toArray, List.set_cons_zero, List.set_cons_succ, i64_w, i32_w]
    rfl
  refine pure_ (i := 9) (N := some 24) (v := ?_) (a' := ?_) #[true, true, true, true, true, true, true, true, true, true, false, false, false, false, false, false, false, false, false] rfl rfl (by kernel_rfl) (fun _ _ _ h => h) (Or.inl ⟨by rfl, ?_⟩) ?_ ?_
  rotate_left
  · intro w'
    go_simp
    with_reducible rfl
  rotate_left
  · simp only [Act.put, List.setIfInBounds_toArray, List.set_cons_zero, List.set_cons_succ, i64_w, i32_w]
    rfl
  refine pure_ (i := 10) (N := some 25) (v := ?_) (a' := ?_) #[true, true, true, true, true, true, true, true, true, true, true, false, false, false, false, false, false, false, false] rfl rfl (by kernel_rfl) (fun _ _ _ h => h) (Or.inl ⟨by rfl, ?_⟩) ?_ ?_
  rotate_left
  · intro w'
    go_simp
    with_reducible rfl
  rotate_left
  · simp only [Act.put, List.setIfInBounds_toArray, List.set_cons_zero, List.set_cons_succ, i64_w, i32_w]
    rfl
  refine pure_ (i := 11) (N := some 26) (v := ?_) (a' := ?_) #[true, true, true, true, true, true, true, true, true, true, true, true, false, false, false, false, false, false, false] rfl rfl (by kernel_rfl) (fun _ _ _ h => h) (Or.inl ⟨by rfl, ?_⟩) ?_ ?_
  rotate_left
  · intro w'
    go_simp
    with_reducible rfl
  rotate_left
  · simp only [Act.put, List.setIfInBounds_toArray, List.set_cons_zero, List.set_cons_succ, i64_w, i32_w]
    rfl
  refine take_ (i := 12) (N := some 27) (v := ?_) (a' := ?_) #[true, true, true, true, true, true, true, true, true, true, true, true, true, false, false, false, false, false, false] rfl rfl (by kernel_rfl) (fun _ _ _ h => h) (Or.inl ⟨by rfl, ?_⟩) hHeld ?_ ?_
  rotate_left
  · rintro w' ⟨s0, s1, s2, s3⟩
    go_simp
    with_reducible rfl
  rotate_left
  · simp only [Act.put, List.setIfInBounds_toArray, List.set_cons_zero, List.set_cons_succ, i64_w, i32_w]
    rfl
  refine take_ (i := 13) (N := some 28) (v := ?_) (a' := ?_) #[true, true, true, true, true, true, true, true, true, true, true, true, true, true, false, false, false, false, false] rfl rfl (by kernel_rfl) (fun _ _ _ h => h) (Or.inl ⟨by rfl, ?_⟩) hHeld ?_ ?_
  rotate_left
  · rintro w' ⟨s0, s1, s2, s3⟩
    go_simp
    with_reducible rfl
  rotate_left
  · simp only [Act.put, List.setIfInBounds_toArray, List.set_cons_zero, List.set_cons_succ, i64_w, i32_w]
    rfl
  refine pure_ (i := 14) (N := some 29) (v := ?_) (a' := ?_) #[true, true, true, true, true, true, true, true, true, true, true, true, true, true, true, false, false, false, false] rfl rfl (by kernel_rfl) (fun _ _ _ h => h) (Or.inl ⟨by rfl, ?_⟩) ?_ ?_
  rotate_left
  · intro w'
    go_simp
    with_reducible rfl
  rotate_left
  · simp only [Act.put, List.setIfInBounds_toArray, List.set_cons_zero, List.set_cons_succ, i64_w, i32_w]
    rfl
  refine pure_ (i := 15) (N := some 30) (v := ?_) (a' := ?_) #[true, true, true, true, true, true, true, true, true, true, true, true, true, true, true, true, false, false, false] rfl rfl (by kernel_rfl) (fun _ _ _ h => h) (Or.inl ⟨by rfl, ?_⟩) ?_ ?_
  rotate_left
  · intro w'
    go_simp
    with_reducible rfl
  rotate_left
  · simp only [Act.put, List.setIfInBounds_toArray, List.set_cons_zero, List.set_cons_succ, i64_w, i32_w]
    rfl
  refine take_ (i := 16) (N := some 31) (v := ?_) (a' := ?_) #[true, true, true, true, true, true, true, true, true, true, true, true, true, true, true, true, true, false, false] rfl rfl (by kernel_rfl) (fun _ _ _ h => h) (Or.inl ⟨by rfl, ?_⟩) hHeld ?_ ?_
  rotate_left
  · rintro w' ⟨s0, s1, s2, s3⟩
    go_simp
    with_reducible rfl
  rotate_left
  · simp only [Act.put, List.setIfInBounds_toArray, List.set_cons_zero, List.set_cons_succ, i64_w, i32_w]
    rfl
  refine pure_ (i := 17) (N := some 32) (v := ?_) (a' := ?_) #[true, true, true, true, true, true, true, true, true, true, true, true, true, true, true, true, true, true, false] rfl rfl (by kernel_rfl) (fun _ _ _ h => h) (Or.inl ⟨by rfl, ?_⟩) ?_ ?_
  rotate_left
  · intro w'
    go_simp
    with_reducible rfl
  rotate_left
  · simp only [Act.put, List.setIfInBounds_toArray, List.set_cons_zero, List.set_cons_succ, i64_w, i32_w]
    rfl
  refine pure_ (i := 18) (N := some 33) (v := ?_) (a' := ?_) #[true, true, true, true, true, true, true, true, true, true, true, true, true, true, true, true, true, true, true] rfl rfl (by kernel_rfl) (fun _ _ _ h => h) (Or.inl ⟨by rfl, ?_⟩) ?_ ?_
  rotate_left
  · intro w'
    go_simp
    with_reducible rfl
  rotate_left
  · simp only [Act.put, List.setIfInBounds_toArray, List.set_cons_zero, List.set_cons_succ, i64_w, i32_w]
    rfl
  refine done_ (by kernel_rfl) ?_
  go_wp2
  go_ret
  exact ⟨true, rfl, .inl ⟨rfl, by rw [List.append_nil]; exact HJ.out, KeepI.of_below B5.out⟩⟩
theorem segD_node {t : T} (hn : t ≠ .nil) {a b : Int} (ha : 0 ≤ a) : segD false t.list a b = segD false t.left.list a (min b t.left.list.length) ++ (selHere t t.left.list.length a b ++ segD false t.right.list (max (a - t.left.list.length - 1) 0) (b - t.left.list.length - 1)) ∧
    segD true t.list a b = segD true t.right.list (max (a - t.left.list.length - 1) 0) (b - t.left.list.length - 1) ++ (selHere t t.left.list.length a b ++ segD true t.left.list a (min b t.left.list.length)) := by
  have h := seg_node t.left.list t.right.list t.row (b := b) ha
  rw [← list_node hn] at h
  refine ⟨h, ?_⟩
  show (seg t.list a b).reverse = _
  rw [h]
  simp only [List.reverse_append, segD, if_true, selHere, List.append_assoc]
  split <;> rfl
theorem before_any {l b0 N : Nat} {J Jx : List Row → World → Prop} (hA : Abide J) {W : World} {t : T} {pl pr : Option Addr} {bm bf bt bd by_ bn gn : Nat} {mid from_ to_ : Int} {down : Bool}
    (hm : W.heap[bm]? = some (bx (.int .i64 mid) tI)) (hf : W.heap[bf]? = some (bx (.int .i64 from_) tI)) (ht : W.heap[bt]? = some (bx (.int .i64 to_) tI)) (hd : W.heap[bd]? = some (bx (.bool down) tB)) (hy : W.heap[by_]? = some (bx (.func (.yield l) #[] #[]) tY)) (hn : W.heap[bn]? = some (bx (.pointer (some ⟨gn, 0, none⟩)) tPN)) (hg : W.heap[gn]? = some (nodeC t pl pr))
    (hb0 : b0 ≤ W.heap.size) (pre : List Row) (hJ : J pre W) (hm0 : 0 ≤ mid) (hm1 : mid ≤ 1099511627776) (hf0 : 0 ≤ from_) (hf1 : from_ ≤ 1152921504606846976) (ht0 : 0 < to_) (ht1 : to_ ≤ 1152921504606846976) (hT : TR W t.left pl) (IH : EachP l b0 N J Jx down t.left) (hl : pre.length + (segD down t.left.list from_ (min to_ mid)).length ≤ N) :
    Calls Try.prog 73 #[.pointer (some ⟨bn, 0, none⟩), .pointer (some ⟨bf, 0, none⟩), .pointer (some ⟨bt, 0, none⟩), .pointer (some ⟨bm, 0, none⟩), .pointer (some ⟨bd, 0, none⟩), .pointer (some ⟨by_, 0, none⟩)] W fun e W' => ∃ bb : Bool, e = .returned (.bool bb) ∧ EndB b0 J Jx pre (segD down t.left.list from_ (min to_ mid)) W bb W' := by
  by_cases h : to_ ≤ mid
  · rw [show min to_ mid = to_ by omega] at hl ⊢
    exact before_l hA hm hf ht hd hy hn hg hb0 pre hJ hm0 hm1 hf0 hf1 ht0 ht1 hT IH hl h
  · rw [show min to_ mid = mid by omega] at hl ⊢
    exact before_m hA hm hf ht hd hy hn hg hb0 pre hJ hm0 hm1 hf0 hf1 ht0 ht1 hT IH hl h
theorem behind_any {l b0 N : Nat} {J Jx : List Row → World → Prop} (hA : Abide J) {W : World} {t : T} {pl pr : Option Addr} {bm bf bt bd by_ bn gn : Nat} {mid from_ to_ : Int} {down : Bool}
    (hm : W.heap[bm]? = some (bx (.int .i64 mid) tI)) (hf : W.heap[bf]? = some (bx (.int .i64 from_) tI)) (ht : W.heap[bt]? = some (bx (.int .i64 to_) tI)) (hd : W.heap[bd]? = some (bx (.bool down) tB)) (hy : W.heap[by_]? = some (bx (.func (.yield l) #[] #[]) tY)) (hn : W.heap[bn]? = some (bx (.pointer (some ⟨gn, 0, none⟩)) tPN)) (hg : W.heap[gn]? = some (nodeC t pl pr))
    (hb0 : b0 ≤ W.heap.size) (pre : List Row) (hJ : J pre W) (hm0 : 0 ≤ mid) (hm1 : mid ≤ 1099511627776) (hf0 : 0 ≤ from_) (hf1 : from_ ≤ 1152921504606846976) (ht0 : 0 < to_) (ht1 : to_ ≤ 1152921504606846976) (hT : TR W t.right pr) (IH : EachP l b0 N J Jx down t.right) (hl : pre.length + (segD down t.right.list (max (from_ - mid - 1) 0) (to_ - mid - 1)).length ≤ N) :
    Calls Try.prog 74 #[.pointer (some ⟨bn, 0, none⟩), .pointer (some ⟨bf, 0, none⟩), .pointer (some ⟨bm, 0, none⟩), .pointer (some ⟨bt, 0, none⟩), .pointer (some ⟨bd, 0, none⟩), .pointer (some ⟨by_, 0, none⟩)] W fun e W' => ∃ bb : Bool, e = .returned (.bool bb) ∧ EndB b0 J Jx pre (segD down t.right.list (max (from_ - mid - 1) 0) (to_ - mid - 1)) W bb W' := by
  by_cases h : 0 ≤ from_ - mid - 1
  · rw [show max (from_ - mid - 1) 0 = from_ - mid - 1 by omega] at hl ⊢
    exact behind_p hA hm hf ht hd hy hn hg hb0 pre hJ hm0 hm1 hf0 hf1 ht0 ht1 hT IH hl h
  · rw [show max (from_ - mid - 1) 0 = 0 by omega] at hl ⊢
    exact behind_n hA hm hf ht hd hy hn hg hb0 pre hJ hm0 hm1 hf0 hf1 ht0 ht1 hT IH hl h
set_option maxHeartbeats 1600000 in
set_option maxRecDepth 100000 in
theorem each_go_false {l b0 N : Nat} {J Jx : List Row → World → Prop} (hY : Rounds l b0 N J Jx) (hA : Abide J) {W : World} (a b : Int) {t : T} {pl pr : Option Addr} {g : Nat} (pre : List Row) (hJ : J pre W) (hb0 : b0 ≤ W.heap.size) (hg : W.heap[g]? = some (nodeC t pl pr)) (hL : TR W t.left pl) (hR : TR W t.right pr) (wf : t.WF) (hn : t ≠ .nil) (hlen : t.list.length ≤ 1099511627776)
    (h1 : ¬ b ≤ a) (h2 : ¬ b ≤ 0) (h3 : ¬ t.count ≤ a) (ha0 : 0 ≤ a) (ha1 : a ≤ 1152921504606846976) (hb1 : b ≤ 1152921504606846976) (IHL : EachP l b0 N J Jx false t.left) (IHR : EachP l b0 N J Jx false t.right) (hl : pre.length + (segD false t.list a b).length ≤ N) :
    Calls Try.prog 69 #[.pointer (some ⟨g, 0, none⟩), .int .i64 a, .int .i64 b, .bool false, .func (.yield l) #[] #[]] W fun e W' => ∃ bb : Bool, e = .returned (.bool bb) ∧ EndB b0 J Jx pre (segD false t.list a b) W bb W' := by
  have d1 : decide (b ≤ a) = false := by simpa using h1
  have d2 : decide (b ≤ 0) = false := by simpa using h2
  have d3 : decide (t.count ≤ a) = false := by simpa using h3
  have HSG := Lib.hid (segD_node hn (b := b) ha0).1
  have HC := Lib.hid (WF.count (WF.left wf))
  have hll := len_node hn
  have hbp : 0 < b := by omega
  have HL_ := Lib.hid hl
  have HN_ := Lib.hid hn
  have hbx := boxes5 W (bx (.pointer (some ⟨g, 0, none⟩)) tPN) (bx (.int .i64 a) tI) (bx (.int .i64 b) tI) (bx (.bool false) tB) (bx (.func (.yield l) #[] #[]) tY) rfl
  obtain ⟨x0, x1, x2, x3, x4, hb5, hs5⟩ := hbx
  have HG := Lib.hid (blk_drew (blk_below hg hb5))
  have TL := Lib.hid (hL.below hb5.drew)
  have TRt := Lib.hid (hR.below hb5.drew)
  have X0 := Lib.hid (blk_drew x0)
  have X1 := Lib.hid (blk_drew x1)
  have X2 := Lib.hid (blk_drew x2)
  have X3 := Lib.hid (blk_drew x3)
  have X4 := Lib.hid (blk_drew x4)
  have B5 := Lib.hid hb5.drew
  have HJ := Lib.hid (hA _ _ _ hJ hb5.drew)
  have HAI := Lib.hid (Kept.refl W (fun _ => False))
  have IL := Lib.hid IHL
  have IR := Lib.hid IHR
  clear x0 x1 x2 x3 x4 hb5 hs5 hg hL hR hJ IHL IHR hl h1 h2 h3 hn HAI
  have HA := Lib.hid hA
  have HY := Lib.hid hY
  clear hA hY
  go_enter Try.func69, Try.ntmps69
  go_wp2_with fail
  generalize (World.alloc _ _) = W5 at *
  refine start_ (n := 19) (S := fun w' => (w'.cell? ⟨W.heap.size, 0, none⟩ = some (.pointer (some ⟨g, 0, none⟩))) ∧ (w'.cell? ⟨(W.heap.size + 1), 0, none⟩ = some (.int .i64 a)) ∧ (w'.cell? ⟨(W.heap.size + 2), 0, none⟩ = some (.int .i64 b)) ∧ (w'.cell? ⟨g, 7, none⟩ = some (.int .i64 t.count))) (ds := []) #[false, false, false, false, false, false, false, false, false, false, false, false, false, false, false, false, false, false, false] (by kernel_rfl) rfl rfl ⟨(blk1 X0.out), (blk1 X1.out), (blk1 X2.out), (blkc HG.out 7)⟩ (fun hHeld => ?_)
  refine take_ (i := 0) (N := some 15) (v := ?_) (a' := ?_) #[true, false, false, false, false, false, false, false, false, false, false, false, false, false, false, false, false, false, false] rfl rfl (by kernel_rfl) (fun _ _ _ h => h) (Or.inl ⟨by rfl, ?_⟩) hHeld ?_ ?_
  rotate_left
  · rintro w' ⟨s0, s1, s2, s3⟩
    go_simp
    with_reducible rfl
  rotate_left
  · simp only [Act.put, List.setIfInBounds_toArray, List.set_cons_zero, List.set_cons_succ, i64_w, i32_w]
    rfl
  refine pure_ (i := 1) (N := some 16) (v := ?_) (a' := ?_) #[true, true, false, false, false, false, false, false, false, false, false, false, false, false, false, false, false, false, false] rfl rfl (by kernel_rfl) (fun _ _ _ h => h) (Or.inl ⟨by rfl, ?_⟩) ?_ ?_
  rotate_left
  · intro w'
    go_simp
    with_reducible rfl
  rotate_left
  · simp only [Act.put, List.setIfInBounds_toArray, List.set_cons_zero, List.set_cons_succ, i64_w, i32_w]
    rfl
  refine pure_ (i := 2) (N := some 17) (v := ?_) (a' := ?_) #[true, true, true, false, false, false, false, false, false, false, false, false, false, false, false, false, false, false, false] rfl rfl (by kernel_rfl) (fun _ _ _ h => h) (Or.inl ⟨by rfl, ?_⟩) ?_ ?_
  rotate_left
  · intro w'
    go_simp
    with_reducible rfl
  rotate_left
  · simp only [Act.put, List.setIfInBounds_toArray, List.set_cons_zero, List.set_cons_succ, i64_w, i32_w]
    rfl
  refine take_ (i := 3) (N := some 18) (v := ?_) (a' := ?_) #[true, true, true, true, false, false, false, false, false, false, false, false, false, false, false, false, false, false, false] rfl rfl (by kernel_rfl) (fun _ _ _ h => h) (Or.inl ⟨by rfl, ?_⟩) hHeld ?_ ?_
  rotate_left
  · rintro w' ⟨s0, s1, s2, s3⟩
    go_simp
    with_reducible rfl
  rotate_left
  · simp only [Act.put, List.setIfInBounds_toArray, List.set_cons_zero, List.set_cons_succ, i64_w, i32_w]
    rfl
  refine take_ (i := 4) (N := some 19) (v := ?_) (a' := ?_) #[true, true, true, true, true, false, false, false, false, false, false, false, false, false, false, false, false, false, false] rfl rfl (by kernel_rfl) (fun _ _ _ h => h) (Or.inl ⟨by rfl, ?_⟩) hHeld ?_ ?_
  rotate_left
  · rintro w' ⟨s0, s1, s2, s3⟩
    go_simp
    with_reducible rfl
  rotate_left
  · simp only [Act.put, List.setIfInBounds_toArray, List.set_cons_zero, List.set_cons_succ, i64_w, i32_w]
    rfl
  refine pure_ (i := 5) (N := some 20) (v := ?_) (a' := ?_) #[true, true, true, true, true, true, false, false, false, false, false, false, false, false, false, false, false, false, false] rfl rfl (by kernel_rfl) (fun _ _ _ h => h) (Or.inl ⟨by rfl, ?_⟩) ?_ ?_
  rotate_left
  · intro w'
    go_simp
    with_reducible rfl
  rotate_left
  · simp only [Act.put, List.setIfInBounds_toArray, List.set_cons_zero, List.set_cons_succ, i64_w, i32_w]
    rfl
  refine pure_ (i := 6) (N := some 21) (v := ?_) (a' := ?_) #[true, true, true, true, true, true, true, false, false, false, false, false, false, false, false, false, false, false, false] rfl rfl (by kernel_rfl) (fun _ _ _ h => h) (Or.inl ⟨by rfl, ?_⟩) ?_ ?_
  rotate_left
  · intro w'
    go_simp
    with_reducible rfl
  rotate_left
  · simp only [Act.put, List.setIfInBounds_toArray, List.set_cons_zero, List.set_cons_succ, i64_w, i32_w]
    rfl
  refine pure_ (i := 7) (N := some 22) (v := ?_) (a' := ?_) #[true, true, true, true, true, true, true, true, false, false, false, false, false, false, false, false, false, false, false] rfl rfl (by kernel_rfl) (fun _ _ _ h => h) (Or.inl ⟨by rfl, ?_⟩) ?_ ?_
  rotate_left
  · intro w'
    go_simp
    with_reducible rfl
  rotate_left
  · simp only [Act.put, List.setIfInBounds_toArray, List.set_cons_zero, List.set_cons_succ, i64_w, i32_w]
    rfl
  refine take_ (i := 8) (N := some 23) (v := ?_) (a' := ?_) #[true, true, true, true, true, true, true, true, true, false, false, false, false, false, false, false, false, false, false] rfl rfl (by kernel_rfl) (fun _ _ _ h => h) (Or.inl ⟨by rfl, ?_⟩) hHeld ?_ ?_
  rotate_left
  · rintro w' ⟨s0, s1, s2, s3⟩
    go_simp
    with_reducible rfl
  rotate_left
  · simp only [Act.put, List.setIfInBounds_toArray, List.set_cons_zero, List.set_cons_succ, i64_w, i32_w]
    rfl
  refine pure_ (i := 9) (N := some 24) (v := ?_) (a' := ?_) #[true, true, true, true, true, true, true, true, true, true, false, false, false, false, false, false, false, false, false] rfl rfl (by kernel_rfl) (fun _ _ _ h => h) (Or.inl ⟨by rfl, ?_⟩) ?_ ?_
  rotate_left
  · intro w'
    go_simp
    with_reducible rfl
  rotate_left
  · simp only [Act.put, List.setIfInBounds_toArray, List.set_cons_zero, List.set_cons_succ, i64_w, i32_w]
    rfl
  refine pure_ (i := 10) (N := some 25) (v := ?_) (a' := ?_) #[true, true, true, true, true, true, true, true, true, true, true, false, false, false, false, false, false, false, false] rfl rfl (by kernel_rfl) (fun _ _ _ h => h) (Or.inl ⟨by rfl, ?_⟩) ?_ ?_
  rotate_left
  · intro w'
    go_simp
    with_reducible rfl
  rotate_left
  · simp only [Act.put, List.setIfInBounds_toArray, List.set_cons_zero, List.set_cons_succ, i64_w, i32_w]
    rfl
  refine pure_ (i := 11) (N := some 26) (v := ?_) (a' := ?_) #[true, true, true, true, true, true, true, true, true, true, true, true, false, false, false, false, false, false, false] rfl rfl (by kernel_rfl) (fun _ _ _ h => h) (Or.inl ⟨by rfl, ?_⟩) ?_ ?_
  rotate_left
  · intro w'
    go_simp
    with_reducible rfl
  rotate_left
  · simp only [Act.put, List.setIfInBounds_toArray, List.set_cons_zero, List.set_cons_succ, i64_w, i32_w]
    rfl
  refine take_ (i := 12) (N := some 27) (v := ?_) (a' := ?_) #[true, true, true, true, true, true, true, true, true, true, true, true, true, false, false, false, false, false, false] rfl rfl (by kernel_rfl) (fun _ _ _ h => h) (Or.inl ⟨by rfl, ?_⟩) hHeld ?_ ?_
  rotate_left
  · rintro w' ⟨s0, s1, s2, s3⟩
    go_simp
    with_reducible rfl
  rotate_left
  · simp only [Act.put, List.setIfInBounds_toArray, List.set_cons_zero, List.set_cons_succ, i64_w, i32_w]
    rfl
  refine take_ (i := 13) (N := some 28) (v := ?_) (a' := ?_) #[true, true, true, true, true, true, true, true, true, true, true, true, true, true, false, false, false, false, false] rfl rfl (by kernel_rfl) (fun _ _ _ h => h) (Or.inl ⟨by rfl, ?_⟩) hHeld ?_ ?_
  rotate_left
  · rintro w' ⟨s0, s1, s2, s3⟩
    go_simp
    with_reducible rfl
  rotate_left
  · simp only [Act.put, List.setIfInBounds_toArray, List.set_cons_zero, List.set_cons_succ, i64_w, i32_w]
    rfl
  refine pure_ (i := 14) (N := some 29) (v := ?_) (a' := ?_) #[true, true, true, true, true, true, true, true, true, true, true, true, true, true, true, false, false, false, false] rfl rfl (by kernel_rfl) (fun _ _ _ h => h) (Or.inl ⟨by rfl, ?_⟩) ?_ ?_
  rotate_left
  · intro w'
    go_simp
    with_reducible rfl
  rotate_left
  · simp only [Act.put, List.setIfInBounds_toArray, List.set_cons_zero, List.set_cons_succ, i64_w, i32_w]
    rfl
  refine pure_ (i := 15) (N := some 30) (v := ?_) (a' := ?_) #[true, true, true, true, true, true, true, true, true, true, true, true, true, true, true, true, false, false, false] rfl rfl (by kernel_rfl) (fun _ _ _ h => h) (Or.inl ⟨by rfl, ?_⟩) ?_ ?_
  rotate_left
  · intro w'
    go_simp
    with_reducible rfl
  rotate_left
  · simp only [Act.put, List.setIfInBounds_toArray, List.set_cons_zero, List.set_cons_succ, i64_w, i32_w]
    rfl
  refine take_ (i := 16) (N := some 31) (v := ?_) (a' := ?_) #[true, true, true, true, true, true, true, true, true, true, true, true, true, true, true, true, true, false, false] rfl rfl (by kernel_rfl) (fun _ _ _ h => h) (Or.inl ⟨by rfl, ?_⟩) hHeld ?_ ?_
  rotate_left
  · rintro w' ⟨s0, s1, s2, s3⟩
    go_simp
    with_reducible rfl
  rotate_left
  · simp only [Act.put, List.setIfInBounds_toArray, List.set_cons_zero, List.set_cons_succ, i64_w, i32_w]
    rfl
  refine pure_ (i := 17) (N := some 32) (v := ?_) (a' := ?_) #[true, true, true, true, true, true, true, true, true, true, true, true, true, true, true, true, true, true, false] rfl rfl (by kernel_rfl) (fun _ _ _ h => h) (Or.inl ⟨by rfl, ?_⟩) ?_ ?_
  rotate_left
  · intro w'
    go_simp
    with_reducible rfl
  rotate_left
  · simp only [Act.put, List.setIfInBounds_toArray, List.set_cons_zero, List.set_cons_succ, i64_w, i32_w]
    rfl
  refine pure_ (i := 18) (N := some 33) (v := ?_) (a' := ?_) #[true, true, true, true, true, true, true, true, true, true, true, true, true, true, true, true, true, true, true] rfl rfl (by kernel_rfl) (fun _ _ _ h => h) (Or.inl ⟨by rfl, ?_⟩) ?_ ?_
  rotate_left
  · intro w'
    go_simp
    with_reducible rfl
  rotate_left
  · simp only [Act.put, List.setIfInBounds_toArray, List.set_cons_zero, List.set_cons_succ, i64_w, i32_w]
    rfl
  refine done_ (by kernel_rfl) ?_
  generalize (World.drew W5) = WD at *
  have cx0 := blk1 X0.out
  have cg := blkc HG.out
  go_wp2_with fail
  refine (count_any TL.out).mono ?_
  rintro e w1 ⟨rfl, rfl⟩
  rw [HC.out]
  have BO := Lib.hid (below_alloc (Below.refl WD.heap.size WD) (bx (.int .i64 (t.left.list.length : Int)) tI))
  have XM := Lib.hid (blk_new WD (bx (.int .i64 (t.left.list.length : Int)) tI))
  have Y0 := Lib.hid (blk_below X0.out BO.out)
  have Y1 := Lib.hid (blk_below X1.out BO.out)
  have Y2 := Lib.hid (blk_below X2.out BO.out)
  have Y3 := Lib.hid (blk_below X3.out BO.out)
  have Y4 := Lib.hid (blk_below X4.out BO.out)
  have YG := Lib.hid (blk_below HG.out BO.out)
  have YL := Lib.hid (TL.out.below BO.out)
  have YR := Lib.hid (TRt.out.below BO.out)
  have YJ := Lib.hid (HA.out _ _ _ HJ.out BO.out)
  have B6 := Lib.hid (below_then B5.out B5.out.size BO.out)
  have hbm : W.heap.size ≤ WD.heap.size := B5.out.size
  clear cx0 cg X0 X1 X2 X3 X4 HG TL TRt HJ B5 BO
  have cd := blk1 Y3.out
  go_wp2_with fail
  clear cd
  generalize (World.alloc WD _) = W6 at *
  generalize WD.heap.size = bm at *
  have hb6 : b0 ≤ W6.heap.size := by have := B6.out.size; omega
  have hs6 : W.heap.size ≤ W6.heap.size := B6.out.size
  have hle : pre.length + ((segD false t.left.list a (min b t.left.list.length)).length + ((selHere t t.left.list.length a b).length + (segD false t.right.list (max (a - t.left.list.length - 1) 0) (b - t.left.list.length - 1)).length)) ≤ N := by have := HL_.out; rw [HSG.out] at this; simp only [List.length_append] at this; exact this
  refine (before_any HA.out XM.out Y1.out Y2.out Y3.out Y4.out Y0.out YG.out hb6 pre YJ.out (by omega) (by omega) ha0 ha1 (by omega) hb1 YL.out IL.out (by omega)).mono ?_
  rintro e w1 ⟨bb, rfl, HE1⟩
  rcases HE1 with ⟨rfl, hJ1, hk1⟩ | ⟨rfl, q1, hq1, hx1⟩
  · have HK1 := Lib.hid hk1
    have HJ1 := Lib.hid hJ1
    have hb7 : b0 ≤ w1.heap.size := by have := hk1.1; omega
    have Y0a := Lib.hid (hk1.box Y0.out (by omega) (by simp))
    have Y1a := Lib.hid (hk1.box Y1.out (by omega) (by simp))
    have Y2a := Lib.hid (hk1.box Y2.out (by omega) (by simp))
    have Y3a := Lib.hid (hk1.box Y3.out (by omega) (by simp))
    have Y4a := Lib.hid (hk1.box Y4.out (by omega) (by simp))
    have XMa := Lib.hid (hk1.box XM.out (by omega) (by simp))
    have YGa := Lib.hid (hk1.2 _ _ _ YG.out (.inl rfl))
    have YLa := Lib.hid (YL.out.keepI hk1)
    have YRa := Lib.hid (YR.out.keepI hk1)
    clear hk1 hJ1 Y0 Y1 Y2 Y3 Y4 XM YG YL YR
    go_wp2_with fail
    refine (here_any HY.out HA.out XMa.out Y1a.out Y2a.out Y4a.out Y0a.out YGa.out (pre ++ (segD false t.left.list a (min b t.left.list.length))) HJ1.out (by simp only [List.length_append]; omega)).mono ?_
    rintro e w2 ⟨bb, rfl, HE2⟩
    rcases HE2 with ⟨rfl, hJ2, hk2⟩ | ⟨rfl, q2, hq2, hx2⟩
    · have HK2 := Lib.hid hk2
      have HJ2 := Lib.hid hJ2
      have hb8 : b0 ≤ w2.heap.size := by have := hk2.1; omega
      have Y0b := Lib.hid (hk2.box Y0a.out (by omega) (by simp))
      have Y1b := Lib.hid (hk2.box Y1a.out (by omega) (by simp))
      have Y2b := Lib.hid (hk2.box Y2a.out (by omega) (by simp))
      have Y3b := Lib.hid (hk2.box Y3a.out (by omega) (by simp))
      have Y4b := Lib.hid (hk2.box Y4a.out (by omega) (by simp))
      have XMb := Lib.hid (hk2.box XMa.out (by omega) (by simp))
      have YGb := Lib.hid (hk2.2 _ _ _ YGa.out (.inl rfl))
      have YLb := Lib.hid (YLa.out.keepI hk2)
      have YRb := Lib.hid (YRa.out.keepI hk2)
      clear hk2 hJ2 Y0a Y1a Y2a Y3a Y4a XMa YGa YLa YRa
      go_wp2_with fail
      refine (behind_any HA.out XMb.out Y1b.out Y2b.out Y3b.out Y4b.out Y0b.out YGb.out hb8 (pre ++ (segD false t.left.list a (min b t.left.list.length)) ++ (selHere t t.left.list.length a b)) HJ2.out (by omega) (by omega) ha0 ha1 (by omega) hb1 YRb.out IR.out (by simp only [List.length_append]; omega)).mono ?_
      rintro e w3 ⟨bb, rfl, HE3⟩
      rcases HE3 with ⟨rfl, hJ3, hk3⟩ | ⟨rfl, q3, hq3, hx3⟩
      · go_wp2
        go_ret
        exact ⟨true, rfl, .inl ⟨rfl, by rw [HSG.out]; simpa only [List.append_assoc] using hJ3, (KeepI.of_below B6.out).trans (HK1.out.trans (HK2.out.trans hk3))⟩⟩
      · go_wp2
        go_ret
        exact ⟨false, rfl, .inr ⟨rfl, _, by rw [HSG.out]; exact (List.prefix_append_right_inj _).2 ((List.prefix_append_right_inj _).2 hq3), by simpa only [List.append_assoc] using hx3⟩⟩
    · go_wp2
      go_ret
      exact ⟨false, rfl, .inr ⟨rfl, _, by rw [HSG.out]; exact (List.prefix_append_right_inj _).2 (hq2.trans (List.prefix_append _ _)), by simpa only [List.append_assoc] using hx2⟩⟩
  · go_wp2
    go_ret
    exact ⟨false, rfl, .inr ⟨rfl, _, by rw [HSG.out]; exact hq1.trans (List.prefix_append _ _), hx1⟩⟩
set_option maxHeartbeats 1600000 in
set_option maxRecDepth 100000 in
theorem each_go_true {l b0 N : Nat} {J Jx : List Row → World → Prop} (hY : Rounds l b0 N J Jx) (hA : Abide J) {W : World} (a b : Int) {t : T} {pl pr : Option Addr} {g : Nat} (pre : List Row) (hJ : J pre W) (hb0 : b0 ≤ W.heap.size) (hg : W.heap[g]? = some (nodeC t pl pr)) (hL : TR W t.left pl) (hR : TR W t.right pr) (wf : t.WF) (hn : t ≠ .nil) (hlen : t.list.length ≤ 1099511627776)
    (h1 : ¬ b ≤ a) (h2 : ¬ b ≤ 0) (h3 : ¬ t.count ≤ a) (ha0 : 0 ≤ a) (ha1 : a ≤ 1152921504606846976) (hb1 : b ≤ 1152921504606846976) (IHL : EachP l b0 N J Jx true t.left) (IHR : EachP l b0 N J Jx true t.right) (hl : pre.length + (segD true t.list a b).length ≤ N) :
    Calls Try.prog 69 #[.pointer (some ⟨g, 0, none⟩), .int .i64 a, .int .i64 b, .bool true, .func (.yield l) #[] #[]] W fun e W' => ∃ bb : Bool, e = .returned (.bool bb) ∧ EndB b0 J Jx pre (segD true t.list a b) W bb W' := by
  have d1 : decide (b ≤ a) = false := by simpa using h1
  have d2 : decide (b ≤ 0) = false := by simpa using h2
  have d3 : decide (t.count ≤ a) = false := by simpa using h3
  have HSG := Lib.hid (segD_node hn (b := b) ha0).2
  have HC := Lib.hid (WF.count (WF.left wf))
  have hll := len_node hn
  have hbp : 0 < b := by omega
  have HL_ := Lib.hid hl
  have HN_ := Lib.hid hn
  have hbx := boxes5 W (bx (.pointer (some ⟨g, 0, none⟩)) tPN) (bx (.int .i64 a) tI) (bx (.int .i64 b) tI) (bx (.bool true) tB) (bx (.func (.yield l) #[] #[]) tY) rfl
  obtain ⟨x0, x1, x2, x3, x4, hb5, hs5⟩ := hbx
  have HG := Lib.hid (blk_drew (blk_below hg hb5))
  have TL := Lib.hid (hL.below hb5.drew)
  have TRt := Lib.hid (hR.below hb5.drew)
  have X0 := Lib.hid (blk_drew x0)
  have X1 := Lib.hid (blk_drew x1)
  have X2 := Lib.hid (blk_drew x2)
  have X3 := Lib.hid (blk_drew x3)
  have X4 := Lib.hid (blk_drew x4)
  have B5 := Lib.hid hb5.drew
  have HJ := Lib.hid (hA _ _ _ hJ hb5.drew)
  have HAI := Lib.hid (Kept.refl W (fun _ => False))
  have IL := Lib.hid IHL
  have IR := Lib.hid IHR
  clear x0 x1 x2 x3 x4 hb5 hs5 hg hL hR hJ IHL IHR hl h1 h2 h3 hn HAI
  have HA := Lib.hid hA
  have HY := Lib.hid hY
  clear hA hY
  go_enter Try.func69, Try.ntmps69
  go_wp2_with fail
  generalize (World.alloc _ _) = W5 at *
  refine start_ (n := 19) (S := fun w' => (w'.cell? ⟨W.heap.size, 0, none⟩ = some (.pointer (some ⟨g, 0, none⟩))) ∧ (w'.cell? ⟨(W.heap.size + 1), 0, none⟩ = some (.int .i64 a)) ∧ (w'.cell? ⟨(W.heap.size + 2), 0, none⟩ = some (.int .i64 b)) ∧ (w'.cell? ⟨g, 7, none⟩ = some (.int .i64 t.count))) (ds := []) #[false, false, false, false, false, false, false, false, false, false, false, false, false, false, false, false, false, false, false] (by kernel_rfl) rfl rfl ⟨(blk1 X0.out), (blk1 X1.out), (blk1 X2.out), (blkc HG.out 7)⟩ (fun hHeld => ?_)
  refine take_ (i := 0) (N := some 15) (v := ?_) (a' := ?_) #[true, false, false, false, false, false, false, false, false, false, false, false, false, false, false, false, false, false, false] rfl rfl (by kernel_rfl) (fun _ _ _ h => h) (Or.inl ⟨by rfl, ?_⟩) hHeld ?_ ?_
  rotate_left
  · rintro w' ⟨s0, s1, s2, s3⟩
    go_simp
    with_reducible rfl
  rotate_left
  · simp only [Act.put, List.setIfInBounds_toArray, List.set_cons_zero, List.set_cons_succ, i64_w, i32_w]
    rfl
  refine pure_ (i := 1) (N := some 16) (v := ?_) (a' := ?_) #[true, true, false, false, false, false, false, false, false, false, false, false, false, false, false, false, false, false, false] rfl rfl (by kernel_rfl) (fun _ _ _ h => h) (Or.inl ⟨by rfl, ?_⟩) ?_ ?_
  rotate_left
  · intro w'
    go_simp
    with_reducible rfl
  rotate_left
  · simp only [Act.put, List.setIfInBounds_toArray, List.set_cons_zero, List.set_cons_succ, i64_w, i32_w]
    rfl
  refine pure_ (i := 2) (N := some 17) (v := ?_) (a' := ?_) #[true, true, true, false, false, false, false, false, false, false, false, false, false, false, false, false, false, false, false] rfl rfl (by kernel_rfl) (fun _ _ _ h => h) (Or.inl ⟨by rfl, ?_⟩) ?_ ?_
  rotate_left
  · intro w'
    go_simp
    with_reducible rfl
  rotate_left
  · simp only [Act.put, List.setIfInBounds_toArray, List.set_cons_zero, List.set_cons_succ, i64_w, i32_w]
    rfl
  refine take_ (i := 3) (N := some 18) (v := ?_) (a' := ?_) #[true, true, true, true, false, false, false, false, false, false, false, false, false, false, false, false, false, false, false] rfl rfl (by kernel_rfl) (fun _ _ _ h => h) (Or.inl ⟨by rfl, ?_⟩) hHeld ?_ ?_
  rotate_left
  · rintro w' ⟨s0, s1, s2, s3⟩
    go_simp
    with_reducible rfl
  rotate_left
  · simp only [Act.put, List.setIfInBounds_toArray, List.set_cons_zero, List.set_cons_succ, i64_w, i32_w]
    rfl
  refine take_ (i := 4) (N := some 19) (v := ?_) (a' := ?_) #[true, true, true, true, true, false, false, false, false, false, false, false, false, false, false, false, false, false, false] rfl rfl (by kernel_rfl) (fun _ _ _ h => h) (Or.inl ⟨by rfl, ?_⟩) hHeld ?_ ?_
  rotate_left
  · rintro w' ⟨s0, s1, s2, s3⟩
    go_simp
    with_reducible rfl
  rotate_left
  · simp only [Act.put, List.setIfInBounds_toArray, List.set_cons_zero, List.set_cons_succ, i64_w, i32_w]
    rfl
  refine pure_ (i := 5) (N := some 20) (v := ?_) (a' := ?_) #[true, true, true, true, true, true, false, false, false, false, false, false, false, false, false, false, false, false, false] rfl rfl (by kernel_rfl) (fun _ _ _ h => h) (Or.inl ⟨by rfl, ?_⟩) ?_ ?_
  rotate_left
  · intro w'
    go_simp
    with_reducible rfl
  rotate_left
  · simp only [Act.put, List.setIfInBounds_toArray, List.set_cons_zero, List.set_cons_succ, i64_w, i32_w]
    rfl
  refine pure_ (i := 6) (N := some 21) (v := ?_) (a' := ?_) #[true, true, true, true, true, true, true, false, false, false, false, false, false, false, false, false, false, false, false] rfl rfl (by kernel_rfl) (fun _ _ _ h => h) (Or.inl ⟨by rfl, ?_⟩) ?_ ?_
  rotate_left
  · intro w'
    go_simp
    with_reducible rfl
  rotate_left
  · simp only [Act.put, List.setIfInBounds_toArray, List.set_cons_zero, List.set_cons_succ, i64_w, i32_w]
    rfl
  refine pure_ (i := 7) (N := some 22) (v := ?_) (a' := ?_) #[true, true, true, true, true, true, true, true, false, false, false, false, false, false, false, false, false, false, false] rfl rfl (by kernel_rfl) (fun _ _ _ h => h) (Or.inl ⟨by rfl, ?_⟩) ?_ ?_
  rotate_left
  · intro w'
    go_simp
    with_reducible rfl
  rotate_left
  · simp only [Act.put, List.setIfInBounds_toArray, List.set_cons_zero, List.set_cons_succ, i64_w, i32_w]
    rfl
  refine take_ (i := 8) (N := some 23) (v := ?_) (a' := ?_) #[true, true, true, true, true, true, true, true, true, false, false, false, false, false, false, false, false, false, false] rfl rfl (by kernel_rfl) (fun _ _ _ h => h) (Or.inl ⟨by rfl, ?_⟩) hHeld ?_ ?_
  rotate_left
  · rintro w' ⟨s0, s1, s2, s3⟩
    go_simp
    with_reducible rfl
  rotate_left
  · simp only [Act.put, List.setIfInBounds_toArray, List.set_cons_zero, List.set_cons_succ, i64_w, i32_w]
    rfl
  refine pure_ (i := 9) (N := some 24) (v := ?_) (a' := ?_) #[true, true, true, true, true, true, true, true, true, true, false, false, false, false, false, false, false, false, false] rfl rfl (by kernel_rfl) (fun _ _ _ h => h) (Or.inl ⟨by rfl, ?_⟩) ?_ ?_
  rotate_left
  · intro w'
    go_simp
    with_reducible rfl
  rotate_left
  · simp only [Act.put, List.setIfInBounds_toArray, List.set_cons_zero, List.set_cons_succ, i64_w, i32_w]
    rfl
  refine pure_ (i := 10) (N := some 25) (v := ?_) (a' := ?_) #[true, true, true, true, true, true, true, true, true, true, true, false, false, false, false, false, false, false, false] rfl rfl (by kernel_rfl) (fun _ _ _ h => h) (Or.inl ⟨by rfl, ?_⟩) ?_ ?_
  rotate_left
  · intro w'
    go_simp
    with_reducible rfl
  rotate_left
  · simp only [Act.put, List.setIfInBounds_toArray, List.set_cons_zero, List.set_cons_succ, i64_w, i32_w]
    rfl
  refine pure_ (i := 11) (N := some 26) (v := ?_) (a' := ?_) #[true, true, true, true, true, true, true, true, true, true, true, true, false, false, false, false, false, false, false] rfl rfl (by kernel_rfl) (fun _ _ _ h => h) (Or.inl ⟨by rfl, ?_⟩) ?_ ?_
  rotate_left
  · intro w'
    go_simp
    with_reducible rfl
  rotate_left
  · simp only [Act.put, List.setIfInBounds_toArray, List.set_cons_zero, List.set_cons_succ, i64_w, i32_w]
    rfl
  refine take_ (i := 12) (N := some 27) (v := ?_) (a' := ?_) #[true, true, true, true, true, true, true, true, true, true, true, true, true, false, false, false, false, false, false] rfl rfl (by kernel_rfl) (fun _ _ _ h => h) (Or.inl ⟨by rfl, ?_⟩) hHeld ?_ ?_
  rotate_left
  · rintro w' ⟨s0, s1, s2, s3⟩
    go_simp
    with_reducible rfl
  rotate_left
  · simp only [Act.put, List.setIfInBounds_toArray, List.set_cons_zero, List.set_cons_succ, i64_w, i32_w]
    rfl
  refine take_ (i := 13) (N := some 28) (v := ?_) (a' := ?_) #[true, true, true, true, true, true, true, true, true, true, true, true, true, true, false, false, false, false, false] rfl rfl (by kernel_rfl) (fun _ _ _ h => h) (Or.inl ⟨by rfl, ?_⟩) hHeld ?_ ?_
  rotate_left
  · rintro w' ⟨s0, s1, s2, s3⟩
    go_simp
    with_reducible rfl
  rotate_left
  · simp only [Act.put, List.setIfInBounds_toArray, List.set_cons_zero, List.set_cons_succ, i64_w, i32_w]
    rfl
  refine pure_ (i := 14) (N := some 29) (v := ?_) (a' := ?_) #[true, true, true, true, true, true, true, true, true, true, true, true, true, true, true, false, false, false, false] rfl rfl (by kernel_rfl) (fun _ _ _ h => h) (Or.inl ⟨by rfl, ?_⟩) ?_ ?_
  rotate_left
  · intro w'
    go_simp
    with_reducible rfl
  rotate_left
  · simp only [Act.put, List.setIfInBounds_toArray, List.set_cons_zero, List.set_cons_succ, i64_w, i32_w]
    rfl
  refine pure_ (i := 15) (N := some 30) (v := ?_) (a' := ?_) #[true, true, true, true, true, true, true, true, true, true, true, true, true, true, true, true, false, false, false] rfl rfl (by kernel_rfl) (fun _ _ _ h => h) (Or.inl ⟨by rfl, ?_⟩) ?_ ?_
  rotate_left
  · intro w'
    go_simp
    with_reducible rfl
  rotate_left
  · simp only [Act.put, List.setIfInBounds_toArray, List.set_cons_zero, List.set_cons_succ, i64_w, i32_w]
    rfl
  refine take_ (i := 16) (N := some 31) (v := ?_) (a' := ?_) #[true, true, true, true, true, true, true, true, true, true, true, true, true, true, true, true, true, false, false] rfl rfl (by kernel_rfl) (fun _ _ _ h => h) (Or.inl ⟨by rfl, ?_⟩) hHeld ?_ ?_
  rotate_left
  · rintro w' ⟨s0, s1, s2, s3⟩
    go_simp
    with_reducible rfl
  rotate_left
  · simp only [Act.put, List.setIfInBounds_toArray, List.set_cons_zero, List.set_cons_succ, i64_w, i32_w]
    rfl
  refine pure_ (i := 17) (N := some 32) (v := ?_) (a' := ?_) #[true, true, true, true, true, true, true, true, true, true, true, true, true, true, true, true, true, true, false] rfl rfl (by kernel_rfl) (fun _ _ _ h => h) (Or.inl ⟨by rfl, ?_⟩) ?_ ?_
  rotate_left
  · intro w'
    go_simp
    with_reducible rfl
  rotate_left
  · simp only [Act.put, List.setIfInBounds_toArray, List.set_cons_zero, List.set_cons_succ, i64_w, i32_w]
    rfl
  refine pure_ (i := 18) (N := some 33) (v := ?_) (a' := ?_) #[true, true, true, true, true, true, true, true, true, true, true, true, true, true, true, true, true, true, true] rfl rfl (by kernel_rfl) (fun _ _ _ h => h) (Or.inl ⟨by rfl, ?_⟩) ?_ ?_
  rotate_left
  · intro w'
    go_simp
    with_reducible rfl
  rotate_left
  · simp only [Act.put, List.setIfInBounds_toArray, List.set_cons_zero, List.set_cons_succ, i64_w, i32_w]
    rfl
  refine done_ (by kernel_rfl) ?_
  generalize (World.drew W5) = WD at *
  have cx0 := blk1 X0.out
  have cg := blkc HG.out
  go_wp2_with fail
  refine (count_any TL.out).mono ?_
  rintro e w1 ⟨rfl, rfl⟩
  rw [HC.out]
  have BO := Lib.hid (below_alloc (Below.refl WD.heap.size WD) (bx (.int .i64 (t.left.list.length : Int)) tI))
  have XM := Lib.hid (blk_new WD (bx (.int .i64 (t.left.list.length : Int)) tI))
  have Y0 := Lib.hid (blk_below X0.out BO.out)
  have Y1 := Lib.hid (blk_below X1.out BO.out)
  have Y2 := Lib.hid (blk_below X2.out BO.out)
  have Y3 := Lib.hid (blk_below X3.out BO.out)
  have Y4 := Lib.hid (blk_below X4.out BO.out)
  have YG := Lib.hid (blk_below HG.out BO.out)
  have YL := Lib.hid (TL.out.below BO.out)
  have YR := Lib.hid (TRt.out.below BO.out)
  have YJ := Lib.hid (HA.out _ _ _ HJ.out BO.out)
  have B6 := Lib.hid (below_then B5.out B5.out.size BO.out)
  have hbm : W.heap.size ≤ WD.heap.size := B5.out.size
  clear cx0 cg X0 X1 X2 X3 X4 HG TL TRt HJ B5 BO
  have cd := blk1 Y3.out
  go_wp2_with fail
  clear cd
  generalize (World.alloc WD _) = W6 at *
  generalize WD.heap.size = bm at *
  have hb6 : b0 ≤ W6.heap.size := by have := B6.out.size; omega
  have hs6 : W.heap.size ≤ W6.heap.size := B6.out.size
  have hle : pre.length + ((segD true t.right.list (max (a - t.left.list.length - 1) 0) (b - t.left.list.length - 1)).length + ((selHere t t.left.list.length a b).length + (segD true t.left.list a (min b t.left.list.length)).length)) ≤ N := by have := HL_.out; rw [HSG.out] at this; simp only [List.length_append] at this; exact this
  refine (behind_any HA.out XM.out Y1.out Y2.out Y3.out Y4.out Y0.out YG.out hb6 pre YJ.out (by omega) (by omega) ha0 ha1 (by omega) hb1 YR.out IR.out (by omega)).mono ?_
  rintro e w1 ⟨bb, rfl, HE1⟩
  rcases HE1 with ⟨rfl, hJ1, hk1⟩ | ⟨rfl, q1, hq1, hx1⟩
  · have HK1 := Lib.hid hk1
    have HJ1 := Lib.hid hJ1
    have hb7 : b0 ≤ w1.heap.size := by have := hk1.1; omega
    have Y0a := Lib.hid (hk1.box Y0.out (by omega) (by simp))
    have Y1a := Lib.hid (hk1.box Y1.out (by omega) (by simp))
    have Y2a := Lib.hid (hk1.box Y2.out (by omega) (by simp))
    have Y3a := Lib.hid (hk1.box Y3.out (by omega) (by simp))
    have Y4a := Lib.hid (hk1.box Y4.out (by omega) (by simp))
    have XMa := Lib.hid (hk1.box XM.out (by omega) (by simp))
    have YGa := Lib.hid (hk1.2 _ _ _ YG.out (.inl rfl))
    have YLa := Lib.hid (YL.out.keepI hk1)
    have YRa := Lib.hid (YR.out.keepI hk1)
    clear hk1 hJ1 Y0 Y1 Y2 Y3 Y4 XM YG YL YR
    go_wp2_with fail
    refine (here_any HY.out HA.out XMa.out Y1a.out Y2a.out Y4a.out Y0a.out YGa.out (pre ++ (segD true t.right.list (max (a - t.left.list.length - 1) 0) (b - t.left.list.length - 1))) HJ1.out (by simp only [List.length_append]; omega)).mono ?_
    rintro e w2 ⟨bb, rfl, HE2⟩
    rcases HE2 with ⟨rfl, hJ2, hk2⟩ | ⟨rfl, q2, hq2, hx2⟩
    · have HK2 := Lib.hid hk2
      have HJ2 := Lib.hid hJ2
      have hb8 : b0 ≤ w2.heap.size := by have := hk2.1; omega
      have Y0b := Lib.hid (hk2.box Y0a.out (by omega) (by simp))
      have Y1b := Lib.hid (hk2.box Y1a.out (by omega) (by simp))
      have Y2b := Lib.hid (hk2.box Y2a.out (by omega) (by simp))
      have Y3b := Lib.hid (hk2.box Y3a.out (by omega) (by simp))
      have Y4b := Lib.hid (hk2.box Y4a.out (by omega) (by simp))
      have XMb := Lib.hid (hk2.box XMa.out (by omega) (by simp))
      have YGb := Lib.hid (hk2.2 _ _ _ YGa.out (.inl rfl))
      have YLb := Lib.hid (YLa.out.keepI hk2)
      have YRb := Lib.hid (YRa.out.keepI hk2)
      clear hk2 hJ2 Y0a Y1a Y2a Y3a Y4a XMa YGa YLa YRa
      go_wp2_with fail
      refine (before_any HA.out XMb.out Y1b.out Y2b.out Y3b.out Y4b.out Y0b.out YGb.out hb8 (pre ++ (segD true t.right.list (max (a - t.left.list.length - 1) 0) (b - t.left.list.length - 1)) ++ (selHere t t.left.list.length a b)) HJ2.out (by omega) (by omega) ha0 ha1 (by omega) hb1 YLb.out IL.out (by simp only [List.length_append]; omega)).mono ?_
      rintro e w3 ⟨bb, rfl, HE3⟩
      rcases HE3 with ⟨rfl, hJ3, hk3⟩ | ⟨rfl, q3, hq3, hx3⟩
      · go_wp2
        go_ret
        exact ⟨true, rfl, .inl ⟨rfl, by rw [HSG.out]; simpa only [List.append_assoc] using hJ3, (KeepI.of_below B6.out).trans (HK1.out.trans (HK2.out.trans hk3))⟩⟩
      · go_wp2
        go_ret
        exact ⟨false, rfl, .inr ⟨rfl, _, by rw [HSG.out]; exact (List.prefix_append_right_inj _).2 ((List.prefix_append_right_inj _).2 hq3), by simpa only [List.append_assoc] using hx3⟩⟩
    · go_wp2
      go_ret
      exact ⟨false, rfl, .inr ⟨rfl, _, by rw [HSG.out]; exact (List.prefix_append_right_inj _).2 (hq2.trans (List.prefix_append _ _)), by simpa only [List.append_assoc] using hx2⟩⟩
  · go_wp2
    go_ret
    exact ⟨false, rfl, .inr ⟨rfl, _, by rw [HSG.out]; exact hq1.trans (List.prefix_append _ _), hx1⟩⟩
theorem segD_none {down : Bool} {l : List Row} {a b : Int} (h : b ≤ a ∨ b ≤ 0 ∨ (l.length : Int) ≤ a) : segD down l a b = [] := by
  unfold segD
  rw [seg_none h]
  cases down <;> rfl
theorem each_any {l b0 N : Nat} {J Jx : List Row → World → Prop} (hY : Rounds l b0 N J Jx) (hA : Abide J) (down : Bool) : ∀ t : T, t.WF → t.list.length ≤ 1099511627776 → EachP l b0 N J Jx down t := by
  intro t
  induction t with
  | nil =>
    intro wf hlen a b p pre W hT hJ hb0 ha0 ha1 hb1 hb2 hl
    cases hT
    rw [segD_none (l := T.nil.list) (by simp [T.list]; omega)]
    exact each_nil hA a b (t := .nil) (pl := none) (pr := none) (g := 0) pre hJ
  | node k v l0 r0 hh c ihl ihr =>
    intro wf hlen a b p pre W hT hJ hb0 ha0 ha1 hb1 hb2 hl
    obtain ⟨g, pl, pr, rfl, hg, hL, hR⟩ := hT
    have hc := WF.count wf
    have hll := len_node (t := .node k v l0 r0 hh c) (by intro h; cases h)
    have hle1 : (T.node k v l0 r0 hh c).left.list.length ≤ 1099511627776 := by omega
    have hle2 : (T.node k v l0 r0 hh c).right.list.length ≤ 1099511627776 := by omega
    by_cases h1 : b ≤ a
    · rw [segD_none (.inl h1)]
      exact each_ge hA a b pre hJ hg h1
    · by_cases h2 : b ≤ 0
      · rw [segD_none (.inr (.inl h2))]
        exact each_le hA a b pre hJ hg h1 h2
      · by_cases h3 : (T.node k v l0 r0 hh c).count ≤ a
        · rw [segD_none (.inr (.inr (by omega)))]
          exact each_far hA a b pre hJ hg h1 h2 h3
        · cases down with
          | false => exact each_go_false hY hA a b pre hJ hb0 hg hL hR wf (by intro h; cases h) hlen h1 h2 h3 ha0 ha1 hb2 (ihl wf.1 hle1) (ihr wf.2.1 hle2) hl
          | true => exact each_go_true hY hA a b pre hJ hb0 hg hL hR wf (by intro h; cases h) hlen h1 h2 h3 ha0 ha1 hb2 (ihl wf.1 hle1) (ihr wf.2.1 hle2) hl
end Go.Proofs.Ytjpalkggmefpfaa.Tab
