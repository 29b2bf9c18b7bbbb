/- newLine with settings. -/
import Derived.Test.YtofmgijdeeikeaaHopNew
set_option linter.unusedVariables false
set_option linter.unusedSimpArgs false
namespace Go.Proofs.Ytofmgijdeeikeaa.Hop
open Go.RowKit Go.Proofs.Ytofmgijdeeikeaa.Mem Go.Proofs.YtofmgijdeeikeaaW.PrintWords Go.Proofs.YtofmgijdeeikeaaW.PrintLast Go.Deep
set_option maxHeartbeats 400000 in
set_option maxRecDepth 100000 in
theorem newLine_bad (n d wi p c l : Int) (w : World) (h : 0 ≤ n ∧ n ≤ 1152921504606846976) (hse : setE d wi p c l = 1) :
    Calls Try.prog 36 #[.int .i64 n, .agg #[.int .i64 d, .int .i64 wi, .int .i64 p, .int .i64 c, .int .i64 l]] w fun e w' => (∃ cs, e = .returned (.tuple #[.agg cs, .int .i64 1]) ∧ cs.size = 515 ∧ ∀ v ∈ cs.toList, v.oneCell' = true) ∧ Below w.heap.size w w' := by
  have hz := zero_line
  have h1 : decide (n < 0) = false := by simp; omega
  have h2 : decide (1152921504606846976 < n) = false := by simp; omega
  have Z := Lib.hid (heap_alloc2_new w (.cells #[.int .i64 d, .int .i64 wi, .int .i64 p, .int .i64 c, .int .i64 l] 26) (.cells zcs 73))
  have hset := heap_alloc2_old w (.cells #[.int .i64 d, .int .i64 wi, .int .i64 p, .int .i64 c, .int .i64 l] 26) (.cells zcs 73)
  have c0 := blkc hset
  have HB := Lib.hid (show Below w.heap.size w ((w.alloc (.cells #[.int .i64 d, .int .i64 wi, .int .i64 p, .int .i64 c, .int .i64 l] 26)).alloc (.cells zcs 73)) from below_alloc (below_alloc (Below.refl _ _) _) _)
  have hus := Try.underlying26
  have hzs := zcs_size
  have hone := Lib.hid zcs_one
  clear hset
  generalize zcs = zc at *
  go_enter Try.func36, Try.ntmps36
  go_wp2_with fail
  refine (settings_any _ _ _ _ _ _).mono ?_
  rintro e w1 ⟨rfl, hb1⟩
  rw [hse]
  have Z1 := Lib.hid (blk_below Z.out hb1)
  have HB1 := Lib.hid (below_then HB.out HB.out.size hb1)
  clear hb1 c0
  obtain ⟨W2, hs1, hs2, hb2⟩ := store_line (w0 := w) zc Z1.out (Eq.refl _) hone.out HB1.out (by omega)
  have HB2 := Lib.hid hb2
  clear hb2
  go_wp2_with fail
  exact bodyPost_ret (v := .tuple #[.agg zc, .int .i64 1]) (results_ct Try.results36 _ _ (w.heap.size + 1) _ zc _ _ rfl hs2 Try.underlying73 rfl (info_line_size hzs)) rfl ⟨⟨zc, rfl, hzs, hone.out⟩, HB2.out⟩
theorem lcs_one (n wi : Int) : ∀ v ∈ (lcs n wi).toList, v.oneCell' = true := by
  intro v hv
  simp only [lcs, Array.toList_setIfInBounds] at hv
  rcases List.mem_or_eq_of_mem_set hv with hv | rfl
  · rcases List.mem_or_eq_of_mem_set hv with hv | rfl
    · rcases List.mem_or_eq_of_mem_set hv with hv | rfl
      · exact zcs_one v hv
      · rfl
    · rfl
  · rfl
set_option maxHeartbeats 400000 in
set_option maxRecDepth 100000 in
theorem newLine_ok (n d wi p c l : Int) (w : World) (h : 0 ≤ n ∧ n ≤ 1152921504606846976) (hse : setE d wi p c l = 0) :
    Calls Try.prog 36 #[.int .i64 n, .agg #[.int .i64 d, .int .i64 wi, .int .i64 p, .int .i64 c, .int .i64 l]] w fun e w' => e = .returned (.tuple #[.agg (lcs n wi), .int .i64 0]) ∧ Below w.heap.size w w' := by
  have hz := zero_line
  have h1 : decide (n < 0) = false := by simp; omega
  have h2 : decide (1152921504606846976 < n) = false := by simp; omega
  have Z := Lib.hid (heap_alloc2_new w (.cells #[.int .i64 d, .int .i64 wi, .int .i64 p, .int .i64 c, .int .i64 l] 26) (.cells zcs 73))
  have hset := heap_alloc2_old w (.cells #[.int .i64 d, .int .i64 wi, .int .i64 p, .int .i64 c, .int .i64 l] 26) (.cells zcs 73)
  have c0 := blkc hset
  have S0 := Lib.hid hset
  have HB := Lib.hid (show Below w.heap.size w ((w.alloc (.cells #[.int .i64 d, .int .i64 wi, .int .i64 p, .int .i64 c, .int .i64 l] 26)).alloc (.cells zcs 73)) from below_alloc (below_alloc (Below.refl _ _) _) _)
  have hus := Try.underlying26
  have hzs := zcs_size
  clear hset
  go_enter Try.func36, Try.ntmps36
  go_wp2_with fail
  refine (settings_any _ _ _ _ _ _).mono ?_
  rintro e w1 ⟨rfl, hb1⟩
  rw [hse]
  have Z1 := Lib.hid (blk_below Z.out hb1)
  have S1 := Lib.hid (blk_below S0.out hb1)
  have HB1 := Lib.hid (below_then HB.out HB.out.size hb1)
  clear hb1 c0
  have c1 := blkc S1.out
  obtain ⟨W2, hs1, hs2, hb2⟩ := store_line (w0 := w) (lcs n wi) Z1.out (by rw [lcs_size, zcs_size]) (lcs_one n wi) HB1.out (by omega)
  have HB2 := Lib.hid hb2
  have Q := Lib.hid hs2
  clear hb2 hs2
  simp only [lcs, Array.toList_setIfInBounds] at hs1
  go_wp2_with fail
  exact bodyPost_ret (v := .tuple #[.agg (lcs n wi), .int .i64 0]) (results_ct Try.results36 _ _ (w.heap.size + 1) _ (lcs n wi) _ _ rfl Q.out Try.underlying73 rfl (info_line_size (lcs_size n wi))) rfl ⟨rfl, HB2.out⟩
end Go.Proofs.Ytofmgijdeeikeaa.Hop
