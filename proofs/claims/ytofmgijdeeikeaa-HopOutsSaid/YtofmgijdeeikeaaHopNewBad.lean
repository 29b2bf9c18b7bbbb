/- NewOut and NewIn: what is refused; NewIn. -/
import Derived.Test.YtofmgijdeeikeaaHopOutW
set_option linter.unusedVariables false
set_option linter.unusedSimpArgs false
namespace Go.Proofs.Ytofmgijdeeikeaa.Hop
open Go.RowKit Go.Proofs.Ytofmgijdeeikeaa.Mem Go.Proofs.YtofmgijdeeikeaaW.PrintWords Go.Proofs.YtofmgijdeeikeaaW.PrintLast Go.Deep
theorem newLine_not (n d wi p c l : Int) (w : World) (h : (n < 0 ∨ 1152921504606846976 < n) ∨ (0 ≤ n ∧ n ≤ 1152921504606846976) ∧ setE d wi p c l = 1) :
    Calls Try.prog 36 #[.int .i64 n, .agg #[.int .i64 d, .int .i64 wi, .int .i64 p, .int .i64 c, .int .i64 l]] w fun e w' => (∃ cs, e = .returned (.tuple #[.agg cs, .int .i64 1]) ∧ cs.size = 515 ∧ ∀ v ∈ cs.toList, v.oneCell' = true) ∧ Below w.heap.size w w' := by
  rcases h with h | ⟨h, h'⟩
  · exact newLine_no n d wi p c l w h
  · exact newLine_bad n d wi p c l w h h'
set_option maxHeartbeats 400000 in
set_option maxRecDepth 100000 in
theorem newOut_not (n d wi p c l : Int) (w : World) (h : (n < 0 ∨ 1152921504606846976 < n) ∨ (0 ≤ n ∧ n ≤ 1152921504606846976) ∧ setE d wi p c l = 1) :
    Calls Try.prog 17 #[.int .i64 n, .agg #[.int .i64 d, .int .i64 wi, .int .i64 p, .int .i64 c, .int .i64 l]] w fun e w' => e = .returned (.tuple #[.pointer none, .int .i64 1]) ∧ Below w.heap.size w w' := by
  have hz := zero_line
  have hus := Try.underlying26
  have H := Lib.hid h
  clear h
  have HB := Lib.hid (below_alloc (Below.refl w.heap.size w) (.cells #[.int .i64 d, .int .i64 wi, .int .i64 p, .int .i64 c, .int .i64 l] 26))
  have hzs := Lib.hid zcs_size
  go_enter Try.func17, Try.ntmps17
  go_wp2_with fail
  refine (newLine_not n d wi p c l _ H.out).mono ?_
  rintro e w1 ⟨⟨ln, rfl, hln, hone⟩, hb1⟩
  have HB1 := Lib.hid (below_then HB.out HB.out.size hb1)
  clear hb1
  obtain ⟨W2, hs1, hs2, hb2⟩ := store_line (w0 := w1) ln (blk_new w1 (.cells zcs 73)) (by rw [hln, hzs.out]) hone (below_alloc (Below.refl _ _) _) (by omega)
  have HB2 := Lib.hid (below_then HB1.out HB1.out.size hb2)
  clear hb2 hs2 hone
  go_wp2_with fail
  go_ret2
  exact ⟨rfl, HB2.out⟩
set_option maxHeartbeats 400000 in
set_option maxRecDepth 100000 in
theorem newIn_not (n d wi p c l : Int) (w : World) (h : (n < 0 ∨ 1152921504606846976 < n) ∨ (0 ≤ n ∧ n ≤ 1152921504606846976) ∧ setE d wi p c l = 1) :
    Calls Try.prog 12 #[.int .i64 n, .agg #[.int .i64 d, .int .i64 wi, .int .i64 p, .int .i64 c, .int .i64 l]] w fun e w' => e = .returned (.tuple #[.pointer none, .int .i64 1]) ∧ Below w.heap.size w w' := by
  have hz := zero_line
  have hus := Try.underlying26
  have H := Lib.hid h
  clear h
  have HB := Lib.hid (below_alloc (Below.refl w.heap.size w) (.cells #[.int .i64 d, .int .i64 wi, .int .i64 p, .int .i64 c, .int .i64 l] 26))
  have hzs := Lib.hid zcs_size
  go_enter Try.func12, Try.ntmps12
  go_wp2_with fail
  refine (newLine_not n d wi p c l _ H.out).mono ?_
  rintro e w1 ⟨⟨ln, rfl, hln, hone⟩, hb1⟩
  have HB1 := Lib.hid (below_then HB.out HB.out.size hb1)
  clear hb1
  obtain ⟨W2, hs1, hs2, hb2⟩ := store_line (w0 := w1) ln (blk_new w1 (.cells zcs 73)) (by rw [hln, hzs.out]) hone (below_alloc (Below.refl _ _) _) (by omega)
  have HB2 := Lib.hid (below_then HB1.out HB1.out.size hb2)
  clear hb2 hs2 hone
  go_wp2_with fail
  go_ret2
  exact ⟨rfl, HB2.out⟩
set_option maxHeartbeats 400000 in
set_option maxRecDepth 100000 in
theorem newIn_ok (n d wi p c l : Int) (w : World) (h : 0 ≤ n ∧ n ≤ 1152921504606846976) (hse : setE d wi p c l = 0) :
    Calls Try.prog 12 #[.int .i64 n, .agg #[.int .i64 d, .int .i64 wi, .int .i64 p, .int .i64 c, .int .i64 l]] w fun e w' => ∃ g, e = .returned (.tuple #[.pointer (some ⟨g, 0, none⟩), .int .i64 0]) ∧ w.heap.size ≤ g ∧ w'.heap[g]? = some (.cells (ics (lcs n wi)) 77 (0, 0)) ∧ Below w.heap.size w w' := by
  have hz := zero_line
  have hus := Try.underlying26
  have H := Lib.hid h
  clear h
  have HB := Lib.hid (below_alloc (Below.refl w.heap.size w) (.cells #[.int .i64 d, .int .i64 wi, .int .i64 p, .int .i64 c, .int .i64 l] 26))
  go_enter Try.func12, Try.ntmps12
  go_wp2_with fail
  refine (newLine_ok n d wi p c l _ H.out hse).mono ?_
  rintro e w1 ⟨rfl, hb1⟩
  have HB1 := Lib.hid (below_then HB.out HB.out.size hb1)
  clear hb1
  have hzs := lcs_size n wi
  obtain ⟨W2, hs1, hs2, hb2⟩ := store_line (w0 := w1) (lcs n wi) (blk_new w1 (.cells zcs 73)) (by rw [lcs_size, zcs_size]) (lcs_one n wi) (below_alloc (Below.refl _ _) _) (by omega)
  have HB2 := Lib.hid (below_then HB1.out HB1.out.size hb2)
  have hl := load_line hs2 (lcs_size n wi)
  have Q2 := Lib.hid hs2
  clear hb2 hs2
  have hr2 : W2.rangeAt w1.heap.size 0 (lcs n wi).toList := fun j v hj => by rw [blkc Q2.out, Nat.zero_add]; simpa using hj
  have hi2 : (Try.prog.info? 73).map (·.size) = some (lcs n wi).toList.length := by rw [info_line_size (lcs_size n wi)]; simp
  have hbo := Lib.hid (built_in (lcs n wi) (lcs_size n wi))
  have hno := Lib.hid (blk_new W2 (.cells (ics (lcs n wi)) 77))
  have HB3 := Lib.hid (below_alloc HB2.out (.cells (ics (lcs n wi)) 77))
  have hws : w.heap.size ≤ W2.heap.size := HB2.out.size
  generalize hoc : ics (lcs n wi) = oc at *
  have HOC := Lib.hid hoc
  clear hoc
  generalize hln : lcs n wi = ln at *
  have HLN := Lib.hid hln
  clear hln
  go_wp2_with (first | (refine wpList_load_mid rfl 73 (.tmp 6) rfl w1.heap.size 0 rfl ln.toList _ hr2 Try.underlying73 rfl hi2 ?_) | (refine wpList_built (by rfl) 77 [(0, .tmp 17)] (by rfl) oc (by exact hbo.out) ?_))
  go_ret2
  refine ⟨_, rfl, hws, ?_, HB3.out⟩
  rw [HLN.out, HOC.out]
  exact hno.out
end Go.Proofs.Ytofmgijdeeikeaa.Hop
