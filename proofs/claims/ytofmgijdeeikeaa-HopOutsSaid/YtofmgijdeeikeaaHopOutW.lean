/- NewOut and NewIn, walked. -/
import Derived.Test.YtofmgijdeeikeaaHopOut
set_option linter.unusedVariables false
set_option linter.unusedSimpArgs false
namespace Go.Proofs.Ytofmgijdeeikeaa.Hop
open Go.RowKit Go.Proofs.Ytofmgijdeeikeaa.Mem Go.Proofs.YtofmgijdeeikeaaW.PrintWords Go.Proofs.YtofmgijdeeikeaaW.PrintLast Go.Deep
set_option maxHeartbeats 400000 in
set_option maxRecDepth 100000 in
theorem newOut_ok (n d wi p c l : Int) (w : World) (h : 0 ≤ n ∧ n ≤ 1152921504606846976) (hse : setE d wi p c l = 0) :
    Calls Try.prog 17 #[.int .i64 n, .agg #[.int .i64 d, .int .i64 wi, .int .i64 p, .int .i64 c, .int .i64 l]] w fun e w' => ∃ g, e = .returned (.tuple #[.pointer (some ⟨g, 0, none⟩), .int .i64 0]) ∧ w.heap.size ≤ g ∧ w'.heap[g]? = some (.cells (ocs (lcs n wi) n p) 75 (0, 0)) ∧ Below w.heap.size w w' := by
  have hz := zero_line
  have hus := Try.underlying26
  have H := Lib.hid h
  clear h
  have S0 := Lib.hid (blk_new w (.cells #[.int .i64 d, .int .i64 wi, .int .i64 p, .int .i64 c, .int .i64 l] 26))
  have HB := Lib.hid (below_alloc (Below.refl w.heap.size w) (.cells #[.int .i64 d, .int .i64 wi, .int .i64 p, .int .i64 c, .int .i64 l] 26))
  go_enter Try.func17, Try.ntmps17
  go_wp2_with fail
  refine (newLine_ok n d wi p c l _ H.out hse).mono ?_
  rintro e w1 ⟨rfl, hb1⟩
  have HB1 := Lib.hid (below_then HB.out HB.out.size hb1)
  have S1 := Lib.hid (blk_below S0.out hb1)
  clear hb1
  have hzs := lcs_size n wi
  obtain ⟨W2, hs1, hs2, hb2⟩ := store_line (w0 := w1) (lcs n wi) (blk_new w1 (.cells zcs 73)) (by rw [lcs_size, zcs_size]) (lcs_one n wi) (below_alloc (Below.refl _ _) _) (by omega)
  have HB2 := Lib.hid (below_then HB1.out HB1.out.size hb2)
  have S2 := Lib.hid (blk_below S1.out hb2)
  have c2 := blkc S2.out
  have hl := load_line hs2 (lcs_size n wi)
  have Q2 := Lib.hid hs2
  clear hb2 hs2
  have hr2 : W2.rangeAt w1.heap.size 0 (lcs n wi).toList := fun j v hj => by rw [blkc Q2.out, Nat.zero_add]; simpa using hj
  have hi2 : (Try.prog.info? 73).map (·.size) = some (lcs n wi).toList.length := by rw [info_line_size (lcs_size n wi)]; simp
  have hbo := Lib.hid (built_out (lcs n wi) (lcs_size n wi) n p)
  have hno := Lib.hid (blk_new W2 (.cells (ocs (lcs n wi) n p) 75))
  have HB3 := Lib.hid (below_alloc HB2.out (.cells (ocs (lcs n wi) n p) 75))
  have hws : w.heap.size ≤ W2.heap.size := HB2.out.size
  generalize hoc : ocs (lcs n wi) n p = oc at *
  have HOC := Lib.hid hoc
  clear hoc
  generalize hln : lcs n wi = ln at *
  have HLN := Lib.hid hln
  clear hln
  go_wp2_with (first | (refine wpList_load_mid rfl 73 (.tmp 6) rfl w1.heap.size 0 rfl ln.toList _ hr2 Try.underlying73 rfl hi2 ?_) | (refine wpList_built (by rfl) 75 [(0, .tmp 17), (1, .tmp 18), (2, .tmp 19), (5, .tmp 21)] (by rfl) oc (by exact hbo.out) ?_))
  go_ret2
  refine ⟨_, rfl, hws, ?_, HB3.out⟩
  rw [HLN.out, HOC.out]
  exact hno.out
end Go.Proofs.Ytofmgijdeeikeaa.Hop
