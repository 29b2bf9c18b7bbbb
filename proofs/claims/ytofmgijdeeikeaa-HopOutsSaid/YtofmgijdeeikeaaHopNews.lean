/- HopNews: what is refused, and what new ends tell. -/
import Derived.Test.YtofmgijdeeikeaaHopKinds
set_option linter.unusedVariables false
set_option linter.unusedSimpArgs false
namespace Go.Proofs.Ytofmgijdeeikeaa.Hop
open Go.RowKit Go.Proofs.Ytofmgijdeeikeaa.Mem Go.Proofs.YtofmgijdeeikeaaW.PrintWords Go.Proofs.YtofmgijdeeikeaaW.PrintLast Go.Deep
theorem ret_bool {a b : Bool} (h : a = b) : Ending.returned (.bool a) = .returned (.bool b) := by rw [h]
theorem may_any (d wi p c l : Int) (w : World) :
    Calls Try.prog 18 #[.agg #[.int .i64 d, .int .i64 wi, .int .i64 p, .int .i64 c, .int .i64 l]] w fun e w' => e = .returned (.bool (setB d wi p c l)) ∧ Below w.heap.size w w' := by
  go_enter Try.func18, Try.ntmps18
  go_wp2
  all_goals
    go_ret
    refine ⟨?_, (Below.refl _ _).alloc (Nat.le_refl _) _⟩
    refine ret_bool ?_
    simp only [setB, inB]
    first
      | (rw [Bool.eq_iff_iff]; simp; omega)
      | (symm; rw [Bool.eq_false_iff]; simp; omega)
theorem setE_0 {d wi p c l : Int} (h : setB d wi p c l = true) : setE d wi p c l = 0 := by simp [setE, h]
theorem setE_1 {d wi p c l : Int} (h : setB d wi p c l = false) : setE d wi p c l = 1 := by simp [setE, h]
theorem InR.made {w : World} {g : Nat} {s : InSt} (h : InR w g s) (hm : s.line.made = true) : w.cell? ⟨g, 514, none⟩ = some (.bool true) := by
  obtain ⟨cs, G, C⟩ := h
  rw [← hm]
  exact (blkc G 514).trans C.line.made
theorem InR.from_ {w : World} {g : Nat} {s : InSt} (h : InR w g s) : w.cell? ⟨g, 0, none⟩ = some (.int .i64 s.line.from_) := by
  obtain ⟨cs, G, C⟩ := h
  exact (blkc G 0).trans C.line.from_
theorem InR.holds {w : World} {g : Nat} {s : InSt} (h : InR w g s) : w.cell? ⟨g, 515, none⟩ = some (.int .i64 s.holds) := by
  obtain ⟨cs, G, C⟩ := h
  exact (blkc G 515).trans C.holds
theorem InR.below {w w1 : World} {g : Nat} {s : InSt} (h : InR w g s) (hb : Below w.heap.size w w1) : InR w1 g s := by
  obtain ⟨cs, G, C⟩ := h
  exact ⟨cs, blk_below G hb, C⟩
theorem OutR.below {w w1 : World} {b g : Nat} {v : Value} {s : St} (h : OutR w b g v s) (hb : Below w.heap.size w w1) : OutR w1 b g v s := by
  obtain ⟨cs, G, C, Q⟩ := h
  exact ⟨cs, blk_below G hb, C, Kd.Q_below Q hb⟩
theorem OutR.drewN {w : World} {b g : Nat} {v : Value} {s : St} (h : OutR w b g v s) (n : Nat) : OutR (w.drewN n) b g v s := by
  obtain ⟨cs, G, C, Q⟩ := h
  exact ⟨cs, G, C, Kd.Q_drewN Q n⟩
set_option maxHeartbeats 1600000 in
set_option maxRecDepth 100000 in
theorem news_bad (n d wi p c l : Int) (w : World) (h : (n < 0 ∨ 1152921504606846976 < n) ∨ (0 ≤ n ∧ n ≤ 1152921504606846976) ∧ setB d wi p c l = false) :
    Calls Try.prog 5 #[.int .i64 n, .agg #[.int .i64 d, .int .i64 wi, .int .i64 p, .int .i64 c, .int .i64 l]] w fun e w' => e = .returned (.bool true) ∧ Below w.heap.size w w' := by
  have h' : (n < 0 ∨ 1152921504606846976 < n) ∨ (0 ≤ n ∧ n ≤ 1152921504606846976) ∧ setE d wi p c l = 1 := by
    rcases h with h | ⟨h, h2⟩
    · exact .inl h
    · exact .inr ⟨h, setE_1 h2⟩
  have H' := Lib.hid h'
  have S0 := Lib.hid (blk_new w (.cells #[.int .i64 d, .int .i64 wi, .int .i64 p, .int .i64 c, .int .i64 l] 26))
  have B0 := Lib.hid (below_alloc (Below.refl w.heap.size w) (.cells #[.int .i64 d, .int .i64 wi, .int .i64 p, .int .i64 c, .int .i64 l] 26))
  have hus := Try.underlying26
  have H := Lib.hid h
  clear h h'
  go_enter Try.func5, Try.ntmps5
  go_wp2_with fail
  refine (newOut_not n d wi p c l _ H'.out).mono ?_
  rintro e w1 ⟨rfl, hb1⟩
  have S1 := Lib.hid (blk_below S0.out hb1)
  have B1 := Lib.hid (below_then B0.out B0.out.size hb1)
  have c1 := blkc S1.out
  clear hb1 S0 B0
  go_wp2_with fail
  refine (newIn_not n d wi p c l _ H'.out).mono ?_
  rintro e w2 ⟨rfl, hb2⟩
  have S2 := Lib.hid (blk_below S1.out hb2)
  have B2 := Lib.hid (below_then B1.out B1.out.size hb2)
  clear hb2 c1 S1 B1
  have c2 := blkc S2.out
  rcases H.out with (h | h) | ⟨⟨h1, h2⟩, h3⟩
  · have t1 : decide (n < 0) = true := by simpa using h
    go_wp2_with fail
    refine (lives_any _).mono ?_
    rintro e w3 ⟨rfl, hb3⟩
    go_wp2
    go_ret
    exact ⟨rfl, below_then B2.out B2.out.size hb3⟩
  · have t1 : decide (n < 0) = false := by simp; omega
    have t2 : decide (1152921504606846976 < n) = true := by simpa using h
    go_wp2_with fail
    refine (lives_any _).mono ?_
    rintro e w3 ⟨rfl, hb3⟩
    go_wp2
    go_ret
    exact ⟨rfl, below_then B2.out B2.out.size hb3⟩
  · have t1 : decide (n < 0) = false := by simp; omega
    have t2 : decide (1152921504606846976 < n) = false := by simp; omega
    have H3 := Lib.hid h3
    clear h3
    go_wp2_with fail
    refine (may_any _ _ _ _ _ _).mono ?_
    rintro e w3 ⟨rfl, hb3⟩
    rw [H3.out]
    have B3 := Lib.hid (below_then B2.out B2.out.size hb3)
    clear hb3
    go_wp2_with fail
    refine (lives_any _).mono ?_
    rintro e w4 ⟨rfl, hb4⟩
    go_wp2
    go_ret
    exact ⟨rfl, below_then B3.out B3.out.size hb4⟩
set_option maxHeartbeats 1600000 in
set_option maxRecDepth 100000 in
theorem news_ok (n d wi p c l : Int) (w : World) (h : 0 ≤ n ∧ n ≤ 1152921504606846976) (hs : setB d wi p c l = true) :
    Calls Try.prog 5 #[.int .i64 n, .agg #[.int .i64 d, .int .i64 wi, .int .i64 p, .int .i64 c, .int .i64 l]] w fun e w' => e = .returned (.bool true) ∧ Below w.heap.size w w' := by
  obtain ⟨h1, h2⟩ := h
  have HS := Lib.hid hs
  have HE := Lib.hid (setE_0 hs)
  have hb : 1 ≤ wi ∧ wi ≤ 64 ∧ 1 ≤ p ∧ p ≤ 100 := by
    simp only [setB, inB, Bool.and_eq_true, decide_eq_true_eq] at hs
    omega
  have OK := Lib.hid (St.Ok.new (n := n) (wi := wi) (p := p) h1 h2 hb.1 hb.2.1 hb.2.2.1 hb.2.2.2)
  have S0 := Lib.hid (blk_new w (.cells #[.int .i64 d, .int .i64 wi, .int .i64 p, .int .i64 c, .int .i64 l] 26))
  have B0 := Lib.hid (below_alloc (Below.refl w.heap.size w) (.cells #[.int .i64 d, .int .i64 wi, .int .i64 p, .int .i64 c, .int .i64 l] 26))
  have hus := Try.underlying26
  clear hs hb
  go_enter Try.func5, Try.ntmps5
  go_wp2_with fail
  refine (newOut_ok n d wi p c l _ ⟨h1, h2⟩ HE.out).mono ?_
  rintro e w1 ⟨g, rfl, hg, hG, hb1⟩
  have S1 := Lib.hid (blk_below S0.out hb1)
  have B1 := Lib.hid (below_then B0.out B0.out.size hb1)
  have O1 := Lib.hid (show OutR w1 0 g (.slice none 0 0) ⟨lineNew n wi, n, n, [], 0, p⟩ from ⟨_, hG, OutC.new n wi p, Kd.Q_nil _ _ _ _ _⟩)
  have c1 := blkc S1.out
  clear hb1 S0 B0 hG
  go_wp2_with fail
  refine (newIn_ok n d wi p c l _ ⟨h1, h2⟩ HE.out).mono ?_
  rintro e w2 ⟨i, rfl, hi, hI, hb2⟩
  have S2 := Lib.hid (blk_below S1.out hb2)
  have B2 := Lib.hid (below_then B1.out B1.out.size hb2)
  have O2 := Lib.hid (O1.out.below hb2)
  have I2 := Lib.hid (show InR w2 i ⟨lineNew n wi, 0⟩ from ⟨_, hI, InC.new n wi⟩)
  clear hb2 c1 S1 B1 O1 hI
  have c2 := blkc S2.out
  have t1 : decide (n < 0) = false := by simp; omega
  have t2 : decide (1152921504606846976 < n) = false := by simp; omega
  go_wp2_with fail
  refine (may_any _ _ _ _ _ _).mono ?_
  rintro e w3 ⟨rfl, hb3⟩
  rw [HS.out]
  have B3 := Lib.hid (below_then B2.out B2.out.size hb3)
  have O3 := Lib.hid (O2.out.below hb3)
  have I3 := Lib.hid (I2.out.below hb3)
  clear hb3 c2 S2 B2 O2 I2
  go_wp2_with fail
  refine (acked_any (O3.out.made OK.out) O3.out.from_).mono ?_
  rintro e w' ⟨rfl, rfl⟩
  go_wp2_with fail
  refine (last_any (O3.out.made OK.out) O3.out.last).mono ?_
  rintro e w' ⟨rfl, rfl⟩
  go_wp2_with fail
  refine (under_ok O3.out OK.out).mono ?_
  rintro e w' ⟨rfl, nq, rfl⟩
  have I4 := Lib.hid (show InR (w3.drewN nq) i ⟨lineNew n wi, 0⟩ from I3.out)
  have B4 := Lib.hid (pw_below_drewN B3.out nq)
  clear O3 I3 B3
  generalize w3.drewN nq = w4 at *
  go_wp2_with fail
  refine (next_any (I4.out.made rfl) I4.out.from_ h1 (by show n ≤ _; omega)).mono ?_
  rintro e w' ⟨rfl, rfl⟩
  go_wp2_with fail
  refine (held_any I4.out.holds).mono ?_
  rintro e w' ⟨rfl, rfl⟩
  go_wp2_with fail
  refine (lives_any _).mono ?_
  rintro e w5 ⟨rfl, hb5⟩
  go_wp2
  go_ret
  exact ⟨rfl, below_then B4.out B4.out.size hb5⟩
end Go.Proofs.Ytofmgijdeeikeaa.Hop
namespace Go.Proofs.Ytofmgijdeeikeaa.Walk
open Go.RowKit Go.Proofs.Ytofmgijdeeikeaa.Opn
theorem HopNews (n : Int) (x : SetT) (cs : List Value) (W : World) (hn : (Lit.int .i64 n).wf = true) (hc : kSet.K W x cs) (hp : pSet x) : Calls Try.prog 5 #[.int .i64 n, .agg cs.toArray] W fun e W' => e = .returned (.bool true) ∧ Below W.heap.size W W' := by
  obtain rfl := kSet_cells hc
  obtain ⟨d, wi, p, c, l⟩ := x
  by_cases h : 0 ≤ n ∧ n ≤ 1152921504606846976
  · cases hs : Hop.setB d wi p c l with
    | false => exact Hop.news_bad n d wi p c l W (.inr ⟨h, hs⟩)
    | true => exact Hop.news_ok n d wi p c l W h hs
  · exact Hop.news_bad n d wi p c l W (.inl (by omega))
end Go.Proofs.Ytofmgijdeeikeaa.Walk
