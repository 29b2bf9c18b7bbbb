/- What is done with a net in memory: at, Len, At. -/
import Derived.Test.YtpjbgcpieijeaaaNetClone
set_option linter.unusedVariables false
set_option linter.unusedSimpArgs false
namespace Go.Proofs.Ytpjbgcpieijeaaa.Net
open Go.RowKit Go.Proofs.Ytpjbgcpieijeaaa.Mem Go.Proofs.YtpjbgcpieijeaaaW.PrintWords Go.Proofs.YtpjbgcpieijeaaaW.PrintLast Go.Proofs.Ytpjbgcpieijeaaa.Byt Go.Proofs.Ytpjbgcpieijeaaa.Opn Go.Deep
abbrev tI : TypeId := 3
/-- Is there such a place? -/
def atB (n : Nat) (i : Int) : Bool := decide (0 ≤ i) && decide (i < n)
def atE (n : Nat) (i : Int) : Int := if atB n i = true then 0 else 241
theorem atE_yes {n : Nat} {i : Int} (h : atB n i = true) : atE n i = 0 := by rw [atE, if_pos h]
theorem atE_no {n : Nat} {i : Int} (h : atB n i = false) : atE n i = 241 := by rw [atE, if_neg (by rw [h]; decide)]
theorem atB_yes {n : Nat} {i : Int} (h : atB n i = true) : ∃ k : Nat, i = (k : Int) ∧ k < n := by
  simp [atB] at h
  exact ⟨i.toNat, by omega, by omega⟩
section
variable {w w0 : World} {base g m : Nat} {O : Nat → Prop} {nd cl : Int} {v : Value} {fls : List Fl} {sent : List LtT}
theorem len_net (h : NetR w base O g m nd cl v fls sent) : Calls Try.prog 12 #[.pointer (some ⟨g, 0, none⟩)] w fun e w' => e = .returned (.int .i64 (fls.length : Int)) ∧ w = w' := by
  obtain ⟨A, c, rfl, _⟩ := h.way.slice
  exact len_any h.net

set_option maxHeartbeats 3200000 in
set_option maxRecDepth 100000 in
theorem at1_any (h : NetR w base O g m nd cl v fls sent) {b : Nat} {i : Int} (hb : w.heap[b]? = some (.cells #[.int .i64 i] tI (0, 0))) : Calls Try.prog 34 #[.pointer (some ⟨g, 0, none⟩), .slice (some ⟨b, 0, none⟩) 1 1] w fun e w' => e = .returned (.int .i64 (atE fls.length i)) ∧ w = w' := by
  obtain ⟨A, c, rfl, _⟩ := h.way.slice
  have HN := Lib.hid h.net
  have PB := Lib.hid hb
  clear h hb
  generalize fls.length = n at *
  obtain ⟨r, hr⟩ : ∃ r, atE n i = r := ⟨_, rfl⟩
  rw [hr]
  go_enter Try.func34, Try.ntmps34
  go_wp2_with fail
  refine (made_any HN.out).mono ?_
  rintro e w1 ⟨rfl, rfl⟩
  have cn := blkc HN.out
  have cb := blkc PB.out
  go_wp2_with fail
  refine wp_loop_rounds 2 ?_
  rw [rounds_succ]
  by_cases h0 : i < 0
  · have d0 : decide (i < 0) = true := by simpa using h0
    have hr1 : r = 241 := by rw [← hr]; exact atE_no (by simp [atB]; omega)
    clear hr h0
    subst hr1
    go_wp2_with fail
    go_ret
    exact ⟨rfl, rfl⟩
  · have d0 : decide (i < 0) = false := by simpa using h0
    by_cases h1 : (n : Int) ≤ i
    · have d1 : decide ((n : Int) ≤ i) = true := by simpa using h1
      have hr1 : r = 241 := by rw [← hr]; exact atE_no (by simp [atB]; omega)
      clear hr h0 h1
      subst hr1
      go_wp2_with fail
      go_ret
      exact ⟨rfl, rfl⟩
    · have d1 : decide ((n : Int) ≤ i) = false := by simpa using h1
      have hr1 : r = 0 := by rw [← hr]; exact atE_yes (by simp [atB]; omega)
      clear hr h0 h1
      subst hr1
      go_wp2_with fail
      rw [rounds_succ]
      go_wp2_with fail
      go_ret
      exact ⟨rfl, rfl⟩

set_option maxHeartbeats 3200000 in
set_option maxRecDepth 100000 in
theorem at2_any (h : NetR w base O g m nd cl v fls sent) {b : Nat} {i k : Int} (hb : w.heap[b]? = some (.cells #[.int .i64 i, .int .i64 k] tI (0, 0))) : Calls Try.prog 34 #[.pointer (some ⟨g, 0, none⟩), .slice (some ⟨b, 0, none⟩) 2 2] w fun e w' => e = .returned (.int .i64 (if (atB fls.length i && atB fls.length k) = true then 0 else 241)) ∧ w = w' := by
  obtain ⟨A, c, rfl, _⟩ := h.way.slice
  have HN := Lib.hid h.net
  have PB := Lib.hid hb
  clear h hb
  generalize fls.length = n at *
  obtain ⟨r, hr⟩ : ∃ r : Int, (if (atB n i && atB n k) = true then 0 else 241) = r := ⟨_, rfl⟩
  rw [hr]
  go_enter Try.func34, Try.ntmps34
  go_wp2_with fail
  refine (made_any HN.out).mono ?_
  rintro e w1 ⟨rfl, rfl⟩
  have cn := blkc HN.out
  have cb := blkc PB.out
  go_wp2_with fail
  refine wp_loop_rounds 3 ?_
  rw [rounds_succ]
  by_cases h0i : i < 0
  · have di0 : decide (i < 0) = true := by simpa using h0i
    have hr1 : r = 241 := by rw [← hr, if_neg (by simp [atB]; omega)]
    clear hr
    subst hr1
    clear h0i
    go_wp2_with fail
    go_ret
    exact ⟨rfl, rfl⟩
  · have di0 : decide (i < 0) = false := by simpa using h0i
    by_cases h1i : (n : Int) ≤ i
    · have di1 : decide ((n : Int) ≤ i) = true := by simpa using h1i
      have hr1 : r = 241 := by rw [← hr, if_neg (by simp [atB]; omega)]
      clear hr
      subst hr1
      clear h0i h1i
      go_wp2_with fail
      go_ret
      exact ⟨rfl, rfl⟩
    · have di1 : decide ((n : Int) ≤ i) = false := by simpa using h1i
      go_wp2_with fail
      rw [rounds_succ]
      by_cases h0k : k < 0
      · have dk0 : decide (k < 0) = true := by simpa using h0k
        have hr1 : r = 241 := by rw [← hr, if_neg (by simp [atB]; omega)]
        clear hr
        subst hr1
        clear h0k
        go_wp2_with fail
        go_ret
        exact ⟨rfl, rfl⟩
      · have dk0 : decide (k < 0) = false := by simpa using h0k
        by_cases h1k : (n : Int) ≤ k
        · have dk1 : decide ((n : Int) ≤ k) = true := by simpa using h1k
          have hr1 : r = 241 := by rw [← hr, if_neg (by simp [atB]; omega)]
          clear hr
          subst hr1
          clear h0k h1k
          go_wp2_with fail
          go_ret
          exact ⟨rfl, rfl⟩
        · have dk1 : decide ((n : Int) ≤ k) = false := by simpa using h1k
          have hr1 : r = 0 := by rw [← hr, if_pos (by simp [atB]; omega)]
          clear hr
          subst hr1
          go_wp2_with fail
          rw [rounds_succ]
          go_wp2_with fail
          go_ret
          exact ⟨rfl, rfl⟩
set_option maxHeartbeats 3200000 in
set_option maxRecDepth 100000 in
theorem get_not (h : NetR w base O g m nd cl v fls sent) {i : Int} (hi : atB fls.length i = false) : Calls Try.prog 17 #[.pointer (some ⟨g, 0, none⟩), .int .i64 i] w fun e w' => e = .returned (.tuple #[zp, .int .i64 241]) ∧ Below w.heap.size w w' := by
  have H := Lib.hid h
  have HE := Lib.hid (atE_no hi)
  clear h hi
  go_enter Try.func17, Try.ntmps17
  go_wp2_with fail
  have BA := below_alloc (Below.refl w.heap.size w) (.cells #[.int .i64 0, .int .i64 0, .slice none 0 0] tPk)
  have BZ := below_alloc (Below.refl _ (w.alloc (.cells #[.int .i64 0, .int .i64 0, .slice none 0 0] tPk))) (.cells #[.int .i64 i] tI)
  have BS := Lib.hid (below_then BA BA.size BZ)
  have PA := Lib.hid (blk_below (blk_new w (.cells #[.int .i64 0, .int .i64 0, .slice none 0 0] tPk)) BZ)
  have PI := Lib.hid (show ((w.alloc (.cells #[.int .i64 0, .int .i64 0, .slice none 0 0] tPk)).alloc (.cells #[.int .i64 i] tI)).heap[w.heap.size + 1]? = some (.cells #[.int .i64 i] tI (0, 0)) from by have := blk_new (w.alloc (.cells #[.int .i64 0, .int .i64 0, .slice none 0 0] tPk)) (.cells #[.int .i64 i] tI); rwa [World.size_alloc] at this)
  have HN := Lib.hid (H.out.below BS.out)
  clear BA BZ
  generalize (World.alloc (World.alloc _ _) _) = W2 at *
  refine (at1_any HN.out PI.out).mono ?_
  rintro e w1 ⟨rfl, rfl⟩
  rw [HE.out]
  have cp := blkc PA.out
  have z3 := blkz PA.out
  have PS := Lib.hid (zero3' PA.out (.int .i64 0) (.int .i64 0) (.slice none 0 0))
  go_wp2_with fail
  exact bodyPost_ret (res_pk rfl rfl rfl PS.out) rfl ⟨rfl, set3 BS.out (Nat.le_refl _) _ _ _⟩
set_option maxHeartbeats 3200000 in
set_option maxRecDepth 100000 in
theorem get_net (h : NetR w base O g m nd cl v fls sent) {i : Nat} {f : Fl} (hi : fls[i]? = some f) : Calls Try.prog 17 #[.pointer (some ⟨g, 0, none⟩), .int .i64 (i : Int)] w fun e w' => ∃ v', e = .returned (.tuple #[.agg #[.int .i64 f.src, .int .i64 f.dst, v'], .int .i64 0]) ∧ Ow w' w.heap.size v' f.nb ∧ Below w.heap.size w w' := by
  have hil : i < fls.length := (List.getElem?_eq_some_iff.1 hi).1
  have H := Lib.hid h
  have HE := Lib.hid (atE_yes (n := fls.length) (i := (i : Int)) (by simp [atB]; omega))
  have HI := Lib.hid hi
  have FR := Lib.hid (h.fl f (List.mem_of_getElem? hi))
  clear h hi
  go_enter Try.func17, Try.ntmps17
  go_wp2_with fail
  have BA := below_alloc (Below.refl w.heap.size w) (.cells #[.int .i64 0, .int .i64 0, .slice none 0 0] tPk)
  have BZ := below_alloc (Below.refl _ (w.alloc (.cells #[.int .i64 0, .int .i64 0, .slice none 0 0] tPk))) (.cells #[.int .i64 (i : Int)] tI)
  have BS := Lib.hid (below_then BA BA.size BZ)
  have PA := Lib.hid (blk_below (blk_new w (.cells #[.int .i64 0, .int .i64 0, .slice none 0 0] tPk)) BZ)
  have PI := Lib.hid (show ((w.alloc (.cells #[.int .i64 0, .int .i64 0, .slice none 0 0] tPk)).alloc (.cells #[.int .i64 (i : Int)] tI)).heap[w.heap.size + 1]? = some (.cells #[.int .i64 (i : Int)] tI (0, 0)) from by have := blk_new (w.alloc (.cells #[.int .i64 0, .int .i64 0, .slice none 0 0] tPk)) (.cells #[.int .i64 (i : Int)] tI); rwa [World.size_alloc] at this)
  have HN := Lib.hid (H.out.below BS.out)
  clear BA BZ
  generalize (World.alloc (World.alloc _ _) _) = W2 at *
  refine (at1_any HN.out PI.out).mono ?_
  rintro e w1 ⟨rfl, rfl⟩
  rw [HE.out]
  obtain ⟨ad, c, rfl, hc, hob, y0, y1, y2, y3⟩ := HN.out.way.at HI.out
  obtain ⟨A2, c2, hv2, hl2, hC2⟩ := (HN.out.fl f (List.mem_of_getElem? HI.out)).n.reads
  rw [hv2] at y3
  have HC2 := Lib.hid hC2
  have HLB := Lib.hid FR.out.lb
  have cn := blkc HN.out.net
  have p0 := eq_true (show 0 ≤ (i : Int) by omega)
  have p1 := eq_true hil
  clear hc hob hv2 hl2 hC2 FR
  generalize f.sv = sv at *
  generalize hq1 : f.src = fs at *
  generalize hq2 : f.dst = fd at *
  generalize hq3 : f.nb = nb at *
  have HEQ := Lib.hid (And.intro hq1 (And.intro hq2 hq3))
  clear hq1 hq2 hq3
  go_wp2_with fail
  refine (packet_any fs fd sv HC2.out (by have := HLB.out; omega)).mono ?_
  rintro e w3 ⟨v3, rfl, ho3, hb3⟩
  obtain ⟨A3, c3, rfl⟩ := own_slice ho3
  have P3 := Lib.hid (blk_below PA.out hb3)
  have B3 := Lib.hid (below_then BS.out BS.out.size hb3)
  have O3 := Lib.hid (ow_far3 ho3 (blk_lt PA.out) (.int .i64 fs) (.int .i64 fd) (.slice A3 nb.length c3))
  have HWS := Lib.hid BS.out.size
  clear hb3 ho3 cn y0 y1 y2 y3
  have cp := blkc P3.out
  have z3 := blkz P3.out
  have PS := Lib.hid (zero3' P3.out (.int .i64 fs) (.int .i64 fd) (.slice A3 nb.length c3))
  go_wp2_with fail
  obtain ⟨rfl, rfl, rfl⟩ := HEQ.out
  exact bodyPost_ret (res_pk rfl rfl rfl PS.out) rfl ⟨_, rfl, O3.out.lower HWS.out, set3 B3.out (Nat.le_refl _) _ _ _⟩
end
end Go.Proofs.Ytpjbgcpieijeaaa.Net
