/- ask: one call that asks something. -/
import Derived.Test.YtjpalkggmefpfaaTabAsk1
import Derived.Test.YtjpalkggmefpfaaTabCmp
set_option linter.unusedVariables false
set_option linter.unusedSimpArgs false
namespace Go.Proofs.Ytjpalkggmefpfaa.Tab
open Go.RowKit Go.Proofs.Ytjpalkggmefpfaa.Mem Go.Proofs.YtjpalkggmefpfaaW.PrintWords Go.Proofs.YtjpalkggmefpfaaW.PrintLast Go.Deep Go.Proofs.Ytjpalkggmefpfaa.Opn
attribute [local go_sem ↓] execOp_call_tmp
attribute [local go_sem] callVal_func
set_option maxHeartbeats 1600000 in
theorem rrank_any {w : World} {A : Option Addr} {c : Nat} {l : List Row} (hC : kR.C w A l.length l) (hu : Up l) (hlen : l.length ≤ 1099511627776) (key : ByteArray) :
    Calls Try.prog 60 #[.slice A l.length c, .string key] w fun e w' => e = .returned (.int .i64 ((below key l).length : Int)) ∧ w = w' := by
  have HP := Lib.hid (place_any (c := c) hC hu hlen key)
  clear hC hu hlen
  go_enter Try.func60, Try.ntmps60
  go_wp2_with fail
  refine HP.out.mono ?_
  rintro e w1 ⟨rfl, rfl⟩
  go_wp2
  go_ret
  exact ⟨rfl, rfl⟩
set_option maxHeartbeats 1600000 in
theorem tat_bad {w : World} {g : Nat} {l : List Row} (h : TabR w g l) {n : Int} (hn : n < 0 ∨ (l.length : Int) ≤ n) : Calls Try.prog 31 #[.pointer (some ⟨g, 0, none⟩), .int .i64 n] w fun e w' => e = .returned (.tuple #[Row.zero.val, .int .i64 74]) ∧ Below w.heap.size w w' := by
  have B0 := Lib.hid (below_alloc (Below.refl w.heap.size w) (.cells #[.string ⟨#[]⟩, .string ⟨#[]⟩, .int .i64 0] tRow))
  have P0 := Lib.hid (blk_new w (.cells #[.string ⟨#[]⟩, .string ⟨#[]⟩, .int .i64 0] tRow))
  have TT := Lib.hid (h.below B0.out)
  have P1 := Lib.hid (set_row3 P0.out rfl (.string ⟨#[]⟩) (.string ⟨#[]⟩) (.int .i64 0))
  have B1 := Lib.hid (below_row3 (b := w.heap.size) B0.out (Nat.le_refl _) (.string ⟨#[]⟩) (.string ⟨#[]⟩) (.int .i64 0))
  have hus := Try.underlying25
  obtain ⟨t, root, h1, h2, h3, h4⟩ := id TT.out
  have HG := Lib.hid h1
  have cp := blkc P0.out
  have zp := blkz P0.out
  clear h h1 h2 h3 h4
  by_cases h0 : n < 0
  · have d0 : decide (n < 0) = true := by simpa using h0
    go_enter Try.func31, Try.ntmps31
    go_wp2_with fail
    generalize (World.alloc w _) = W0 at *
    refine (is_any HG.out).mono ?_
    rintro e w1 ⟨rfl, rfl⟩
    go_wp2_with fail
    have c1 := blkc P1.out
    exact bodyPost_ret (v := .tuple #[Row.zero.val, .int .i64 74]) (by simp [results, Try.results31, go_sem, hus, c1, Row.zero]) rfl ⟨rfl, B1.out⟩
  · have d0 : decide (n < 0) = false := by simpa using h0
    have d1 : decide ((l.length : Int) ≤ n) = true := by simp; omega
    go_enter Try.func31, Try.ntmps31
    go_wp2_with fail
    generalize (World.alloc w _) = W0 at *
    refine (is_any HG.out).mono ?_
    rintro e w1 ⟨rfl, rfl⟩
    go_wp2_with fail
    refine (len_any TT.out).mono ?_
    rintro e w1 ⟨rfl, rfl⟩
    go_wp2_with fail
    have c1 := blkc P1.out
    exact bodyPost_ret (v := .tuple #[Row.zero.val, .int .i64 74]) (by simp [results, Try.results31, go_sem, hus, c1, Row.zero]) rfl ⟨rfl, B1.out⟩

set_option maxHeartbeats 51200000 in
set_option maxRecDepth 100000 in
theorem ask_any {w : World} {n0 b : Nat} {g : Nat → Nat} {l : Nat → List Row} {A : Nat → Option Addr} {c : Nat → Nat} (h : PlayR n0 w b g l A c) (s : TStep) {Av : Option Addr} {cv : Nat} :
    Calls Try.prog 38 #[.pointer (some ⟨b, 0, none⟩), .agg #[Value.int .i64 s.call, .int .i64 s.table, .int .i64 s.to2, .string s.row.key, .string s.row.value, .int .i64 s.row.version, .string s.key, .string s.from_, .string s.upto, .slice Av s.rows.length cv, .int .i64 s.n]] w fun e w' => e = .returned (.bool true) ∧ Below w.heap.size w w' := by
  have hi := idx_lt s.table
  have ba := below_alloc (Below.refl w.heap.size w) (.cells #[Value.int .i64 s.call, .int .i64 s.table, .int .i64 s.to2, .string s.row.key, .string s.row.value, .int .i64 s.row.version, .string s.key, .string s.from_, .string s.upto, .slice Av s.rows.length cv, .int .i64 s.n] tOp)
  have Q0 := Lib.hid (blk_new w (.cells #[Value.int .i64 s.call, .int .i64 s.table, .int .i64 s.to2, .string s.row.key, .string s.row.value, .int .i64 s.row.version, .string s.key, .string s.from_, .string s.upto, .slice Av s.rows.length cv, .int .i64 s.n] tOp))
  have PL := Lib.hid (h.below ba)
  have B0 := Lib.hid ba
  clear h ba
  have cq := blkc Q0.out
  go_enter Try.func38, Try.ntmps38
  go_wp2_with fail
  generalize (World.alloc w _) = W0 at *
  generalize w.heap.size = q at Q0 ⊢
  clear cq
  refine (index_any s.table W0).mono ?_
  rintro e w1 ⟨rfl, rfl⟩
  obtain ⟨i, hidx⟩ : ∃ i, idx s.table = i := ⟨_, rfl⟩
  rw [hidx] at hi ⊢
  clear hidx
  have cq := blkc Q0.out
  go_wp2_with fail
  clear cq
  have p0 := eq_true (show 0 ≤ (i : Int) by omega)
  have p3 := eq_true (show (i : Int) < 3 by omega)
  have p4 := eq_true (show i < 3 by omega)
  refine start_ (n := 14) (S := fun w' => w'.cell? ⟨b, i, none⟩ = some (.pointer (some ⟨g i, 0, none⟩)) ∧ w'.cell? ⟨b, 3 + i, none⟩ = some (.slice (A i) (l i).length (c i))) (ds := []) #[false, false, false, false, false, false, false, false, false, false, false, false, false, false] (by kernel_rfl) rfl rfl ⟨(PL.out.cellT hi), (PL.out.cellX hi)⟩ (fun hHeld => ?_)
  refine pure_ (i := 0) (N := some 18) (v := ?_) (a' := ?_) #[true, false, false, false, false, false, false, false, false, false, false, false, false, false] rfl rfl (by kernel_rfl) (fun _ _ _ h => h) (Or.inl ⟨by rfl, ?_⟩) ?_ ?_
  rotate_left
  · intro w'
    go_simp
    with_reducible rfl
  rotate_left
  · simp only [Act.put, List.setIfInBounds_toArray, List.set_cons_zero, List.set_cons_succ, i64_w, i32_w]
    rfl
  refine pure_ (i := 1) (N := some 19) (v := ?_) (a' := ?_) #[true, true, false, false, false, false, false, false, false, false, false, false, false, false] rfl rfl (by kernel_rfl) (fun _ _ _ h => h) (Or.inl ⟨by rfl, ?_⟩) ?_ ?_
  rotate_left
  · intro w'
    go_simp
    with_reducible rfl
  rotate_left
  · simp only [Act.put, List.setIfInBounds_toArray, List.set_cons_zero, List.set_cons_succ, i64_w, i32_w]
    rfl
  refine pure_ (i := 2) (N := some 20) (v := ?_) (a' := ?_) #[true, true, true, false, false, false, false, false, false, false, false, false, false, false] rfl rfl (by kernel_rfl) (fun _ _ _ h => h) (Or.inl ⟨by rfl, ?_⟩) ?_ ?_
  rotate_left
  · intro w'
    go_simp
    with_reducible rfl
  rotate_left
  · simp only [Act.put, List.setIfInBounds_toArray, List.set_cons_zero, List.set_cons_succ, i64_w, i32_w]
    rfl
  refine pure_ (i := 3) (N := some 21) (v := ?_) (a' := ?_) #[true, true, true, true, false, false, false, false, false, false, false, false, false, false] rfl rfl (by kernel_rfl) (fun _ _ _ h => h) (Or.inl ⟨by rfl, ?_⟩) ?_ ?_
  rotate_left
  · intro w'
    go_simp
    with_reducible rfl
  rotate_left
  · simp only [Act.put, List.setIfInBounds_toArray, List.set_cons_zero, List.set_cons_succ, i64_w, i32_w]
    rfl
  refine pure_ (i := 4) (N := some 22) (v := ?_) (a' := ?_) #[true, true, true, true, true, false, false, false, false, false, false, false, false, false] rfl rfl (by kernel_rfl) (fun _ _ _ h => h) (Or.inl ⟨by rfl, ?_⟩) ?_ ?_
  rotate_left
  · intro w'
    go_simp
    with_reducible rfl
  rotate_left
  · simp only [Act.put, List.setIfInBounds_toArray, List.set_cons_zero, List.set_cons_succ, i64_w, i32_w]
    rfl
  refine pure_ (i := 6) (N := some 24) (v := ?_) (a' := ?_) #[true, true, true, true, true, false, true, false, false, false, false, false, false, false] rfl rfl (by kernel_rfl) (fun _ _ _ h => h) (Or.inl ⟨by rfl, ?_⟩) ?_ ?_
  rotate_left
  · intro w'
    go_simp
    with_reducible rfl
  rotate_left
  · simp only [Act.put, List.setIfInBounds_toArray, List.set_cons_zero, List.set_cons_succ, i64_w, i32_w]
    rfl
  refine pure_ (i := 7) (N := some 25) (v := ?_) (a' := ?_) #[true, true, true, true, true, false, true, true, false, false, false, false, false, false] rfl rfl (by kernel_rfl) (fun _ _ _ h => h) (Or.inl ⟨by rfl, ?_⟩) ?_ ?_
  rotate_left
  · intro w'
    go_simp
    with_reducible rfl
  rotate_left
  · simp only [Act.put, List.setIfInBounds_toArray, List.set_cons_zero, List.set_cons_succ, i64_w, i32_w]
    rfl
  refine pure_ (i := 8) (N := some 26) (v := ?_) (a' := ?_) #[true, true, true, true, true, false, true, true, true, false, false, false, false, false] rfl rfl (by kernel_rfl) (fun _ _ _ h => h) (Or.inl ⟨by rfl, ?_⟩) ?_ ?_
  rotate_left
  · intro w'
    go_simp
    with_reducible rfl
  rotate_left
  · simp only [Act.put, List.setIfInBounds_toArray, List.set_cons_zero, List.set_cons_succ, i64_w, i32_w]
    rfl
  refine pure_ (i := 9) (N := some 27) (v := ?_) (a' := ?_) #[true, true, true, true, true, false, true, true, true, true, false, false, false, false] rfl rfl (by kernel_rfl) (fun _ _ _ h => h) (Or.inl ⟨by rfl, ?_⟩) ?_ ?_
  rotate_left
  · intro w'
    go_simp
    with_reducible rfl
  rotate_left
  · simp only [Act.put, List.setIfInBounds_toArray, List.set_cons_zero, List.set_cons_succ, i64_w, i32_w]
    rfl
  refine pure_ (i := 10) (N := some 28) (v := ?_) (a' := ?_) #[true, true, true, true, true, false, true, true, true, true, true, false, false, false] rfl rfl (by kernel_rfl) (fun _ _ _ h => h) (Or.inl ⟨by rfl, ?_⟩) ?_ ?_
  rotate_left
  · intro w'
    go_simp
    with_reducible rfl
  rotate_left
  · simp only [Act.put, List.setIfInBounds_toArray, List.set_cons_zero, List.set_cons_succ, i64_w, i32_w]
    rfl
  refine take_ (i := 5) (N := some 23) (v := ?_) (a' := ?_) #[true, true, true, true, true, true, true, true, true, true, true, false, false, false] rfl rfl (by kernel_rfl) (fun _ _ _ h => h) (Or.inl ⟨by rfl, ?_⟩) hHeld ?_ ?_
  rotate_left
  · rintro w' ⟨s0, s1⟩
    go_simp
    with_reducible rfl
  rotate_left
  · simp only [Act.put, List.setIfInBounds_toArray, List.set_cons_zero, List.set_cons_succ, i64_w, i32_w]
    rfl
  refine pure_ (i := 12) (N := some 6) (v := ?_) (a' := ?_) #[true, true, true, true, true, true, true, true, true, true, true, false, true, false] rfl rfl (by kernel_rfl) (fun _ _ _ h => h) (Or.inl ⟨by rfl, ?_⟩) ?_ ?_
  rotate_left
  · intro w'
    go_simp
    with_reducible rfl
  rotate_left
  · simp only [Act.put, List.setIfInBounds_toArray, List.set_cons_zero, List.set_cons_succ, i64_w, i32_w]
    rfl
  refine take_ (i := 11) (N := some 29) (v := ?_) (a' := ?_) #[true, true, true, true, true, true, true, true, true, true, true, true, true, false] rfl rfl (by kernel_rfl) (fun _ _ _ h => h) (Or.inl ⟨by rfl, ?_⟩) hHeld ?_ ?_
  rotate_left
  · rintro w' ⟨s0, s1⟩
    go_simp
    with_reducible rfl
  rotate_left
  · simp only [Act.put, List.setIfInBounds_toArray, List.set_cons_zero, List.set_cons_succ, i64_w, i32_w]
    rfl
  refine pure_ (i := 13) (N := some 7) (v := ?_) (a' := ?_) #[true, true, true, true, true, true, true, true, true, true, true, true, true, true] rfl rfl (by kernel_rfl) (fun _ _ _ h => h) (Or.inl ⟨by rfl, ?_⟩) ?_ ?_
  rotate_left
  · intro w'
    go_simp
    with_reducible rfl
  rotate_left
  · simp only [Act.put, List.setIfInBounds_toArray, List.set_cons_zero, List.set_cons_succ, i64_w, i32_w]
    rfl
  refine done_ (by kernel_rfl) ?_
  have bd1 := below_drew (Below.refl W0.heap.size W0)
  have PD := Lib.hid (PL.out.below bd1)
  have QD := Lib.hid (blk_below Q0.out bd1)
  have BD := Lib.hid (below_then B0.out B0.out.size bd1)
  generalize W0.drew = W1 at *
  have T := Lib.hid (PD.out.tab i hi)
  have X := Lib.hid (PD.out.xr i hi)
  have OK := Lib.hid (PD.out.ok i hi)
  have LN := Lib.hid (PD.out.ok i hi).len
  clear bd1 p0 p3 p4 B0 Q0 PL
  by_cases h4 : s.call = 4
  · have e4 : (s.call == 4) = true := by simpa using h4
    clear h4
    clear PD hi
    generalize g i = gi at *
    generalize l i = L at *
    generalize A i = Ai at *
    generalize c i = ci at *
    have cq := blkc QD.out
    go_wp2_with fail
    clear e4 cq
    refine (tget_any T.out OK.out.up s.key).mono ?_
    rintro e w2 ⟨rfl, hb2⟩
    obtain ⟨r0, hr0⟩ : ∃ r, (find L s.key).getD Row.zero = r := ⟨_, rfl⟩
    obtain ⟨ok0, hok0⟩ : ∃ b, (find L s.key).isSome = b := ⟨_, rfl⟩
    have HR0 := Lib.hid (And.intro hr0 hok0)
    rw [hr0, hok0]
    clear hr0 hok0
    have bb := below_then hb2 hb2.size (below_alloc (Below.refl w2.heap.size w2) (.cells #[.string r0.key, .string r0.value, .int .i64 r0.version] tRow))
    have P2 := Lib.hid (blk_new w2 (.cells #[.string r0.key, .string r0.value, .int .i64 r0.version] tRow))
    have Q2 := Lib.hid (blk_below QD.out bb)
    have X2 := Lib.hid (X.out.below bb)
    have B2 := Lib.hid (below_then BD.out BD.out.size bb)
    clear hb2 bb QD X BD T
    go_upto_region 6 with (fail)
    generalize w2.heap.size = b5 at *
    generalize (World.alloc w2 _) = W2 at *
    have cq := blkc Q2.out
    go_wp2_with fail
    clear cq
    refine (rget_any X2.out.c_ OK.out s.key).mono ?_
    rintro e w3 ⟨rfl, hb3⟩
    rw [HR0.out.1, HR0.out.2]
    have bb := below_then hb3 hb3.size (below_alloc (Below.refl w3.heap.size w3) (.cells #[.string r0.key, .string r0.value, .int .i64 r0.version] tRow))
    have P3 := Lib.hid (blk_new w3 (.cells #[.string r0.key, .string r0.value, .int .i64 r0.version] tRow))
    have P2' := Lib.hid (blk_below P2.out bb)
    have B3 := Lib.hid (below_then B2.out B2.out.size bb)
    clear hb3 bb P2 B2 X2 Q2
    go_upto_region 7 with (fail)
    generalize w3.heap.size = b6 at *
    generalize (World.alloc w3 _) = W3 at *
    have heq := fun W => run_eqR r0 r0 W
    rw [(Row.eqb_iff r0 r0).2 rfl] at heq
    have cp := blkc P2'.out
    have cr := blkc P3.out
    have hbb : (ok0 == ok0) = true := by simp
    go_wp2_with fail
    go_ret
    exact ⟨rfl, B3.out⟩
  by_cases h5 : s.call = 5
  · by_cases hn : 0 ≤ s.n ∧ s.n < ((l i).length : Int)
    · have e4 : (s.call == 4) = false := by simpa using h4
      have e5 : (s.call == 5) = true := by simpa using h5
      clear h4 h5
      clear PD hi
      generalize g i = gi at *
      generalize l i = L at *
      generalize A i = Ai at *
      generalize c i = ci at *
      obtain ⟨j, hsn⟩ : ∃ j : Nat, s.n = (j : Int) := ⟨s.n.toNat, by have := hn.1; omega⟩
      have qd := QD.out
      rw [hsn] at hn qd
      have QD := Lib.hid qd
      have HJ := Lib.hid (show j < L.length by have := hn.2; omega)
      clear hn hsn qd
      have cq := blkc QD.out
      go_wp2_with fail
      clear e4 e5 cq
      obtain ⟨r0, hr0⟩ : ∃ r, L[j]? = some r := ⟨_, List.getElem?_eq_getElem HJ.out⟩
      refine (tat_any T.out OK.out hr0).mono ?_
      rintro e w2 ⟨rfl, hb2⟩
      have bb := below_then hb2 hb2.size (below_alloc (Below.refl w2.heap.size w2) (.cells #[.string r0.key, .string r0.value, .int .i64 r0.version] tRow))
      have P2 := Lib.hid (blk_new w2 (.cells #[.string r0.key, .string r0.value, .int .i64 r0.version] tRow))
      have Q2 := Lib.hid (blk_below QD.out bb)
      have X2 := Lib.hid (X.out.below bb)
      have B2 := Lib.hid (below_then BD.out BD.out.size bb)
      clear hb2 bb QD X BD T
      go_upto_region 10 with (fail)
      generalize w2.heap.size = b9 at *
      generalize (World.alloc w2 _) = W2 at *
      obtain ⟨ad, hA, x0, x1, x2⟩ := at_R X2.out.c_ hr0
      cases hA
      have hj := HJ.out
      have d0 : decide ((j : Int) < 0) = false := by simp
      have d1 : decide (L.length ≤ j) = false := by simp; omega
      have d2 : decide ((L.length : Int) ≤ (j : Int)) = false := by simp; omega
      have p1 := eq_true (show 0 ≤ (j : Int) by omega)
      have p2 := eq_true (show j < L.length by omega)
      have heq := fun W => run_eqR r0 r0 W
      rw [(Row.eqb_iff r0 r0).2 rfl] at heq
      have cq := blkc Q2.out
      have cp := blkc P2.out
      clear hj hr0
      go_wp2_with fail
      go_quiet (fail)
      go_wp2_with fail
      go_ret
      exact ⟨rfl, pw_below_drewN B2.out _⟩
    · have e4 : (s.call == 4) = false := by simpa using h4
      have e5 : (s.call == 5) = true := by simpa using h5
      clear h4 h5
      clear PD hi
      generalize g i = gi at *
      generalize l i = L at *
      generalize A i = Ai at *
      generalize c i = ci at *
      have HN := Lib.hid (show s.n < 0 ∨ (L.length : Int) ≤ s.n by omega)
      clear hn
      have cq := blkc QD.out
      go_wp2_with fail
      clear e4 e5 cq
      refine (tat_bad T.out HN.out).mono ?_
      rintro e w2 ⟨rfl, hb2⟩
      have bb := below_then hb2 hb2.size (below_alloc (Below.refl w2.heap.size w2) (.cells #[.string Row.zero.key, .string Row.zero.value, .int .i64 Row.zero.version] tRow))
      have P2 := Lib.hid (blk_new w2 (.cells #[.string Row.zero.key, .string Row.zero.value, .int .i64 Row.zero.version] tRow))
      have Q2 := Lib.hid (blk_below QD.out bb)
      have B2 := Lib.hid (below_then BD.out BD.out.size bb)
      have hz := run_eqR Row.zero Row.zero
      have heq : ∀ W, (binOp .eql 25 (.agg #[.string ⟨#[]⟩, .string ⟨#[]⟩, .int .i64 0]) (.agg #[.string ⟨#[]⟩, .string ⟨#[]⟩, .int .i64 0])).run Try.prog W = .ok (.bool true) W := fun W => (hz W).trans (by rw [(Row.eqb_iff Row.zero Row.zero).2 rfl])
      clear hb2 bb QD X BD T hz
      go_upto_region 10 with (fail)
      generalize w2.heap.size = b9 at *
      generalize (World.alloc w2 _) = W2 at *
      have cq := blkc Q2.out
      have cp : ∀ (o : Nat), W2.cell? ⟨b9, o, none⟩ = #[.string ⟨#[]⟩, .string ⟨#[]⟩, .int .i64 0][o]? := blkc P2.out
      by_cases h0 : s.n < 0
      · have d0 : decide (s.n < 0) = true := by simpa using h0
        go_wp2_with fail
        go_ret
        exact ⟨rfl, B2.out⟩
      · have d0 : decide (s.n < 0) = false := by simpa using h0
        have d1 : decide ((L.length : Int) ≤ s.n) = true := by have := HN.out; simp; omega
        go_wp2_with fail
        go_ret
        exact ⟨rfl, B2.out⟩
  by_cases h6 : s.call = 6
  · have e4 : (s.call == 4) = false := by simpa using h4
    have e5 : (s.call == 5) = false := by simpa using h5
    have e6 : (s.call == 6) = true := by simpa using h6
    clear h4 h5 h6
    clear PD hi
    generalize g i = gi at *
    generalize l i = L at *
    generalize A i = Ai at *
    generalize c i = ci at *
    have cq := blkc QD.out
    go_wp2_with fail
    clear e4 e5 e6 cq
    have bd2 := below_drew (Below.refl W1.heap.size W1)
    have T2 := Lib.hid (T.out.below bd2)
    have X2 := Lib.hid (X.out.below bd2)
    have Q2 := Lib.hid (blk_below QD.out bd2)
    have B2 := Lib.hid (below_then BD.out BD.out.size bd2)
    refine start_ (n := 10) (S := fun w' => (∀ o, w'.cell? ⟨q, o, none⟩ = #[Value.int .i64 s.call, .int .i64 s.table, .int .i64 s.to2, .string s.row.key, .string s.row.value, .int .i64 s.row.version, .string s.key, .string s.from_, .string s.upto, .slice Av s.rows.length cv, .int .i64 s.n][o]?)) (ds := [7]) #[false, false, false, false, false, false, false, false, false, false] (by kernel_rfl) rfl rfl ((blkc QD.out)) (fun hHeld => ?_)
    refine pure_ (i := 0) (N := some 95) (v := ?_) (a' := ?_) #[true, false, false, false, false, false, false, false, false, false] rfl rfl (by kernel_rfl) (fun _ _ _ h => h) (Or.inl ⟨by rfl, ?_⟩) ?_ ?_
    rotate_left
    · intro w'
      go_simp
      with_reducible rfl
    rotate_left
    · simp only [Act.put, List.setIfInBounds_toArray, List.set_cons_zero, List.set_cons_succ, i64_w, i32_w]
      rfl
    refine pure_ (i := 1) (N := some 96) (v := ?_) (a' := ?_) #[true, true, false, false, false, false, false, false, false, false] rfl rfl (by kernel_rfl) (fun _ _ _ h => h) (Or.inl ⟨by rfl, ?_⟩) ?_ ?_
    rotate_left
    · intro w'
      go_simp
      with_reducible rfl
    rotate_left
    · simp only [Act.put, List.setIfInBounds_toArray, List.set_cons_zero, List.set_cons_succ, i64_w, i32_w]
      rfl
    refine pure_ (i := 4) (N := some 99) (v := ?_) (a' := ?_) #[true, true, false, false, true, false, false, false, false, false] rfl rfl (by kernel_rfl) (fun _ _ _ h => h) (Or.inl ⟨by rfl, ?_⟩) ?_ ?_
    rotate_left
    · intro w'
      go_simp
      with_reducible rfl
    rotate_left
    · simp only [Act.put, List.setIfInBounds_toArray, List.set_cons_zero, List.set_cons_succ, i64_w, i32_w]
      rfl
    refine pure_ (i := 5) (N := some 100) (v := ?_) (a' := ?_) #[true, true, false, false, true, true, false, false, false, false] rfl rfl (by kernel_rfl) (fun _ _ _ h => h) (Or.inl ⟨by rfl, ?_⟩) ?_ ?_
    rotate_left
    · intro w'
      go_simp
      with_reducible rfl
    rotate_left
    · simp only [Act.put, List.setIfInBounds_toArray, List.set_cons_zero, List.set_cons_succ, i64_w, i32_w]
      rfl
    refine take_ (i := 2) (N := some 97) (v := ?_) (a' := ?_) #[true, true, true, false, true, true, false, false, false, false] rfl rfl (by kernel_rfl) (fun _ _ _ h => h) (Or.inl ⟨by rfl, ?_⟩) hHeld ?_ ?_
    rotate_left
    · intro w' s0
      go_simp
      with_reducible rfl
    rotate_left
    · simp only [Act.put, List.setIfInBounds_toArray, List.set_cons_zero, List.set_cons_succ, i64_w, i32_w]
      rfl
    refine take_ (i := 6) (N := some 101) (v := ?_) (a' := ?_) #[true, true, true, false, true, true, true, false, false, false] rfl rfl (by kernel_rfl) (fun _ _ _ h => h) (Or.inl ⟨by rfl, ?_⟩) hHeld ?_ ?_
    rotate_left
    · intro w' s0
      go_simp
      with_reducible rfl
    rotate_left
    · simp only [Act.put, List.setIfInBounds_toArray, List.set_cons_zero, List.set_cons_succ, i64_w, i32_w]
      rfl
    refine one_ (i := 3) (N := some 98) #[true, true, true, true, true, true, true, false, false, false] rfl rfl (by kernel_rfl) (by decide) (fun K hK => ?_)
    refine goes_ Try.func32 (by kernel_rfl) rfl #[.pointer (some ⟨gi, 0, none⟩), .string s.key] (by rfl) rfl rfl (by simp only [List.map_toArray, List.map_cons, List.map_nil]; rfl) ?_
    with_reducible refine (trank_any T2.out OK.out s.key).mono ?_
    rintro e w4 ⟨rfl, rfl⟩
    refine ⟨_, rfl, ?_⟩
    refine hK.out _ _ ((blkc Q2.out)) (fun hHeld => ?_)
    clear hK K
    refine norm_ (a' := ?_) ?_ ?_
    rotate_left
    · show Act.put _ (some 98) _ = _
      simp only [Act.put, List.setIfInBounds_toArray, List.set_cons_zero, List.set_cons_succ, i64_w, i32_w]
      rfl
    refine last_ (i := 7) (N := some 102) #[true, true, true, true, true, true, true, true, false, false] rfl rfl (by kernel_rfl) (by decide) (fun K hK => ?_)
    refine goes_ Try.func60 (by kernel_rfl) rfl #[.slice Ai L.length ci, .string s.key] (by rfl) rfl rfl (by simp only [List.map_toArray, List.map_cons, List.map_nil]; rfl) ?_
    with_reducible refine (rrank_any X2.out.c_ OK.out.up (by have := LN.out; omega) s.key).mono ?_
    rintro e w5 ⟨rfl, rfl⟩
    refine ⟨_, rfl, ?_⟩
    refine hK.out _ _ ?_
    clear hK K
    refine norm_ (a' := ?_) ?_ ?_
    rotate_left
    · show Act.put _ (some 102) _ = _
      simp only [Act.put, List.setIfInBounds_toArray, List.set_cons_zero, List.set_cons_succ, i64_w, i32_w]
      rfl
    refine pure_ (i := 8) (N := some 103) (v := ?_) (a' := ?_) #[true, true, true, true, true, true, true, true, true, false] rfl rfl (by kernel_rfl) (fun _ _ _ h => h) (Or.inl ⟨by rfl, ?_⟩) ?_ ?_
    rotate_left
    · intro w'
      go_simp
      with_reducible rfl
    rotate_left
    · simp only [Act.put, List.setIfInBounds_toArray, List.set_cons_zero, List.set_cons_succ, i64_w, i32_w]
      rfl
    refine pure_ (i := 9) (N := some 4) (v := ?_) (a' := ?_) #[true, true, true, true, true, true, true, true, true, true] rfl rfl (by kernel_rfl) (fun _ _ _ h => h) (Or.inl ⟨by rfl, ?_⟩) ?_ ?_
    rotate_left
    · intro w'
      go_simp
      with_reducible rfl
    rotate_left
    · simp only [Act.put, List.setIfInBounds_toArray, List.set_cons_zero, List.set_cons_succ, i64_w, i32_w]
      rfl
    refine done_ (by kernel_rfl) ?_
    go_wp2_with fail
    go_ret
    exact ⟨by simp, B2.out⟩
  by_cases h7 : s.call = 7
  · have e4 : (s.call == 4) = false := by simpa using h4
    have e5 : (s.call == 5) = false := by simpa using h5
    have e6 : (s.call == 6) = false := by simpa using h6
    have e7 : (s.call == 7) = true := by simpa using h7
    clear h4 h5 h6 h7
    clear PD hi
    generalize g i = gi at *
    generalize l i = L at *
    generalize A i = Ai at *
    generalize c i = ci at *
    have cq := blkc QD.out
    go_wp2_with fail
    clear e4 e5 e6 e7 cq
    have bd2 := below_drew (Below.refl W1.heap.size W1)
    have T2 := Lib.hid (T.out.below bd2)
    have X2 := Lib.hid (X.out.below bd2)
    have Q2 := Lib.hid (blk_below QD.out bd2)
    have B2 := Lib.hid (below_then BD.out BD.out.size bd2)
    obtain ⟨KK, hK⟩ : ∃ KK, rowsIn L s.from_ s.upto = KK := ⟨_, rfl⟩
    have HKL := Lib.hid (show KK.length ≤ 1048576 by have := rowsIn_le L s.from_ s.upto; have := LN.out; rw [← hK]; omega)
    have HRI := Lib.hid hK
    have HSEG := Lib.hid ((seg_in OK.out.up s.from_ s.upto).trans hK)
    obtain ⟨F, hF⟩ : ∃ F, firstN KK s.n = F := ⟨_, rfl⟩
    have HF := Lib.hid hF
    clear hK hF bd2
    refine start_ (n := 15) (S := fun w' => (∀ o, w'.cell? ⟨q, o, none⟩ = #[Value.int .i64 s.call, .int .i64 s.table, .int .i64 s.to2, .string s.row.key, .string s.row.value, .int .i64 s.row.version, .string s.key, .string s.from_, .string s.upto, .slice Av s.rows.length cv, .int .i64 s.n][o]?)) (ds := [13]) #[false, false, false, false, false, false, false, false, false, false, false, false, false, false, false] (by kernel_rfl) rfl rfl ((blkc QD.out)) (fun hHeld => ?_)
    refine pure_ (i := 0) (N := some 106) (v := ?_) (a' := ?_) #[true, false, false, false, false, false, false, false, false, false, false, false, false, false, false] rfl rfl (by kernel_rfl) (fun _ _ _ h => h) (Or.inl ⟨by rfl, ?_⟩) ?_ ?_
    rotate_left
    · intro w'
      go_simp
      with_reducible rfl
    rotate_left
    · simp only [Act.put, List.setIfInBounds_toArray, List.set_cons_zero, List.set_cons_succ, i64_w, i32_w]
      rfl
    refine pure_ (i := 1) (N := some 107) (v := ?_) (a' := ?_) #[true, true, false, false, false, false, false, false, false, false, false, false, false, false, false] rfl rfl (by kernel_rfl) (fun _ _ _ h => h) (Or.inl ⟨by rfl, ?_⟩) ?_ ?_
    rotate_left
    · intro w'
      go_simp
      with_reducible rfl
    rotate_left
    · simp only [Act.put, List.setIfInBounds_toArray, List.set_cons_zero, List.set_cons_succ, i64_w, i32_w]
      rfl
    refine pure_ (i := 3) (N := some 109) (v := ?_) (a' := ?_) #[true, true, false, true, false, false, false, false, false, false, false, false, false, false, false] rfl rfl (by kernel_rfl) (fun _ _ _ h => h) (Or.inl ⟨by rfl, ?_⟩) ?_ ?_
    rotate_left
    · intro w'
      go_simp
      with_reducible rfl
    rotate_left
    · simp only [Act.put, List.setIfInBounds_toArray, List.set_cons_zero, List.set_cons_succ, i64_w, i32_w]
      rfl
    refine pure_ (i := 6) (N := some 112) (v := ?_) (a' := ?_) #[true, true, false, true, false, false, true, false, false, false, false, false, false, false, false] rfl rfl (by kernel_rfl) (fun _ _ _ h => h) (Or.inl ⟨by rfl, ?_⟩) ?_ ?_
    rotate_left
    · intro w'
      go_simp
      with_reducible rfl
    rotate_left
    · simp only [Act.put, List.setIfInBounds_toArray, List.set_cons_zero, List.set_cons_succ, i64_w, i32_w]
      rfl
    refine pure_ (i := 7) (N := some 113) (v := ?_) (a' := ?_) #[true, true, false, true, false, false, true, true, false, false, false, false, false, false, false] rfl rfl (by kernel_rfl) (fun _ _ _ h => h) (Or.inl ⟨by rfl, ?_⟩) ?_ ?_
    rotate_left
    · intro w'
      go_simp
      with_reducible rfl
    rotate_left
    · simp only [Act.put, List.setIfInBounds_toArray, List.set_cons_zero, List.set_cons_succ, i64_w, i32_w]
      rfl
    refine pure_ (i := 10) (N := some 116) (v := ?_) (a' := ?_) #[true, true, false, true, false, false, true, true, false, false, true, false, false, false, false] rfl rfl (by kernel_rfl) (fun _ _ _ h => h) (Or.inl ⟨by rfl, ?_⟩) ?_ ?_
    rotate_left
    · intro w'
      go_simp
      with_reducible rfl
    rotate_left
    · simp only [Act.put, List.setIfInBounds_toArray, List.set_cons_zero, List.set_cons_succ, i64_w, i32_w]
      rfl
    refine take_ (i := 2) (N := some 108) (v := ?_) (a' := ?_) #[true, true, true, true, false, false, true, true, false, false, true, false, false, false, false] rfl rfl (by kernel_rfl) (fun _ _ _ h => h) (Or.inl ⟨by rfl, ?_⟩) hHeld ?_ ?_
    rotate_left
    · intro w' s0
      go_simp
      with_reducible rfl
    rotate_left
    · simp only [Act.put, List.setIfInBounds_toArray, List.set_cons_zero, List.set_cons_succ, i64_w, i32_w]
      rfl
    refine take_ (i := 4) (N := some 110) (v := ?_) (a' := ?_) #[true, true, true, true, true, false, true, true, false, false, true, false, false, false, false] rfl rfl (by kernel_rfl) (fun _ _ _ h => h) (Or.inl ⟨by rfl, ?_⟩) hHeld ?_ ?_
    rotate_left
    · intro w' s0
      go_simp
      with_reducible rfl
    rotate_left
    · simp only [Act.put, List.setIfInBounds_toArray, List.set_cons_zero, List.set_cons_succ, i64_w, i32_w]
      rfl
    refine take_ (i := 8) (N := some 114) (v := ?_) (a' := ?_) #[true, true, true, true, true, false, true, true, true, false, true, false, false, false, false] rfl rfl (by kernel_rfl) (fun _ _ _ h => h) (Or.inl ⟨by rfl, ?_⟩) hHeld ?_ ?_
    rotate_left
    · intro w' s0
      go_simp
      with_reducible rfl
    rotate_left
    · simp only [Act.put, List.setIfInBounds_toArray, List.set_cons_zero, List.set_cons_succ, i64_w, i32_w]
      rfl
    refine take_ (i := 11) (N := some 117) (v := ?_) (a' := ?_) #[true, true, true, true, true, false, true, true, true, false, true, true, false, false, false] rfl rfl (by kernel_rfl) (fun _ _ _ h => h) (Or.inl ⟨by rfl, ?_⟩) hHeld ?_ ?_
    rotate_left
    · intro w' s0
      go_simp
      with_reducible rfl
    rotate_left
    · simp only [Act.put, List.setIfInBounds_toArray, List.set_cons_zero, List.set_cons_succ, i64_w, i32_w]
      rfl
    refine one_ (i := 5) (N := some 111) #[true, true, true, true, true, true, true, true, true, false, true, true, false, false, false] rfl rfl (by kernel_rfl) (by decide) (fun K hK => ?_)
    refine goes_ Try.func18 (by kernel_rfl) rfl #[.pointer (some ⟨gi, 0, none⟩), .bool false, .agg #[.string s.from_, .string s.upto], .int .i64 s.n] (by rfl) rfl rfl (by simp only [List.map_toArray, List.map_cons, List.map_nil]; rfl) ?_
    with_reducible refine (told_up T2.out OK.out s.from_ s.upto s.n).mono ?_
    rintro e w4 ⟨v4, rfl, hr4, hb4⟩
    refine ⟨_, rfl, ?_⟩
    rw [HSEG.out, HF.out] at hr4
    obtain ⟨A4, c4, rfl, _, hC4⟩ := C_of_own hr4
    have C4 := Lib.hid hC4
    have Q4 := Lib.hid (blk_below Q2.out hb4)
    have X4 := Lib.hid (X2.out.below hb4)
    have B4 := Lib.hid (below_then B2.out B2.out.size hb4)
    clear hr4 hC4 hb4
    refine hK.out _ _ ((blkc Q4.out)) (fun hHeld => ?_)
    clear hK K
    refine norm_ (a' := ?_) ?_ ?_
    rotate_left
    · show Act.put _ (some 111) _ = _
      simp only [Act.put, List.setIfInBounds_toArray, List.set_cons_zero, List.set_cons_succ, i64_w, i32_w]
      rfl
    refine one_ (i := 9) (N := some 115) #[true, true, true, true, true, true, true, true, true, true, true, true, false, false, false] rfl rfl (by kernel_rfl) (by decide) (fun K hK => ?_)
    refine goes_ Try.func27 (by kernel_rfl) rfl #[.slice Ai L.length ci, .agg #[.string s.from_, .string s.upto]] (by rfl) rfl rfl (by simp only [List.map_toArray, List.map_cons, List.map_nil]; rfl) ?_
    with_reducible refine (rrows_any X4.out.c_ LN.out s.from_ s.upto).mono ?_
    rintro e w5 ⟨A5, c5, rfl, hX5, hb5⟩
    refine ⟨_, rfl, ?_⟩
    rw [HRI.out] at hX5
    rw [HRI.out]
    have X5 := Lib.hid hX5
    have C5 := Lib.hid (Kd.C_below C4.out hb5)
    have Q5 := Lib.hid (blk_below Q4.out hb5)
    have B5 := Lib.hid (below_then B4.out B4.out.size hb5)
    clear hX5 hb5
    refine hK.out _ _ ((blkc Q5.out)) (fun hHeld => ?_)
    clear hK K
    refine norm_ (a' := ?_) ?_ ?_
    rotate_left
    · show Act.put _ (some 115) _ = _
      simp only [Act.put, List.setIfInBounds_toArray, List.set_cons_zero, List.set_cons_succ, i64_w, i32_w]
      rfl
    refine one_ (i := 12) (N := some 118) #[true, true, true, true, true, true, true, true, true, true, true, true, true, false, false] rfl rfl (by kernel_rfl) (by decide) (fun K hK => ?_)
    refine goes_ Try.func61 (by kernel_rfl) rfl #[.slice A5 KK.length c5, .int .i64 s.n] (by rfl) rfl rfl (by simp only [List.map_toArray, List.map_cons, List.map_nil]; rfl) ?_
    with_reducible refine (first_any X5.out.c_ X5.out.cap_ (by have := HKL.out; omega) s.n).mono ?_
    rintro e w7 ⟨rfl, hC7, rfl⟩
    refine ⟨_, rfl, ?_⟩
    rw [HF.out] at hC7
    rw [HF.out]
    have C7 := Lib.hid hC7
    clear hC7
    refine hK.out _ _ ((blkc Q5.out)) (fun hHeld => ?_)
    clear hK K
    refine norm_ (a' := ?_) ?_ ?_
    rotate_left
    · show Act.put _ (some 118) _ = _
      simp only [Act.put, List.setIfInBounds_toArray, List.set_cons_zero, List.set_cons_succ, i64_w, i32_w]
      rfl
    refine last_ (i := 13) (N := some 119) #[true, true, true, true, true, true, true, true, true, true, true, true, true, true, false] rfl rfl (by kernel_rfl) (by decide) (fun K hK => ?_)
    refine goes_ Try.func17 (by kernel_rfl) rfl #[.slice A4 F.length c4, .slice A5 F.length c5] (by rfl) rfl rfl (by simp only [List.map_toArray, List.map_cons, List.map_nil]; rfl) ?_
    with_reducible refine (same_any _ A4 A5 c4 c5 F C5.out C7.out).mono ?_
    rintro e w8 ⟨rfl, hb8⟩
    refine ⟨_, rfl, ?_⟩
    have B8 := Lib.hid (below_then B5.out B5.out.size hb8)
    clear hb8
    refine hK.out _ _ ?_
    clear hK K
    refine norm_ (a' := ?_) ?_ ?_
    rotate_left
    · show Act.put _ (some 119) _ = _
      simp only [Act.put, List.setIfInBounds_toArray, List.set_cons_zero, List.set_cons_succ, i64_w, i32_w]
      rfl
    refine pure_ (i := 14) (N := some 4) (v := ?_) (a' := ?_) #[true, true, true, true, true, true, true, true, true, true, true, true, true, true, true] rfl rfl (by kernel_rfl) (fun _ _ _ h => h) (Or.inl ⟨by rfl, ?_⟩) ?_ ?_
    rotate_left
    · intro w'
      go_simp
      with_reducible rfl
    rotate_left
    · simp only [Act.put, List.setIfInBounds_toArray, List.set_cons_zero, List.set_cons_succ, i64_w, i32_w]
      rfl
    refine done_ (by kernel_rfl) ?_
    go_wp2_with fail
    go_ret
    exact ⟨rfl, B8.out⟩
  by_cases h8 : s.call = 8
  · have e4 : (s.call == 4) = false := by simpa using h4
    have e5 : (s.call == 5) = false := by simpa using h5
    have e6 : (s.call == 6) = false := by simpa using h6
    have e7 : (s.call == 7) = false := by simpa using h7
    have e8 : (s.call == 8) = true := by simpa using h8
    clear h4 h5 h6 h7 h8
    clear PD hi
    generalize g i = gi at *
    generalize l i = L at *
    generalize A i = Ai at *
    generalize c i = ci at *
    have cq := blkc QD.out
    go_wp2_with fail
    clear e4 e5 e6 e7 e8 cq
    have bd2 := below_drew (Below.refl W1.heap.size W1)
    have T2 := Lib.hid (T.out.below bd2)
    have X2 := Lib.hid (X.out.below bd2)
    have Q2 := Lib.hid (blk_below QD.out bd2)
    have B2 := Lib.hid (below_then BD.out BD.out.size bd2)
    obtain ⟨KK, hK⟩ : ∃ KK, rowsIn L s.from_ s.upto = KK := ⟨_, rfl⟩
    have HKL := Lib.hid (show KK.length ≤ 1048576 by have := rowsIn_le L s.from_ s.upto; have := LN.out; rw [← hK]; omega)
    have HRI := Lib.hid hK
    obtain ⟨KR, hKR⟩ : ∃ KR, KK.reverse = KR := ⟨_, rfl⟩
    have HKN := Lib.hid (show KK.length = KR.length by rw [← hKR, List.length_reverse])
    have HKL2 := Lib.hid (show KR.length ≤ 1048576 by have := HKL.out; have := HKN.out; omega)
    have HKR := Lib.hid hKR
    have HSEG := Lib.hid (show segD true L (below s.from_ L).length (upTo L s.upto) = KR by rw [← hKR, ← hK, ← seg_in OK.out.up]; rfl)
    obtain ⟨F, hF⟩ : ∃ F, firstN KR s.n = F := ⟨_, rfl⟩
    have HF := Lib.hid hF
    clear hK hKR hF bd2
    refine start_ (n := 16) (S := fun w' => (∀ o, w'.cell? ⟨q, o, none⟩ = #[Value.int .i64 s.call, .int .i64 s.table, .int .i64 s.to2, .string s.row.key, .string s.row.value, .int .i64 s.row.version, .string s.key, .string s.from_, .string s.upto, .slice Av s.rows.length cv, .int .i64 s.n][o]?)) (ds := [14]) #[false, false, false, false, false, false, false, false, false, false, false, false, false, false, false, false] (by kernel_rfl) rfl rfl ((blkc QD.out)) (fun hHeld => ?_)
    refine pure_ (i := 0) (N := some 122) (v := ?_) (a' := ?_) #[true, false, false, false, false, false, false, false, false, false, false, false, false, false, false, false] rfl rfl (by kernel_rfl) (fun _ _ _ h => h) (Or.inl ⟨by rfl, ?_⟩) ?_ ?_
    rotate_left
    · intro w'
      go_simp
      with_reducible rfl
    rotate_left
    · simp only [Act.put, List.setIfInBounds_toArray, List.set_cons_zero, List.set_cons_succ, i64_w, i32_w]
      rfl
    refine pure_ (i := 1) (N := some 123) (v := ?_) (a' := ?_) #[true, true, false, false, false, false, false, false, false, false, false, false, false, false, false, false] rfl rfl (by kernel_rfl) (fun _ _ _ h => h) (Or.inl ⟨by rfl, ?_⟩) ?_ ?_
    rotate_left
    · intro w'
      go_simp
      with_reducible rfl
    rotate_left
    · simp only [Act.put, List.setIfInBounds_toArray, List.set_cons_zero, List.set_cons_succ, i64_w, i32_w]
      rfl
    refine pure_ (i := 3) (N := some 125) (v := ?_) (a' := ?_) #[true, true, false, true, false, false, false, false, false, false, false, false, false, false, false, false] rfl rfl (by kernel_rfl) (fun _ _ _ h => h) (Or.inl ⟨by rfl, ?_⟩) ?_ ?_
    rotate_left
    · intro w'
      go_simp
      with_reducible rfl
    rotate_left
    · simp only [Act.put, List.setIfInBounds_toArray, List.set_cons_zero, List.set_cons_succ, i64_w, i32_w]
      rfl
    refine pure_ (i := 6) (N := some 128) (v := ?_) (a' := ?_) #[true, true, false, true, false, false, true, false, false, false, false, false, false, false, false, false] rfl rfl (by kernel_rfl) (fun _ _ _ h => h) (Or.inl ⟨by rfl, ?_⟩) ?_ ?_
    rotate_left
    · intro w'
      go_simp
      with_reducible rfl
    rotate_left
    · simp only [Act.put, List.setIfInBounds_toArray, List.set_cons_zero, List.set_cons_succ, i64_w, i32_w]
      rfl
    refine pure_ (i := 7) (N := some 129) (v := ?_) (a' := ?_) #[true, true, false, true, false, false, true, true, false, false, false, false, false, false, false, false] rfl rfl (by kernel_rfl) (fun _ _ _ h => h) (Or.inl ⟨by rfl, ?_⟩) ?_ ?_
    rotate_left
    · intro w'
      go_simp
      with_reducible rfl
    rotate_left
    · simp only [Act.put, List.setIfInBounds_toArray, List.set_cons_zero, List.set_cons_succ, i64_w, i32_w]
      rfl
    refine pure_ (i := 11) (N := some 133) (v := ?_) (a' := ?_) #[true, true, false, true, false, false, true, true, false, false, false, true, false, false, false, false] rfl rfl (by kernel_rfl) (fun _ _ _ h => h) (Or.inl ⟨by rfl, ?_⟩) ?_ ?_
    rotate_left
    · intro w'
      go_simp
      with_reducible rfl
    rotate_left
    · simp only [Act.put, List.setIfInBounds_toArray, List.set_cons_zero, List.set_cons_succ, i64_w, i32_w]
      rfl
    refine take_ (i := 2) (N := some 124) (v := ?_) (a' := ?_) #[true, true, true, true, false, false, true, true, false, false, false, true, false, false, false, false] rfl rfl (by kernel_rfl) (fun _ _ _ h => h) (Or.inl ⟨by rfl, ?_⟩) hHeld ?_ ?_
    rotate_left
    · intro w' s0
      go_simp
      with_reducible rfl
    rotate_left
    · simp only [Act.put, List.setIfInBounds_toArray, List.set_cons_zero, List.set_cons_succ, i64_w, i32_w]
      rfl
    refine take_ (i := 4) (N := some 126) (v := ?_) (a' := ?_) #[true, true, true, true, true, false, true, true, false, false, false, true, false, false, false, false] rfl rfl (by kernel_rfl) (fun _ _ _ h => h) (Or.inl ⟨by rfl, ?_⟩) hHeld ?_ ?_
    rotate_left
    · intro w' s0
      go_simp
      with_reducible rfl
    rotate_left
    · simp only [Act.put, List.setIfInBounds_toArray, List.set_cons_zero, List.set_cons_succ, i64_w, i32_w]
      rfl
    refine take_ (i := 8) (N := some 130) (v := ?_) (a' := ?_) #[true, true, true, true, true, false, true, true, true, false, false, true, false, false, false, false] rfl rfl (by kernel_rfl) (fun _ _ _ h => h) (Or.inl ⟨by rfl, ?_⟩) hHeld ?_ ?_
    rotate_left
    · intro w' s0
      go_simp
      with_reducible rfl
    rotate_left
    · simp only [Act.put, List.setIfInBounds_toArray, List.set_cons_zero, List.set_cons_succ, i64_w, i32_w]
      rfl
    refine take_ (i := 12) (N := some 134) (v := ?_) (a' := ?_) #[true, true, true, true, true, false, true, true, true, false, false, true, true, false, false, false] rfl rfl (by kernel_rfl) (fun _ _ _ h => h) (Or.inl ⟨by rfl, ?_⟩) hHeld ?_ ?_
    rotate_left
    · intro w' s0
      go_simp
      with_reducible rfl
    rotate_left
    · simp only [Act.put, List.setIfInBounds_toArray, List.set_cons_zero, List.set_cons_succ, i64_w, i32_w]
      rfl
    refine one_ (i := 5) (N := some 127) #[true, true, true, true, true, true, true, true, true, false, false, true, true, false, false, false] rfl rfl (by kernel_rfl) (by decide) (fun K hK => ?_)
    refine goes_ Try.func18 (by kernel_rfl) rfl #[.pointer (some ⟨gi, 0, none⟩), .bool true, .agg #[.string s.from_, .string s.upto], .int .i64 s.n] (by rfl) rfl rfl (by simp only [List.map_toArray, List.map_cons, List.map_nil]; rfl) ?_
    with_reducible refine (told_down T2.out OK.out s.from_ s.upto s.n).mono ?_
    rintro e w4 ⟨v4, rfl, hr4, hb4⟩
    refine ⟨_, rfl, ?_⟩
    rw [HSEG.out, HF.out] at hr4
    obtain ⟨A4, c4, rfl, _, hC4⟩ := C_of_own hr4
    have C4 := Lib.hid hC4
    have Q4 := Lib.hid (blk_below Q2.out hb4)
    have X4 := Lib.hid (X2.out.below hb4)
    have B4 := Lib.hid (below_then B2.out B2.out.size hb4)
    clear hr4 hC4 hb4
    refine hK.out _ _ ((blkc Q4.out)) (fun hHeld => ?_)
    clear hK K
    refine norm_ (a' := ?_) ?_ ?_
    rotate_left
    · show Act.put _ (some 127) _ = _
      simp only [Act.put, List.setIfInBounds_toArray, List.set_cons_zero, List.set_cons_succ, i64_w, i32_w]
      rfl
    refine one_ (i := 9) (N := some 131) #[true, true, true, true, true, true, true, true, true, true, false, true, true, false, false, false] rfl rfl (by kernel_rfl) (by decide) (fun K hK => ?_)
    refine goes_ Try.func27 (by kernel_rfl) rfl #[.slice Ai L.length ci, .agg #[.string s.from_, .string s.upto]] (by rfl) rfl rfl (by simp only [List.map_toArray, List.map_cons, List.map_nil]; rfl) ?_
    with_reducible refine (rrows_any X4.out.c_ LN.out s.from_ s.upto).mono ?_
    rintro e w5 ⟨A5, c5, rfl, hX5, hb5⟩
    refine ⟨_, rfl, ?_⟩
    rw [HRI.out] at hX5
    rw [HRI.out]
    have X5 := Lib.hid hX5
    have C5 := Lib.hid (Kd.C_below C4.out hb5)
    have Q5 := Lib.hid (blk_below Q4.out hb5)
    have B5 := Lib.hid (below_then B4.out B4.out.size hb5)
    clear hX5 hb5
    refine hK.out _ _ ((blkc Q5.out)) (fun hHeld => ?_)
    clear hK K
    refine norm_ (a' := ?_) ?_ ?_
    rotate_left
    · show Act.put _ (some 131) _ = _
      simp only [Act.put, List.setIfInBounds_toArray, List.set_cons_zero, List.set_cons_succ, i64_w, i32_w]
      rfl
    refine one_ (i := 10) (N := some 132) #[true, true, true, true, true, true, true, true, true, true, true, true, true, false, false, false] rfl rfl (by kernel_rfl) (by decide) (fun K hK => ?_)
    refine goes_ Try.func33 (by kernel_rfl) rfl #[.slice A5 KK.length c5] (by rfl) rfl rfl (by simp only [List.map_toArray, List.map_cons, List.map_nil]; rfl) ?_
    with_reducible refine (turned_any X5.out.c_ (by have := HKL.out; omega)).mono ?_
    rintro e w6 ⟨A6, c6, rfl, hC6, hc6, hb6⟩
    refine ⟨_, rfl, ?_⟩
    rw [HKR.out] at hC6
    rw [HKN.out] at hC6 hc6
    rw [HKN.out]
    have C6 := Lib.hid hC6
    have HC6 := Lib.hid hc6
    have C5 := Lib.hid (Kd.C_below C5.out hb6)
    have Q6 := Lib.hid (blk_below Q5.out hb6)
    have B6 := Lib.hid (below_then B5.out B5.out.size hb6)
    clear hC6 hc6 hb6
    refine hK.out _ _ ((blkc Q6.out)) (fun hHeld => ?_)
    clear hK K
    refine norm_ (a' := ?_) ?_ ?_
    rotate_left
    · show Act.put _ (some 132) _ = _
      simp only [Act.put, List.setIfInBounds_toArray, List.set_cons_zero, List.set_cons_succ, i64_w, i32_w]
      rfl
    refine one_ (i := 13) (N := some 135) #[true, true, true, true, true, true, true, true, true, true, true, true, true, true, false, false] rfl rfl (by kernel_rfl) (by decide) (fun K hK => ?_)
    refine goes_ Try.func61 (by kernel_rfl) rfl #[.slice A6 KR.length c6, .int .i64 s.n] (by rfl) rfl rfl (by simp only [List.map_toArray, List.map_cons, List.map_nil]; rfl) ?_
    with_reducible refine (first_any C6.out HC6.out (by have := HKL2.out; omega) s.n).mono ?_
    rintro e w7 ⟨rfl, hC7, rfl⟩
    refine ⟨_, rfl, ?_⟩
    rw [HF.out] at hC7
    rw [HF.out]
    have C7 := Lib.hid hC7
    clear hC7
    refine hK.out _ _ ((blkc Q6.out)) (fun hHeld => ?_)
    clear hK K
    refine norm_ (a' := ?_) ?_ ?_
    rotate_left
    · show Act.put _ (some 135) _ = _
      simp only [Act.put, List.setIfInBounds_toArray, List.set_cons_zero, List.set_cons_succ, i64_w, i32_w]
      rfl
    refine last_ (i := 14) (N := some 136) #[true, true, true, true, true, true, true, true, true, true, true, true, true, true, true, false] rfl rfl (by kernel_rfl) (by decide) (fun K hK => ?_)
    refine goes_ Try.func17 (by kernel_rfl) rfl #[.slice A4 F.length c4, .slice A6 F.length c6] (by rfl) rfl rfl (by simp only [List.map_toArray, List.map_cons, List.map_nil]; rfl) ?_
    with_reducible refine (same_any _ A4 A6 c4 c6 F C5.out C7.out).mono ?_
    rintro e w8 ⟨rfl, hb8⟩
    refine ⟨_, rfl, ?_⟩
    have B8 := Lib.hid (below_then B6.out B6.out.size hb8)
    clear hb8
    refine hK.out _ _ ?_
    clear hK K
    refine norm_ (a' := ?_) ?_ ?_
    rotate_left
    · show Act.put _ (some 136) _ = _
      simp only [Act.put, List.setIfInBounds_toArray, List.set_cons_zero, List.set_cons_succ, i64_w, i32_w]
      rfl
    refine pure_ (i := 15) (N := some 4) (v := ?_) (a' := ?_) #[true, true, true, true, true, true, true, true, true, true, true, true, true, true, true, true] rfl rfl (by kernel_rfl) (fun _ _ _ h => h) (Or.inl ⟨by rfl, ?_⟩) ?_ ?_
    rotate_left
    · intro w'
      go_simp
      with_reducible rfl
    rotate_left
    · simp only [Act.put, List.setIfInBounds_toArray, List.set_cons_zero, List.set_cons_succ, i64_w, i32_w]
      rfl
    refine done_ (by kernel_rfl) ?_
    go_wp2_with fail
    go_ret
    exact ⟨rfl, B8.out⟩
  by_cases h9 : s.call = 9
  · have e4 : (s.call == 4) = false := by simpa using h4
    have e5 : (s.call == 5) = false := by simpa using h5
    have e6 : (s.call == 6) = false := by simpa using h6
    have e7 : (s.call == 7) = false := by simpa using h7
    have e8 : (s.call == 8) = false := by simpa using h8
    have e9 : (s.call == 9) = true := by simpa using h9
    clear h4 h5 h6 h7 h8 h9
    clear PD hi
    generalize g i = gi at *
    generalize l i = L at *
    generalize A i = Ai at *
    generalize c i = ci at *
    have cq := blkc QD.out
    go_wp2_with fail
    clear e4 e5 e6 e7 e8 e9 cq
    refine (len_any T.out).mono ?_
    rintro e w2 ⟨rfl, rfl⟩
    have hll : ((L.length : Int) == (L.length : Int)) = true := by simp
    have hl2 : (L.length == L.length) = true := by simp
    go_wp2_with fail
    refine (tsize_any T.out).mono ?_
    rintro e w2 ⟨rfl, rfl⟩
    go_wp2_with fail
    refine (rsize_any X.out.c_ OK.out).mono ?_
    rintro e w3 ⟨rfl, hb3⟩
    have hss : ((size L : Int) == (size L : Int)) = true := by simp
    have B3 := Lib.hid (below_then BD.out BD.out.size hb3)
    clear hb3
    go_wp2_with fail
    go_ret
    exact ⟨by simp, B3.out⟩
  by_cases h10 : s.call = 10
  · have e4 : (s.call == 4) = false := by simpa using h4
    have e5 : (s.call == 5) = false := by simpa using h5
    have e6 : (s.call == 6) = false := by simpa using h6
    have e7 : (s.call == 7) = false := by simpa using h7
    have e8 : (s.call == 8) = false := by simpa using h8
    have e9 : (s.call == 9) = false := by simpa using h9
    have e10 : (s.call == 10) = true := by simpa using h10
    clear h4 h5 h6 h7 h8 h9 h10
    have cq := blkc QD.out
    go_wp2_with fail
    clear e4 e5 e6 e7 e8 e9 e10 cq
    refine (index_any s.to2 W1).mono ?_
    rintro e w1 ⟨rfl, rfl⟩
    have hk := idx_lt s.to2
    generalize idx s.to2 = k at *
    go_wp2_with fail
    refine (compare_any PD.out hi hk).mono ?_
    rintro e w3 ⟨rfl, hb3⟩
    have B3 := Lib.hid (below_then BD.out BD.out.size hb3)
    clear hb3
    go_wp2_with fail
    go_ret
    exact ⟨rfl, B3.out⟩
  have e4 : (s.call == 4) = false := by simpa using h4
  have e5 : (s.call == 5) = false := by simpa using h5
  have e6 : (s.call == 6) = false := by simpa using h6
  have e7 : (s.call == 7) = false := by simpa using h7
  have e8 : (s.call == 8) = false := by simpa using h8
  have e9 : (s.call == 9) = false := by simpa using h9
  have e10 : (s.call == 10) = false := by simpa using h10
  clear h4 h5 h6 h7 h8 h9 h10
  clear PD hi
  generalize g i = gi at *
  generalize l i = L at *
  generalize A i = Ai at *
  generalize c i = ci at *
  have cq := blkc QD.out
  go_wp2_with fail
  go_ret
  exact ⟨rfl, BD.out⟩
end Go.Proofs.Ytjpalkggmefpfaa.Tab
