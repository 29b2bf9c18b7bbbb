/- Take, Drop: a packet goes out. -/
import Derived.Test.YtpjbgcpieijeaaaNetCutW
set_option linter.unusedVariables false
set_option linter.unusedSimpArgs false
namespace Go.Proofs.Ytpjbgcpieijeaaa.Net
open Go.RowKit Go.Proofs.Ytpjbgcpieijeaaa.Mem Go.Proofs.YtpjbgcpieijeaaaW.PrintWords Go.Proofs.YtpjbgcpieijeaaaW.PrintLast Go.Proofs.Ytpjbgcpieijeaaa.Byt Go.Proofs.Ytpjbgcpieijeaaa.Opn Go.Deep Go.ChangeMaps
section
variable {w w0 : World} {base g m : Nat} {O : Nat → Prop} {nd cl : Int} {v : Value} {fls : List Fl} {sent : List LtT}
/-- A flight has gone. -/
theorem NetR.taken {w w1 : World} (h : NetR w base O g m nd cl v fls sent) {v1 : Value} {O' : Nat → Prop} (i : Nat) (hw : WayR w1 base v1 (fls.eraseIdx i)) (hg : w.grownBy w1 v.ownBlock) (hO : ∀ k, O k → O' k) (hob : ∀ k, O' k → base ≤ k) (hv : ∀ k, v1.ownBlock = some k → O' k) :
    NetR (w1.setCell ⟨g, 2, none⟩ v1) base O' g m nd cl v1 (fls.eraseIdx i) sent := by
  have mv : ∀ k, k < w.heap.size → v.ownBlock ≠ some k → w1.heap[k]? = w.heap[k]? := fun k hk hn => hg.block k hk (fun e => hn e.symm)
  refine netR_way ((mv g (blk_lt h.net) h.g_not.1).trans h.net) (h.mp.block (mv m h.mp.lt h.m_not.1)) (hO _ h.og) (hO _ h.om) hob h.nn h.nc hw (fun f' hf' => ?_) (h.sep.erase i) hv
  have hx := h.fl f' (List.mem_of_mem_eraseIdx hf')
  have ne : ∀ {bs : List Int} {u : Value}, Ow w base u bs → ∀ k, u.ownBlock = some k → v.ownBlock ≠ some k := fun {bs u} hu k hk => by
    obtain ⟨cs, hc⟩ := hu.typed hk
    exact way_ne h.way hc (by decide)
  exact ⟨hx.s.move (fun k hk => mv k (own_lt hx.s k hk) (ne hx.s k hk)), hx.n.move (fun k hk => mv k (own_lt hx.n k hk) (ne hx.n k hk)), fun k hk => hO k (hx.os k hk), fun k hk => hO k (hx.on k hk), hx.len, hx.rs, hx.rn, hx.lb⟩
set_option maxHeartbeats 6400000 in
set_option maxRecDepth 100000 in
theorem take_not (h : NetR w base O g m nd cl v fls sent) {i : Int} (hi : atB fls.length i = false) : Calls Try.prog 20 #[.pointer (some ⟨g, 0, none⟩), .int .i64 i] w fun e w' => e = .returned (.tuple #[zp, .int .i64 241]) ∧ Below w.heap.size w w' := by
  have H := Lib.hid h
  have HI := Lib.hid hi
  clear h hi
  go_enter Try.func20, Try.ntmps20
  go_wp2_with fail
  have BA := Lib.hid (below_alloc (Below.refl w.heap.size w) (.cells #[.int .i64 0, .int .i64 0, .slice none 0 0] tPk))
  have PA := Lib.hid (blk_new w (.cells #[.int .i64 0, .int .i64 0, .slice none 0 0] tPk))
  generalize (w.alloc (.cells #[.int .i64 0, .int .i64 0, .slice none 0 0] tPk)) = W1 at *
  refine (get_not (H.out.below BA.out) HI.out).mono ?_
  rintro e w2 ⟨rfl, hb2⟩
  have P2 := blk_below PA.out hb2
  have B2 := below_then BA.out BA.out.size hb2
  have BB := below_alloc (Below.refl w2.heap.size w2) (.cells #[.int .i64 0, .int .i64 0, .slice none 0 0] tPk)
  have P3 := Lib.hid (blk_below P2 BB)
  have Q3 := Lib.hid (blk_new w2 (.cells #[.int .i64 0, .int .i64 0, .slice none 0 0] tPk))
  have B3 := Lib.hid (below_then B2 B2.size BB)
  clear hb2 BA PA H B2 BB P2
  go_upto_region 2 with (fail)
  generalize (w2.alloc _) = W3 at *
  have cp := blkc P3.out
  have z3 := blkz P3.out
  have cq := blkc Q3.out
  have PS := Lib.hid (zero3' P3.out (.int .i64 0) (.int .i64 0) (.slice none 0 0))
  go_wp2_with fail
  exact bodyPost_ret (res_pk rfl rfl rfl PS.out) rfl ⟨rfl, set3 B3.out (Nat.le_refl _) _ _ _⟩
set_option maxHeartbeats 6400000 in
set_option maxRecDepth 100000 in
theorem take_net (h : NetR w base O g m nd cl v fls sent) {i : Nat} {f : Fl} (hi : fls[i]? = some f) (hfl : fls.length ≤ 2199023255552) (HB : Below w0.heap.size w0 w) (hbs : base = w0.heap.size) :
    Calls Try.prog 20 #[.pointer (some ⟨g, 0, none⟩), .int .i64 (i : Int)] w fun e w' => ∃ v5, e = .returned (.tuple #[.agg #[.int .i64 f.src, .int .i64 f.dst, v5], .int .i64 0]) ∧ Ow w' w.heap.size v5 f.nb ∧ (∃ v', NetR w' base (fun k => O k ∨ (w.heap.size ≤ k ∧ v5.ownBlock ≠ some k)) g m nd cl v' (fls.eraseIdx i) sent) ∧ Kept w w' O ∧ Below w0.heap.size w0 w' := by
  have hil : i < fls.length := (List.getElem?_eq_some_iff.1 hi).1
  have H := Lib.hid h.bound
  have HOB := Lib.hid h.ob
  have HI := Lib.hid hi
  have HFL := Lib.hid hfl
  have HBW := Lib.hid HB
  have HBB := Lib.hid (show base ≤ w.heap.size by rw [hbs]; exact HB.size)
  have HBS := Lib.hid hbs
  have HIL := Lib.hid hil
  clear h hi hfl HB hbs hil
  go_enter Try.func20, Try.ntmps20
  go_wp2_with fail
  have BA := Lib.hid (below_alloc (Below.refl w.heap.size w) (.cells #[.int .i64 0, .int .i64 0, .slice none 0 0] tPk))
  have PA := Lib.hid (blk_new w (.cells #[.int .i64 0, .int .i64 0, .slice none 0 0] tPk))
  generalize (w.alloc (.cells #[.int .i64 0, .int .i64 0, .slice none 0 0] tPk)) = W1 at *
  have N1 := Lib.hid (H.out.below BA.out)
  refine (get_net N1.out HI.out).mono ?_
  rintro e w2 ⟨v5, rfl, ho5, hb2⟩
  obtain ⟨A5, c5, rfl⟩ := own_slice ho5
  have HS1 := Lib.hid (show w.heap.size < W1.heap.size from blk_lt PA.out)
  have BB := below_alloc (Below.refl w2.heap.size w2) (.cells #[.int .i64 f.src, .int .i64 f.dst, .slice A5 f.nb.length c5] tPk)
  have P3 := Lib.hid (blk_below (blk_below PA.out hb2) BB)
  have Q3 := Lib.hid (blk_new w2 (.cells #[.int .i64 f.src, .int .i64 f.dst, .slice A5 f.nb.length c5] tPk))
  have B2 := below_then BA.out BA.out.size hb2
  have B3 := Lib.hid (below_then B2 B2.size BB)
  have O3 := Lib.hid (Ow.below (show Ow w2 W1.heap.size _ _ from ho5) BB)
  have N3 := Lib.hid ((N1.out.below hb2).below BB)
  have HS2 := Lib.hid (show W1.heap.size ≤ w2.heap.size from hb2.size)
  have HV5 := Lib.hid (show ∀ k, (Value.slice A5 f.nb.length c5).ownBlock = some k → k < w2.heap.size from fun k hk => own_lt ho5 k hk)
  clear hb2 BA PA H B2 BB ho5 N1
  go_upto_region 3 with (fail)
  generalize (w2.alloc _) = W3 at *
  generalize hq : w2.heap.size = q at *
  have hqp : w.heap.size < q := by have := HS1.out; have := HS2.out; omega
  have N4 := Lib.hid (N3.out.move (w1 := W3.drew) (fun _ _ _ => rfl))
  obtain ⟨ad, c9, hv9, hc9, hob9, _⟩ := N4.out.way.at HI.out
  subst hv9
  obtain ⟨A2, n2, c2, v6, w6, hcut, happ, hW6, hg6, hat6⟩ := take_step W3.drew N4.out.way rfl hc9 HIL.out (fun f' hf' => ⟨(N4.out.fl f' hf').s.one, (N4.out.fl f' hf').n.one⟩) (by have := HBB.out; have := blk_lt Q3.out; show base ≤ W3.heap.size; omega) HFL.out
  obtain ⟨A6, c6, hv6, _⟩ := hW6.slice
  obtain ⟨n6, hn6⟩ : ∃ n6, (fls.eraseIdx i).length = n6 := ⟨_, rfl⟩
  rw [hn6] at hv6
  subst hv6
  have hcm := cut_max (some ad) fls.length c9 i (by have := HIL.out; omega)
  have P4 := Lib.hid (blk_drew P3.out)
  have Q4 := Lib.hid (blk_drew Q3.out)
  have hw1 : wrap64 ((i : Int) + 1) = ((i + 1 : Nat) : Int) := by have := HIL.out; have := HFL.out; unfold wrap64; omega
  have HW1 := Lib.hid hw1
  have G6 := Lib.hid ((hg6.block g (blk_lt N4.out.net) (fun e => N4.out.g_not.1 e.symm)).trans N4.out.net)
  have hvp : ∀ k, (Value.slice (some ad) fls.length c9).ownBlock = some k → k ≠ w.heap.size ∧ k ≠ q := fun k hk => by
    have h1 := (N4.out.ov k hk).2
    exact ⟨by omega, by omega⟩
  have P6 := Lib.hid ((hg6.block w.heap.size (blk_lt P4.out) (fun e => (hvp _ e.symm).1 rfl)).trans P4.out)
  have Q6 := Lib.hid ((hg6.block q (blk_lt Q4.out) (fun e => (hvp _ e.symm).2 rfl)).trans Q4.out)
  have HC6 := Lib.hid (And.intro happ (And.intro hW6 (And.intro hg6 hat6)))
  have hpg : w.heap.size ≠ g := fun e => by have h1 := N4.out.og.2; omega
  have hqg : q ≠ g := fun e => by have h1 := N4.out.og.2; omega
  have hgp := hpg.symm
  have hgq := hqg.symm
  have hpq : w.heap.size ≠ q := by omega
  have hqW : q < W3.drew.heap.size := blk_lt Q4.out
  have hcut1 : ∀ u : World, (Instr.slice tFls (.slice (some ad) fls.length c9) (some (.int .i64 ((i : Int) + 1))) none none).run Try.prog u = .ok (.slice A2 n2 c2) u := hcut
  have NT := Lib.hid (N4.out.taken (O' := fun k => (O k ∧ k < w.heap.size) ∨ k = W3.drew.heap.size) i hW6 hg6 (fun k hk => .inl hk) (fun k hk => hk.elim (fun h => HOB.out k h.1) (fun h => by have h1 := HBB.out; omega)) (fun k hk => by
    rcases hat6 with h | h
    · exact .inl (N4.out.ov k (by rw [← h]; exact hk))
    · rw [h] at hk; injection hk with hk; exact .inr hk.symm))
  have KT := Lib.hid (Kept.setCell (p := ⟨g, 2, none⟩) (S := O) ((Kept.of_below (show Below w.heap.size w W3.drew from B3.out.drew) O).of_grown hg6 (fun k hk => .inl (N4.out.ov k hk).1)) (.inl N4.out.og.1) (.slice A6 n6 c6))
  have BT := Lib.hid (Below.setCell (p := ⟨g, 2, none⟩) (Below.grown (below_then HBW.out HBW.out.size B3.out.drew) hg6 (by have h1 := HBB.out; have h2 := HBS.out; show w0.heap.size ≤ W3.heap.size; have : q < W3.heap.size := hqW; omega) (fun k hk => by rw [← HBS.out]; exact HOB.out k (N4.out.ov k hk).1)) (show w0.heap.size ≤ g by rw [← HBS.out]; exact HOB.out g N4.out.og.1) (.slice A6 n6 c6))
  have O6 := Lib.hid (show Ow (w6.setCell ⟨g, 2, none⟩ (.slice A6 n6 c6)) W1.heap.size (.slice A5 f.nb.length c5) f.nb from O3.out.move (fun k hk => by
    have h1 := HV5.out k hk
    have h2 := own_base O3.out k hk
    have h3 := N4.out.og.2
    have h5 : q < W3.heap.size := hqW
    rw [Below.heap_setCell _ ⟨g, 2, none⟩ _ k (show k ≠ g by have := HS1.out; omega)]
    exact hg6.block k (show k < W3.heap.size by omega) (fun e => by have h4 := (N4.out.ov k e.symm).2; have := HS1.out; omega)))
  have hw1b : wrap64 ((i : Int) + 1) = (i : Int) + 1 := hw1
  clear hc9 hW6 hg6 hat6 hob9 hvp hw1 hcut hn6
  refine start_ (n := 19) (S := fun w' => (∀ o, w'.cell? ⟨g, o, none⟩ = #[Value.int .i64 nd, .int .i64 cl, .slice (some ad) fls.length c9, .map (some m)][o]?)) (ds := [18]) #[false, false, false, false, false, false, false, false, false, false, false, false, false, false, false, false, false, false, false] (by kernel_rfl) rfl rfl ((blkc N4.out.net)) (fun hHeld => ?_)
  refine pure_ (i := 0) (N := some 16) (v := ?_) (a' := ?_) #[true, false, false, false, false, false, false, false, false, false, false, false, false, false, false, false, false, false, false] rfl rfl (by kernel_rfl) (fun _ _ _ h => h) (Or.inl ⟨by rfl, ?_⟩) ?_ ?_
  rotate_left
  · intro w'
    go_simp
    with_reducible rfl
  rotate_left
  · simp only [Act.put, List.setIfInBounds_toArray, List.set_cons_zero, List.set_cons_succ, i64_w, i32_w]
    rfl
  refine pure_ (i := 1) (N := some 17) (v := ?_) (a' := ?_) #[true, true, false, false, false, false, false, false, false, false, false, false, false, false, false, false, false, false, false] rfl rfl (by kernel_rfl) (fun _ _ _ h => h) (Or.inl ⟨by rfl, ?_⟩) ?_ ?_
  rotate_left
  · intro w'
    go_simp
    with_reducible rfl
  rotate_left
  · simp only [Act.put, List.setIfInBounds_toArray, List.set_cons_zero, List.set_cons_succ, i64_w, i32_w]
    rfl
  refine pure_ (i := 2) (N := some 18) (v := ?_) (a' := ?_) #[true, true, true, false, false, false, false, false, false, false, false, false, false, false, false, false, false, false, false] rfl rfl (by kernel_rfl) (fun _ _ _ h => h) (Or.inl ⟨by rfl, ?_⟩) ?_ ?_
  rotate_left
  · intro w'
    go_simp
    with_reducible rfl
  rotate_left
  · simp only [Act.put, List.setIfInBounds_toArray, List.set_cons_zero, List.set_cons_succ, i64_w, i32_w]
    rfl
  refine pure_ (i := 3) (N := some 19) (v := ?_) (a' := ?_) #[true, true, true, true, false, false, false, false, false, false, false, false, false, false, false, false, false, false, false] rfl rfl (by kernel_rfl) (fun _ _ _ h => h) (Or.inl ⟨by rfl, ?_⟩) ?_ ?_
  rotate_left
  · intro w'
    go_simp
    with_reducible rfl
  rotate_left
  · simp only [Act.put, List.setIfInBounds_toArray, List.set_cons_zero, List.set_cons_succ, i64_w, i32_w]
    rfl
  refine pure_ (i := 5) (N := some 21) (v := ?_) (a' := ?_) #[true, true, true, true, false, true, false, false, false, false, false, false, false, false, false, false, false, false, false] rfl rfl (by kernel_rfl) (fun _ _ _ h => h) (Or.inl ⟨by rfl, ?_⟩) ?_ ?_
  rotate_left
  · intro w'
    go_simp
    with_reducible rfl
  rotate_left
  · simp only [Act.put, List.setIfInBounds_toArray, List.set_cons_zero, List.set_cons_succ, i64_w, i32_w]
    rfl
  refine pure_ (i := 6) (N := some 22) (v := ?_) (a' := ?_) #[true, true, true, true, false, true, true, false, false, false, false, false, false, false, false, false, false, false, false] rfl rfl (by kernel_rfl) (fun _ _ _ h => h) (Or.inl ⟨by rfl, ?_⟩) ?_ ?_
  rotate_left
  · intro w'
    go_simp
    with_reducible rfl
  rotate_left
  · simp only [Act.put, List.setIfInBounds_toArray, List.set_cons_zero, List.set_cons_succ, i64_w, i32_w]
    rfl
  refine pure_ (i := 8) (N := some 24) (v := ?_) (a' := ?_) #[true, true, true, true, false, true, true, false, true, false, false, false, false, false, false, false, false, false, false] rfl rfl (by kernel_rfl) (fun _ _ _ h => h) (Or.inl ⟨by rfl, ?_⟩) ?_ ?_
  rotate_left
  · intro w'
    go_simp
    with_reducible rfl
  rotate_left
  · simp only [Act.put, List.setIfInBounds_toArray, List.set_cons_zero, List.set_cons_succ, i64_w, i32_w]
    rfl
  refine pure_ (i := 9) (N := some 25) (v := ?_) (a' := ?_) #[true, true, true, true, false, true, true, false, true, true, false, false, false, false, false, false, false, false, false] rfl rfl (by kernel_rfl) (fun _ _ _ h => h) (Or.inl ⟨by rfl, ?_⟩) ?_ ?_
  rotate_left
  · intro w'
    go_simp
    with_reducible rfl
  rotate_left
  · simp only [Act.put, List.setIfInBounds_toArray, List.set_cons_zero, List.set_cons_succ, i64_w, i32_w]
    rfl
  refine pure_ (i := 10) (N := some 26) (v := ?_) (a' := ?_) #[true, true, true, true, false, true, true, false, true, true, true, false, false, false, false, false, false, false, false] rfl rfl (by kernel_rfl) (fun _ _ _ h => h) (Or.inl ⟨by rfl, ?_⟩) ?_ ?_
  rotate_left
  · intro w'
    go_simp
    with_reducible rfl
  rotate_left
  · simp only [Act.put, List.setIfInBounds_toArray, List.set_cons_zero, List.set_cons_succ, i64_w, i32_w]
    rfl
  refine pure_ (i := 12) (N := some 28) (v := ?_) (a' := ?_) #[true, true, true, true, false, true, true, false, true, true, true, false, true, false, false, false, false, false, false] rfl rfl (by kernel_rfl) (fun _ _ _ h => h) (Or.inl ⟨by rfl, ?_⟩) ?_ ?_
  rotate_left
  · intro w'
    go_simp
    with_reducible rfl
  rotate_left
  · simp only [Act.put, List.setIfInBounds_toArray, List.set_cons_zero, List.set_cons_succ, i64_w, i32_w]
    rfl
  refine pure_ (i := 13) (N := some 29) (v := ?_) (a' := ?_) #[true, true, true, true, false, true, true, false, true, true, true, false, true, true, false, false, false, false, false] rfl rfl (by kernel_rfl) (fun _ _ _ h => h) (Or.inl ⟨by rfl, ?_⟩) ?_ ?_
  rotate_left
  · intro w'
    go_simp
    with_reducible rfl
  rotate_left
  · simp only [Act.put, List.setIfInBounds_toArray, List.set_cons_zero, List.set_cons_succ, i64_w, i32_w]
    rfl
  refine take_ (i := 4) (N := some 20) (v := ?_) (a' := ?_) #[true, true, true, true, true, true, true, false, true, true, true, false, true, true, false, false, false, false, false] rfl rfl (by kernel_rfl) (fun _ _ _ h => h) (Or.inl ⟨by rfl, ?_⟩) hHeld ?_ ?_
  rotate_left
  · intro w' s0
    go_simp
    with_reducible rfl
  rotate_left
  · simp only [Act.put, List.setIfInBounds_toArray, List.set_cons_zero, List.set_cons_succ, i64_w, i32_w]
    rfl
  refine pure_ (i := 7) (N := some 23) (v := ?_) (a' := ?_) #[true, true, true, true, true, true, true, true, true, true, true, false, true, true, false, false, false, false, false] rfl rfl (by kernel_rfl) (fun _ _ _ h => h) (Or.inl ⟨by rfl, ?_⟩) ?_ ?_
  rotate_left
  · intro w'
    go_simp
    with_reducible rfl
  rotate_left
  · simp only [Act.put, List.setIfInBounds_toArray, List.set_cons_zero, List.set_cons_succ, i64_w, i32_w]
    rfl
  refine take_ (i := 11) (N := some 27) (v := ?_) (a' := ?_) #[true, true, true, true, true, true, true, true, true, true, true, true, true, true, false, false, false, false, false] rfl rfl (by kernel_rfl) (fun _ _ _ h => h) (Or.inl ⟨by rfl, ?_⟩) hHeld ?_ ?_
  rotate_left
  · intro w' s0
    go_simp
    with_reducible rfl
  rotate_left
  · simp only [Act.put, List.setIfInBounds_toArray, List.set_cons_zero, List.set_cons_succ, i64_w, i32_w]
    rfl
  refine pure_ (i := 14) (N := some 30) (v := ?_) (a' := ?_) #[true, true, true, true, true, true, true, true, true, true, true, true, true, true, true, false, false, false, false] rfl rfl (by kernel_rfl) (fun _ _ _ h => h) (Or.inl ⟨by rfl, ?_⟩) ?_ ?_
  rotate_left
  · intro w'
    go_simp
    with_reducible rfl
  rotate_left
  · simp only [Act.put, List.setIfInBounds_toArray, List.set_cons_zero, List.set_cons_succ, i64_w, i32_w]
    rfl
  refine one_ (i := 15) (N := some 31) #[true, true, true, true, true, true, true, true, true, true, true, true, true, true, true, true, false, false, false] rfl rfl (by kernel_rfl) (by decide) (fun K hK => ?_)
  refine app_step (by rfl) (.tmp 23) (.tmp 30) tFls rfl rfl rfl happ ?_
  refine hK.out _ _ ((blkc G6.out)) (fun hHeld => ?_)
  clear hK K
  refine norm_ (a' := ?_) ?_ ?_
  rotate_left
  · show Act.put _ (some 31) _ = _
    simp only [Act.put, List.setIfInBounds_toArray, List.set_cons_zero, List.set_cons_succ, i64_w, i32_w]
    rfl
  refine pure_ (i := 16) (N := some 32) (v := ?_) (a' := ?_) #[true, true, true, true, true, true, true, true, true, true, true, true, true, true, true, true, true, false, false] rfl rfl (by kernel_rfl) (fun _ _ _ h => h) (Or.inl ⟨by rfl, ?_⟩) ?_ ?_
  rotate_left
  · intro w'
    go_simp
    with_reducible rfl
  rotate_left
  · simp only [Act.put, List.setIfInBounds_toArray, List.set_cons_zero, List.set_cons_succ, i64_w, i32_w]
    rfl
  refine pure_ (i := 17) (N := some 33) (v := ?_) (a' := ?_) #[true, true, true, true, true, true, true, true, true, true, true, true, true, true, true, true, true, true, false] rfl rfl (by kernel_rfl) (fun _ _ _ h => h) (Or.inl ⟨by rfl, ?_⟩) ?_ ?_
  rotate_left
  · intro w'
    go_simp
    with_reducible rfl
  rotate_left
  · simp only [Act.put, List.setIfInBounds_toArray, List.set_cons_zero, List.set_cons_succ, i64_w, i32_w]
    rfl
  refine last_ (i := 18) (N := none) #[true, true, true, true, true, true, true, true, true, true, true, true, true, true, true, true, true, true, true] rfl rfl (by kernel_rfl) (by decide) (fun K hK => ?_)
  have zg := blkz G6.out
  refine skip_ (w1 := ?_) (by rfl) rfl ?_ ?_
  rotate_left
  · go_simp
    rfl
  refine hK.out _ _ ?_
  clear hK K
  refine done_ (by kernel_rfl) ?_
  clear hcm hcut1 happ hw1b
  have P7 := Lib.hid (blk_far (p := ⟨g, 2, none⟩) P6.out hpg (.slice A6 n6 c6))
  have Q7 := Lib.hid (blk_far (p := ⟨g, 2, none⟩) Q6.out hqg (.slice A6 n6 c6))
  go_upto_region 4 with (fail)
  generalize (World.setCell w6 _ _) = W7 at *
  have PS := Lib.hid (zero3' P7.out (.int .i64 f.src) (.int .i64 f.dst) (.slice A5 f.nb.length c5))
  have cp := blkc P7.out
  have zp' := blkz P7.out
  have cq := blkc Q7.out
  have hsz := HS1.out
  have n0 : ¬ ((O w.heap.size ∧ w.heap.size < w.heap.size) ∨ w.heap.size = W3.drew.heap.size) := fun h => h.elim (fun h => by omega) (fun h => by omega)
  have F1 := Lib.hid ((((NT.out.far (p := ⟨w.heap.size, 0, none⟩) n0 (.int .i64 f.src)).far (p := ⟨w.heap.size, 1, none⟩) n0 (.int .i64 f.dst)).far (p := ⟨w.heap.size, 2, none⟩) n0 (.slice A5 f.nb.length c5)).mono (O' := fun k => O k ∨ (w.heap.size ≤ k ∧ (Value.slice A5 f.nb.length c5).ownBlock ≠ some k)) (fun k hk => hk.elim (fun h => .inl h.1) (fun h => .inr ⟨by omega, fun e => by have := HV5.out k e; omega⟩)) (fun k hk => hk.elim (HOB.out k) (fun h => by have := HBB.out; omega)))
  have F2 := Lib.hid (((KT.out.setCell (p := ⟨w.heap.size, 0, none⟩) (.inr (Nat.le_refl _)) (.int .i64 f.src)).setCell (p := ⟨w.heap.size, 1, none⟩) (.inr (Nat.le_refl _)) (.int .i64 f.dst)).setCell (p := ⟨w.heap.size, 2, none⟩) (.inr (Nat.le_refl _)) (.slice A5 f.nb.length c5))
  have F3 := Lib.hid (below_set (j := 2) (v := .slice A5 f.nb.length c5) (below_set (j := 1) (v := .int .i64 f.dst) (below_set (j := 0) (v := .int .i64 f.src) BT.out HBW.out.size) HBW.out.size) HBW.out.size)
  have F4 := Lib.hid ((ow_far3 O6.out hsz (.int .i64 f.src) (.int .i64 f.dst) (.slice A5 f.nb.length c5)).lower (Nat.le_of_lt hsz))
  clear n0 hsz
  go_wp2_with fail
  exact bodyPost_ret (res_pk rfl rfl rfl PS.out) rfl ⟨_, rfl, F4.out, ⟨_, F1.out⟩, F2.out, F3.out⟩
set_option maxHeartbeats 3200000 in
set_option maxRecDepth 100000 in
theorem drop_not (h : NetR w base O g m nd cl v fls sent) {i : Int} (hi : atB fls.length i = false) : Calls Try.prog 27 #[.pointer (some ⟨g, 0, none⟩), .int .i64 i] w fun e w' => e = .returned (.int .i64 241) ∧ Below w.heap.size w w' := by
  have HT := Lib.hid (take_not h hi)
  clear h hi
  go_enter Try.func27, Try.ntmps27
  go_wp2_with fail
  refine HT.out.mono ?_
  rintro e w1 ⟨rfl, hb⟩
  have HB := Lib.hid (below_then hb hb.size (below_alloc (Below.refl w1.heap.size w1) (.cells #[.int .i64 0, .int .i64 0, .slice none 0 0] tPk)))
  clear hb
  go_wp2
  go_ret
  exact ⟨rfl, HB.out⟩
set_option maxHeartbeats 3200000 in
set_option maxRecDepth 100000 in
theorem drop_net (h : NetR w base O g m nd cl v fls sent) {i : Nat} {f : Fl} (hi : fls[i]? = some f) (hfl : fls.length ≤ 2199023255552) (HB : Below w0.heap.size w0 w) (hbs : base = w0.heap.size) :
    Calls Try.prog 27 #[.pointer (some ⟨g, 0, none⟩), .int .i64 (i : Int)] w fun e w' => e = .returned (.int .i64 0) ∧ (∃ v', NetR w' base (fun k => O k ∨ w.heap.size ≤ k) g m nd cl v' (fls.eraseIdx i) sent) ∧ Kept w w' O ∧ Below w0.heap.size w0 w' := by
  have HT := Lib.hid (take_net (w0 := w0) h hi hfl HB hbs)
  have HOB := Lib.hid (And.intro h.ob (show base ≤ w.heap.size by rw [hbs]; exact HB.size))
  clear h hi hfl HB hbs
  go_enter Try.func27, Try.ntmps27
  go_wp2_with fail
  refine HT.out.mono ?_
  rintro e w1 ⟨v5, rfl, ho5, ⟨v', hN⟩, hk, hb⟩
  obtain ⟨A5, c5, rfl⟩ := own_slice ho5
  have ba := below_alloc (Below.refl w1.heap.size w1) (.cells #[.int .i64 f.src, .int .i64 f.dst, .slice A5 f.nb.length c5] tPk)
  have N1 := Lib.hid ((hN.below ba).mono (O' := fun k => O k ∨ w.heap.size ≤ k) (fun k hk => hk.elim .inl (fun h => .inr h.1)) (fun k hk => hk.elim (HOB.out.1 k) (fun h => Nat.le_trans HOB.out.2 h)))
  have K1 := Lib.hid (hk.below ba)
  have B1 := Lib.hid (below_then hb hb.size ba)
  clear hN hk hb ba ho5
  go_wp2
  go_ret
  exact ⟨rfl, ⟨_, N1.out⟩, K1.out, B1.out⟩
end
end Go.Proofs.Ytpjbgcpieijeaaa.Net
