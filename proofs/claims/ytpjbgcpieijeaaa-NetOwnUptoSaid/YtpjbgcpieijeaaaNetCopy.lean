/- Copy: a packet is there once more. -/
import Derived.Test.YtpjbgcpieijeaaaNetFlip
set_option linter.unusedVariables false
set_option linter.unusedSimpArgs false
namespace Go.Proofs.Ytpjbgcpieijeaaa.Net
open Go.RowKit Go.Proofs.Ytpjbgcpieijeaaa.Mem Go.Proofs.YtpjbgcpieijeaaaW.PrintWords Go.Proofs.YtpjbgcpieijeaaaW.PrintLast Go.Proofs.Ytpjbgcpieijeaaa.Byt Go.Proofs.Ytpjbgcpieijeaaa.Opn Go.Deep
section
variable {w w0 : World} {base g m : Nat} {O : Nat → Prop} {nd cl : Int} {v : Value} {fls : List Fl} {sent : List LtT}
set_option maxHeartbeats 3200000 in
set_option maxRecDepth 100000 in
theorem copy_not (h : NetR w base O g m nd cl v fls sent) {i : Int} (hi : atB fls.length i = false) : Calls Try.prog 15 #[.pointer (some ⟨g, 0, none⟩), .int .i64 i] w fun e w' => e = .returned (.int .i64 241) ∧ Below w.heap.size w w' := by
  have BS := Lib.hid (below_alloc (Below.refl w.heap.size w) (.cells #[.int .i64 i] tI))
  have PI := Lib.hid (blk_new w (.cells #[.int .i64 i] tI))
  have HN := Lib.hid (h.below BS.out)
  have HE := Lib.hid (atE_no hi)
  clear h hi
  go_enter Try.func15, Try.ntmps15
  go_wp2_with fail
  refine (at1_any HN.out PI.out).mono ?_
  rintro e w1 ⟨rfl, rfl⟩
  rw [HE.out]
  go_wp2_with fail
  go_ret
  exact ⟨rfl, BS.out⟩
theorem Ow.far {w : World} {b : Nat} {u : Value} {bs : List Int} (h : Ow w b u bs) {p : Addr} (hp : p.block < b) (x : Value) : Ow (w.setCell p x) b u bs :=
  h.move (fun k hk => Below.heap_setCell w p x k (by have := own_base h k hk; omega))
theorem Ow.below {w w1 : World} {b : Nat} {u : Value} {bs : List Int} (h : Ow w b u bs) (hb : Below w.heap.size w w1) : Ow w1 b u bs := h.move (fun k hk => hb.block k (own_lt h k hk))
set_option maxHeartbeats 6400000 in
set_option maxRecDepth 100000 in
theorem copy_net (h : NetR w base O g m nd cl v fls sent) {i : Nat} {f : Fl} (hi : fls[i]? = some f) (hfl : fls.length + 1 ≤ 2199023255552) (HB : Below w0.heap.size w0 w) (hbs : base = w0.heap.size) :
    Calls Try.prog 15 #[.pointer (some ⟨g, 0, none⟩), .int .i64 (i : Int)] w fun e w' => e = .returned (.int .i64 0) ∧ (∃ v' nv, NetR w' base (fun k => O k ∨ w.heap.size ≤ k) g m nd cl v' (fls ++ [⟨f.src, f.dst, f.sv, nv, f.sb, f.nb⟩]) sent) ∧ Kept w w' O ∧ Below w0.heap.size w0 w' := by
  have hil : i < fls.length := (List.getElem?_eq_some_iff.1 hi).1
  have BS := Lib.hid (below_alloc (Below.refl w.heap.size w) (.cells #[.int .i64 (i : Int)] tI))
  have PI := Lib.hid (blk_new w (.cells #[.int .i64 (i : Int)] tI))
  have HN := Lib.hid (h.bound.below BS.out)
  have HOB := Lib.hid h.ob
  have HE := Lib.hid (atE_yes (n := fls.length) (i := (i : Int)) (by simp [atB]; omega))
  have HI := Lib.hid hi
  have HFL := Lib.hid hfl
  have HBW := Lib.hid HB
  have HBB := Lib.hid (show base ≤ w.heap.size by rw [hbs]; exact HB.size)
  have HBS := Lib.hid hbs
  clear h hi hfl HB hbs
  go_enter Try.func15, Try.ntmps15
  go_wp2_with fail
  generalize (World.alloc w _) = W at *
  refine (at1_any HN.out PI.out).mono ?_
  rintro e w1 ⟨rfl, rfl⟩
  rw [HE.out]
  obtain ⟨ad, c, rfl, hc, hob, y0, y1, y2, y3⟩ := HN.out.way.at HI.out
  have FR := HN.out.fl f (List.mem_of_getElem? HI.out)
  obtain ⟨A1, c1, hv1, hl1, hC1⟩ := FR.s.reads
  obtain ⟨A2, c2, hv2, hl2, hC2⟩ := FR.n.reads
  rw [hv1] at y2
  rw [hv2] at y3
  have cn := blkc HN.out.net
  have p0 := eq_true (show 0 ≤ (i : Int) by omega)
  have p1 := eq_true hil
  have HV1 := Lib.hid hv1
  have HLB := Lib.hid FR.lb
  have BA := below_alloc (Below.refl W.heap.size W) (.cells #[.int .i64 f.src, .int .i64 f.dst, .slice A1 f.sb.length c1, .slice A2 f.nb.length c2] tFl)
  have Q4 := Lib.hid (blk_new W (.cells #[.int .i64 f.src, .int .i64 f.dst, .slice A1 f.sb.length c1, .slice A2 f.nb.length c2] tFl))
  have N4 := Lib.hid (HN.out.below BA)
  have B4 := Lib.hid (below_then BS.out BS.out.size BA)
  have C4 := Lib.hid (Kd.C_below hC2 BA)
  have HWS := Lib.hid BS.out.size
  clear hc hob hv1 hv2 hl1 hl2 hC1 hC2 FR HE PI hil BA HN BS
  go_upto_region 5 with (fail)
  clear y0 y1 y2 y3 p0 p1 cn
  generalize (World.alloc W _) = W4 at *
  generalize hq : W.heap.size = q at *
  have HQ := Lib.hid (show w.heap.size ≤ q by have := HWS.out; omega)
  have HQ4 := Lib.hid (show q < W4.heap.size from blk_lt Q4.out)
  have cq := blkc Q4.out
  go_wp2_with fail
  refine (clone_any C4.out (by have := HLB.out; omega)).mono ?_
  rintro e w5 ⟨v5, rfl, ho5, hb5⟩
  obtain ⟨A5, c5, rfl⟩ := own_slice ho5
  have Q5 := Lib.hid (blk_below Q4.out hb5)
  have N5 := Lib.hid (N4.out.below hb5)
  have B5 := Lib.hid (below_then B4.out B4.out.size hb5)
  have O5 := Lib.hid ho5
  clear cq ho5 hb5
  have cq := blkc Q5.out
  have zq := blkz Q5.out
  have Q6 := Lib.hid (show (w5.setCell ⟨q, 3, none⟩ (.slice A5 f.nb.length c5)).heap[q]? = some (.cells #[.int .i64 f.src, .int .i64 f.dst, .slice A1 f.sb.length c1, .slice A5 f.nb.length c5] tFl (0, 0)) from by have := blk_set Q5.out 3 (.slice A5 f.nb.length c5); simpa using this)
  have N6 := Lib.hid (N5.out.far (p := ⟨q, 3, none⟩) (fun hk => by have h2 : q < w.heap.size := hk.2; have := HQ.out; omega) (.slice A5 f.nb.length c5))
  have O6 := Lib.hid (O5.out.far (p := ⟨q, 3, none⟩) HQ4.out (.slice A5 f.nb.length c5))
  have B6 := Lib.hid (below_set (j := 3) (v := .slice A5 f.nb.length c5) B5.out HQ.out)
  go_upto_region 6 with (fail)
  clear cq zq
  generalize (World.setCell w5 _ _) = W6 at *
  have N6 := Lib.hid (N6.out.move (w1 := W6.drew) (fun _ _ _ => rfl))
  have Q6 := Lib.hid (blk_drew Q6.out)
  have O6 := Lib.hid (show Ow W6.drew W4.heap.size _ _ from O6.out)
  have B6 := Lib.hid B6.out.drew
  have HB6 := Lib.hid (show Below w.heap.size w W6.drew from B6.out)
  have BX := Lib.hid (below_alloc (Below.refl W6.drew.heap.size W6.drew) (.cells #[.int .i64 f.src, .int .i64 f.dst, .slice A1 f.sb.length c1, .slice A5 f.nb.length c5] tFl))
  have NX := Lib.hid (N6.out.below BX.out)
  have PX := Lib.hid (blk_new W6.drew (.cells #[.int .i64 f.src, .int .i64 f.dst, .slice A1 f.sb.length c1, .slice A5 f.nb.length c5] tFl))
  have HAPP := Lib.hid (way_app (W6.drew.alloc (.cells #[.int .i64 f.src, .int .i64 f.dst, .slice A1 f.sb.length c1, .slice A5 f.nb.length c5] tFl)) tFls (ys := [⟨f.src, f.dst, f.sv, .slice A5 f.nb.length c5, f.sb, f.nb⟩]) NX.out.way ⟨W6.drew.heap.size, 0, none⟩ 1 1 rfl (by omega) (fun j u hj => by rw [add_plain, blkc PX.out j]; rw [cellsOf_one, Fl.cells, HV1.out] at hj; simpa using hj) (fun f' hf' => by rw [List.mem_singleton.1 hf']; exact ⟨by show f.sv.oneCell' = true; rw [HV1.out]; rfl, rfl⟩) (by have h1 := HBB.out; have h2 := B6.out.size; have h3 := BX.out.size; omega) HFL.out)
  obtain ⟨v7, w7, hrun, hgo, hgr, hat⟩ := HAPP.out
  have hln : (fls ++ [(⟨f.src, f.dst, f.sv, .slice A5 f.nb.length c5, f.sb, f.nb⟩ : Fl)]).length = fls.length + 1 := by rw [List.length_append, List.length_singleton]
  rw [hln] at hgo
  obtain ⟨A7, c7, rfl⟩ := own_slice hgo
  have HLN := Lib.hid hln
  clear hln
  have HGO := Lib.hid hgo
  have HGR := Lib.hid hgr
  have HAT := Lib.hid hat
  have G7 := Lib.hid ((hgr.block g (blk_lt NX.out.net) (fun e => NX.out.g_not.1 e.symm)).trans NX.out.net)
  have GX := Lib.hid NX.out.net
  have Q7 := Lib.hid ((hgr.block q (by have := blk_lt (blk_below Q6.out BX.out); exact this) (fun e => by have h1 := NX.out.way.lt q e.symm; have h2 := (NX.out.ov q e.symm).2; have := HQ.out; omega)).trans (blk_below Q6.out BX.out))
  clear hgo hgr hat HAPP
  refine start_ (n := 11) (S := fun w' => (∀ o, w'.cell? ⟨g, o, none⟩ = #[Value.int .i64 nd, .int .i64 cl, .slice (some ad) fls.length c, .map (some m)][o]?) ∧ (∀ o, w'.cell? ⟨q, o, none⟩ = #[Value.int .i64 f.src, .int .i64 f.dst, .slice A1 f.sb.length c1, .slice A5 f.nb.length c5][o]?)) (ds := [10]) #[false, false, false, false, false, false, false, false, false, false, false] (by kernel_rfl) rfl rfl ⟨(blkc N6.out.net), (blkc Q6.out)⟩ (fun hHeld => ?_)
  refine pure_ (i := 0) (N := some 25) (v := ?_) (a' := ?_) #[true, false, false, false, false, false, false, false, false, false, false] rfl rfl (by kernel_rfl) (fun _ _ _ h => h) (Or.inl ⟨by rfl, ?_⟩) ?_ ?_
  rotate_left
  · intro w'
    go_simp
    with_reducible rfl
  rotate_left
  · simp only [Act.put, List.setIfInBounds_toArray, List.set_cons_zero, List.set_cons_succ, i64_w, i32_w]
    rfl
  refine pure_ (i := 1) (N := some 26) (v := ?_) (a' := ?_) #[true, true, false, false, false, false, false, false, false, false, false] rfl rfl (by kernel_rfl) (fun _ _ _ h => h) (Or.inl ⟨by rfl, ?_⟩) ?_ ?_
  rotate_left
  · intro w'
    go_simp
    with_reducible rfl
  rotate_left
  · simp only [Act.put, List.setIfInBounds_toArray, List.set_cons_zero, List.set_cons_succ, i64_w, i32_w]
    rfl
  refine pure_ (i := 2) (N := some 27) (v := ?_) (a' := ?_) #[true, true, true, false, false, false, false, false, false, false, false] rfl rfl (by kernel_rfl) (fun _ _ _ h => h) (Or.inl ⟨by rfl, ?_⟩) ?_ ?_
  rotate_left
  · intro w'
    go_simp
    with_reducible rfl
  rotate_left
  · simp only [Act.put, List.setIfInBounds_toArray, List.set_cons_zero, List.set_cons_succ, i64_w, i32_w]
    rfl
  refine pure_ (i := 3) (N := some 28) (v := ?_) (a' := ?_) #[true, true, true, true, false, false, false, false, false, false, false] rfl rfl (by kernel_rfl) (fun _ _ _ h => h) (Or.inl ⟨by rfl, ?_⟩) ?_ ?_
  rotate_left
  · intro w'
    go_simp
    with_reducible rfl
  rotate_left
  · simp only [Act.put, List.setIfInBounds_toArray, List.set_cons_zero, List.set_cons_succ, i64_w, i32_w]
    rfl
  refine take_ (i := 4) (N := some 29) (v := ?_) (a' := ?_) #[true, true, true, true, true, false, false, false, false, false, false] rfl rfl (by kernel_rfl) (fun _ _ _ h => h) (Or.inl ⟨by rfl, ?_⟩) hHeld ?_ ?_
  rotate_left
  · rintro w' ⟨s0, s1⟩
    go_simp
    with_reducible rfl
  rotate_left
  · simp only [Act.put, List.setIfInBounds_toArray, List.set_cons_zero, List.set_cons_succ, i64_w, i32_w]
    rfl
  refine take_ (i := 5) (N := some 30) (v := ?_) (a' := ?_) #[true, true, true, true, true, true, false, false, false, false, false] rfl rfl (by kernel_rfl) (fun _ _ _ h => h) (Or.inl ⟨by rfl, ?_⟩) hHeld ?_ ?_
  rotate_left
  · rintro w' ⟨s0, s1⟩
    go_simp
    with_reducible rfl
  rotate_left
  · simp only [Act.put, List.setIfInBounds_toArray, List.set_cons_zero, List.set_cons_succ, i64_w, i32_w]
    rfl
  refine one_ (i := 6) (N := some 31) #[true, true, true, true, true, true, true, false, false, false, false] rfl rfl (by kernel_rfl) (by decide) (fun K hK => ?_)
  refine value_ (w1 := ?_) (v := ?_) (by rfl) rfl ?_ ?_
  rotate_left 2
  · go_simp
    constructor
    · rfl
    · rfl
  refine hK.out _ _ ⟨(blkc GX.out), (blkc (blk_below Q6.out BX.out))⟩ (fun hHeld => ?_)
  clear hK K
  refine norm_ (a' := ?_) ?_ ?_
  rotate_left
  · show Act.put _ (some 31) _ = _
    simp only [Act.put, List.setIfInBounds_toArray, List.set_cons_zero, List.set_cons_succ, i64_w, i32_w]
    rfl
  refine one_ (i := 7) (N := some 32) #[true, true, true, true, true, true, true, true, false, false, false] rfl rfl (by kernel_rfl) (by decide) (fun K hK => ?_)
  refine app_step (by rfl) (.tmp 29) (.tmp 31) tFls rfl rfl rfl hrun ?_
  refine hK.out _ _ ⟨(blkc G7.out), (blkc Q7.out)⟩ (fun hHeld => ?_)
  clear hK K
  refine norm_ (a' := ?_) ?_ ?_
  rotate_left
  · show Act.put _ (some 32) _ = _
    simp only [Act.put, List.setIfInBounds_toArray, List.set_cons_zero, List.set_cons_succ, i64_w, i32_w]
    rfl
  refine pure_ (i := 8) (N := some 33) (v := ?_) (a' := ?_) #[true, true, true, true, true, true, true, true, true, false, false] rfl rfl (by kernel_rfl) (fun _ _ _ h => h) (Or.inl ⟨by rfl, ?_⟩) ?_ ?_
  rotate_left
  · intro w'
    go_simp
    with_reducible rfl
  rotate_left
  · simp only [Act.put, List.setIfInBounds_toArray, List.set_cons_zero, List.set_cons_succ, i64_w, i32_w]
    rfl
  refine pure_ (i := 9) (N := some 34) (v := ?_) (a' := ?_) #[true, true, true, true, true, true, true, true, true, true, false] rfl rfl (by kernel_rfl) (fun _ _ _ h => h) (Or.inl ⟨by rfl, ?_⟩) ?_ ?_
  rotate_left
  · intro w'
    go_simp
    with_reducible rfl
  rotate_left
  · simp only [Act.put, List.setIfInBounds_toArray, List.set_cons_zero, List.set_cons_succ, i64_w, i32_w]
    rfl
  refine last_ (i := 10) (N := none) #[true, true, true, true, true, true, true, true, true, true, true] rfl rfl (by kernel_rfl) (by decide) (fun K hK => ?_)
  have zg := blkz G7.out
  refine skip_ (w1 := ?_) (by rfl) rfl ?_ ?_
  rotate_left
  · go_simp
    rfl
  refine hK.out _ _ ?_
  clear hK K
  refine done_ (by kernel_rfl) ?_
  have hsz : w.heap.size ≤ q ∧ q < W4.heap.size ∧ base ≤ w.heap.size := ⟨HQ.out, HQ4.out, HBB.out⟩
  have FX := NX.out.fl f (List.mem_of_getElem? HI.out)
  have fresh : ∀ k, (Value.slice A5 f.nb.length c5).ownBlock = some k → W4.heap.size ≤ k := fun k hk => own_base O6.out k hk
  have FIN := Lib.hid (NX.out.appended (O' := fun k => O k ∨ w.heap.size ≤ k) (f := ⟨f.src, f.dst, f.sv, .slice A5 f.nb.length c5, f.sb, f.nb⟩) (b := (W6.drew.alloc (.cells #[.int .i64 f.src, .int .i64 f.dst, .slice A1 f.sb.length c1, .slice A5 f.nb.length c5] tFl)).heap.size)
    ⟨FX.s, (O6.out.below BX.out).lower (by omega), fun k hk => .inl (FX.os k hk).1, fun k hk => .inr (by have := fresh k hk; omega), FX.len, FX.rs, FX.rn, FX.lb⟩
    (fun k hk => .inl hk.1) (fun k hk => hk.elim (HOB.out k) (fun h => by omega))
    (NX.out.sep.snoc (fun k hk => ⟨fun e => by have h1 := (FX.os k e).2; have h2 := fresh k hk; omega, fun f' hf' => ⟨fun e => by have h1 := ((NX.out.fl f' hf').os k e).2; have h2 := fresh k hk; omega, fun e => by have h1 := ((NX.out.fl f' hf').on k e).2; have h2 := fresh k hk; omega⟩⟩)
      (fun f' hf' k hk => ⟨by obtain ⟨j, hj⟩ := List.getElem?_of_mem hf'; exact (NX.out.sep j i f' f hj HI.out k hk).1, fun e => by have h1 := ((NX.out.fl f' hf').on k hk).2; have h2 := fresh k e; omega⟩))
    (by rw [HLN.out]; exact HGO.out) HGR.out HAT.out (.inr (by have h1 := B6.out.size; have h2 := BX.out.size; omega)))
  have KP := Lib.hid (Kept.setCell (p := ⟨g, 2, none⟩) (S := O) (((Kept.of_below (show Below w.heap.size w W6.drew from HB6.out) O).below BX.out).of_grown HGR.out (fun k hk => .inl (NX.out.ov k hk).1)) (.inl NX.out.og.1) (.slice A7 (fls.length + 1) c7))
  have BL := Lib.hid (Below.setCell (p := ⟨g, 2, none⟩) (Below.grown (below_then HBW.out HBW.out.size (below_then HB6.out HB6.out.size BX.out)) HGR.out (by have h1 := HBB.out; have h2 := HBS.out; have h3 := B6.out.size; have h4 := BX.out.size; omega) (fun k hk => by rw [← HBS.out]; exact HOB.out k (NX.out.ov k hk).1)) (show w0.heap.size ≤ g by rw [← HBS.out]; exact HOB.out g NX.out.og.1) (.slice A7 (fls.length + 1) c7))
  clear hsz FX fresh
  go_wp2_with fail
  go_ret
  exact ⟨rfl, ⟨_, _, FIN.out.move (fun _ _ _ => rfl)⟩, KP.out, BL.out⟩
end
end Go.Proofs.Ytpjbgcpieijeaaa.Net
