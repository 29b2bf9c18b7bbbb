/- All: the packets under way, as they are now, in memory of their own. -/
import Derived.Test.YtpjbgcpieijeaaaNetRange
import Derived.Test.YtpjbgcpieijeaaaNetHold
set_option linter.unusedVariables false
set_option linter.unusedSimpArgs false
namespace Go.Proofs.Ytpjbgcpieijeaaa.Net
open Go.RowKit Go.Proofs.Ytpjbgcpieijeaaa.Mem Go.Proofs.YtpjbgcpieijeaaaW.PrintWords Go.Proofs.YtpjbgcpieijeaaaW.PrintLast Go.Proofs.Ytpjbgcpieijeaaa.Byt Go.Proofs.Ytpjbgcpieijeaaa.Opn Go.Deep
/-- What an iterator of All goes over: a list in a box of its own. -/
structure AllR (w : World) (base b : Nat) (sv : Value) (ps : List Pv) : Prop where
  box : w.heap[b]? = some (.cells #[sv] tPks (0, 0))
  bb : base ≤ b
  row : SomeR w base sv ps
  own : ∀ p ∈ ps, Ow w base p.sv p.bs ∧ p.bs.length ≤ 140737488351232 ∧ ∀ z ∈ p.bs, 0 ≤ z ∧ z < 256
theorem AllR.below {w w1 : World} {base b : Nat} {sv : Value} {ps : List Pv} (h : AllR w base b sv ps) (hb : Below w.heap.size w w1) : AllR w1 base b sv ps :=
  ⟨blk_below h.box hb, h.bb, own_move h.row (fun k hk => hb.block k (own_lt h.row k hk)), fun p hp => ⟨(h.own p hp).1.below hb, (h.own p hp).2⟩⟩
theorem AllR.step {w w1 : World} {base b : Nat} {sv : Value} {ps : List Pv} (h : AllR w base b sv ps) {p : Pv} (hp : Ow w base p.sv p.bs ∧ p.bs.length ≤ 140737488351232 ∧ ∀ z ∈ p.bs, 0 ≤ z ∧ z < 256) {v1 : Value} (ho : w1.ownsRow base tPk 3 v1 (ps.length + 1) (pcells ps ++ p.cells)) (hg : w.grownBy w1 sv.ownBlock) : AllR (w1.setCell ⟨b, 0, none⟩ v1) base b v1 (ps ++ [p]) := by
  have ne : ∀ {k t : Nat} {cs : Array Value}, w.heap[k]? = some (.cells cs t (0, 0)) → t ≠ tPk → sv.ownBlock ≠ some k := fun {k t cs} hk ht e => by
    obtain ⟨cells, hc⟩ := own_typed h.row k e
    rw [hk] at hc
    injection hc with hc
    injection hc with _ hc _
    exact ht hc
  have hbx : w1.heap[b]? = some (.cells #[sv] tPks (0, 0)) := (hg.block b (blk_lt h.box) (fun e => ne h.box (by decide) e.symm)).trans h.box
  have far : ∀ k, k ≠ b → (w1.setCell ⟨b, 0, none⟩ v1).heap[k]? = w1.heap[k]? := fun k hk => Below.heap_setCell w1 ⟨b, 0, none⟩ v1 k hk
  have ow : ∀ {u : Value} {bs : List Int}, Ow w base u bs → Ow (w1.setCell ⟨b, 0, none⟩ v1) base u bs := fun {u bs} hu => hu.move (fun k hk => by
    obtain ⟨cs, hc⟩ := hu.typed hk
    rw [far k (fun e => by rw [e, h.box] at hc; injection hc with hc; injection hc with _ hc _; exact absurd hc (by decide))]
    exact hg.block k (blk_lt hc) (fun e => ne hc (by decide) e.symm))
  refine ⟨by have := blk_set hbx 0 v1; simpa using this, h.bb, ?_, fun q hq => ?_⟩
  · show (w1.setCell ⟨b, 0, none⟩ v1).ownsRow base tPk 3 v1 (ps ++ [p]).length (pcells (ps ++ [p]))
    rw [List.length_append, pcells_append, show pcells [p] = p.cells by simp [pcells]]
    exact own_move ho (fun k hk => far k (fun e => by
      obtain ⟨cells, hc⟩ := own_typed ho k hk
      rw [e, hbx] at hc
      injection hc with hc
      injection hc with _ hc _
      exact absurd hc (by decide)))
  · rcases List.mem_append.1 hq with hq | hq
    · exact ⟨ow (h.own q hq).1, (h.own q hq).2⟩
    · rw [List.mem_singleton.1 hq]
      exact ⟨ow hp.1, hp.2⟩
def Fl.pk (f : Fl) : PkT := (f.src, f.dst, f.nb)
section
variable {w w0 : World} {base g m : Nat} {O : Nat → Prop} {nd cl : Int} {v : Value} {fls : List Fl} {sent : List LtT}
set_option maxHeartbeats 12800000 in
set_option maxRecDepth 100000 in
theorem all_net (h : NetR w base O g m nd cl v fls sent) (hfl : fls.length ≤ 2199023255552) : Calls Try.prog 19 #[.pointer (some ⟨g, 0, none⟩)] w fun e w' => ∃ b sv ps, e = .returned (.func (.func 37) #[] #[.pointer (some ⟨b, 0, none⟩)]) ∧ AllR w' w.heap.size b sv ps ∧ ps.map Pv.plain = fls.map Fl.pk ∧ Below w.heap.size w w' := by
  have BS := Lib.hid (below_alloc (Below.refl w.heap.size w) (.cells #[.slice none 0 0] tPks))
  have PS := Lib.hid (blk_new w (.cells #[.slice none 0 0] tPks))
  have HN := Lib.hid h
  have HFL := Lib.hid hfl
  clear h hfl
  go_enter Try.func19, Try.ntmps19
  go_wp2_with fail
  generalize (World.alloc w _) = W at *
  refine (made_any (HN.out.below BS.out).net).mono ?_
  rintro e w1 ⟨rfl, rfl⟩
  have I0 : Hid (AllR W w.heap.size w.heap.size (.slice none 0 0) []) := Lib.hid ⟨PS.out, Nat.le_refl _, own_nil _ _ _ _, by simp⟩
  obtain ⟨A0, c0, hv0, _⟩ := HN.out.way.slice
  subst hv0
  have cn := blkc (HN.out.below BS.out).net
  clear PS
  go_wp2_with fail
  clear cn
  generalize hb : w.heap.size = b at *
  have HBW := Lib.hid hb
  clear hb
  go_loopg [13] fls.length (fun kq v13 w' => ∃ (j : Nat), v13 = .int .i64 (j : Int) ∧ Hid (j + kq = fls.length) ∧ ∃ sv ps, Hid (AllR w' b b sv ps) ∧ Hid (ps.map Pv.plain = (fls.take j).map Fl.pk) ∧ Hid (Below b w w'))
  case atStart => exact ⟨0, rfl, (show _ + _ = _ by omega), _, _, I0.out, rfl, BS.out⟩
  case round =>
    obtain ⟨j, rfl, HI, sv, ps, HA, HM, HB⟩ := hrel
    cases gk with
    | zero =>
      have hj : j = fls.length := HI.out
      have d1 : decide (j < fls.length) = false := decide_eq_false (by omega)
      have HM2 := Lib.hid (show ps.map Pv.plain = fls.map Fl.pk by have h1 := HM.out; rw [hj, List.take_length] at h1; exact h1)
      clear hj HI
      go_wp2_with fail
      go_ret
      exact ⟨b, sv, ps, rfl, by rw [HBW.out]; exact HA.out, HM2.out, by rw [HBW.out]; exact HB.out⟩
    | succ k1 =>
      have hj : j < fls.length := by have := HI.out; omega
      have d1 : decide (j < fls.length) = true := decide_eq_true hj
      obtain ⟨f, hf⟩ : ∃ f, fls[j]? = some f := ⟨_, List.getElem?_eq_getElem hj⟩
      have NW := HN.out.below (show Below w.heap.size w wr by rw [HBW.out]; exact HB.out)
      obtain ⟨ad, c9, hv9, hc9, hob, y0, y1, y2, y3⟩ := NW.way.at hf
      cases hv9
      have FR := NW.fl f (List.mem_of_getElem? hf)
      obtain ⟨A1, c1, hv1, _⟩ := FR.s.reads
      obtain ⟨A2, c2, hv2, _, hC2⟩ := FR.n.reads
      rw [hv1] at y2
      rw [hv2] at y3
      have hps : ps.length = j := by
        have h1 := congrArg List.length HM.out
        rw [List.length_map, List.length_map, List.length_take] at h1
        omega
      have HPS := Lib.hid (show (ps.length + 1) * 40 ≤ 140737488355328 by have := HFL.out; omega)
      have HF := Lib.hid hf
      have HLB := Lib.hid (And.intro FR.lb FR.rn)
      have HW3 := Lib.hid (show wrap64 ((j : Int) + 1) = ((j + 1 : Nat) : Int) by have := HFL.out; unfold wrap64; omega)
      have ba := below_alloc (Below.refl wr.heap.size wr) (.cells #[.int .i64 f.src, .int .i64 f.dst, .slice A1 f.sb.length c1, .slice A2 f.nb.length c2] tFl)
      have P2 := Lib.hid (blk_new wr (.cells #[.int .i64 f.src, .int .i64 f.dst, .slice A1 f.sb.length c1, .slice A2 f.nb.length c2] tFl))
      have HA2 := Lib.hid (HA.out.below ba)
      have B2 := Lib.hid (below_then HB.out (show b ≤ wr.heap.size by have := HB.out.size; rw [HBW.out] at this; exact this) ba)
      have C2 := Lib.hid (Kd.C_below hC2 ba)
      have p0 := eq_true (show 0 ≤ (j : Int) by omega)
      have p1 := eq_true hj
      obtain ⟨As, cs, rfl⟩ := own_slice HA.out.row
      clear NW hf hc9 hob FR hv1 hv2 hC2 ba hj HA HB hps
      go_upto_region 6 with (fail)
      clear y0 y1 y2 y3 p0 p1
      generalize (World.alloc wr _) = W2 at *
      generalize wr.heap.size = q at *
      have PD := Lib.hid (blk_drew P2.out)
      have AD := Lib.hid (HA2.out.below (w1 := W2.drew) (Below.refl W2.heap.size W2).drew)
      have CD := Lib.hid (show kB.C W2.drew A2 f.nb.length f.nb from C2.out)
      have BD := Lib.hid B2.out.drew
      refine start_ (n := 6) (S := fun w' => w'.cell? ⟨b, 0, none⟩ = some (.slice As ps.length cs) ∧ (∀ o, w'.cell? ⟨q, o, none⟩ = #[Value.int .i64 f.src, .int .i64 f.dst, .slice A1 f.sb.length c1, .slice A2 f.nb.length c2][o]?)) (ds := [4, 5]) #[false, false, false, false, false, false] (by kernel_rfl) rfl rfl ⟨(blk1 AD.out.box), (blkc PD.out)⟩ (fun hHeld => ?_)
      refine take_ (i := 0) (N := some 17) (v := ?_) (a' := ?_) #[true, false, false, false, false, false] rfl rfl (by kernel_rfl) (fun _ _ _ h => h) (Or.inl ⟨by rfl, ?_⟩) hHeld ?_ ?_
      rotate_left
      · rintro w' ⟨s0, s1⟩
        go_simp
        with_reducible rfl
      rotate_left
      · simp only [Act.put, List.setIfInBounds_toArray, List.set_cons_zero, List.set_cons_succ, i64_w, i32_w]
        rfl
      refine take_ (i := 1) (N := some 18) (v := ?_) (a' := ?_) #[true, true, false, false, false, false] rfl rfl (by kernel_rfl) (fun _ _ _ h => h) (Or.inl ⟨by rfl, ?_⟩) hHeld ?_ ?_
      rotate_left
      · rintro w' ⟨s0, s1⟩
        go_simp
        with_reducible rfl
      rotate_left
      · simp only [Act.put, List.setIfInBounds_toArray, List.set_cons_zero, List.set_cons_succ, i64_w, i32_w]
        rfl
      refine one_ (i := 2) (N := some 19) #[true, true, true, false, false, false] rfl rfl (by kernel_rfl) (by decide) (fun K hK => ?_)
      refine goes_ Try.func36 (by kernel_rfl) rfl #[.agg #[.int .i64 f.src, .int .i64 f.dst, .slice A1 f.sb.length c1, .slice A2 f.nb.length c2]] (by rfl) rfl rfl (by simp only [List.map_toArray, List.map_cons, List.map_nil]; rfl) ?_
      with_reducible refine ((packet_any f.src f.dst (.slice A1 f.sb.length c1) CD.out (by have := HLB.out.1; omega))).mono ?_
      rintro e w3 ⟨v3, rfl, ho3, hb3⟩
      refine ⟨_, rfl, ?_⟩
      obtain ⟨A3, c3, rfl⟩ := own_slice ho3
      have A3D := Lib.hid (AD.out.below hb3)
      have P3 := Lib.hid (blk_below PD.out hb3)
      have B3 := Lib.hid (below_then BD.out (show b ≤ W2.drew.heap.size by have := BD.out.size; rw [HBW.out] at this; exact this) hb3)
      have O3 := Lib.hid ho3
      have BX := Lib.hid (below_alloc (Below.refl w3.heap.size w3) (.cells #[.int .i64 f.src, .int .i64 f.dst, .slice A3 f.nb.length c3] tPk))
      clear ho3 hb3
      refine hK.out _ _ ⟨(blk1 A3D.out.box), (blkc P3.out)⟩ (fun hHeld => ?_)
      clear hK K
      refine norm_ (a' := ?_) ?_ ?_
      rotate_left
      · show Act.put _ (some 19) _ = _
        simp only [Act.put, List.setIfInBounds_toArray, List.set_cons_zero, List.set_cons_succ, i64_w, i32_w]
        rfl
      refine one_ (i := 3) (N := some 20) #[true, true, true, true, false, false] rfl rfl (by kernel_rfl) (by decide) (fun K hK => ?_)
      refine value_ (w1 := ?_) (v := ?_) (by rfl) rfl ?_ ?_
      rotate_left 2
      · go_simp
        constructor
        · rfl
        · rfl
      refine hK.out _ _ ⟨(blk1 (blk_below A3D.out.box BX.out)), (blkc (blk_below P3.out BX.out))⟩ (fun hHeld => ?_)
      clear hK K
      refine norm_ (a' := ?_) ?_ ?_
      rotate_left
      · show Act.put _ (some 20) _ = _
        simp only [Act.put, List.setIfInBounds_toArray, List.set_cons_zero, List.set_cons_succ, i64_w, i32_w]
        rfl
      refine last_ (i := 4) (N := some 21) #[true, true, true, true, true, false] rfl rfl (by kernel_rfl) (by decide) (fun K hK => ?_)
      refine step_append_cells (w0 := w) b (by rfl) (.tmp 17) (.tmp 20) tPks tPk zp 3 40 rfl Try.underlying33 infoPk rfl (by decide) (by decide) (.slice As ps.length cs) ps.length (pcells ps) [.int .i64 f.src, .int .i64 f.dst, .slice A3 f.nb.length c3] rfl rfl rfl (by intro u hu; simp only [List.mem_cons, List.not_mem_nil, or_false] at hu; rcases hu with rfl | rfl | rfl <;> rfl) A3D.out.row B3.out (by have := B3.out.size; rw [HBW.out] at this; exact this) HPS.out ?_
      intro v5 w5 ho5 hb5 hg5 hat5
      obtain ⟨A5, c5, rfl⟩ := own_slice ho5
      have HO5 := Lib.hid ho5
      have HG5 := Lib.hid hg5
      have B5 := Lib.hid hb5
      have hnb : (Value.slice As ps.length cs).ownBlock ≠ some b := fun e => by obtain ⟨cells, hc⟩ := own_typed A3D.out.row b e; rw [A3D.out.box] at hc; injection hc with hc; injection hc with _ hc _; exact absurd hc (by decide)
      have X5 := Lib.hid ((hg5.block b (blk_lt A3D.out.box) (fun e => hnb e.symm)).trans A3D.out.box)
      clear ho5 hb5 hg5 hat5
      refine hK.out _ _ ?_
      clear hK K
      refine norm_ (a' := ?_) ?_ ?_
      rotate_left
      · show Act.put _ (some 21) _ = _
        simp only [Act.put, List.setIfInBounds_toArray, List.set_cons_zero, List.set_cons_succ, i64_w, i32_w]
        rfl
      refine last_ (i := 5) (N := none) #[true, true, true, true, true, true] rfl rfl (by kernel_rfl) (by decide) (fun K hK => ?_)
      have zx := blkz X5.out
      have cx5 := blk1 X5.out
      refine skip_ (w1 := ?_) (by rfl) rfl ?_ ?_
      rotate_left
      · go_simp
        rfl
      refine hK.out _ _ ?_
      clear hK K
      refine done_ (by kernel_rfl) ?_
      have AF := Lib.hid (A3D.out.step (p := ⟨f.src, f.dst, .slice A3 f.nb.length c3, f.nb⟩) ⟨O3.out.lower (show b ≤ W2.drew.heap.size by have := BD.out.size; rw [HBW.out] at this; exact this), HLB.out.1, HLB.out.2⟩ HO5.out HG5.out)
      have BF := Lib.hid (below_set (w := w) (g := b) (j := 0) (v := .slice A5 (ps.length + 1) c5) (by rw [HBW.out]; exact B5.out) (by rw [HBW.out]; exact Nat.le_refl _))
      have MF := Lib.hid (show (ps ++ [(⟨f.src, f.dst, .slice A3 f.nb.length c3, f.nb⟩ : Pv)]).map Pv.plain = (fls.take (j + 1)).map Fl.pk by rw [List.map_append, HM.out, List.take_add_one, HF.out, List.map_append]; rfl)
      go_wp2_with fail
      go_roundg k1
      case measure => exact Nat.lt_succ_self _
      case rel => exact ⟨j + 1, by first | rfl | rw [HW3.out] | exact congrArg (Value.int .i64) HW3.out, Lib.hid (by have := HI.out; omega), _, _, AF, MF, by have := BF.out; rw [HBW.out] at this; exact Lib.hid this⟩
end
end Go.Proofs.Ytpjbgcpieijeaaa.Net
