/- A filled net through any step: each packet under way was sent; among. -/
import Derived.Test.YtpjbgcpieijeaaaNetCut
set_option linter.unusedVariables false
set_option linter.unusedSimpArgs false
namespace Go.Proofs.Ytpjbgcpieijeaaa.Net
open Go.RowKit Go.Proofs.Ytpjbgcpieijeaaa.Mem Go.Proofs.YtpjbgcpieijeaaaW.PrintWords Go.Proofs.YtpjbgcpieijeaaaW.PrintLast Go.Proofs.Ytpjbgcpieijeaaa.Byt Go.Proofs.Ytpjbgcpieijeaaa.Opn Go.Deep Go.ChangeMaps
/-- Each was sent so. -/
def GenI (qs : List PkT) (fls : List Fl) : Prop := ∀ f ∈ fls, (f.src, f.dst, f.sb) ∈ qs
/-- A net and a row of packets, at most so many under way, each sent. -/
def GenP (w0 : World) (g m : Nat) (sv : Value) (ps : List Pv) (sent : List LtT) (qs : List PkT) (n : Nat) (w : World) : Prop :=
  ∃ O v fls, HoldR w w0.heap.size O g m v fls sv ps sent ∧ GenI qs fls ∧ fls.length ≤ n ∧ Below w0.heap.size w0 w
theorem bitB_some {n : Nat} {k : Int} (h : bitB n k = true) : 0 ≤ k ∧ k.toNat / 8 < n := by
  simp [bitB] at h
  refine ⟨h.1, ?_⟩
  obtain ⟨j, rfl⟩ := Int.eq_ofNat_of_zero_le h.1
  have h2 := h.2
  rw [Int.toNat_natCast]
  have h3 : Int.tdiv (j : Int) 8 = ((j / 8 : Nat) : Int) := rfl
  omega
section
variable {w0 w : World} {g m n : Nat} {sv : Value} {ps : List Pv} {sent : List LtT} {qs : List PkT}
theorem GenP.below {w1 : World} (h : GenP w0 g m sv ps sent qs n w) (hb : Below w.heap.size w w1) : GenP w0 g m sv ps sent qs n w1 := by
  obtain ⟨O, v, fls, h1, h2, h3, h4⟩ := h
  exact ⟨O, v, fls, h1.below hb, h2, h3, below_then h4 h4.size hb⟩
theorem GenP.mono {n' : Nat} (h : GenP w0 g m sv ps sent qs n w) (hn : n ≤ n') : GenP w0 g m sv ps sent qs n' w := by
  obtain ⟨O, v, fls, h1, h2, h3, h4⟩ := h
  exact ⟨O, v, fls, h1, h2, Nat.le_trans h3 hn, h4⟩
theorem GenP.after {w1 : World} {O O' : Nat → Prop} {v v' : Value} {fls fls' : List Fl} {n' : Nat} (h1 : HoldR w w0.heap.size O g m v fls sv ps sent) (hN : NetR w1 w0.heap.size O' g m 4 4 v' fls' sent) (hO : ∀ k, O' k → O k ∨ w.heap.size ≤ k) (hk : Kept w w1 O) (hG : GenI qs fls') (hl : fls'.length ≤ n') (hb : Below w0.heap.size w0 w1) : GenP w0 g m sv ps sent qs n' w1 :=
  ⟨_, v', fls', h1.next hN hO hk, hG, hl, hb⟩
theorem atB_some {fls : List Fl} {i : Int} (h : atB fls.length i = true) : ∃ (k : Nat) (f : Fl), i = (k : Int) ∧ fls[k]? = some f := by
  simp [atB] at h
  exact ⟨i.toNat, _, by omega, List.getElem?_eq_getElem (by omega : i.toNat < fls.length)⟩
/-- What a step of the script does: it answers some number, and each packet that is left was sent. -/
def Does (f : FuncId) (args : Array Value) (w0 : World) (g m : Nat) (sv : Value) (ps : List Pv) (sent : List LtT) (qs : List PkT) (n : Nat) (w : World) : Prop :=
  Calls Try.prog f args w fun e w' => (∃ r : Int, e = .returned (.int .i64 r)) ∧ GenP w0 g m sv ps sent qs n w'
theorem copy_gen (h : GenP w0 g m sv ps sent qs n w) (hn : n ≤ 4194304) (i : Int) : Does 15 #[.pointer (some ⟨g, 0, none⟩), .int .i64 i] w0 g m sv ps sent qs (n + 1) w := by
  unfold Does
  obtain ⟨O, v, fls, h1, h2, h3, h4⟩ := h
  cases hi : atB fls.length i with
  | false =>
    refine (copy_not h1.net hi).mono ?_
    rintro e w1 ⟨rfl, hb⟩
    exact ⟨⟨_, rfl⟩, (GenP.below ⟨O, v, fls, h1, h2, h3, h4⟩ hb).mono (by omega)⟩
  | true =>
    obtain ⟨k, f, rfl, hf⟩ := atB_some hi
    refine (copy_net h1.net hf (by omega) h4 rfl).mono ?_
    rintro e w1 ⟨rfl, ⟨v', nv, hN⟩, hk, hb⟩
    refine ⟨⟨_, rfl⟩, GenP.after h1 hN (fun k hk => hk) hk (fun f' hf' => ?_) (by rw [List.length_append, List.length_singleton]; omega) hb⟩
    rcases List.mem_append.1 hf' with hf' | hf'
    · exact h2 f' hf'
    · rw [List.mem_singleton.1 hf']
      exact h2 f (List.mem_of_getElem? hf)
theorem swap_gen (h : GenP w0 g m sv ps sent qs n w) (i k : Int) : Does 28 #[.pointer (some ⟨g, 0, none⟩), .int .i64 i, .int .i64 k] w0 g m sv ps sent qs n w := by
  unfold Does
  obtain ⟨O, v, fls, h1, h2, h3, h4⟩ := h
  cases hik : (atB fls.length i && atB fls.length k) with
  | false =>
    refine (swap_not h1.net hik).mono ?_
    rintro e w1 ⟨rfl, hb⟩
    exact ⟨⟨_, rfl⟩, GenP.below ⟨O, v, fls, h1, h2, h3, h4⟩ hb⟩
  | true =>
    obtain ⟨hi, hk⟩ : atB fls.length i = true ∧ atB fls.length k = true := by simpa using hik
    obtain ⟨a, fa, rfl, ha⟩ := atB_some hi
    obtain ⟨b, fb, rfl, hb⟩ := atB_some hk
    refine (swap_net h1.net ha hb h4 rfl).mono ?_
    rintro e w1 ⟨rfl, hN, hk, hb4⟩
    refine ⟨⟨_, rfl⟩, GenP.after h1 hN (fun k hk => .inl hk) hk (fun f' hf' => ?_) (by simpa using h3) hb4⟩
    rcases List.mem_or_eq_of_mem_set hf' with hf' | rfl
    · rcases List.mem_or_eq_of_mem_set hf' with hf' | rfl
      · exact h2 f' hf'
      · exact h2 _ (List.mem_of_getElem? hb)
    · exact h2 _ (List.mem_of_getElem? ha)
theorem flip_gen (h : GenP w0 g m sv ps sent qs n w) (i k : Int) (hk : k ≤ 9223372036854775807) : Does 14 #[.pointer (some ⟨g, 0, none⟩), .int .i64 i, .int .i64 k] w0 g m sv ps sent qs n w := by
  unfold Does
  obtain ⟨O, v, fls, h1, h2, h3, h4⟩ := h
  cases hi : atB fls.length i with
  | false =>
    refine (flip_not h1.net hi k).mono ?_
    rintro e w1 ⟨rfl, hb⟩
    exact ⟨⟨_, rfl⟩, GenP.below ⟨O, v, fls, h1, h2, h3, h4⟩ hb⟩
  | true =>
    obtain ⟨a, f, rfl, hf⟩ := atB_some hi
    cases hb : bitB f.nb.length k with
    | false =>
      refine (flip_bit h1.net hf hb hk).mono ?_
      rintro e w1 ⟨rfl, hb⟩
      exact ⟨⟨_, rfl⟩, GenP.below ⟨O, v, fls, h1, h2, h3, h4⟩ hb⟩
    | true =>
      have hb2 : 0 ≤ k ∧ k.toNat / 8 < f.nb.length := bitB_some hb
      refine (flip_net h1.net hf hb2.1 hk (List.getElem?_eq_getElem hb2.2) h4 rfl).mono ?_
      rintro e w1 ⟨rfl, hN, hk, hb4⟩
      refine ⟨⟨_, rfl⟩, GenP.after h1 hN (fun k hk => .inl hk) hk (fun f' hf' => ?_) (by simpa using h3) hb4⟩
      rcases List.mem_or_eq_of_mem_set hf' with hf' | rfl
      · exact h2 f' hf'
      · exact h2 f (List.mem_of_getElem? hf)
theorem drop_gen (h : GenP w0 g m sv ps sent qs n w) (hn : n ≤ 4194304) (i : Int) : Does 27 #[.pointer (some ⟨g, 0, none⟩), .int .i64 i] w0 g m sv ps sent qs n w := by
  unfold Does
  obtain ⟨O, v, fls, h1, h2, h3, h4⟩ := h
  cases hi : atB fls.length i with
  | false =>
    refine (drop_not h1.net hi).mono ?_
    rintro e w1 ⟨rfl, hb⟩
    exact ⟨⟨_, rfl⟩, GenP.below ⟨O, v, fls, h1, h2, h3, h4⟩ hb⟩
  | true =>
    obtain ⟨k, f, rfl, hf⟩ := atB_some hi
    refine (drop_net h1.net hf (by omega) h4 rfl).mono ?_
    rintro e w1 ⟨rfl, ⟨v', hN⟩, hk, hb⟩
    exact ⟨⟨_, rfl⟩, GenP.after h1 hN (fun k hk => hk) hk (fun f' hf' => h2 f' (List.mem_of_mem_eraseIdx hf')) (Nat.le_trans (List.length_eraseIdx_le _ _) h3) hb⟩
theorem cut_gen (h : GenP w0 g m sv ps sent qs n w) (hn : n ≤ 4194304) (x : Int) : Does 29 #[.pointer (some ⟨g, 0, none⟩), .int .i64 x] w0 g m sv ps sent qs n w := by
  unfold Does
  obtain ⟨O, v, fls, h1, h2, h3, h4⟩ := h
  refine (cut_net h1.net x (by omega) h4 rfl).mono ?_
  rintro e w1 ⟨rfl, ⟨v', hN⟩, hk, hb⟩
  exact ⟨⟨_, rfl⟩, GenP.after h1 hN (fun k hk => hk) hk (fun f' hf' => h2 f' (List.mem_filter.1 hf').1) (Nat.le_trans (List.length_filter_le _ _) h3) hb⟩
end
/-! among -/
theorem mem_take_succ {ps : List Pv} {j : Nat} {p : Pv} (h : ps[j]? = some p) (q : PkT) : q ∈ (ps.take (j + 1)).map Pv.plain ↔ q ∈ (ps.take j).map Pv.plain ∨ q = p.plain := by
  rw [List.take_add_one, h, List.map_append, List.mem_append]
  simp
set_option maxHeartbeats 6400000 in
set_option maxRecDepth 100000 in
theorem among_any {w : World} {base : Nat} {O : Nat → Prop} {sv : Value} {ps : List Pv} (hS : SomeR w base sv ps) (hP : ∀ p ∈ ps, PvR w O p) (hl : ps.length ≤ 4194304) {x y : Int} {A : Option Addr} {c : Nat} {bs : List Int} (hC : kB.C w A bs.length bs) (hr : ∀ z ∈ bs, 0 ≤ z ∧ z < 256) :
    Calls Try.prog 30 #[sv, .agg #[.int .i64 x, .int .i64 y, .slice A bs.length c]] w fun e w' => e = .returned (.bool (decide ((x, y, bs) ∈ ps.map Pv.plain))) ∧ Below w.heap.size w w' := by
  obtain ⟨As, cs, rfl⟩ := own_slice hS
  have BS := Lib.hid (below_alloc (Below.refl w.heap.size w) (.cells #[.int .i64 x, .int .i64 y, .slice A bs.length c] tPk))
  have PB := Lib.hid (blk_new w (.cells #[.int .i64 x, .int .i64 y, .slice A bs.length c] tPk))
  have HS := Lib.hid (show SomeR _ base _ ps from own_move hS (fun k hk => BS.out.block k (own_lt hS k hk)))
  have HP := Lib.hid (show ∀ p ∈ ps, ∃ A' c', p.sv = .slice A' p.bs.length c' ∧ kB.C _ A' p.bs.length p.bs ∧ ∀ z ∈ p.bs, 0 ≤ z ∧ z < 256 from fun p hp => by
    obtain ⟨A', c', h1, _, h3, _⟩ := (hP p hp).rd
    exact ⟨A', c', h1, Kd.C_below h3 BS.out, (hP p hp).rng⟩)
  have HC := Lib.hid (Kd.C_below hC BS.out)
  have HR := Lib.hid hr
  have HL := Lib.hid hl
  clear hS hP hC hr hl
  go_enter Try.func30, Try.ntmps30
  go_wp2_with fail
  generalize (World.alloc w _) = W at *
  have HBQ := Lib.hid BS.out.size
  generalize hb : w.heap.size = b at *
  have HBW := Lib.hid hb
  clear hb
  have B0 : Hid (Below W.heap.size W W) := Lib.hid (Below.refl _ _)
  go_loopg [5] ps.length (fun kq v5 w' => ∃ (j : Nat), v5 = .int .i64 (j : Int) ∧ Hid (j + kq = ps.length) ∧ Hid ((x, y, bs) ∉ (ps.take j).map Pv.plain) ∧ Hid (Below W.heap.size W w'))
  case atStart => exact ⟨0, rfl, (show _ + _ = _ by omega), (show (x, y, bs) ∉ (ps.take 0).map Pv.plain by simp), B0.out⟩
  case round =>
    obtain ⟨j, rfl, HI, HN, HB⟩ := hrel
    have BF := Lib.hid (below_then BS.out HBQ.out HB.out)
    cases gk with
    | zero =>
      have hj : j = ps.length := HI.out
      have d1 : decide (j < ps.length) = false := decide_eq_false (by omega)
      have HN2 := Lib.hid (show false = decide ((x, y, bs) ∈ ps.map Pv.plain) by have h1 := HN.out; rw [hj, List.take_length] at h1; simp [h1])
      clear hj HI
      go_wp2_with fail
      go_ret
      exact ⟨ret_bool HN2.out, by rw [HBW.out]; exact BF.out⟩
    | succ k1 =>
      have hj : j < ps.length := by have := HI.out; omega
      have d1 : decide (j < ps.length) = true := decide_eq_true hj
      obtain ⟨p, hp⟩ : ∃ p, ps[j]? = some p := ⟨_, List.getElem?_eq_getElem hj⟩
      have SD := own_move HS.out (w1 := wr.drew) (fun k hk => HB.out.block k (own_lt HS.out k hk))
      obtain ⟨ad, c9, hsv, _, y0, y1, y2⟩ := SomeR.at SD hp
      cases hsv
      obtain ⟨A', c', hpv, hC', hr'⟩ := HP.out p (List.mem_of_getElem? hp)
      rw [hpv] at y2
      have CP := Lib.hid (show kB.C wr.drew A' p.bs.length p.bs from Kd.C_below hC' (below_then (Below.refl _ _) (Nat.le_refl _) HB.out).drew)
      have CX := Lib.hid (show kB.C wr.drew A bs.length bs from Kd.C_below HC.out HB.out.drew)
      have PD := Lib.hid (blk_drew (blk_below PB.out HB.out))
      have HRP := Lib.hid hr'
      have HP2 := Lib.hid hp
      have HW3 := Lib.hid (show wrap64 ((j : Int) + 1) = ((j + 1 : Nat) : Int) by have := HL.out; unfold wrap64; omega)
      have p0 := eq_true (show 0 ≤ (j : Int) by omega)
      have p1 := eq_true hj
      clear SD hpv hC' hr' hp
      go_upto_region 4 with (fail)
      refine start_ (n := 6) (S := fun w' => (∀ o, w'.cell? ⟨b, o, none⟩ = #[Value.int .i64 x, .int .i64 y, .slice A bs.length c][o]?) ∧ w'.cell? (ad.add (j * 3)) = some (.int .i64 p.src) ∧ w'.cell? ⟨(ad.add (j * 3)).block, (ad.add (j * 3)).off + 1, none⟩ = some (.int .i64 p.dst) ∧ w'.cell? ⟨(ad.add (j * 3)).block, (ad.add (j * 3)).off + 2, none⟩ = some (.slice A' p.bs.length c')) (ds := []) #[false, false, false, false, false, false] (by kernel_rfl) rfl rfl ⟨(blkc PD.out), y0, y1, y2⟩ (fun hHeld => ?_)
      refine pure_ (i := 0) (N := some 12) (v := ?_) (a' := ?_) #[true, false, false, false, false, false] rfl rfl (by kernel_rfl) (fun _ _ _ h => h) (Or.inl ⟨by rfl, ?_⟩) ?_ ?_
      rotate_left
      · intro w'
        go_simp
        with_reducible rfl
      rotate_left
      · simp only [Act.put, List.setIfInBounds_toArray, List.set_cons_zero, List.set_cons_succ, i64_w, i32_w]
        rfl
      refine pure_ (i := 1) (N := some 13) (v := ?_) (a' := ?_) #[true, true, false, false, false, false] rfl rfl (by kernel_rfl) (fun _ _ _ h => h) (Or.inl ⟨by rfl, ?_⟩) ?_ ?_
      rotate_left
      · intro w'
        go_simp
        with_reducible rfl
      rotate_left
      · simp only [Act.put, List.setIfInBounds_toArray, List.set_cons_zero, List.set_cons_succ, i64_w, i32_w]
        rfl
      refine pure_ (i := 2) (N := some 14) (v := ?_) (a' := ?_) #[true, true, true, false, false, false] rfl rfl (by kernel_rfl) (fun _ _ _ h => h) (Or.inl ⟨by rfl, ?_⟩) ?_ ?_
      rotate_left
      · intro w'
        go_simp
        with_reducible rfl
      rotate_left
      · simp only [Act.put, List.setIfInBounds_toArray, List.set_cons_zero, List.set_cons_succ, i64_w, i32_w]
        rfl
      refine take_ (i := 3) (N := some 15) (v := ?_) (a' := ?_) #[true, true, true, true, false, false] rfl rfl (by kernel_rfl) (fun _ _ _ h => h) (Or.inl ⟨by rfl, ?_⟩) hHeld ?_ ?_
      rotate_left
      · rintro w' ⟨s0, s1, s2, s3⟩
        go_simp
        with_reducible rfl
      rotate_left
      · simp only [Act.put, List.setIfInBounds_toArray, List.set_cons_zero, List.set_cons_succ, i64_w, i32_w]
        rfl
      refine take_ (i := 4) (N := some 16) (v := ?_) (a' := ?_) #[true, true, true, true, true, false] rfl rfl (by kernel_rfl) (fun _ _ _ h => h) (Or.inl ⟨by rfl, ?_⟩) hHeld ?_ ?_
      rotate_left
      · rintro w' ⟨s0, s1, s2, s3⟩
        go_simp
        with_reducible rfl
      rotate_left
      · simp only [Act.put, List.setIfInBounds_toArray, List.set_cons_zero, List.set_cons_succ, i64_w, i32_w]
        rfl
      refine one_ (i := 5) (N := some 17) #[true, true, true, true, true, true] rfl rfl (by kernel_rfl) (by decide) (fun K hK => ?_)
      refine goes_ Try.func18 (by kernel_rfl) rfl #[.agg #[.int .i64 p.src, .int .i64 p.dst, .slice A' p.bs.length c'], .agg #[.int .i64 x, .int .i64 y, .slice A bs.length c]] (by rfl) rfl rfl (by simp only [List.map_toArray, List.map_cons, List.map_nil]; rfl) ?_
      with_reducible refine ((equal_any CP.out CX.out HRP.out HR.out)).mono ?_
      rintro e w9 ⟨rfl, hb9⟩
      refine ⟨_, rfl, ?_⟩
      have B9 := Lib.hid hb9
      refine hK.out _ _ ⟨(blkc (blk_below PD.out hb9)), (cell_below y0 hb9), (cell_below y1 hb9), (cell_below y2 hb9)⟩ (fun hHeld => ?_)
      clear hK K
      refine norm_ (a' := ?_) ?_ ?_
      rotate_left
      · show Act.put _ (some 17) _ = _
        simp only [Act.put, List.setIfInBounds_toArray, List.set_cons_zero, List.set_cons_succ, i64_w, i32_w]
        rfl
      refine done_ (by kernel_rfl) ?_
      clear y0 y1 y2
      have BG := Lib.hid (below_then HB.out.drew HB.out.size B9.out)
      by_cases he : (p.src, p.dst, p.bs) = (x, y, bs)
      · have d2 : decide ((p.src, p.dst, p.bs) = (x, y, bs)) = true := decide_eq_true he
        have HN3 := Lib.hid (show true = decide ((x, y, bs) ∈ ps.map Pv.plain) by symm; rw [decide_eq_true_eq, ← he]; exact List.mem_map.2 ⟨p, List.mem_of_getElem? HP2.out, rfl⟩)
        have BG2 := Lib.hid (below_then BS.out HBQ.out BG.out)
        clear he
        rw [d2]
        go_wp2_with fail
        go_ret
        exact ⟨ret_bool HN3.out, by rw [HBW.out]; exact BG2.out⟩
      · have d2 : decide ((p.src, p.dst, p.bs) = (x, y, bs)) = false := decide_eq_false he
        have HN3 := Lib.hid (show (x, y, bs) ∉ (ps.take (j + 1)).map Pv.plain by rw [mem_take_succ HP2.out]; exact fun h => h.elim HN.out (fun h => he h.symm))
        clear he
        rw [d2]
        go_wp2_with fail
        go_roundg k1
        case measure => exact Nat.lt_succ_self _
        case rel => exact ⟨j + 1, by first | rfl | rw [HW3.out] | exact congrArg (Value.int .i64) HW3.out, Lib.hid (by have := HI.out; omega), HN3, BG⟩
end Go.Proofs.Ytpjbgcpieijeaaa.Net
