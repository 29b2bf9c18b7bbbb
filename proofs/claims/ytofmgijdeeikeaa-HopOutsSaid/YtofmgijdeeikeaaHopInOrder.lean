/- HopInOrder, walked. -/
import Derived.Test.YtofmgijdeeikeaaHopOrd
import Derived.Test.YtofmgijdeeikeaaHopNews
set_option linter.unusedVariables false
set_option linter.unusedSimpArgs false
namespace Go.Proofs.Ytofmgijdeeikeaa.Hop
open Go.RowKit Go.Proofs.Ytofmgijdeeikeaa.Mem Go.Proofs.YtofmgijdeeikeaaW.PrintWords Go.Proofs.YtofmgijdeeikeaaW.PrintLast Go.Deep
def U.with (u : U) (n : Int) : U := { u with seq := n }
theorem numbered_any (u : U) (n : Int) (w : World) : Calls Try.prog 13 #[u.val, .int .i64 n] w fun e w' => e = .returned (u.with n).val ∧ Below w.heap.size w w' := by
  go_enter Try.func13, Try.ntmps13
  go_wp2
  exact bodyPost_ret (v := (u.with n).val) (by simp [results, Try.results13, go_sem, Try.underlying37, U.with]) rfl ⟨rfl, ((Below.refl _ _).alloc (Nat.le_refl _) _).alloc (by simp) _⟩
/-- A list of updates that came in, at one place. -/
theorem at_U {w : World} {A : Option Addr} {n : Nat} {xs : List U} (h : kU.C w A n xs) {i : Nat} {u : U} (hi : xs[i]? = some u) : ∃ ad, A = some ad ∧ w.cell? (ad.add (i * 7)) = some (.int .i64 u.seq) ∧ w.cell? ⟨(ad.add (i * 7)).block, (ad.add (i * 7)).off + 1, none⟩ = some (.int .i64 u.client) ∧ w.cell? ⟨(ad.add (i * 7)).block, (ad.add (i * 7)).off + 2, none⟩ = some (.int .i64 u.number) ∧ w.cell? ⟨(ad.add (i * 7)).block, (ad.add (i * 7)).off + 3, none⟩ = some (.int .i64 u.kind) ∧ w.cell? ⟨(ad.add (i * 7)).block, (ad.add (i * 7)).off + 4, none⟩ = some (.string u.key) ∧ w.cell? ⟨(ad.add (i * 7)).block, (ad.add (i * 7)).off + 5, none⟩ = some (.string u.value) ∧ w.cell? ⟨(ad.add (i * 7)).block, (ad.add (i * 7)).off + 6, none⟩ = some (.int .i64 u.version) := by
  have hl := (List.getElem?_eq_some_iff.1 hi).1
  obtain ⟨ad, c, ha, hcl, hK, hcell⟩ := Kd.C_get h u (i : Int) (by omega) (by have := h.1; omega)
  have hK' : c = u.cells := by simpa [kU, List.getD_eq_getElem?_getD, hi] using hK
  subst hK'
  simp only [Int.toNat_natCast] at hcell
  refine ⟨ad, ha, ?_, ?_, ?_, ?_, ?_, ?_, ?_⟩
  · simpa [kU] using hcell 0 _ rfl
  · rw [← add_field ad (i * 7) 1 (by omega)]; exact hcell 1 _ rfl
  · rw [← add_field ad (i * 7) 2 (by omega)]; exact hcell 2 _ rfl
  · rw [← add_field ad (i * 7) 3 (by omega)]; exact hcell 3 _ rfl
  · rw [← add_field ad (i * 7) 4 (by omega)]; exact hcell 4 _ rfl
  · rw [← add_field ad (i * 7) 5 (by omega)]; exact hcell 5 _ rfl
  · rw [← add_field ad (i * 7) 6 (by omega)]; exact hcell 6 _ rfl
theorem InR.lay {w : World} {g gl : Nat} {s : InSt} (h : InR w g s) (hne : g ≠ gl) (vs : List Value) (o : Nat) : InR (w.setCells gl o vs) g s := by
  obtain ⟨cs, G, C⟩ := h
  exact ⟨cs, blk_setCells_far hne vs o G, C⟩
/-- A list of updates in a block of the call's own. -/
def RowAt (w : World) (b : Nat) (A : Option Addr) (ls : List U) : Prop := 0 < ls.length → ∃ gl cs, A = some ⟨gl, 0, none⟩ ∧ b ≤ gl ∧ w.heap[gl]? = some (.cells cs tU (0, 0)) ∧ LR cs ls
theorem RowAt.below {w w1 : World} {b : Nat} {A : Option Addr} {ls : List U} (h : RowAt w b A ls) (hb : Below w.heap.size w w1) : RowAt w1 b A ls := fun hp => by
  obtain ⟨gl, cs, ha, hbg, hg, hl⟩ := h hp
  exact ⟨gl, cs, ha, hbg, blk_below hg hb, hl⟩
theorem RowAt.kept {w w1 : World} {b g : Nat} {A : Option Addr} {ls : List U} {cs' : Array Value} (h : RowAt w b A ls) (hk : Kept w w1 (fun i => i = g)) (hg : w.heap[g]? = some (.cells cs' tIn (0, 0))) : RowAt w1 b A ls := fun hp => by
  obtain ⟨gl, cs, ha, hbg, hgl, hl⟩ := h hp
  exact ⟨gl, cs, ha, hbg, blk_kept hgl hk (blk_ne hgl hg (by decide)), hl⟩
theorem R_LR {w : World} {base : Nat} {ok : Nat → Prop} {v : Value} {xs : List U} (h : kU.R tU w base ok v xs) : ∃ A c, v = .slice A xs.length c ∧ xs.length ≤ c ∧ xs.length ≤ 9223372036854775807 ∧ RowAt w base A xs := by
  obtain ⟨A, c, rfl, hc, hC⟩ := Kd.R_reads h
  refine ⟨A, c, rfl, hc, hC.2.1, fun hp => ?_⟩
  obtain ⟨_, inner, ho, hr⟩ := h
  rcases ho.2 with ⟨_, h0⟩ | ⟨g, cap, cur, he, hb, hh, hnc, hcm, hcs, ht⟩
  · omega
  · cases he
    refine ⟨g, cur, rfl, hb, hh, ?_, ?_⟩
    · rw [hcs]
      exact Nat.mul_le_mul_right _ hnc
    · intro i u hu
      have hl := (List.getElem?_eq_some_iff.1 hu).1
      have h1 : (inner.drop (i * 7)).take 7 = u.cells := hr.2 i u hu
      have h2 : ∀ j v, u.cells[j]? = some v → cur[i * 7 + j]? = some v := by
        intro j v hv
        rw [← h1, List.getElem?_take] at hv
        split at hv
        · rw [List.getElem?_drop, ← ht, List.getElem?_take] at hv
          split at hv
          · simpa using hv
          · cases hv
        · cases hv
      exact ⟨by simpa using h2 0 _ rfl, h2 1 _ rfl, h2 2 _ rfl, h2 3 _ rfl, h2 4 _ rfl, h2 5 _ rfl, h2 6 _ rfl⟩
/-- One of them, read. -/
theorem RowAt.get {w : World} {b : Nat} {A : Option Addr} {ls : List U} (h : RowAt w b A ls) {i : Nat} {u : U} (hi : ls[i]? = some u) : ∃ gl cs, A = some ⟨gl, 0, none⟩ ∧ b ≤ gl ∧ w.heap[gl]? = some (.cells cs tU (0, 0)) ∧ LR cs ls ∧ w.rangeAt gl (i * 7) u.cells := by
  have hl := (List.getElem?_eq_some_iff.1 hi).1
  obtain ⟨gl, cs, ha, hbg, hg, hL⟩ := h (by omega)
  exact ⟨gl, cs, ha, hbg, hg, hL, held_range hg (hL.2 i u hi)⟩
set_option maxHeartbeats 1600000 in
set_option maxRecDepth 100000 in
theorem inOrder_any (bf bw bp : Int) (given : List U) (Ag : Option Addr) (cg : Nat) (w : World) (hcg : given.length ≤ cg) (hlen : given.length * 72 ≤ 140737488351232) (hG : kU.C w Ag given.length given) :
    Calls Try.prog 3 #[.agg #[.int .i64 bf, .int .i64 bw, .int .i64 bp], .slice Ag given.length cg] w fun e w' => e = .returned (.bool true) ∧ Below w.heap.size w w' := by
  have HG := Lib.hid hG
  have h1 := Int.emod_nonneg bf (show (1125899906842624 : Int) ≠ 0 by omega)
  have h2 := Int.emod_lt_of_pos bf (show (0 : Int) < 1125899906842624 by omega)
  have h3 := Int.emod_nonneg bw (show (64 : Int) ≠ 0 by omega)
  have h4 := Int.emod_lt_of_pos bw (show (0 : Int) < 64 by omega)
  have h5 := Int.emod_nonneg bp (show (100 : Int) ≠ 0 by omega)
  have h6 := Int.emod_lt_of_pos bp (show (0 : Int) < 100 by omega)
  have hus := Try.underlying26
  clear hG
  go_enter Try.func3, Try.ntmps3
  have B0 := Lib.hid (below_alloc (Below.refl w.heap.size w) (.cells #[.int .i64 bf, .int .i64 bw, .int .i64 bp] 23))
  have P0 := Lib.hid (blk_new w (.cells #[.int .i64 bf, .int .i64 bw, .int .i64 bp] 23))
  go_wp2_with fail
  refine (set_any bw bp _).mono ?_
  rintro e w1 ⟨rfl, hb1⟩
  have B1 := Lib.hid (below_then B0.out B0.out.size hb1)
  have P1 := Lib.hid (blk_below P0.out hb1)
  have c1 := blkc P1.out
  clear hb1 B0 P0
  generalize hf : bf % 1125899906842624 = f at *
  generalize hwi : bw % 64 + 1 = wi at *
  generalize hpa : bp % 100 + 1 = pa at *
  have SE := Lib.hid (show setE 1 wi pa 64 1 = 0 by refine setE_0 ?_; simp [setB, inB]; omega)
  have hw1 : 1 ≤ wi := by omega
  have hw2 : wi ≤ 64 := by omega
  have HF := Lib.hid hf
  clear hf hwi hpa h3 h4 h5 h6
  have P2 := Lib.hid (blk_below P1.out (below_alloc (Below.refl _ _) (.cells #[.int .i64 1, .int .i64 wi, .int .i64 pa, .int .i64 64, .int .i64 1] 26)))
  have c2 := blkc P2.out
  go_wp2_with fail
  refine (place_any _ 1125899906842624 _ (by omega) (by omega)).mono ?_
  rintro e w' ⟨rfl, rfl⟩
  rw [HF.out]
  go_wp2_with fail
  refine (newIn_ok f 1 wi pa 64 1 _ ⟨h1, by omega⟩ SE.out).mono ?_
  rintro e w2 ⟨g, rfl, hg, hI, hb2⟩
  have B2 := Lib.hid (below_then (below_alloc B1.out _) (by simp; have := B1.out.size; omega) hb2)
  have I2 := Lib.hid (show InR w2 g ⟨lineNew f wi, 0⟩ from ⟨_, hI, InC.new f wi⟩)
  have OK2 := Lib.hid (InSt.Ok.new (n := f) (wi := wi) h1 (by omega) hw1 hw2)
  have hgw : w.heap.size ≤ g := by have := B1.out.size; simp at hg; omega
  clear hb2 hI P1 c1 P2 c2 B1 hg
  go_wp2_with ((refine Kd.R_make kU (w0 := w) w.heap.size tU rfl (N := 45) rfl 24 (.tmp 44) (.tmp 44) rfl (given.length : Int) rfl rfl Try.underlying24 (.agg #[.int .i64 0, .int .i64 0, .int .i64 0, .int .i64 0, .string ⟨#[]⟩, .string ⟨#[]⟩, .int .i64 0]) 72 info_U rfl (by decide) (by decide) U.zero (ok := fun _ => True) (okp := fun _ => True) rfl (fun _ _ => trivial) trivial (by omega) (by simp; omega) B2.out B2.out.size ?_); intro v3 w3 hr3 hb3 hg3 hat3)
  have hr3' : kU.R tU w3 w.heap.size (fun _ => True) v3 (List.replicate given.length U.zero) := by simpa using hr3
  obtain ⟨A3, c3, hv3, hc3, _, hra⟩ := R_LR hr3'
  rw [List.length_replicate] at hv3 hc3
  subst hv3
  have RA := Lib.hid hra
  have B3 := Lib.hid hb3
  have I3 : Hid (InR w3 g ⟨lineNew f wi, 0⟩) := by
    obtain ⟨cs, G, C⟩ := I2.out
    exact ⟨cs, blk_grown G hg3 (by simp), C⟩
  clear hr3 hr3' hra hb3 hg3 hat3 I2 B2
  go_wp2_with fail
  generalize hgm : given.map (fun u => u.with (f + u.seq % 40)) = gm at *
  have HGM := Lib.hid hgm
  have hgl : gm.length = given.length := by rw [← hgm]; simp
  have hgq : ∀ (i : Nat) (u : U), given[i]? = some u → gm[i]? = some (u.with (f + u.seq % 40)) := by
    intro i u hu
    rw [← hgm, List.getElem?_map, hu]
    rfl
  have HGQ := Lib.hid hgq
  have HGL := Lib.hid hgl
  clear hgm hgq hgl
  go_loopg [48] given.length (fun kq v48 w' => ∃ (k : Nat) (ls : List U), v48 = .int .i64 (k : Int) ∧ Hid (k + kq = given.length) ∧ Hid (ls.length = given.length) ∧ Hid (∀ i, i < k → ls[i]? = gm[i]?) ∧ Hid (RowAt w' w.heap.size A3 ls) ∧ Hid (InR w' g ⟨lineNew f wi, 0⟩) ∧ Hid (Below w.heap.size w w'))
  case atStart => exact ⟨0, _, rfl, (show _ + _ = _ by omega), Lib.hid (by simp), Lib.hid (fun i hi => by omega), RA.out, I3.out, B3.out⟩
  case round =>
    clear RA I3 B3
    obtain ⟨k, ls, rfl, HK, HLL, HLQ, RA, I3, B3⟩ := hrel
    cases gk with
    | succ k1 =>
      have hk : k < given.length := by have := HK.out; omega
      have hu := List.getElem?_eq_getElem hk
      generalize given[k] = u at *
      obtain ⟨ad, hA, hx0, hx1, hx2, hx3, hx4, hx5, hx6⟩ := at_U HG.out hu
      cases hA
      have hx0 := pw_cell_below (w1 := wr) B3.out hx0
      have hx1 := pw_cell_below (w1 := wr) B3.out hx1
      have hx2 := pw_cell_below (w1 := wr) B3.out hx2
      have hx3 := pw_cell_below (w1 := wr) B3.out hx3
      have hx4 := pw_cell_below (w1 := wr) B3.out hx4
      have hx5 := pw_cell_below (w1 := wr) B3.out hx5
      have hx6 := pw_cell_below (w1 := wr) B3.out hx6
      have HU := Lib.hid hu
      have c2 : decide (k < given.length) = true := by simpa using hk
      have p1 := eq_true (show 0 ≤ (k : Int) by omega)
      have p2 := eq_true (show k < given.length by omega)
      have hm1 := Int.emod_nonneg u.seq (show (40 : Int) ≠ 0 by omega)
      have hm2 := Int.emod_lt_of_pos u.seq (show (0 : Int) < 40 by omega)
      have e1 : IntKind.i64.wrap (f + u.seq % 40) = f + u.seq % 40 := IntWalk.i64_in _ (by omega)
      have P4 := Lib.hid (blk_new wr (.cells #[.int .i64 u.seq, .int .i64 u.client, .int .i64 u.number, .int .i64 u.kind, .string u.key, .string u.value, .int .i64 u.version] tU))
      have RA4 := Lib.hid (RA.out.below (below_alloc (Below.refl _ _) (.cells #[.int .i64 u.seq, .int .i64 u.client, .int .i64 u.number, .int .i64 u.kind, .string u.key, .string u.value, .int .i64 u.version] tU)))
      have I4 := Lib.hid (I3.out.below (below_alloc (Below.refl _ _) (.cells #[.int .i64 u.seq, .int .i64 u.client, .int .i64 u.number, .int .i64 u.kind, .string u.key, .string u.value, .int .i64 u.version] tU)))
      have B4 := Lib.hid (below_alloc B3.out (.cells #[.int .i64 u.seq, .int .i64 u.client, .int .i64 u.number, .int .i64 u.kind, .string u.key, .string u.value, .int .i64 u.version] tU))
      obtain ⟨gl, csl, hA3, hbl, hGl, hLl⟩ := RA4.out (by have := HLL.out; omega)
      cases hA3
      have GL4 := Lib.hid hGl
      have LL := Lib.hid hLl
      have hcl : k * 7 + 7 ≤ csl.size := by have := hLl.1; have := HLL.out; omega
      have hpl : wr.heap.size ≠ gl := by
        intro e
        have hp : 0 < ls.length := by have := HLL.out; omega
        obtain ⟨gl', cs', e', _, hG', _⟩ := RA.out hp
        cases e'
        have := blk_lt hG'
        omega
      clear hGl hLl hu
      go_wp2_with fail
      have P5 := Lib.hid (blk_drew P4.out)
      have GL5 := Lib.hid (blk_drew GL4.out)
      have B5 := Lib.hid B4.out.drew
      have I5 := Lib.hid (I4.out.below (below_drew (Below.refl _ _)))
      have hgig : g ≠ gl := by
        obtain ⟨cs, G, _⟩ := I4.out
        exact blk_ne G GL4.out (by decide)
      generalize hpq : wr.heap.size = p at *
      generalize (World.alloc wr _) = W4 at *
      clear hx0 hx1 hx2 hx3 hx4 hx5 hx6
      refine start_ (n := 11) (S := fun w' => (∀ o, w'.cell? ⟨p, o, none⟩ = #[Value.int .i64 u.seq, .int .i64 u.client, .int .i64 u.number, .int .i64 u.kind, .string u.key, .string u.value, .int .i64 u.version][o]?)) (ds := []) #[false, false, false, false, false, false, false, false, false, false, false] (by kernel_rfl) rfl rfl ((blkc P5.out)) (fun hHeld => ?_)
      refine pure_ (i := 0) (N := some 53) (v := ?_) (a' := ?_) #[true, false, false, false, false, false, false, false, false, false, false] rfl rfl (by kernel_rfl) (fun _ _ _ h => h) (Or.inl ⟨by rfl, ?_⟩) ?_ ?_
      rotate_left
      · intro w'
        go_simp
        with_reducible rfl
      rotate_left
      · simp only [Act.put, List.setIfInBounds_toArray, List.set_cons_zero, List.set_cons_succ, i64_w, i32_w]
        rfl
      refine pure_ (i := 1) (N := some 54) (v := ?_) (a' := ?_) #[true, true, false, false, false, false, false, false, false, false, false] rfl rfl (by kernel_rfl) (fun _ _ _ h => h) (Or.inl ⟨by rfl, ?_⟩) ?_ ?_
      rotate_left
      · intro w'
        go_simp
        with_reducible rfl
      rotate_left
      · simp only [Act.put, List.setIfInBounds_toArray, List.set_cons_zero, List.set_cons_succ, i64_w, i32_w]
        rfl
      refine pure_ (i := 3) (N := some 56) (v := ?_) (a' := ?_) #[true, true, false, true, false, false, false, false, false, false, false] rfl rfl (by kernel_rfl) (fun _ _ _ h => h) (Or.inl ⟨by rfl, ?_⟩) ?_ ?_
      rotate_left
      · intro w'
        go_simp
        with_reducible rfl
      rotate_left
      · simp only [Act.put, List.setIfInBounds_toArray, List.set_cons_zero, List.set_cons_succ, i64_w, i32_w]
        rfl
      refine pure_ (i := 4) (N := some 57) (v := ?_) (a' := ?_) #[true, true, false, true, true, false, false, false, false, false, false] rfl rfl (by kernel_rfl) (fun _ _ _ h => h) (Or.inl ⟨by rfl, ?_⟩) ?_ ?_
      rotate_left
      · intro w'
        go_simp
        with_reducible rfl
      rotate_left
      · simp only [Act.put, List.setIfInBounds_toArray, List.set_cons_zero, List.set_cons_succ, i64_w, i32_w]
        rfl
      refine take_ (i := 2) (N := some 55) (v := ?_) (a' := ?_) #[true, true, true, true, true, false, false, false, false, false, false] rfl rfl (by kernel_rfl) (fun _ _ _ h => h) (Or.inl ⟨by rfl, ?_⟩) hHeld ?_ ?_
      rotate_left
      · intro w' s0
        go_simp
        with_reducible rfl
      rotate_left
      · simp only [Act.put, List.setIfInBounds_toArray, List.set_cons_zero, List.set_cons_succ, i64_w, i32_w]
        rfl
      refine take_ (i := 5) (N := some 58) (v := ?_) (a' := ?_) #[true, true, true, true, true, true, false, false, false, false, false] rfl rfl (by kernel_rfl) (fun _ _ _ h => h) (Or.inl ⟨by rfl, ?_⟩) hHeld ?_ ?_
      rotate_left
      · intro w' s0
        go_simp
        with_reducible rfl
      rotate_left
      · simp only [Act.put, List.setIfInBounds_toArray, List.set_cons_zero, List.set_cons_succ, i64_w, i32_w]
        rfl
      refine one_ (i := 6) (N := some 59) #[true, true, true, true, true, true, true, false, false, false, false] rfl rfl (by kernel_rfl) (by decide) (fun K hK => ?_)
      refine goes_ Try.func11 (by kernel_rfl) rfl #[.int .i64 u.seq, .int .i64 40] (by rfl) rfl rfl (by simp only [List.map_toArray, List.map_cons, List.map_nil]; rfl) ?_
      with_reducible refine (place_any u.seq 40 _ (by omega) (by omega)).mono ?_
      rintro e w5 ⟨rfl, rfl⟩
      refine ⟨_, rfl, ?_⟩
      refine hK.out _ _ (hHeld) (fun hHeld => ?_)
      clear hK K
      refine norm_ (a' := ?_) ?_ ?_
      rotate_left
      · show Act.put _ (some 59) _ = _
        simp only [Act.put, List.setIfInBounds_toArray, List.set_cons_zero, List.set_cons_succ, i64_w, i32_w]
        rfl
      refine pure_ (i := 7) (N := some 60) (v := ?_) (a' := ?_) #[true, true, true, true, true, true, true, true, false, false, false] rfl rfl (by kernel_rfl) (fun _ _ _ h => h) (Or.inl ⟨by rfl, ?_⟩) ?_ ?_
      rotate_left
      · intro w'
        go_simp
        with_reducible rfl
      rotate_left
      · simp only [Act.put, List.setIfInBounds_toArray, List.set_cons_zero, List.set_cons_succ, i64_w, i32_w]
        rfl
      refine one_ (i := 8) (N := some 61) #[true, true, true, true, true, true, true, true, true, false, false] rfl rfl (by kernel_rfl) (by decide) (fun K hK => ?_)
      refine goes_ Try.func13 (by kernel_rfl) rfl #[u.val, .int .i64 (f + u.seq % 40)] (by rfl) rfl rfl (by simp only [List.map_toArray, List.map_cons, List.map_nil]; rfl) ?_
      with_reducible refine (numbered_any u (f + u.seq % 40) _).mono ?_
      rintro e w6 ⟨rfl, hb6⟩
      refine ⟨_, rfl, ?_⟩
      have P6 := Lib.hid (blk_below P5.out hb6)
      have GL6 := Lib.hid (blk_below GL5.out hb6)
      have B6 := Lib.hid (below_then B5.out B5.out.size hb6)
      have I6 := Lib.hid (I5.out.below hb6)
      clear hb6
      refine hK.out _ _ ((blkc P6.out)) (fun hHeld => ?_)
      clear hK K
      refine norm_ (a' := ?_) ?_ ?_
      rotate_left
      · show Act.put _ (some 61) _ = _
        simp only [Act.put, List.setIfInBounds_toArray, List.set_cons_zero, List.set_cons_succ, i64_w, i32_w]
        rfl
      refine pure_ (i := 9) (N := some 62) (v := ?_) (a' := ?_) #[true, true, true, true, true, true, true, true, true, true, false] rfl rfl (by kernel_rfl) (fun _ _ _ h => h) (Or.inl ⟨by rfl, ?_⟩) ?_ ?_
      rotate_left
      · intro w'
        go_simp
        with_reducible rfl
      rotate_left
      · simp only [Act.put, List.setIfInBounds_toArray, List.set_cons_zero, List.set_cons_succ, i64_w, i32_w]
        rfl
      refine one_ (i := 10) (N := none) #[true, true, true, true, true, true, true, true, true, true, true] rfl rfl (by kernel_rfl) (by decide) (fun K hK => ?_)
      refine store_stepU (by rfl) (by rfl) tU (.tmp 62) (.tmp 61) rfl gl (k * 7) (u.with (f + u.seq % 40)) rfl rfl (there_U GL6.out hcl) (by kernel_rfl) ?_
      have GL7 := Lib.hid (blk_lay (u.with (f + u.seq % 40)) (k * 7) GL6.out)
      have B7 := Lib.hid (below_setCells hbl (u.with (f + u.seq % 40)).cells (k * 7) B6.out)
      have I7 := Lib.hid (I6.out.lay hgig (u.with (f + u.seq % 40)).cells (k * 7))
      have P7 := Lib.hid (blk_setCells_far hpl (u.with (f + u.seq % 40)).cells (k * 7) P6.out)
      generalize (World.setCells _ _ _ _) = W7 at *
      refine hK.out _ _ ((blkc P7.out)) (fun hHeld => ?_)
      clear hK K
      refine done_ (by kernel_rfl) ?_
      go_wp2_with fail
      go_roundg k1
      case measure => exact Nat.lt_succ_self _
      case rel =>
        refine ⟨k + 1, ls.set k (u.with (f + u.seq % 40)), rfl, Lib.hid (by have := HK.out; omega), Lib.hid (by rw [List.length_set]; exact HLL.out), ?_, ?_, I7.out, B7.out⟩
        · refine Lib.hid (fun i hi => ?_)
          by_cases e : i = k
          · subst e
            rw [List.getElem?_set_self (by have := HLL.out; omega), HGQ.out i u HU.out]
          · rw [List.getElem?_set_ne (by omega)]
            exact HLQ.out i (by omega)
        · exact Lib.hid (fun _ => ⟨gl, _, rfl, hbl, GL7.out, LL.out.set (by have := HLL.out; omega) _⟩)
    | zero =>
      have hk : k = given.length := HK.out
      have hls : ls = gm := by
        apply List.ext_getElem?
        intro i
        by_cases hi : i < k
        · exact HLQ.out i hi
        · rw [List.getElem?_eq_none (by have := HLL.out; omega), List.getElem?_eq_none (by have := HGL.out; omega)]
      subst hls
      have c2 : decide (k < given.length) = false := by simp; omega
      have S3 := Lib.hid (InSt.Ok.new (n := f) (wi := wi) h1 (by omega) hw1 hw2)
      clear HLL HLQ hk
      go_wp2_with fail
      have hgy : g < wr.heap.size := by
        obtain ⟨cs, G, _⟩ := I3.out
        exact blk_lt G
      have HN := Lib.hid (show (⟨lineNew f wi, 0⟩ : InSt).line.from_ = f from rfl)
      generalize hs0 : (⟨lineNew f wi, 0⟩ : InSt) = st0 at *
      have HK0 := Lib.hid (show ∀ x, st0.keeps x → x ∈ ls.take 0 from by
        rintro x ⟨kk, _, ht, _⟩
        rw [← hs0] at ht
        simp [lineNew] at ht)
      clear hs0
      go_loopg [9, 66] given.length (fun kq v9 v66 w' => ∃ (k : Nat) (st : InSt), v9 = .int .i64 st.line.from_ ∧ v66 = .int .i64 (k : Int) ∧ Hid (k + kq = given.length) ∧ Hid st.Ok ∧ Hid (∀ x, st.keeps x → x ∈ ls.take k) ∧ Hid (st.line.from_ ≤ f + 65 * k) ∧ Hid (RowAt w' w.heap.size A3 ls) ∧ Hid (InR w' g st) ∧ Hid (Below w.heap.size w w'))
      case atStart => exact ⟨0, st0, by rw [HN.out], rfl, (show _ + _ = _ by omega), S3.out, HK0.out, Lib.hid (by rw [HN.out]; omega), RA.out, I3.out, B3.out⟩
      case round =>
        clear RA I3 B3 S3 HK0 HN
        obtain ⟨k, st, rfl, rfl, HK, OK, HKP, HFB, RA, I3, B3⟩ := hrel
        have hfb := HFB.out
        have hst0 := OK.out.mid.f0
        cases gk with
        | zero =>
          have hk : k = given.length := HK.out
          have c2 : decide (k < given.length) = false := by simp; omega
          have e1 : IntKind.i64.wrap (st.line.from_ + 1) = st.line.from_ + 1 := IntWalk.i64_in _ (by omega)
          have hbd : st.line.from_ + 65 < 2305843009213693952 := by omega
          clear hk
          go_wp2_with fail
          refine (take_any (w0 := w) (⟨st.line.from_ + 1, 0, 7, 0, ⟨#[]⟩, ⟨#[]⟩, 0⟩ : U) OK.out I3.out hgw B3.out hbd).mono ?_
          rintro e w5 ⟨r5, rfl, hi5, hR5, hk5, hb5⟩
          have B5 := Lib.hid hb5
          rw [take_next_eq (⟨st.line.from_ + 1, 0, 7, 0, ⟨#[]⟩, ⟨#[]⟩, 0⟩ : U) rfl] at hR5
          obtain ⟨A5, c5, rfl, hc5, hm5, hra5⟩ := R_LR hR5
          obtain ⟨go, cso, hA5, _, hGo, hLo⟩ := hra5 (by simp)
          cases hA5
          obtain ⟨y0, _, y2, _⟩ := hLo.2 0 _ rfl
          have z0 := (blkc hGo 0).trans y0
          have z2 := (blkc hGo 2).trans y2
          rw [List.length_cons] at hc5 hm5 ⊢
          generalize (st.next.drain 64).2.length = no at *
          have q1 : decide ((1 : Int) ≤ (no : Int) + 1) = true := by simp; omega
          have q2 := eq_true (show 0 < no + 1 by omega)
          clear hi5 hR5 hk5 hb5 hGo hLo hra5 y0 y2
          go_wp2_with fail
          go_ret
          exact ⟨rfl, B5.out⟩
        | succ k2 =>
          have hk : k < given.length := by have := HK.out; omega
          have hkl : k < ls.length := by have := HGL.out; omega
          have hx := List.getElem?_eq_getElem hkl
          generalize ls[k] = x at *
          obtain ⟨gl, csl, hA3, hbl, hGl, hLl, hrg⟩ := RA.out.get hx
          cases hA3
          have HX := Lib.hid hx
          have HRG := Lib.hid hrg
          have GL3 := Lib.hid hGl
          have LL := Lib.hid hLl
          have c2 : decide (k < given.length) = true := by simpa using hk
          have p1 := eq_true (show 0 ≤ (k : Int) by omega)
          have p2 := eq_true (show k < given.length by omega)
          have hbd : st.line.from_ + 65 < 2305843009213693952 := by omega
          have P4 := Lib.hid (blk_new wr (.cells #[.int .i64 x.seq, .int .i64 x.client, .int .i64 x.number, .int .i64 x.kind, .string x.key, .string x.value, .int .i64 x.version] tU))
          have GL4 := Lib.hid (blk_below hGl (below_alloc (Below.refl _ _) (.cells #[.int .i64 x.seq, .int .i64 x.client, .int .i64 x.number, .int .i64 x.kind, .string x.key, .string x.value, .int .i64 x.version] tU)))
          have I4 := Lib.hid (I3.out.below (below_alloc (Below.refl _ _) (.cells #[.int .i64 x.seq, .int .i64 x.client, .int .i64 x.number, .int .i64 x.kind, .string x.key, .string x.value, .int .i64 x.version] tU)))
          have B4 := Lib.hid (below_alloc B3.out (.cells #[.int .i64 x.seq, .int .i64 x.client, .int .i64 x.number, .int .i64 x.kind, .string x.key, .string x.value, .int .i64 x.version] tU))
          clear hx hGl hLl hrg RA I3 B3
          have cp := blkc P4.out
          go_wp2_with (refine wpList_load_mid rfl tU (.tmp 69) rfl gl (k * 7) rfl [.int .i64 x.seq, .int .i64 x.client, .int .i64 x.number, .int .i64 x.kind, .string x.key, .string x.value, .int .i64 x.version] _ HRG.out Try.underlying37 rfl (by kernel_rfl) ?_)
          have PRO := Lib.hid (take_props OK.out x hbd)
          have OK5 := Lib.hid (OK.out.take x hbd)
          have HL65 := Lib.hid (take_len st x)
          refine (take_any (w0 := w) x OK.out I4.out hgw B4.out hbd).mono ?_
          rintro e w5 ⟨r5, rfl, hi5, hR5, hk5, hb5⟩
          clear cp
          have I5 := Lib.hid hi5
          have B5 := Lib.hid hb5
          have hgy4 : g ≠ gl := by
            obtain ⟨cs, G, _⟩ := I4.out
            exact blk_ne G GL4.out (by decide)
          have hgp4 : g ≠ wr.heap.size := by
            obtain ⟨cs, G, _⟩ := I4.out
            exact blk_ne G P4.out (by decide)
          have GL5 := Lib.hid (blk_kept GL4.out hk5 (Ne.symm hgy4))
          have P5 := Lib.hid (blk_kept P4.out hk5 (Ne.symm hgp4))
          obtain ⟨A5, c5, rfl, hc5, hm5, hra5⟩ := R_LR hR5
          have RO := Lib.hid hra5
          clear hi5 hR5 hk5 hb5 hra5 I4 B4 GL4 P4 HRG GL3
          generalize hpq : wr.heap.size = p at *
          generalize hnew : st.take x = tk at *
          obtain ⟨st', out⟩ := tk
          have hpr := PRO.out
          simp only at hpr I5 RO OK5 HL65
          have hf1 := hpr.1
          have HP2 := Lib.hid hpr.2.1
          have HP3 := Lib.hid hpr.2.2.1
          have hp4 := hpr.2.2.2
          have hl65 := HL65.out
          clear hpr PRO hnew hpq
          go_wp2_with fail
          have hgl5 : ls.length = given.length := HGL.out
          have RL5 := Lib.hid (show RowAt w5 w.heap.size (some ⟨gl, 0, none⟩) ls from fun _ => ⟨gl, csl, rfl, hbl, GL5.out, LL.out⟩)
          go_loopg [9, 76] out.length (fun kq v9 v76 w' => ∃ (j : Nat), v9 = .int .i64 (st.line.from_ + (j : Int)) ∧ v76 = .int .i64 (j : Int) ∧ Hid (j + kq = out.length) ∧ Hid (Below w5.heap.size w5 w'))
          case atStart => exact ⟨0, by simp, rfl, (show _ + _ = _ by omega), Below.refl _ _⟩
          case round =>
            obtain ⟨j, rfl, rfl, HJ, HB6⟩ := hrel
            have B6 := Lib.hid (below_then B5.out B5.out.size HB6.out)
            have I6 := Lib.hid (I5.out.below HB6.out)
            have P6 := Lib.hid (blk_below P5.out HB6.out)
            have cp := blkc P6.out
            cases gk with
            | zero =>
              have hj : j = out.length := HJ.out
              subst hj
              have d1 : decide (out.length < out.length) = false := by simp
              have e1 : IntKind.i64.wrap (st.line.from_ + (out.length : Int) + 1) = st.line.from_ + (out.length : Int) + 1 := IntWalk.i64_in _ (by omega)
              have hfn : st'.line.from_ = st.line.from_ + (out.length : Int) := hf1
              have t1 : (x.seq == st.line.from_ + (out.length : Int) + 1) = false := by rw [← hfn]; simpa using hp4
              have t2 : (st.line.from_ + (out.length : Int) + 1 != st.line.from_ + (out.length : Int) + 1) = false := by simp
              have NX : ∀ m, Hid (Calls Try.prog 15 #[.pointer (some ⟨g, 0, none⟩)] (wr.drewN m) fun e w' => e = .returned (.int .i64 (st.line.from_ + (out.length : Int) + 1)) ∧ w' = wr.drewN m) := fun m => by
                have I6m : InR (wr.drewN m) g st' := I6.out
                refine Lib.hid ((next_any (I6m.made OK5.out.mid.made) I6m.from_ (by have := OK5.out.mid.f0; omega) (by have := OK5.out.mid.f2; omega)).mono ?_)
                rintro e w' ⟨rfl, rfl⟩
                rw [hfn]
                exact ⟨rfl, rfl⟩
              clear hf1 hp4
              go_wp2_with fail
              go_quiet ((go_at_call 15; exact Calls.quiet_of_same (NX _).out))
              go_wp2_with fail
              go_roundg k2
              case measure => exact Nat.lt_succ_self _
              case rel =>
                refine ⟨k + 1, st', by rw [hfn], rfl, Lib.hid (by have := HK.out; omega), OK5.out, Lib.hid (fun y hy => ?_), Lib.hid (by rw [hfn]; omega), Lib.hid ((RL5.out.below HB6.out).below (pw_below_drewN (Below.refl _ _) _)), Lib.hid (I6.out.below (pw_below_drewN (Below.refl _ _) _)), Lib.hid (pw_below_drewN B6.out _)⟩
                rw [List.take_add_one, HX.out]
                rcases HP3.out y hy with rfl | h
                · simp
                · exact List.mem_append_left _ (HKP.out y h)
            | succ k3 =>
              have hj : j < out.length := by have := HJ.out; omega
              have hy := List.getElem?_eq_getElem hj
              generalize out[j] = y at *
              obtain ⟨hys, hyk⟩ := HP2.out j y hy
              obtain ⟨go, cso, hA5, hbo, hGo, hLo, hro⟩ := (RO.out.below HB6.out).get hy
              cases hA5
              have HRO := Lib.hid hro
              have HYS := Lib.hid hys
              have HYI := Lib.hid (show y ∈ ls.take (k + 1) from by
                rw [List.take_add_one, HX.out]
                rcases hyk with rfl | hyk
                · simp
                · exact List.mem_append_left _ (HKP.out y hyk))
              have d1 : decide (j < out.length) = true := by simpa using hj
              have d2 := eq_true (show 0 ≤ (j : Int) by omega)
              have d3 := eq_true (show j < out.length by omega)
              have e1 : IntKind.i64.wrap (st.line.from_ + (j : Int) + 1) = st.line.from_ + (j : Int) + 1 := IntWalk.i64_in _ (by omega)
              have hcut : ∀ W : World, (Instr.slice 24 (.slice (some ⟨gl, 0, none⟩) given.length c3) none (some (.int .i64 ((k : Int) + 1))) none).run Try.prog W = .ok (.slice (some ⟨gl, 0, none⟩) (k + 1) c3) W := by
                obtain ⟨i, hi, hz⟩ := Option.map_eq_some_iff.1 info_U
                intro W
                have := cut_to (P := Try.prog) 24 tU .i64 Try.underlying24 hi (some ⟨gl, 0, none⟩) given.length c3 ((k : Int) + 1) (by omega) (by omega) hc3 W
                rwa [show ((k : Int) + 1).toNat = k + 1 by omega] at this
              have P7 := Lib.hid (blk_new wr (.cells #[.int .i64 y.seq, .int .i64 y.client, .int .i64 y.number, .int .i64 y.kind, .string y.key, .string y.value, .int .i64 y.version] tU))
              have HB7 := Lib.hid (below_alloc HB6.out (.cells #[.int .i64 y.seq, .int .i64 y.client, .int .i64 y.number, .int .i64 y.kind, .string y.key, .string y.value, .int .i64 y.version] tU))
              clear hy hys hyk hGo hLo hro cp
              go_wp2_with (refine wpList_load_mid rfl tU (.tmp 78) rfl go (j * 7) rfl [.int .i64 y.seq, .int .i64 y.client, .int .i64 y.number, .int .i64 y.kind, .string y.key, .string y.value, .int .i64 y.version] _ HRO.out Try.underlying37 rfl (by kernel_rfl) ?_)
              generalize hqq : wr.heap.size = qy at *
              generalize (World.alloc wr _) = W7 at *
              go_loopg [18, 87] (k + 1) (fun kq v18 v87 w' => ∃ (i : Nat), v18 = .bool ((ls.take i).any (fun z => z.eqb y)) ∧ v87 = .int .i64 (i : Int) ∧ Hid (i + kq = k + 1) ∧ Hid (Below W7.heap.size W7 w'))
              case atStart => exact ⟨0, by simp, rfl, (show _ + _ = _ by omega), Below.refl _ _⟩
              case round =>
                obtain ⟨i, rfl, rfl, HI, HB8⟩ := hrel
                have P8 := Lib.hid (blk_below P7.out HB8.out)
                have cy := blkc P8.out
                cases gk with
                | zero =>
                  have hi : i = k + 1 := HI.out
                  subst hi
                  have hany : ((ls.take (k + 1)).any (fun z => z.eqb y)) = true := List.any_eq_true.2 ⟨y, HYI.out, (U.eqb_iff y y).2 rfl⟩
                  have d4 : decide (k + 1 < k + 1) = false := by simp
                  have t1 : (y.seq != st.line.from_ + (j : Int) + 1) = false := by have := HYS.out; simp; omega
                  rw [hany]
                  have HB9 := Lib.hid (below_then HB7.out HB7.out.size HB8.out)
                  clear hany
                  go_wp2_with fail
                  go_roundg k3
                  case measure => exact Nat.lt_succ_self _
                  case rel => exact ⟨j + 1, by simp; omega, rfl, Lib.hid (by have := HJ.out; omega), HB9.out⟩
                | succ k4 =>
                  have hi : i < k + 1 := by have := HI.out; omega
                  have hil : i < ls.length := by omega
                  have hzz := List.getElem?_eq_getElem hil
                  generalize ls[i] = z at *
                  obtain ⟨gl', csl', hA', _, _, _, hrz⟩ := (RL5.out.below (below_then HB7.out HB7.out.size HB8.out)).get hzz
                  cases hA'
                  have HRZ := Lib.hid hrz
                  have hnx : (ls.take (i + 1)).any (fun z => z.eqb y) = ((ls.take i).any (fun z => z.eqb y) || z.eqb y) := by
                    rw [List.take_add_one, hzz, List.any_append]
                    simp
                  have HNX := Lib.hid hnx
                  have d4 : decide (i < k + 1) = true := by simpa using hi
                  have d5 := eq_true (show 0 ≤ (i : Int) by omega)
                  have d6 := eq_true (show i < k + 1 by omega)
                  have P9 := Lib.hid (blk_new wr (.cells #[.int .i64 z.seq, .int .i64 z.client, .int .i64 z.number, .int .i64 z.kind, .string z.key, .string z.value, .int .i64 z.version] tU))
                  have P10 := Lib.hid (blk_below P8.out (below_alloc (Below.refl _ _) (.cells #[.int .i64 z.seq, .int .i64 z.client, .int .i64 z.number, .int .i64 z.kind, .string z.key, .string z.value, .int .i64 z.version] tU)))
                  have cz := blkc P9.out
                  have cy2 := blkc P10.out
                  have heq := fun W => run_eqU z y W
                  have HB10 := Lib.hid (below_alloc HB8.out (.cells #[.int .i64 z.seq, .int .i64 z.client, .int .i64 z.number, .int .i64 z.kind, .string z.key, .string z.value, .int .i64 z.version] tU))
                  generalize hbb : (ls.take i).any (fun z => z.eqb y) = bb at *
                  clear hzz hrz hnx hbb
                  cases bb with
                  | true =>
                    go_wp2_with (refine wpList_load_mid rfl tU (.tmp 89) rfl gl (i * 7) rfl [.int .i64 z.seq, .int .i64 z.client, .int .i64 z.number, .int .i64 z.kind, .string z.key, .string z.value, .int .i64 z.version] _ HRZ.out Try.underlying37 rfl (by kernel_rfl) ?_)
                    go_roundg k4
                    case measure => exact Nat.lt_succ_self _
                    case rel => exact ⟨i + 1, by rw [HNX.out]; rfl, rfl, Lib.hid (by have := HI.out; omega), HB10.out⟩
                  | false =>
                    go_wp2_with (refine wpList_load_mid rfl tU (.tmp 89) rfl gl (i * 7) rfl [.int .i64 z.seq, .int .i64 z.client, .int .i64 z.number, .int .i64 z.kind, .string z.key, .string z.value, .int .i64 z.version] _ HRZ.out Try.underlying37 rfl (by kernel_rfl) ?_)
                    go_roundg k4
                    case measure => exact Nat.lt_succ_self _
                    case rel => exact ⟨i + 1, by rw [HNX.out]; rfl, rfl, Lib.hid (by have := HI.out; omega), HB10.out⟩
end Go.Proofs.Ytofmgijdeeikeaa.Hop
namespace Go.Proofs.Ytofmgijdeeikeaa.Walk
open Go.RowKit Go.Proofs.Ytofmgijdeeikeaa.Opn Go.Proofs.Ytofmgijdeeikeaa.Hop Go.Proofs.YtofmgijdeeikeaaW.PrintWords
theorem bytesU : Try.prog.bytesOf 37 = 72 := by kernel_rfl
theorem HopInOrder (x : BegT) (cs : List Value) (l : List U) (A : Option Addr) (n : Nat) (W : World) (hc : kBeg.K W x cs) (hp : pBeg x) (hl : l.length ≤ n) (hC : kU.C W A l.length l) (hm : l.length ≤ 9223372036854775807) (hq : ∀ a ∈ l, pU a) (hr : l.length * Try.prog.bytesOf 37 ≤ 140737488351232) :
    Calls Try.prog 3 #[.agg cs.toArray, .slice A l.length n] W fun e W' => e = .returned (.bool true) ∧ Below W.heap.size W W' := by
  obtain rfl := kBeg_cells hc
  rw [bytesU] at hr
  exact Hop.inOrder_any _ _ _ l A n W hl hr hC
end Go.Proofs.Ytofmgijdeeikeaa.Walk
