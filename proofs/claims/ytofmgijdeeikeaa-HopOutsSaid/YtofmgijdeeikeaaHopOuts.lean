/- HopOuts, walked. -/
import Derived.Test.YtofmgijdeeikeaaHopOff
import Derived.Test.YtofmgijdeeikeaaHopIns
set_option linter.unusedVariables false
set_option linter.unusedSimpArgs false
namespace Go.Proofs.Ytofmgijdeeikeaa.Hop
open Go.RowKit Go.Proofs.Ytofmgijdeeikeaa.Mem Go.Proofs.YtofmgijdeeikeaaW.PrintWords Go.Proofs.YtofmgijdeeikeaaW.PrintLast Go.Deep
theorem simO_new (n wi d p c l : Int) (h0 : 0 ≤ n) : SimO ⟨lineNew n wi, n, n, [], 0, p⟩ ⟨d, wi, p, c, l, n, [], n, n, 0⟩ where
  acked := rfl
  sent := rfl
  last := by simp [RO.last]
  clock := rfl
  wi := rfl
  p := rfl
  f0 := h0
  fa := Int.le_refl _
  num := fun i u hu => by simp at hu
  wait := by simp
  way := fun i u hu => by simp at hu
theorem Two.o {w w0 : World} {g gx : Nat} {v vx : Value} {st : St} {x : RO} (h : Two w w0 g gx v vx st x) : OutR w w0.heap.size g v st := h.1
theorem Two.r {w w0 : World} {g gx : Nat} {v vx : Value} {st : St} {x : RO} (h : Two w w0 g gx v vx st x) : ROR w w0.heap.size gx vx x := h.2.1
theorem refLastL {w : World} {b g : Nat} {v : Value} {x : RO} {L : Int} (h : ROR w b g v x) (e : x.last = L) (h0 : 0 ≤ x.first) (h1 : x.first ≤ 2305843009213693952) (h2 : x.all.length ≤ 1649267441664) :
    Calls Try.prog 24 #[.pointer (some ⟨g, 0, none⟩)] w fun e w' => e = .returned (.int .i64 L) ∧ ∃ n, w' = w.drewN n := by
  have H := refLast_any h h0 h1 h2
  rw [e] at H
  exact H
set_option maxHeartbeats 6400000 in
set_option maxRecDepth 100000 in
theorem outs_any (bf bw bp : Int) (script : List Opn.Step) (Ag : Option Addr) (cg : Nat) (w : World) (hcg : script.length ≤ cg) (hlen : script.length * 88 ≤ 140737488351232) (hG : Opn.kStep.C w Ag script.length script) :
    Calls Try.prog 6 #[.agg #[.int .i64 bf, .int .i64 bw, .int .i64 bp], .slice Ag script.length cg] w fun e w' => e = .returned (.bool true) ∧ Below w.heap.size w w' := by
  have HG := Lib.hid hG
  have h1 := Int.emod_nonneg bf (show (1125899906842624 : Int) ≠ 0 by omega)
  have h2 := Int.emod_lt_of_pos bf (show (0 : Int) < 1125899906842624 by omega)
  have h3 := Int.emod_nonneg bw (show (64 : Int) ≠ 0 by omega)
  have h4 := Int.emod_lt_of_pos bw (show (0 : Int) < 64 by omega)
  have h5 := Int.emod_nonneg bp (show (100 : Int) ≠ 0 by omega)
  have h6 := Int.emod_lt_of_pos bp (show (0 : Int) < 100 by omega)
  have hus := Try.underlying26
  clear hG
  go_enter Try.func6, Try.ntmps6
  have B0 := Lib.hid (below_alloc (Below.refl w.heap.size w) (.cells #[.int .i64 bf, .int .i64 bw, .int .i64 bp] 23))
  have P0 := Lib.hid (blk_new w (.cells #[.int .i64 bf, .int .i64 bw, .int .i64 bp] 23))
  go_wp2_with fail
  refine (set_any bw bp _).mono ?_
  rintro e w1 ⟨rfl, hb1⟩
  have B1 := Lib.hid (below_then B0.out B0.out.size hb1)
  have P1 := Lib.hid (blk_below P0.out hb1)
  have c1 := blkc P1.out
  clear hb1 B0 P0
  generalize hf : bf % 1125899906842624 = f at *
  generalize hwi : bw % 64 + 1 = wi at *
  generalize hpa : bp % 100 + 1 = pa at *
  have HSB := Lib.hid (show setB 1 wi pa 64 1 = true by simp [setB, inB]; omega)
  have SE := Lib.hid (show setE 1 wi pa 64 1 = 0 by exact setE_0 HSB.out)
  have hw1 : 1 ≤ wi := by omega
  have hw2 : wi ≤ 64 := by omega
  have hpa1 : 1 ≤ pa := by omega
  have hpa2 : pa ≤ 100 := by omega
  have HF := Lib.hid hf
  clear hf hwi hpa h3 h4 h5 h6
  have P2 := Lib.hid (blk_below P1.out (below_alloc (Below.refl _ _) (.cells #[.int .i64 1, .int .i64 wi, .int .i64 pa, .int .i64 64, .int .i64 1] 26)))
  have S2 := Lib.hid (blk_new w1 (.cells #[.int .i64 1, .int .i64 wi, .int .i64 pa, .int .i64 64, .int .i64 1] 26))
  have c2 := blkc P2.out
  have cs2 := blkc S2.out
  go_wp2_with fail
  refine (place_any _ 1125899906842624 _ (by omega) (by omega)).mono ?_
  rintro e w' ⟨rfl, rfl⟩
  rw [HF.out]
  go_wp2_with fail
  refine (newOut_ok f 1 wi pa 64 1 _ ⟨h1, by omega⟩ SE.out).mono ?_
  rintro e w2 ⟨g, rfl, hg, hI, hb2⟩
  have B2 := Lib.hid (below_then (below_alloc B1.out _) (by simp; have := B1.out.size; omega) hb2)
  have I2 := Lib.hid (show OutR w2 w.heap.size g (.slice none 0 0) ⟨lineNew f wi, f, f, [], 0, pa⟩ from ⟨_, hI, OutC.new f wi pa, Kd.Q_nil _ _ _ _ _⟩)
  have OK2 := Lib.hid (St.Ok.new (n := f) (wi := wi) (p := pa) h1 (by omega) hw1 hw2 hpa1 hpa2)
  have hgw : w.heap.size ≤ g := by have := B1.out.size; simp at hg; omega
  have S3 := Lib.hid (blk_below S2.out hb2)
  have cs3 := blkc S3.out
  clear hb2 hI P1 c1 P2 c2 S2 cs2 B1 hg
  go_wp2_with fail
  refine (refNewOut_ok f 1 wi pa 64 1 _ ⟨h1, by omega⟩ HSB.out).mono ?_
  rintro e w3 ⟨gx, rfl, hgx, hX, hb3⟩
  have B3 := Lib.hid (below_then B2.out B2.out.size hb3)
  have hgxw : w.heap.size ≤ gx := by have := B2.out.size; omega
  have T3 : Hid (Two w3 w g gx (.slice none 0 0) (.slice none 0 0) ⟨lineNew f wi, f, f, [], 0, pa⟩ ⟨1, wi, pa, 64, 1, f, [], f, f, 0⟩) := Lib.hid ⟨I2.out.below hb3, ⟨hX.1, Kd.R_nil _ _ _ _ _⟩, fun k hk => by simp [Value.ownBlock] at hk, by
    obtain ⟨cs, G, _⟩ := I2.out
    have := blk_lt G
    omega⟩
  have SM3 := Lib.hid (simO_new f wi 1 pa 64 1 h1)
  clear hb3 hX hgx I2 B2 S3 cs3
  go_wp2_with fail
  have HL0 : Hid ((⟨1, wi, pa, 64, 1, f, [], f, f, 0⟩ : RO).all.length ≤ 0 ∧ (⟨1, wi, pa, 64, 1, f, [], f, f, 0⟩ : RO).first ≤ 1125899906842624) := Lib.hid ⟨Nat.le_refl _, by show f ≤ _; omega⟩
  generalize (⟨lineNew f wi, f, f, [], 0, pa⟩ : St) = st0 at *
  generalize (⟨1, wi, pa, 64, 1, f, [], f, f, 0⟩ : RO) = x0 at *
  go_loopg [53] script.length (fun kq v53 w' => ∃ (k : Nat) (st : St) (x : RO) (v vx : Value), v53 = .int .i64 (k : Int) ∧ Hid (k + kq = script.length) ∧ Hid st.Ok ∧ Hid (SimO st x) ∧ Hid (x.all.length ≤ k ∧ x.first ≤ 1125899906842624) ∧ Hid (Two w' w g gx v vx st x) ∧ Hid (Below w.heap.size w w'))
  case atStart => exact ⟨0, st0, x0, _, _, rfl, (show _ + _ = _ by omega), OK2.out, SM3.out, HL0.out, T3.out, B3.out⟩
  case round =>
    clear T3 B3 SM3 OK2 HL0
    obtain ⟨k, st, x, v, vx, rfl, HK, OK, SM, HLF, T3, B3⟩ := hrel
    cases gk with
    | zero =>
      have hk : k = script.length := HK.out
      have c2 : decide (k < script.length) = false := by simp; omega
      have hxl : x.all.length ≤ k := HLF.out.1
      have hxf : x.first ≤ 1125899906842624 := HLF.out.2
      have hkb : k ≤ 1599289640401 := by omega
      have hlast : x.first + (x.all.length : Int) = st.last := SM.out.last
      have hf0 := SM.out.f0
      have hsl := OK.out.sl
      have hfs := OK.out.fs
      have hff := OK.out.f0
      have hsb : st.sent ≤ 4611686018427387904 := by omega
      clear hlast hk
      go_wp2_with fail
      have TD := Lib.hid (T3.out.below (below_drew (Below.refl _ _)))
      have BD := Lib.hid B3.out.drew
      have e5 : IntKind.i64.wrap (st.sent - st.line.from_) = st.sent - st.line.from_ := IntWalk.i64_in _ (by omega)
      have e6 : wrap64 (st.sent - st.line.from_) = st.sent - st.line.from_ := by rw [← i64_w]; exact e5
      clear T3 B3
      refine start_ (n := 32) (S := fun w' => (w'.cell? ⟨gx, 7, none⟩ = some (.int .i64 st.line.from_)) ∧ (w'.cell? ⟨gx, 8, none⟩ = some (.int .i64 st.sent))) (ds := []) #[false, false, false, false, false, false, false, false, false, false, false, false, false, false, false, false, false, false, false, false, false, false, false, false, false, false, false, false, false, false, false, false] (by kernel_rfl) rfl rfl ⟨(by have h := TD.out.r.1; have h2 := blkc h 7; rw [← SM.out.acked]; exact h2), (by have h := TD.out.r.1; have h2 := blkc h 8; rw [← SM.out.sent]; exact h2)⟩ (fun hHeld => ?_)
      refine pure_ (i := 0) (N := some 191) (v := ?_) (a' := ?_) #[true, false, false, false, false, false, false, false, false, false, false, false, false, false, false, false, false, false, false, false, false, false, false, false, false, false, false, false, false, false, false, false] rfl rfl (by kernel_rfl) (fun _ _ _ h => h) (Or.inl ⟨by rfl, ?_⟩) ?_ ?_
      rotate_left
      · intro w'
        go_simp
        with_reducible rfl
      rotate_left
      · simp only [Act.put, List.setIfInBounds_toArray, List.set_cons_zero, List.set_cons_succ, i64_w, i32_w]
        rfl
      refine pure_ (i := 2) (N := some 193) (v := ?_) (a' := ?_) #[true, false, true, false, false, false, false, false, false, false, false, false, false, false, false, false, false, false, false, false, false, false, false, false, false, false, false, false, false, false, false, false] rfl rfl (by kernel_rfl) (fun _ _ _ h => h) (Or.inl ⟨by rfl, ?_⟩) ?_ ?_
      rotate_left
      · intro w'
        go_simp
        with_reducible rfl
      rotate_left
      · simp only [Act.put, List.setIfInBounds_toArray, List.set_cons_zero, List.set_cons_succ, i64_w, i32_w]
        rfl
      refine pure_ (i := 3) (N := some 194) (v := ?_) (a' := ?_) #[true, false, true, true, false, false, false, false, false, false, false, false, false, false, false, false, false, false, false, false, false, false, false, false, false, false, false, false, false, false, false, false] rfl rfl (by kernel_rfl) (fun _ _ _ h => h) (Or.inl ⟨by rfl, ?_⟩) ?_ ?_
      rotate_left
      · intro w'
        go_simp
        with_reducible rfl
      rotate_left
      · simp only [Act.put, List.setIfInBounds_toArray, List.set_cons_zero, List.set_cons_succ, i64_w, i32_w]
        rfl
      refine pure_ (i := 4) (N := some 195) (v := ?_) (a' := ?_) #[true, false, true, true, true, false, false, false, false, false, false, false, false, false, false, false, false, false, false, false, false, false, false, false, false, false, false, false, false, false, false, false] rfl rfl (by kernel_rfl) (fun _ _ _ h => h) (Or.inl ⟨by rfl, ?_⟩) ?_ ?_
      rotate_left
      · intro w'
        go_simp
        with_reducible rfl
      rotate_left
      · simp only [Act.put, List.setIfInBounds_toArray, List.set_cons_zero, List.set_cons_succ, i64_w, i32_w]
        rfl
      refine take_ (i := 5) (N := some 196) (v := ?_) (a' := ?_) #[true, false, true, true, true, true, false, false, false, false, false, false, false, false, false, false, false, false, false, false, false, false, false, false, false, false, false, false, false, false, false, false] rfl rfl (by kernel_rfl) (fun _ _ _ h => h) (Or.inl ⟨by rfl, ?_⟩) hHeld ?_ ?_
      rotate_left
      · rintro w' ⟨s0, s1⟩
        go_simp
        with_reducible rfl
      rotate_left
      · simp only [Act.put, List.setIfInBounds_toArray, List.set_cons_zero, List.set_cons_succ, i64_w, i32_w]
        rfl
      refine one_ (i := 1) (N := some 192) #[true, true, true, true, true, true, false, false, false, false, false, false, false, false, false, false, false, false, false, false, false, false, false, false, false, false, false, false, false, false, false, false] rfl rfl (by kernel_rfl) (by decide) (fun K hK => ?_)
      refine goes_ Try.func19 (by kernel_rfl) rfl #[.pointer (some ⟨g, 0, none⟩)] (by rfl) rfl rfl (by simp only [List.map_toArray, List.map_cons, List.map_nil]; rfl) ?_
      with_reducible refine (acked_any (TD.out.o.made OK.out) TD.out.o.from_).mono ?_
      rintro e w1 ⟨rfl, rfl⟩
      refine ⟨_, rfl, ?_⟩
      refine hK.out _ _ ⟨hHeld.1, hHeld.2⟩ (fun hHeld => ?_)
      clear hK K
      refine norm_ (a' := ?_) ?_ ?_
      rotate_left
      · show Act.put _ (some 192) _ = _
        simp only [Act.put, List.setIfInBounds_toArray, List.set_cons_zero, List.set_cons_succ, i64_w, i32_w]
        rfl
      refine pure_ (i := 6) (N := some 197) (v := ?_) (a' := ?_) #[true, true, true, true, true, true, true, false, false, false, false, false, false, false, false, false, false, false, false, false, false, false, false, false, false, false, false, false, false, false, false, false] rfl rfl (by kernel_rfl) (fun _ _ _ h => h) (Or.inl ⟨by rfl, ?_⟩) ?_ ?_
      rotate_left
      · intro w'
        go_simp
        with_reducible rfl
      rotate_left
      · simp only [Act.put, List.setIfInBounds_toArray, List.set_cons_zero, List.set_cons_succ, i64_w, i32_w]
        rfl
      refine pure_ (i := 7) (N := some 198) (v := ?_) (a' := ?_) #[true, true, true, true, true, true, true, true, false, false, false, false, false, false, false, false, false, false, false, false, false, false, false, false, false, false, false, false, false, false, false, false] rfl rfl (by kernel_rfl) (fun _ _ _ h => h) (Or.inl ⟨by rfl, ?_⟩) ?_ ?_
      rotate_left
      · intro w'
        go_simp
        with_reducible rfl
      rotate_left
      · simp only [Act.put, List.setIfInBounds_toArray, List.set_cons_zero, List.set_cons_succ, i64_w, i32_w]
        rfl
      refine pure_ (i := 8) (N := some 199) (v := ?_) (a' := ?_) #[true, true, true, true, true, true, true, true, true, false, false, false, false, false, false, false, false, false, false, false, false, false, false, false, false, false, false, false, false, false, false, false] rfl rfl (by kernel_rfl) (fun _ _ _ h => h) (Or.inl ⟨by rfl, ?_⟩) ?_ ?_
      rotate_left
      · intro w'
        go_simp
        with_reducible rfl
      rotate_left
      · simp only [Act.put, List.setIfInBounds_toArray, List.set_cons_zero, List.set_cons_succ, i64_w, i32_w]
        rfl
      refine pure_ (i := 10) (N := some 201) (v := ?_) (a' := ?_) #[true, true, true, true, true, true, true, true, true, false, true, false, false, false, false, false, false, false, false, false, false, false, false, false, false, false, false, false, false, false, false, false] rfl rfl (by kernel_rfl) (fun _ _ _ h => h) (Or.inl ⟨by rfl, ?_⟩) ?_ ?_
      rotate_left
      · intro w'
        go_simp
        with_reducible rfl
      rotate_left
      · simp only [Act.put, List.setIfInBounds_toArray, List.set_cons_zero, List.set_cons_succ, i64_w, i32_w]
        rfl
      refine one_ (i := 9) (N := some 200) #[true, true, true, true, true, true, true, true, true, true, true, false, false, false, false, false, false, false, false, false, false, false, false, false, false, false, false, false, false, false, false, false] rfl rfl (by kernel_rfl) (by decide) (fun K hK => ?_)
      refine goes_ Try.func20 (by kernel_rfl) rfl #[.pointer (some ⟨g, 0, none⟩)] (by rfl) rfl rfl (by simp only [List.map_toArray, List.map_cons, List.map_nil]; rfl) ?_
      with_reducible refine (last_any (TD.out.o.made OK.out) TD.out.o.last).mono ?_
      rintro e w1 ⟨rfl, rfl⟩
      refine ⟨_, rfl, ?_⟩
      refine hK.out _ _ ⟨hHeld.1, hHeld.2⟩ (fun hHeld => ?_)
      clear hK K
      refine norm_ (a' := ?_) ?_ ?_
      rotate_left
      · show Act.put _ (some 200) _ = _
        simp only [Act.put, List.setIfInBounds_toArray, List.set_cons_zero, List.set_cons_succ, i64_w, i32_w]
        rfl
      refine one_ (i := 11) (N := some 202) #[true, true, true, true, true, true, true, true, true, true, true, true, false, false, false, false, false, false, false, false, false, false, false, false, false, false, false, false, false, false, false, false] rfl rfl (by kernel_rfl) (by decide) (fun K hK => ?_)
      refine goes_ Try.func24 (by kernel_rfl) rfl #[.pointer (some ⟨gx, 0, none⟩)] (by rfl) rfl rfl (by simp only [List.map_toArray, List.map_cons, List.map_nil]; rfl) ?_
      with_reducible refine (refLastL (L := st.last) TD.out.r SM.out.last hf0 (by omega) (by omega)).mono ?_
      rintro e w1 ⟨rfl, nE, rfl⟩
      refine ⟨_, rfl, ?_⟩
      have TE := Lib.hid (TD.out.drewN nE)
      have BE := Lib.hid (pw_below_drewN BD.out nE)
      clear TD BD
      generalize (World.drewN _ nE) = WE at *
      refine hK.out _ _ ⟨(by have h := TE.out.r.1; have h2 := blkc h 7; rw [← SM.out.acked]; exact h2), (by have h := TE.out.r.1; have h2 := blkc h 8; rw [← SM.out.sent]; exact h2)⟩ (fun hHeld => ?_)
      clear hK K
      refine norm_ (a' := ?_) ?_ ?_
      rotate_left
      · show Act.put _ (some 202) _ = _
        simp only [Act.put, List.setIfInBounds_toArray, List.set_cons_zero, List.set_cons_succ, i64_w, i32_w]
        rfl
      refine pure_ (i := 12) (N := some 203) (v := ?_) (a' := ?_) #[true, true, true, true, true, true, true, true, true, true, true, true, true, false, false, false, false, false, false, false, false, false, false, false, false, false, false, false, false, false, false, false] rfl rfl (by kernel_rfl) (fun _ _ _ h => h) (Or.inl ⟨by rfl, ?_⟩) ?_ ?_
      rotate_left
      · intro w'
        go_simp
        with_reducible rfl
      rotate_left
      · simp only [Act.put, List.setIfInBounds_toArray, List.set_cons_zero, List.set_cons_succ, i64_w, i32_w]
        rfl
      refine pure_ (i := 13) (N := some 204) (v := ?_) (a' := ?_) #[true, true, true, true, true, true, true, true, true, true, true, true, true, true, false, false, false, false, false, false, false, false, false, false, false, false, false, false, false, false, false, false] rfl rfl (by kernel_rfl) (fun _ _ _ h => h) (Or.inl ⟨by rfl, ?_⟩) ?_ ?_
      rotate_left
      · intro w'
        go_simp
        with_reducible rfl
      rotate_left
      · simp only [Act.put, List.setIfInBounds_toArray, List.set_cons_zero, List.set_cons_succ, i64_w, i32_w]
        rfl
      refine pure_ (i := 14) (N := some 205) (v := ?_) (a' := ?_) #[true, true, true, true, true, true, true, true, true, true, true, true, true, true, true, false, false, false, false, false, false, false, false, false, false, false, false, false, false, false, false, false] rfl rfl (by kernel_rfl) (fun _ _ _ h => h) (Or.inl ⟨by rfl, ?_⟩) ?_ ?_
      rotate_left
      · intro w'
        go_simp
        with_reducible rfl
      rotate_left
      · simp only [Act.put, List.setIfInBounds_toArray, List.set_cons_zero, List.set_cons_succ, i64_w, i32_w]
        rfl
      refine pure_ (i := 15) (N := some 206) (v := ?_) (a' := ?_) #[true, true, true, true, true, true, true, true, true, true, true, true, true, true, true, true, false, false, false, false, false, false, false, false, false, false, false, false, false, false, false, false] rfl rfl (by kernel_rfl) (fun _ _ _ h => h) (Or.inl ⟨by rfl, ?_⟩) ?_ ?_
      rotate_left
      · intro w'
        go_simp
        with_reducible rfl
      rotate_left
      · simp only [Act.put, List.setIfInBounds_toArray, List.set_cons_zero, List.set_cons_succ, i64_w, i32_w]
        rfl
      refine pure_ (i := 17) (N := some 208) (v := ?_) (a' := ?_) #[true, true, true, true, true, true, true, true, true, true, true, true, true, true, true, true, false, true, false, false, false, false, false, false, false, false, false, false, false, false, false, false] rfl rfl (by kernel_rfl) (fun _ _ _ h => h) (Or.inl ⟨by rfl, ?_⟩) ?_ ?_
      rotate_left
      · intro w'
        go_simp
        with_reducible rfl
      rotate_left
      · simp only [Act.put, List.setIfInBounds_toArray, List.set_cons_zero, List.set_cons_succ, i64_w, i32_w]
        rfl
      refine pure_ (i := 18) (N := some 209) (v := ?_) (a' := ?_) #[true, true, true, true, true, true, true, true, true, true, true, true, true, true, true, true, false, true, true, false, false, false, false, false, false, false, false, false, false, false, false, false] rfl rfl (by kernel_rfl) (fun _ _ _ h => h) (Or.inl ⟨by rfl, ?_⟩) ?_ ?_
      rotate_left
      · intro w'
        go_simp
        with_reducible rfl
      rotate_left
      · simp only [Act.put, List.setIfInBounds_toArray, List.set_cons_zero, List.set_cons_succ, i64_w, i32_w]
        rfl
      refine pure_ (i := 19) (N := some 210) (v := ?_) (a' := ?_) #[true, true, true, true, true, true, true, true, true, true, true, true, true, true, true, true, false, true, true, true, false, false, false, false, false, false, false, false, false, false, false, false] rfl rfl (by kernel_rfl) (fun _ _ _ h => h) (Or.inl ⟨by rfl, ?_⟩) ?_ ?_
      rotate_left
      · intro w'
        go_simp
        with_reducible rfl
      rotate_left
      · simp only [Act.put, List.setIfInBounds_toArray, List.set_cons_zero, List.set_cons_succ, i64_w, i32_w]
        rfl
      refine pure_ (i := 21) (N := some 212) (v := ?_) (a' := ?_) #[true, true, true, true, true, true, true, true, true, true, true, true, true, true, true, true, false, true, true, true, false, true, false, false, false, false, false, false, false, false, false, false] rfl rfl (by kernel_rfl) (fun _ _ _ h => h) (Or.inl ⟨by rfl, ?_⟩) ?_ ?_
      rotate_left
      · intro w'
        go_simp
        with_reducible rfl
      rotate_left
      · simp only [Act.put, List.setIfInBounds_toArray, List.set_cons_zero, List.set_cons_succ, i64_w, i32_w]
        rfl
      refine pure_ (i := 22) (N := some 213) (v := ?_) (a' := ?_) #[true, true, true, true, true, true, true, true, true, true, true, true, true, true, true, true, false, true, true, true, false, true, true, false, false, false, false, false, false, false, false, false] rfl rfl (by kernel_rfl) (fun _ _ _ h => h) (Or.inl ⟨by rfl, ?_⟩) ?_ ?_
      rotate_left
      · intro w'
        go_simp
        with_reducible rfl
      rotate_left
      · simp only [Act.put, List.setIfInBounds_toArray, List.set_cons_zero, List.set_cons_succ, i64_w, i32_w]
        rfl
      refine pure_ (i := 23) (N := some 214) (v := ?_) (a' := ?_) #[true, true, true, true, true, true, true, true, true, true, true, true, true, true, true, true, false, true, true, true, false, true, true, true, false, false, false, false, false, false, false, false] rfl rfl (by kernel_rfl) (fun _ _ _ h => h) (Or.inl ⟨by rfl, ?_⟩) ?_ ?_
      rotate_left
      · intro w'
        go_simp
        with_reducible rfl
      rotate_left
      · simp only [Act.put, List.setIfInBounds_toArray, List.set_cons_zero, List.set_cons_succ, i64_w, i32_w]
        rfl
      refine take_ (i := 20) (N := some 211) (v := ?_) (a' := ?_) #[true, true, true, true, true, true, true, true, true, true, true, true, true, true, true, true, false, true, true, true, true, true, true, true, false, false, false, false, false, false, false, false] rfl rfl (by kernel_rfl) (fun _ _ _ h => h) (Or.inl ⟨by rfl, ?_⟩) hHeld ?_ ?_
      rotate_left
      · rintro w' ⟨s0, s1⟩
        go_simp
        with_reducible rfl
      rotate_left
      · simp only [Act.put, List.setIfInBounds_toArray, List.set_cons_zero, List.set_cons_succ, i64_w, i32_w]
        rfl
      refine take_ (i := 24) (N := some 215) (v := ?_) (a' := ?_) #[true, true, true, true, true, true, true, true, true, true, true, true, true, true, true, true, false, true, true, true, true, true, true, true, true, false, false, false, false, false, false, false] rfl rfl (by kernel_rfl) (fun _ _ _ h => h) (Or.inl ⟨by rfl, ?_⟩) hHeld ?_ ?_
      rotate_left
      · rintro w' ⟨s0, s1⟩
        go_simp
        with_reducible rfl
      rotate_left
      · simp only [Act.put, List.setIfInBounds_toArray, List.set_cons_zero, List.set_cons_succ, i64_w, i32_w]
        rfl
      refine pure_ (i := 25) (N := some 216) (v := ?_) (a' := ?_) #[true, true, true, true, true, true, true, true, true, true, true, true, true, true, true, true, false, true, true, true, true, true, true, true, true, true, false, false, false, false, false, false] rfl rfl (by kernel_rfl) (fun _ _ _ h => h) (Or.inl ⟨by rfl, ?_⟩) ?_ ?_
      rotate_left
      · intro w'
        go_simp
        with_reducible rfl
      rotate_left
      · simp only [Act.put, List.setIfInBounds_toArray, List.set_cons_zero, List.set_cons_succ, i64_w, i32_w]
        rfl
      refine one_ (i := 16) (N := some 207) #[true, true, true, true, true, true, true, true, true, true, true, true, true, true, true, true, true, true, true, true, true, true, true, true, true, true, false, false, false, false, false, false] rfl rfl (by kernel_rfl) (by decide) (fun K hK => ?_)
      refine goes_ Try.func21 (by kernel_rfl) rfl #[.pointer (some ⟨g, 0, none⟩)] (by rfl) rfl rfl (by simp only [List.map_toArray, List.map_cons, List.map_nil]; rfl) ?_
      with_reducible refine (under_any (TE.out.o.made OK.out) TE.out.o.from_ TE.out.o.sent hff hfs (by omega)).mono ?_
      rintro e w1 ⟨rfl, nF, rfl⟩
      refine ⟨_, rfl, ?_⟩
      have TF := Lib.hid (TE.out.drewN nF)
      have BF := Lib.hid (pw_below_drewN BE.out nF)
      clear TE BE
      generalize (World.drewN _ nF) = WF at *
      refine hK.out _ _ ⟨(by have h := TF.out.r.1; have h2 := blkc h 7; rw [← SM.out.acked]; exact h2), (by have h := TF.out.r.1; have h2 := blkc h 8; rw [← SM.out.sent]; exact h2)⟩ (fun hHeld => ?_)
      clear hK K
      refine norm_ (a' := ?_) ?_ ?_
      rotate_left
      · show Act.put _ (some 207) _ = _
        simp only [Act.put, List.setIfInBounds_toArray, List.set_cons_zero, List.set_cons_succ, i64_w, i32_w]
        rfl
      refine pure_ (i := 26) (N := some 217) (v := ?_) (a' := ?_) #[true, true, true, true, true, true, true, true, true, true, true, true, true, true, true, true, true, true, true, true, true, true, true, true, true, true, true, false, false, false, false, false] rfl rfl (by kernel_rfl) (fun _ _ _ h => h) (Or.inl ⟨by rfl, ?_⟩) ?_ ?_
      rotate_left
      · intro w'
        go_simp
        with_reducible rfl
      rotate_left
      · simp only [Act.put, List.setIfInBounds_toArray, List.set_cons_zero, List.set_cons_succ, i64_w, i32_w]
        rfl
      refine pure_ (i := 27) (N := some 218) (v := ?_) (a' := ?_) #[true, true, true, true, true, true, true, true, true, true, true, true, true, true, true, true, true, true, true, true, true, true, true, true, true, true, true, true, false, false, false, false] rfl rfl (by kernel_rfl) (fun _ _ _ h => h) (Or.inl ⟨by rfl, ?_⟩) ?_ ?_
      rotate_left
      · intro w'
        go_simp
        with_reducible rfl
      rotate_left
      · simp only [Act.put, List.setIfInBounds_toArray, List.set_cons_zero, List.set_cons_succ, i64_w, i32_w]
        rfl
      refine pure_ (i := 28) (N := some 219) (v := ?_) (a' := ?_) #[true, true, true, true, true, true, true, true, true, true, true, true, true, true, true, true, true, true, true, true, true, true, true, true, true, true, true, true, true, false, false, false] rfl rfl (by kernel_rfl) (fun _ _ _ h => h) (Or.inl ⟨by rfl, ?_⟩) ?_ ?_
      rotate_left
      · intro w'
        go_simp
        with_reducible rfl
      rotate_left
      · simp only [Act.put, List.setIfInBounds_toArray, List.set_cons_zero, List.set_cons_succ, i64_w, i32_w]
        rfl
      refine one_ (i := 29) (N := some 220) #[true, true, true, true, true, true, true, true, true, true, true, true, true, true, true, true, true, true, true, true, true, true, true, true, true, true, true, true, true, true, false, false] rfl rfl (by kernel_rfl) (by decide) (fun K hK => ?_)
      refine goes_ Try.func16 (by kernel_rfl) rfl #[] (by rfl) rfl rfl (by simp only [List.map_toArray, List.map_cons, List.map_nil]) ?_
      with_reducible refine (lives_any _).mono ?_
      rintro e w1 ⟨rfl, hbl⟩
      refine ⟨_, rfl, ?_⟩
      have TG := Lib.hid (TF.out.below hbl)
      have BG := Lib.hid (below_then BF.out BF.out.size hbl)
      clear TF BF hbl
      refine hK.out _ _ ⟨(by have h := TG.out.r.1; have h2 := blkc h 7; rw [← SM.out.acked]; exact h2), (by have h := TG.out.r.1; have h2 := blkc h 8; rw [← SM.out.sent]; exact h2)⟩ (fun hHeld => ?_)
      clear hK K
      refine norm_ (a' := ?_) ?_ ?_
      rotate_left
      · show Act.put _ (some 220) _ = _
        simp only [Act.put, List.setIfInBounds_toArray, List.set_cons_zero, List.set_cons_succ, i64_w, i32_w]
        rfl
      refine pure_ (i := 30) (N := some 221) (v := ?_) (a' := ?_) #[true, true, true, true, true, true, true, true, true, true, true, true, true, true, true, true, true, true, true, true, true, true, true, true, true, true, true, true, true, true, true, false] rfl rfl (by kernel_rfl) (fun _ _ _ h => h) (Or.inl ⟨by rfl, ?_⟩) ?_ ?_
      rotate_left
      · intro w'
        go_simp
        with_reducible rfl
      rotate_left
      · simp only [Act.put, List.setIfInBounds_toArray, List.set_cons_zero, List.set_cons_succ, i64_w, i32_w]
        rfl
      refine pure_ (i := 31) (N := some 4) (v := ?_) (a' := ?_) #[true, true, true, true, true, true, true, true, true, true, true, true, true, true, true, true, true, true, true, true, true, true, true, true, true, true, true, true, true, true, true, true] rfl rfl (by kernel_rfl) (fun _ _ _ h => h) (Or.inl ⟨by rfl, ?_⟩) ?_ ?_
      rotate_left
      · intro w'
        go_simp
        with_reducible rfl
      rotate_left
      · simp only [Act.put, List.setIfInBounds_toArray, List.set_cons_zero, List.set_cons_succ, i64_w, i32_w]
        rfl
      refine done_ (by kernel_rfl) ?_
      go_wp2_with fail
      go_ret
      exact ⟨rfl, BG.out⟩
    | succ k1 =>
      have hk : k < script.length := by have := HK.out; omega
      have hxl : x.all.length ≤ k := HLF.out.1
      have hxf : x.first ≤ 1125899906842624 := HLF.out.2
      have hkb : k ≤ 1599289640401 := by omega
      have XOK := Lib.hid (simO_ok OK.out SM.out (by omega) (by omega))
      have hll := OK.out.len
      have hlast : x.first + (x.all.length : Int) = st.last := SM.out.last
      have hf0 := SM.out.f0
      have hsl := OK.out.sl
      have hfs := OK.out.fs
      have hff := OK.out.f0
      have hfx : x.first ≤ st.line.from_ := by have := SM.out.fa; have := SM.out.acked; omega
      have hwl : st.wait.length < 1649267441664 := by omega
      have hlb : st.last < 2305843009213693952 := by omega
      have HLS := Lib.hid hlast
      have HWL := Lib.hid hll
      clear hlast hll
      have hu := List.getElem?_eq_getElem hk
      generalize script[k] = s at *
      obtain ⟨ad, hA, hx0, hx1, hx2, hx3, hx4, hx5, hx6, hx7, hx8⟩ := at_Step HG.out hu
      cases hA
      have hx0 := pw_cell_below (w1 := wr) B3.out hx0
      have hx1 := pw_cell_below (w1 := wr) B3.out hx1
      have hx2 := pw_cell_below (w1 := wr) B3.out hx2
      have hx3 := pw_cell_below (w1 := wr) B3.out hx3
      have hx4 := pw_cell_below (w1 := wr) B3.out hx4
      have hx5 := pw_cell_below (w1 := wr) B3.out hx5
      have hx6 := pw_cell_below (w1 := wr) B3.out hx6
      have hx7 := pw_cell_below (w1 := wr) B3.out hx7
      have hx8 := pw_cell_below (w1 := wr) B3.out hx8
      have HU := Lib.hid hu
      have c2 : decide (k < script.length) = true := by simpa using hk
      have p1 := eq_true (show 0 ≤ (k : Int) by omega)
      have p2 := eq_true (show k < script.length by omega)
      have P4 := Lib.hid (blk_new wr (.cells #[.int .i64 s.call, .int .i64 s.n, .int .i64 s.u.seq, .int .i64 s.u.client, .int .i64 s.u.number, .int .i64 s.u.kind, .string s.u.key, .string s.u.value, .int .i64 s.u.version] tSt))
      have T4 := Lib.hid (T3.out.below (below_alloc (Below.refl _ _) (.cells #[.int .i64 s.call, .int .i64 s.n, .int .i64 s.u.seq, .int .i64 s.u.client, .int .i64 s.u.number, .int .i64 s.u.kind, .string s.u.key, .string s.u.value, .int .i64 s.u.version] tSt)))
      have B4 := Lib.hid (below_alloc B3.out (.cells #[.int .i64 s.call, .int .i64 s.n, .int .i64 s.u.seq, .int .i64 s.u.client, .int .i64 s.u.number, .int .i64 s.u.kind, .string s.u.key, .string s.u.value, .int .i64 s.u.version] tSt))
      have hp4 : wr.heap.size < (wr.alloc (.cells #[.int .i64 s.call, .int .i64 s.n, .int .i64 s.u.seq, .int .i64 s.u.client, .int .i64 s.u.number, .int .i64 s.u.kind, .string s.u.key, .string s.u.value, .int .i64 s.u.version] tSt)).heap.size := blk_lt P4.out
      have hm1 := Int.emod_nonneg s.n (show (200 : Int) ≠ 0 by omega)
      have hm2 := Int.emod_lt_of_pos s.n (show (0 : Int) < 200 by omega)
      have hm3 := Int.emod_nonneg s.n (show (4 : Int) ≠ 0 by omega)
      have hm4 := Int.emod_lt_of_pos s.n (show (0 : Int) < 4 by omega)
      clear hu
      go_upto_region 10 with (fail)
      generalize wr.heap.size = p at *
      generalize (World.alloc wr _) = W4 at *
      clear hx0 hx1 hx2 hx3 hx4 hx5 hx6 hx7 hx8 T3 B3 p1 p2
      have cp := blkc P4.out
      cases k2 : (s.call == 2) with
      | true =>
        have k0 : (s.call == 0) = false := by have e : s.call = 2 := by simpa using k2
                                              rw [e]; rfl
        have k1' : (s.call == 1) = false := by have e : s.call = 2 := by simpa using k2
                                               rw [e]; rfl
        go_wp2_with fail
        obtain ⟨hgm, hgxm, hvl, hvxl⟩ := T4.out.lt
        have HVXL := Lib.hid hvxl
        clear hvl hvxl
        have hwm := B4.out.size
        refine (tick_any OK.out T4.out.1 hgw B4.out).mono ?_
        rintro e w5 ⟨r5, rfl, hp5⟩
        have OKT := Lib.hid OK.out.tick
        have SMT := Lib.hid (simO_tick OK.out SM.out)
        obtain ⟨v5, ht5, hr5, hv5, hs5, hb5⟩ := T4.out.first hp5
        have T5 := Lib.hid ht5
        have R5 := Lib.hid hr5
        have HV5 := Lib.hid hv5
        have B5 := Lib.hid hb5
        clear hp5 ht5 hr5 hv5 hb5
        generalize hm : W4.heap.size = m at *
        clear hm
        have hul : st.tick.2.length ≤ 64 := by
          unfold St.tick
          split
          · simp
          · split
            · simp
            · rw [under_len]
              have := OK.out.sw
              have := OK.out.w2
              omega
        obtain ⟨AA, cA, rfl⟩ := Kd.R_slice R5.out
        clear cp
        go_wp2_with fail
        refine (refTick_any XOK.out T5.out.2.1 hgxw B5.out).mono ?_
        rintro e w6 ⟨r6, rfl, hp6⟩
        rw [← SMT.out.1] at hp6
        obtain ⟨vx6, ht6, hr6, hr7, hx6, hs6, hb6⟩ := T5.out.second hgm hgxm HVXL.out R5.out HV5.out hp6
        have T6 := Lib.hid ht6
        have R6 := Lib.hid hr6
        have R7 := Lib.hid hr7
        have HV6 := HV5
        have HX6 := Lib.hid hx6
        have B6 := Lib.hid hb6
        have hm6 : m ≤ w6.heap.size := by omega
        have hol : st.tick.2.length ≤ 1099511627776 := by omega
        have HLT : Hid (x.tick.1.all.length ≤ k + 1 ∧ x.tick.1.first ≤ 1125899906842624) := by
          unfold RO.tick
          split
          · exact Lib.hid ⟨by show x.all.length ≤ _; omega, hxf⟩
          · split
            · exact Lib.hid ⟨by show x.all.length ≤ _; omega, hxf⟩
            · exact Lib.hid ⟨by show x.all.length ≤ _; omega, hxf⟩
        clear hp6 ht6 hr6 hr7 hx6 hb6
        obtain ⟨AB, cB, rfl⟩ := Kd.R_slice R7.out
        go_wp2_with fail
        refine (same_any _ AA AB cA cB _ ((Kd.R_reads' R6.out).2.2) ((Kd.R_reads' R7.out).2.2)).mono ?_
        rintro e w7 ⟨rfl, nC, rfl⟩
        have T8 := Lib.hid (T6.out.drewN nC)
        have R8 := Lib.hid (Kd.R_drewN R6.out nC)
        have B8 := Lib.hid (pw_below_drewN B6.out nC)
        have hm8 : m ≤ (World.drewN w6 nC).heap.size := hm6
        clear T6 R6 R7 B6
        generalize (World.drewN w6 nC) = W8 at *
        go_wp2_with fail
        refine (own_any (w0 := w) R8.out hwm B8.out hm8 hol).mono ?_
        rintro e w9 ⟨rfl, hk9, hb9⟩
        have T9 := Lib.hid (T8.out.third hgm hgxm R8.out HV6.out HX6.out hk9)
        have B9 := Lib.hid hb9
        clear hk9 hb9
        go_wp2_with fail
        go_roundg k1
        case measure => exact Nat.lt_succ_self _
        case rel => exact ⟨k + 1, st.tick.1, x.tick.1, _, _, rfl, Lib.hid (by have := HK.out; omega), OKT.out, SMT.out.2, HLT.out, T9.out, B9.out⟩
      | false =>
        cases k0 : (s.call == 0) with
        | true =>
          have k1' : (s.call == 1) = false := by have e : s.call = 0 := by simpa using k0
                                                 rw [e]; rfl
          have e5 : IntKind.i64.wrap (st.last + 1) = st.last + 1 := IntWalk.i64_in _ (by omega)
          have e6 : wrap64 (st.last + 1) = st.last + 1 := by rw [← i64_w]; exact e5
          obtain ⟨hg4, hgx4, hv4, hvx4⟩ := T4.out.lt
          have HV4 := Lib.hid hv4
          have HVX4 := Lib.hid hvx4
          clear hv4 hvx4
          go_wp2_with fail
          clear cp
          have BW1 := Lib.hid (below_drew (Below.refl W4.heap.size W4))
          refine start_ (n := 8) (S := fun w' => (∀ o, w'.cell? ⟨p, o, none⟩ = #[Value.int .i64 s.call, .int .i64 s.n, .int .i64 s.u.seq, .int .i64 s.u.client, .int .i64 s.u.number, .int .i64 s.u.kind, .string s.u.key, .string s.u.value, .int .i64 s.u.version][o]?)) (ds := []) #[false, false, false, false, false, false, false, false] (by kernel_rfl) rfl rfl ((blkc (blk_below P4.out BW1.out))) (fun hHeld => ?_)
          refine pure_ (i := 0) (N := some 89) (v := ?_) (a' := ?_) #[true, false, false, false, false, false, false, false] rfl rfl (by kernel_rfl) (fun _ _ _ h => h) (Or.inl ⟨by rfl, ?_⟩) ?_ ?_
          rotate_left
          · intro w'
            go_simp
            with_reducible rfl
          rotate_left
          · simp only [Act.put, List.setIfInBounds_toArray, List.set_cons_zero, List.set_cons_succ, i64_w, i32_w]
            rfl
          refine pure_ (i := 2) (N := some 91) (v := ?_) (a' := ?_) #[true, false, true, false, false, false, false, false] rfl rfl (by kernel_rfl) (fun _ _ _ h => h) (Or.inl ⟨by rfl, ?_⟩) ?_ ?_
          rotate_left
          · intro w'
            go_simp
            with_reducible rfl
          rotate_left
          · simp only [Act.put, List.setIfInBounds_toArray, List.set_cons_zero, List.set_cons_succ, i64_w, i32_w]
            rfl
          refine take_ (i := 1) (N := some 90) (v := ?_) (a' := ?_) #[true, true, true, false, false, false, false, false] rfl rfl (by kernel_rfl) (fun _ _ _ h => h) (Or.inl ⟨by rfl, ?_⟩) hHeld ?_ ?_
          rotate_left
          · intro w' s0
            go_simp
            with_reducible rfl
          rotate_left
          · simp only [Act.put, List.setIfInBounds_toArray, List.set_cons_zero, List.set_cons_succ, i64_w, i32_w]
            rfl
          refine join_ (σ := Nat) 1 #[true, true, true, true, true, true, true, false] (fun q => [(92, .int .i64 st.last), (93, .int .i64 (st.last + 1)), (94, (s.u.with (st.last + 1)).val), (13, .pointer (some ⟨q, 0, none⟩))]) (fun q w' => Below W4.heap.size W4 w' ∧ w'.heap[q]? = some (.cells #[Value.int .i64 0, .int .i64 0, .int .i64 0, .int .i64 0, .string ⟨#[]⟩, .string ⟨#[]⟩, .int .i64 0] tU) ∧ W4.heap.size ≤ q) ?_ ?_
          rotate_left
          · intro hCont
            refine two_ (i := 3) (j := 6) (Ni := some 92) (Nj := some 13) #[true, true, true, true, false, false, false, false] #[true, true, true, false, false, false, true, false] rfl rfl rfl rfl (by kernel_rfl) (by decide) (by decide) (fun K hK => ?_) (fun K hK => ?_)
            · skip
              refine goes_ Try.func24 (by kernel_rfl) rfl #[.pointer (some ⟨gx, 0, none⟩)] (by rfl) rfl rfl (by simp only [List.map_toArray, List.map_cons, List.map_nil]; rfl) ?_
              with_reducible refine (refLastL (L := st.last) (T4.out.below BW1.out).r SM.out.last hf0 (by omega) (by omega)).mono ?_
              rintro e w1 ⟨rfl, nA, rfl⟩
              refine ⟨_, rfl, ?_⟩
              have BWA := Lib.hid (pw_below_drewN BW1.out nA)
              generalize (World.drewN _ nA) = WA at *
              refine hK.out _ _ ((blkc (blk_below P4.out BWA.out))) (fun hHeld => ?_)
              clear hK K
              refine norm_ (a' := ?_) ?_ ?_
              rotate_left
              · show Act.put _ (some 92) _ = _
                simp only [Act.put, List.setIfInBounds_toArray, List.set_cons_zero, List.set_cons_succ, i64_w, i32_w]
                rfl
              refine pure_ (i := 4) (N := some 93) (v := ?_) (a' := ?_) #[true, true, true, true, true, false, false, false] rfl rfl (by kernel_rfl) (fun _ _ _ h => h) (Or.inl ⟨by rfl, ?_⟩) ?_ ?_
              rotate_left
              · intro w'
                go_simp
                with_reducible rfl
              rotate_left
              · simp only [Act.put, List.setIfInBounds_toArray, List.set_cons_zero, List.set_cons_succ, i64_w, i32_w]
                rfl
              refine two_ (i := 5) (j := 6) (Ni := some 94) (Nj := some 13) #[true, true, true, true, true, true, false, false] #[true, true, true, true, true, false, true, false] rfl rfl rfl rfl (by kernel_rfl) (by decide) (by decide) (fun K hK => ?_) (fun K hK => ?_)
              · skip
                refine goes_ Try.func13 (by kernel_rfl) rfl #[s.u.val, .int .i64 (st.last + 1)] (by rfl) rfl rfl (by simp only [List.map_toArray, List.map_cons, List.map_nil]; rfl) ?_
                with_reducible refine (numbered_any s.u (st.last + 1) _).mono ?_
                rintro e w2 ⟨rfl, hb2⟩
                refine ⟨_, rfl, ?_⟩
                have BWB := Lib.hid (below_then BWA.out BWA.out.size hb2)
                refine hK.out _ _ ((blkc (blk_below P4.out BWB.out))) (fun hHeld => ?_)
                clear hK K
                refine norm_ (a' := ?_) ?_ ?_
                rotate_left
                · show Act.put _ (some 94) _ = _
                  simp only [Act.put, List.setIfInBounds_toArray, List.set_cons_zero, List.set_cons_succ, i64_w, i32_w]
                  rfl
                refine one_ (i := 6) (N := some 13) #[true, true, true, true, true, true, true, false] rfl rfl (by kernel_rfl) (by decide) (fun K hK => ?_)
                refine value_ (w1 := ?_) (v := ?_) (by rfl) rfl ?_ ?_
                rotate_left 2
                · go_simp
                  constructor
                  · rfl
                  · rfl
                have BWC := Lib.hid (below_alloc BWB.out (.cells #[Value.int .i64 0, .int .i64 0, .int .i64 0, .int .i64 0, .string ⟨#[]⟩, .string ⟨#[]⟩, .int .i64 0] tU))
                refine hK.out _ _ ((blkc (blk_below P4.out BWC.out))) (fun hHeld => ?_)
                clear hK K
                refine norm_ (a' := ?_) ?_ ?_
                rotate_left
                · show Act.put _ (some 13) _ = _
                  simp only [Act.put, List.setIfInBounds_toArray, List.set_cons_zero, List.set_cons_succ, i64_w, i32_w]
                  rfl
                exact norm_ (by simp only [putAll, Act.put, List.setIfInBounds_toArray, List.set_cons_zero, List.set_cons_succ]) (hCont _ _ ⟨BWC.out, blk_new w2 (.cells #[Value.int .i64 0, .int .i64 0, .int .i64 0, .int .i64 0, .string ⟨#[]⟩, .string ⟨#[]⟩, .int .i64 0] tU), BWB.out.size⟩)
              · skip
                refine value_ (w1 := ?_) (v := ?_) (by rfl) rfl ?_ ?_
                rotate_left 2
                · go_simp
                  constructor
                  · rfl
                  · rfl
                have BWD := Lib.hid (below_alloc BWA.out (.cells #[Value.int .i64 0, .int .i64 0, .int .i64 0, .int .i64 0, .string ⟨#[]⟩, .string ⟨#[]⟩, .int .i64 0] tU))
                refine hK.out _ _ ((blkc (blk_below P4.out BWD.out))) (fun hHeld => ?_)
                clear hK K
                refine norm_ (a' := ?_) ?_ ?_
                rotate_left
                · show Act.put _ (some 13) _ = _
                  simp only [Act.put, List.setIfInBounds_toArray, List.set_cons_zero, List.set_cons_succ, i64_w, i32_w]
                  rfl
                refine one_ (i := 5) (N := some 94) #[true, true, true, true, true, true, true, false] rfl rfl (by kernel_rfl) (by decide) (fun K hK => ?_)
                refine goes_ Try.func13 (by kernel_rfl) rfl #[s.u.val, .int .i64 (st.last + 1)] (by rfl) rfl rfl (by simp only [List.map_toArray, List.map_cons, List.map_nil]; rfl) ?_
                with_reducible refine (numbered_any s.u (st.last + 1) _).mono ?_
                rintro e w5 ⟨rfl, hb5⟩
                refine ⟨_, rfl, ?_⟩
                have BWE := Lib.hid (below_then BWD.out BWD.out.size hb5)
                have ZE := Lib.hid (blk_below (blk_new WA (.cells #[Value.int .i64 0, .int .i64 0, .int .i64 0, .int .i64 0, .string ⟨#[]⟩, .string ⟨#[]⟩, .int .i64 0] tU)) hb5)
                refine hK.out _ _ ((blkc (blk_below P4.out BWE.out))) (fun hHeld => ?_)
                clear hK K
                refine norm_ (a' := ?_) ?_ ?_
                rotate_left
                · show Act.put _ (some 94) _ = _
                  simp only [Act.put, List.setIfInBounds_toArray, List.set_cons_zero, List.set_cons_succ, i64_w, i32_w]
                  rfl
                exact norm_ (by simp only [putAll, Act.put, List.setIfInBounds_toArray, List.set_cons_zero, List.set_cons_succ]) (hCont _ _ ⟨BWE.out, ZE.out, BWA.out.size⟩)
            · skip
              refine value_ (w1 := ?_) (v := ?_) (by rfl) rfl ?_ ?_
              rotate_left 2
              · go_simp
                constructor
                · rfl
                · rfl
              have BWF := Lib.hid (below_alloc (Below.refl W4.heap.size W4) (.cells #[Value.int .i64 0, .int .i64 0, .int .i64 0, .int .i64 0, .string ⟨#[]⟩, .string ⟨#[]⟩, .int .i64 0] tU)).drew
              refine hK.out _ _ ((blkc (blk_below P4.out BWF.out))) (fun hHeld => ?_)
              clear hK K
              refine norm_ (a' := ?_) ?_ ?_
              rotate_left
              · show Act.put _ (some 13) _ = _
                simp only [Act.put, List.setIfInBounds_toArray, List.set_cons_zero, List.set_cons_succ, i64_w, i32_w]
                rfl
              refine one_ (i := 3) (N := some 92) #[true, true, true, true, false, false, true, false] rfl rfl (by kernel_rfl) (by decide) (fun K hK => ?_)
              refine goes_ Try.func24 (by kernel_rfl) rfl #[.pointer (some ⟨gx, 0, none⟩)] (by rfl) rfl rfl (by simp only [List.map_toArray, List.map_cons, List.map_nil]; rfl) ?_
              with_reducible refine (refLastL (L := st.last) (T4.out.below BWF.out).r SM.out.last hf0 (by omega) (by omega)).mono ?_
              rintro e w1 ⟨rfl, nB, rfl⟩
              refine ⟨_, rfl, ?_⟩
              have BWG := Lib.hid (pw_below_drewN BWF.out nB)
              have ZG : Hid ((World.drewN (World.drew (World.alloc W4 (.cells #[Value.int .i64 0, .int .i64 0, .int .i64 0, .int .i64 0, .string ⟨#[]⟩, .string ⟨#[]⟩, .int .i64 0] tU))) nB).heap[W4.heap.size]? = some (.cells #[Value.int .i64 0, .int .i64 0, .int .i64 0, .int .i64 0, .string ⟨#[]⟩, .string ⟨#[]⟩, .int .i64 0] tU)) := Lib.hid (blk_drew (blk_new W4 (.cells #[Value.int .i64 0, .int .i64 0, .int .i64 0, .int .i64 0, .string ⟨#[]⟩, .string ⟨#[]⟩, .int .i64 0] tU)))
              generalize (World.drewN _ nB) = WG at *
              refine hK.out _ _ ((blkc (blk_below P4.out BWG.out))) (fun hHeld => ?_)
              clear hK K
              refine norm_ (a' := ?_) ?_ ?_
              rotate_left
              · show Act.put _ (some 92) _ = _
                simp only [Act.put, List.setIfInBounds_toArray, List.set_cons_zero, List.set_cons_succ, i64_w, i32_w]
                rfl
              refine pure_ (i := 4) (N := some 93) (v := ?_) (a' := ?_) #[true, true, true, true, true, false, true, false] rfl rfl (by kernel_rfl) (fun _ _ _ h => h) (Or.inl ⟨by rfl, ?_⟩) ?_ ?_
              rotate_left
              · intro w'
                go_simp
                with_reducible rfl
              rotate_left
              · simp only [Act.put, List.setIfInBounds_toArray, List.set_cons_zero, List.set_cons_succ, i64_w, i32_w]
                rfl
              refine one_ (i := 5) (N := some 94) #[true, true, true, true, true, true, true, false] rfl rfl (by kernel_rfl) (by decide) (fun K hK => ?_)
              refine goes_ Try.func13 (by kernel_rfl) rfl #[s.u.val, .int .i64 (st.last + 1)] (by rfl) rfl rfl (by simp only [List.map_toArray, List.map_cons, List.map_nil]; rfl) ?_
              with_reducible refine (numbered_any s.u (st.last + 1) _).mono ?_
              rintro e w8 ⟨rfl, hb8⟩
              refine ⟨_, rfl, ?_⟩
              have BWH := Lib.hid (below_then BWG.out BWG.out.size hb8)
              have ZH := Lib.hid (blk_below ZG.out hb8)
              refine hK.out _ _ ((blkc (blk_below P4.out BWH.out))) (fun hHeld => ?_)
              clear hK K
              refine norm_ (a' := ?_) ?_ ?_
              rotate_left
              · show Act.put _ (some 94) _ = _
                simp only [Act.put, List.setIfInBounds_toArray, List.set_cons_zero, List.set_cons_succ, i64_w, i32_w]
                rfl
              exact norm_ (by simp only [putAll, Act.put, List.setIfInBounds_toArray, List.set_cons_zero, List.set_cons_succ]) (hCont _ _ ⟨BWH.out, ZH.out, Nat.le_refl _⟩)
          rintro q w6 ⟨BW6_, Z6_, hq6⟩
          have BW6 := Lib.hid BW6_
          have Z6 := Lib.hid Z6_
          clear BW6_ Z6_
          have hHeld := blkc (blk_below P4.out BW6.out)
          refine norm_ (a' := ?_) ?_ ?_
          rotate_left
          · simp only [putAll, Act.put, List.setIfInBounds_toArray, List.set_cons_zero, List.set_cons_succ]
            rfl
          refine one_ (i := 7) (N := none) #[true, true, true, true, true, true, true, true] rfl rfl (by kernel_rfl) (by decide) (fun K hK => ?_)
          refine store_stepU (by rfl) (by rfl) tU (.tmp 13) (.tmp 94) rfl q 0 (s.u.with (st.last + 1)) rfl rfl (there_U Z6.out (by simp)) (by kernel_rfl) ?_
          have Z7 := Lib.hid (blk_lay (s.u.with (st.last + 1)) 0 Z6.out)
          have BW7 := Lib.hid (below_setCells hq6 (s.u.with (st.last + 1)).cells 0 BW6.out)
          generalize (World.setCells _ _ _ _) = W7 at *
          refine hK.out _ _ ((blkc (blk_below P4.out BW7.out))) (fun hHeld => ?_)
          clear hK K
          refine done_ (by kernel_rfl) ?_
          have z7 := Z7.out
          rw [lay_zero] at z7
          have Z7 := Lib.hid z7
          have P7 := Lib.hid (blk_below P4.out BW7.out)
          have T7 := Lib.hid (T4.out.below BW7.out)
          have B7 := Lib.hid (below_then B4.out B4.out.size BW7.out)
          have HQV := Lib.hid (fun (k : Nat) (h : v.ownBlock = some k) => Nat.lt_of_lt_of_le (HV4.out k h) hq6)
          have HQX := Lib.hid (fun (k : Nat) (h : vx.ownBlock = some k) => Nat.lt_of_lt_of_le (HVX4.out k h) hq6)
          have hgq : g ≠ q := by omega
          have hgxq : gx ≠ q := by omega
          have hpq : p ≠ q := by omega
          have hqw : w.heap.size ≤ q := by have := B4.out.size; omega
          clear z7 P4 T4 B4 BW1 BW6 BW7 Z6 HV4 HVX4
          generalize (s.u.with (st.last + 1)) = u1 at *
          have cp7 := blkc P7.out
          cases t7 : (s.n.tmod 7 == 3) with
          | false =>
            have cq := blkc Z7.out
            have OKT := Lib.hid (OK.out.offer u1 hlb)
            have SMT := Lib.hid (simO_offer OK.out SM.out u1 hlb)
            have hul := offer_len OK.out u1 hlb
            have HLT : Hid ((x.offer u1).1.all.length ≤ k + 1 ∧ (x.offer u1).1.first ≤ 1125899906842624) := Lib.hid ⟨by have := (offer_all x u1).1; omega, by rw [(offer_all x u1).2]; exact hxf⟩
            go_wp2_with fail
            clear cp7
            obtain ⟨hgm, hgxm, hvl, hvxl⟩ := T7.out.lt
            have HVXL := Lib.hid hvxl
            clear hvl hvxl
            have hwm := B7.out.size
            refine (offer_any u1 OK.out T7.out.1 hgw B7.out hwl hlb).mono ?_
            rintro e w5 ⟨r5, rfl, hp5⟩
            have ZK := Lib.hid (blk_kept Z7.out hp5.keeps (fun h => h.elim (fun e => hgq e.symm) (fun e => by have := HQV.out q e.symm; omega)))
            obtain ⟨v5, ht5, hr5, hv5, hs5, hb5⟩ := T7.out.first hp5
            have T5 := Lib.hid ht5
            have R5 := Lib.hid hr5
            have HV5 := Lib.hid hv5
            have B5 := Lib.hid hb5
            clear hp5 ht5 hr5 hv5 hb5 cq
            generalize hm : W7.heap.size = m at *
            clear hm
            obtain ⟨AA, cA, rfl⟩ := Kd.R_slice R5.out
            have cq := blkc ZK.out
            go_wp2_with fail
            have H6 := refOffer_any u1 XOK.out T5.out.2.1 hgxw B5.out (by omega)
            rw [← SMT.out.1, ← SMT.out.2.1] at H6
            refine H6.mono ?_
            clear H6 cq
            rintro e w6 ⟨r6, rfl, hp6⟩
            obtain ⟨vx6, ht6, hr6, hr7, hx6, hs6, hb6⟩ := T5.out.second hgm hgxm HVXL.out R5.out HV5.out hp6
            have T6 := Lib.hid ht6
            have R6 := Lib.hid hr6
            have R7 := Lib.hid hr7
            have HV6 := HV5
            have HX6 := Lib.hid hx6
            have B6 := Lib.hid hb6
            have hm6 : m ≤ w6.heap.size := by omega
            have hol : (st.offer u1).2.1.length ≤ 1099511627776 := by omega
            clear hp6 ht6 hr6 hr7 hx6 hb6
            obtain ⟨AB, cB, rfl⟩ := Kd.R_slice R7.out
            go_wp2_with fail
            refine (same_any _ AA AB cA cB _ ((Kd.R_reads' R6.out).2.2) ((Kd.R_reads' R7.out).2.2)).mono ?_
            rintro e w7 ⟨rfl, nC, rfl⟩
            have T8 := Lib.hid (T6.out.drewN nC)
            have R8 := Lib.hid (Kd.R_drewN R6.out nC)
            have B8 := Lib.hid (pw_below_drewN B6.out nC)
            have hm8 : m ≤ (World.drewN w6 nC).heap.size := hm6
            clear T6 R6 R7 B6
            generalize (World.drewN w6 nC) = W8 at *
            go_wp2_with fail
            refine (own_any (w0 := w) R8.out hwm B8.out hm8 hol).mono ?_
            rintro e w9 ⟨rfl, hk9, hb9⟩
            have T9 := Lib.hid (T8.out.third hgm hgxm R8.out HV6.out HX6.out hk9)
            have B9 := Lib.hid hb9
            clear hk9 hb9
            go_wp2_with fail
            go_roundg k1
            case measure => exact Nat.lt_succ_self _
            case rel => exact ⟨k + 1, (st.offer u1).1, (x.offer u1).1, _, _, rfl, Lib.hid (by have := HK.out; omega), OKT.out, SMT.out.2.2, HLT.out, T9.out, B9.out⟩
          | true =>
            go_wp2_with fail
            clear cp7
            have BX1 := Lib.hid (below_drew (Below.refl W7.heap.size W7))
            refine start_ (n := 7) (S := fun w' => (∀ o, w'.cell? ⟨p, o, none⟩ = #[Value.int .i64 s.call, .int .i64 s.n, .int .i64 s.u.seq, .int .i64 s.u.client, .int .i64 s.u.number, .int .i64 s.u.kind, .string s.u.key, .string s.u.value, .int .i64 s.u.version][o]?)) (ds := [6]) #[false, false, false, false, false, false, false] (by kernel_rfl) rfl rfl ((blkc (blk_below P7.out BX1.out))) (fun hHeld => ?_)
            refine pure_ (i := 0) (N := some 99) (v := ?_) (a' := ?_) #[true, false, false, false, false, false, false] rfl rfl (by kernel_rfl) (fun _ _ _ h => h) (Or.inl ⟨by rfl, ?_⟩) ?_ ?_
            rotate_left
            · intro w'
              go_simp
              with_reducible rfl
            rotate_left
            · simp only [Act.put, List.setIfInBounds_toArray, List.set_cons_zero, List.set_cons_succ, i64_w, i32_w]
              rfl
            refine pure_ (i := 2) (N := some 101) (v := ?_) (a' := ?_) #[true, false, true, false, false, false, false] rfl rfl (by kernel_rfl) (fun _ _ _ h => h) (Or.inl ⟨by rfl, ?_⟩) ?_ ?_
            rotate_left
            · intro w'
              go_simp
              with_reducible rfl
            rotate_left
            · simp only [Act.put, List.setIfInBounds_toArray, List.set_cons_zero, List.set_cons_succ, i64_w, i32_w]
              rfl
            refine take_ (i := 3) (N := some 102) (v := ?_) (a' := ?_) #[true, false, true, true, false, false, false] rfl rfl (by kernel_rfl) (fun _ _ _ h => h) (Or.inl ⟨by rfl, ?_⟩) hHeld ?_ ?_
            rotate_left
            · intro w' s0
              go_simp
              with_reducible rfl
            rotate_left
            · simp only [Act.put, List.setIfInBounds_toArray, List.set_cons_zero, List.set_cons_succ, i64_w, i32_w]
              rfl
            refine one_ (i := 1) (N := some 100) #[true, true, true, true, false, false, false] rfl rfl (by kernel_rfl) (by decide) (fun K hK => ?_)
            refine goes_ Try.func24 (by kernel_rfl) rfl #[.pointer (some ⟨gx, 0, none⟩)] (by rfl) rfl rfl (by simp only [List.map_toArray, List.map_cons, List.map_nil]; rfl) ?_
            with_reducible refine (refLastL (L := st.last) (T7.out.below BX1.out).r SM.out.last hf0 (by omega) (by omega)).mono ?_
            rintro e w1 ⟨rfl, nA, rfl⟩
            refine ⟨_, rfl, ?_⟩
            have BX2 := Lib.hid (pw_below_drewN BX1.out nA)
            generalize (World.drewN _ nA) = WA at *
            refine hK.out _ _ ((blkc (blk_below P7.out BX2.out))) (fun hHeld => ?_)
            clear hK K
            refine norm_ (a' := ?_) ?_ ?_
            rotate_left
            · show Act.put _ (some 100) _ = _
              simp only [Act.put, List.setIfInBounds_toArray, List.set_cons_zero, List.set_cons_succ, i64_w, i32_w]
              rfl
            refine one_ (i := 4) (N := some 103) #[true, true, true, true, true, false, false] rfl rfl (by kernel_rfl) (by decide) (fun K hK => ?_)
            refine goes_ Try.func25 (by kernel_rfl) rfl #[.int .i64 st.last, .int .i64 s.n] (by rfl) rfl rfl (by simp only [List.map_toArray, List.map_cons, List.map_nil]; rfl) ?_
            with_reducible refine (near_any st.last s.n _ (by omega) (by omega)).mono ?_
            rintro e w1 ⟨rfl, rfl⟩
            refine ⟨_, rfl, ?_⟩
            refine hK.out _ _ (hHeld) (fun hHeld => ?_)
            clear hK K
            refine norm_ (a' := ?_) ?_ ?_
            rotate_left
            · show Act.put _ (some 103) _ = _
              simp only [Act.put, List.setIfInBounds_toArray, List.set_cons_zero, List.set_cons_succ, i64_w, i32_w]
              rfl
            refine pure_ (i := 5) (N := some 104) (v := ?_) (a' := ?_) #[true, true, true, true, true, true, false] rfl rfl (by kernel_rfl) (fun _ _ _ h => h) (Or.inl ⟨by rfl, ?_⟩) ?_ ?_
            rotate_left
            · intro w'
              go_simp
              with_reducible rfl
            rotate_left
            · simp only [Act.put, List.setIfInBounds_toArray, List.set_cons_zero, List.set_cons_succ, i64_w, i32_w]
              rfl
            refine last_ (i := 6) (N := none) #[true, true, true, true, true, true, true] rfl rfl (by kernel_rfl) (by decide) (fun K hK => ?_)
            have z8 := blkz (blk_below Z7.out BX2.out) 0
            have c8 := blkc (blk_below Z7.out BX2.out) 0
            refine skip_ (w1 := ?_) (by rfl) rfl ?_ ?_
            rotate_left
            · go_simp
              rfl
            refine hK.out _ _ ?_
            clear hK K
            refine done_ (by kernel_rfl) ?_
            have Z8 := Lib.hid (blk_below Z7.out BX2.out)
            have P8 := Lib.hid (blk_below P7.out BX2.out)
            have T8 := Lib.hid (T7.out.below BX2.out)
            have B8 := Lib.hid (below_then B7.out B7.out.size BX2.out)
            have Z9 := Lib.hid (show (World.setCell WA ⟨q, 0, none⟩ (.int .i64 (st.last + s.n % 200 - 100))).heap[q]? = some (.cells #[.int .i64 (u1.with (st.last + s.n % 200 - 100)).seq, .int .i64 (u1.with (st.last + s.n % 200 - 100)).client, .int .i64 (u1.with (st.last + s.n % 200 - 100)).number, .int .i64 (u1.with (st.last + s.n % 200 - 100)).kind, .string (u1.with (st.last + s.n % 200 - 100)).key, .string (u1.with (st.last + s.n % 200 - 100)).value, .int .i64 (u1.with (st.last + s.n % 200 - 100)).version] tU (0, 0)) from by have := blk_set Z8.out 0 (.int .i64 (st.last + s.n % 200 - 100)); simpa [U.with] using this)
            have T9 := Lib.hid (Two.set (j := 0) (v0 := (.int .i64 (st.last + s.n % 200 - 100))) T8.out hgq hgxq HQV.out HQX.out)
            have B9 := Lib.hid (below_set (g := q) (j := 0) (v := (.int .i64 (st.last + s.n % 200 - 100))) B8.out hqw)
            clear Z7 P7 T7 B7 Z8 P8 T8 B8 BX1 BX2
            generalize (World.setCell _ _ _) = W9 at *
            generalize u1.with (st.last + s.n % 200 - 100) = u2 at *
            have cq := blkc Z9.out
            have OKT := Lib.hid (OK.out.offer u2 hlb)
            have SMT := Lib.hid (simO_offer OK.out SM.out u2 hlb)
            have hul := offer_len OK.out u2 hlb
            have HLT : Hid ((x.offer u2).1.all.length ≤ k + 1 ∧ (x.offer u2).1.first ≤ 1125899906842624) := Lib.hid ⟨by have := (offer_all x u2).1; omega, by rw [(offer_all x u2).2]; exact hxf⟩
            go_wp2_with fail
            obtain ⟨hgm, hgxm, hvl, hvxl⟩ := T9.out.lt
            have HVXL := Lib.hid hvxl
            clear hvl hvxl
            have hwm := B9.out.size
            refine (offer_any u2 OK.out T9.out.1 hgw B9.out hwl hlb).mono ?_
            rintro e w5 ⟨r5, rfl, hp5⟩
            have ZK := Lib.hid (blk_kept Z9.out hp5.keeps (fun h => h.elim (fun e => hgq e.symm) (fun e => by have := HQV.out q e.symm; omega)))
            obtain ⟨v5, ht5, hr5, hv5, hs5, hb5⟩ := T9.out.first hp5
            have T5 := Lib.hid ht5
            have R5 := Lib.hid hr5
            have HV5 := Lib.hid hv5
            have B5 := Lib.hid hb5
            clear hp5 ht5 hr5 hv5 hb5 cq
            generalize hm : W9.heap.size = m at *
            clear hm
            obtain ⟨AA, cA, rfl⟩ := Kd.R_slice R5.out
            have cq := blkc ZK.out
            go_wp2_with fail
            have H6 := refOffer_any u2 XOK.out T5.out.2.1 hgxw B5.out (by omega)
            rw [← SMT.out.1, ← SMT.out.2.1] at H6
            refine H6.mono ?_
            clear H6 cq
            rintro e w6 ⟨r6, rfl, hp6⟩
            obtain ⟨vx6, ht6, hr6, hr7, hx6, hs6, hb6⟩ := T5.out.second hgm hgxm HVXL.out R5.out HV5.out hp6
            have T6 := Lib.hid ht6
            have R6 := Lib.hid hr6
            have R7 := Lib.hid hr7
            have HV6 := HV5
            have HX6 := Lib.hid hx6
            have B6 := Lib.hid hb6
            have hm6 : m ≤ w6.heap.size := by omega
            have hol : (st.offer u2).2.1.length ≤ 1099511627776 := by omega
            clear hp6 ht6 hr6 hr7 hx6 hb6
            obtain ⟨AB, cB, rfl⟩ := Kd.R_slice R7.out
            go_wp2_with fail
            refine (same_any _ AA AB cA cB _ ((Kd.R_reads' R6.out).2.2) ((Kd.R_reads' R7.out).2.2)).mono ?_
            rintro e w7 ⟨rfl, nC, rfl⟩
            have T8 := Lib.hid (T6.out.drewN nC)
            have R8 := Lib.hid (Kd.R_drewN R6.out nC)
            have B8 := Lib.hid (pw_below_drewN B6.out nC)
            have hm8 : m ≤ (World.drewN w6 nC).heap.size := hm6
            clear T6 R6 R7 B6
            generalize (World.drewN w6 nC) = W8 at *
            go_wp2_with fail
            refine (own_any (w0 := w) R8.out hwm B8.out hm8 hol).mono ?_
            rintro e w9 ⟨rfl, hk9, hb9⟩
            have T9 := Lib.hid (T8.out.third hgm hgxm R8.out HV6.out HX6.out hk9)
            have B9 := Lib.hid hb9
            clear hk9 hb9
            go_wp2_with fail
            go_roundg k1
            case measure => exact Nat.lt_succ_self _
            case rel => exact ⟨k + 1, (st.offer u2).1, (x.offer u2).1, _, _, rfl, Lib.hid (by have := HK.out; omega), OKT.out, SMT.out.2.2, HLT.out, T9.out, B9.out⟩
        | false =>
          cases k1' : (s.call == 1) with
          | true =>
            go_wp2_with fail
            clear cp
            have TD := Lib.hid (T4.out.below (below_drew (Below.refl _ _)))
            have BD := Lib.hid B4.out.drew
            have PD := Lib.hid (blk_drew P4.out)
            clear T4 B4 P4
            refine start_ (n := 8) (S := fun w' => (∀ o, w'.cell? ⟨p, o, none⟩ = #[Value.int .i64 s.call, .int .i64 s.n, .int .i64 s.u.seq, .int .i64 s.u.client, .int .i64 s.u.number, .int .i64 s.u.kind, .string s.u.key, .string s.u.value, .int .i64 s.u.version][o]?) ∧ (w'.cell? ⟨gx, 7, none⟩ = some (.int .i64 st.line.from_))) (ds := []) #[false, false, false, false, false, false, false, false] (by kernel_rfl) rfl rfl ⟨(blkc PD.out), (by have h := TD.out.r.1; have h2 := blkc h 7; rw [← SM.out.acked]; exact h2)⟩ (fun hHeld => ?_)
            refine pure_ (i := 0) (N := some 133) (v := ?_) (a' := ?_) #[true, false, false, false, false, false, false, false] rfl rfl (by kernel_rfl) (fun _ _ _ h => h) (Or.inl ⟨by rfl, ?_⟩) ?_ ?_
            rotate_left
            · intro w'
              go_simp
              with_reducible rfl
            rotate_left
            · simp only [Act.put, List.setIfInBounds_toArray, List.set_cons_zero, List.set_cons_succ, i64_w, i32_w]
              rfl
            refine pure_ (i := 1) (N := some 134) (v := ?_) (a' := ?_) #[true, true, false, false, false, false, false, false] rfl rfl (by kernel_rfl) (fun _ _ _ h => h) (Or.inl ⟨by rfl, ?_⟩) ?_ ?_
            rotate_left
            · intro w'
              go_simp
              with_reducible rfl
            rotate_left
            · simp only [Act.put, List.setIfInBounds_toArray, List.set_cons_zero, List.set_cons_succ, i64_w, i32_w]
              rfl
            refine pure_ (i := 2) (N := some 135) (v := ?_) (a' := ?_) #[true, true, true, false, false, false, false, false] rfl rfl (by kernel_rfl) (fun _ _ _ h => h) (Or.inl ⟨by rfl, ?_⟩) ?_ ?_
            rotate_left
            · intro w'
              go_simp
              with_reducible rfl
            rotate_left
            · simp only [Act.put, List.setIfInBounds_toArray, List.set_cons_zero, List.set_cons_succ, i64_w, i32_w]
              rfl
            refine pure_ (i := 4) (N := some 137) (v := ?_) (a' := ?_) #[true, true, true, false, true, false, false, false] rfl rfl (by kernel_rfl) (fun _ _ _ h => h) (Or.inl ⟨by rfl, ?_⟩) ?_ ?_
            rotate_left
            · intro w'
              go_simp
              with_reducible rfl
            rotate_left
            · simp only [Act.put, List.setIfInBounds_toArray, List.set_cons_zero, List.set_cons_succ, i64_w, i32_w]
              rfl
            refine take_ (i := 3) (N := some 136) (v := ?_) (a' := ?_) #[true, true, true, true, true, false, false, false] rfl rfl (by kernel_rfl) (fun _ _ _ h => h) (Or.inl ⟨by rfl, ?_⟩) hHeld ?_ ?_
            rotate_left
            · rintro w' ⟨s0, s1⟩
              go_simp
              with_reducible rfl
            rotate_left
            · simp only [Act.put, List.setIfInBounds_toArray, List.set_cons_zero, List.set_cons_succ, i64_w, i32_w]
              rfl
            refine take_ (i := 5) (N := some 138) (v := ?_) (a' := ?_) #[true, true, true, true, true, true, false, false] rfl rfl (by kernel_rfl) (fun _ _ _ h => h) (Or.inl ⟨by rfl, ?_⟩) hHeld ?_ ?_
            rotate_left
            · rintro w' ⟨s0, s1⟩
              go_simp
              with_reducible rfl
            rotate_left
            · simp only [Act.put, List.setIfInBounds_toArray, List.set_cons_zero, List.set_cons_succ, i64_w, i32_w]
              rfl
            refine one_ (i := 6) (N := some 139) #[true, true, true, true, true, true, true, false] rfl rfl (by kernel_rfl) (by decide) (fun K hK => ?_)
            refine goes_ Try.func25 (by kernel_rfl) rfl #[.int .i64 st.line.from_, .int .i64 s.n] (by rfl) rfl rfl (by simp only [List.map_toArray, List.map_cons, List.map_nil]; rfl) ?_
            with_reducible refine (near_any st.line.from_ s.n _ (by omega) (by omega)).mono ?_
            rintro e w1 ⟨rfl, rfl⟩
            refine ⟨_, rfl, ?_⟩
            refine hK.out _ _ ⟨hHeld.1, hHeld.2⟩ (fun hHeld => ?_)
            clear hK K
            refine norm_ (a' := ?_) ?_ ?_
            rotate_left
            · show Act.put _ (some 139) _ = _
              simp only [Act.put, List.setIfInBounds_toArray, List.set_cons_zero, List.set_cons_succ, i64_w, i32_w]
              rfl
            refine pure_ (i := 7) (N := some 18) (v := ?_) (a' := ?_) #[true, true, true, true, true, true, true, true] rfl rfl (by kernel_rfl) (fun _ _ _ h => h) (Or.inl ⟨by rfl, ?_⟩) ?_ ?_
            rotate_left
            · intro w'
              go_simp
              with_reducible rfl
            rotate_left
            · simp only [Act.put, List.setIfInBounds_toArray, List.set_cons_zero, List.set_cons_succ, i64_w, i32_w]
              rfl
            refine done_ (by kernel_rfl) ?_
            generalize (World.drew W4) = WD at *
            have cpD := blkc PD.out
            cases t5 : (s.n.tmod 5 == 1) with
            | true =>
              have m1 : (s.n == 9223372036854775807) = false := by
                by_cases e : s.n = 9223372036854775807
                · rw [e] at t5; exact absurd t5 (by decide)
                · simpa using e
              have m2 : (s.n == -9223372036854775808) = false := by
                by_cases e : s.n = -9223372036854775808
                · rw [e] at t5; exact absurd t5 (by decide)
                · simpa using e
              have e1 : IntKind.i64.wrap (st.line.from_ + s.n % 4) = st.line.from_ + s.n % 4 := IntWalk.i64_in _ (by omega)
              have e2 : wrap64 (st.line.from_ + s.n % 4) = st.line.from_ + s.n % 4 := by rw [← i64_w]; exact e1
              go_wp2_with fail
              clear cpD
              have TE := Lib.hid (TD.out.below (below_drew (Below.refl _ _)))
              have BE := Lib.hid BD.out.drew
              have PE := Lib.hid (blk_drew PD.out)
              clear TD BD PD
              refine start_ (n := 9) (S := fun w' => (∀ o, w'.cell? ⟨p, o, none⟩ = #[Value.int .i64 s.call, .int .i64 s.n, .int .i64 s.u.seq, .int .i64 s.u.client, .int .i64 s.u.number, .int .i64 s.u.kind, .string s.u.key, .string s.u.value, .int .i64 s.u.version][o]?) ∧ (w'.cell? ⟨gx, 7, none⟩ = some (.int .i64 st.line.from_))) (ds := []) #[false, false, false, false, false, false, false, false, false] (by kernel_rfl) rfl rfl ⟨(blkc PE.out), (by have h := TE.out.r.1; have h2 := blkc h 7; rw [← SM.out.acked]; exact h2)⟩ (fun hHeld => ?_)
              refine pure_ (i := 0) (N := some 144) (v := ?_) (a' := ?_) #[true, false, false, false, false, false, false, false, false] rfl rfl (by kernel_rfl) (fun _ _ _ h => h) (Or.inl ⟨by rfl, ?_⟩) ?_ ?_
              rotate_left
              · intro w'
                go_simp
                with_reducible rfl
              rotate_left
              · simp only [Act.put, List.setIfInBounds_toArray, List.set_cons_zero, List.set_cons_succ, i64_w, i32_w]
                rfl
              refine pure_ (i := 1) (N := some 145) (v := ?_) (a' := ?_) #[true, true, false, false, false, false, false, false, false] rfl rfl (by kernel_rfl) (fun _ _ _ h => h) (Or.inl ⟨by rfl, ?_⟩) ?_ ?_
              rotate_left
              · intro w'
                go_simp
                with_reducible rfl
              rotate_left
              · simp only [Act.put, List.setIfInBounds_toArray, List.set_cons_zero, List.set_cons_succ, i64_w, i32_w]
                rfl
              refine pure_ (i := 2) (N := some 146) (v := ?_) (a' := ?_) #[true, true, true, false, false, false, false, false, false] rfl rfl (by kernel_rfl) (fun _ _ _ h => h) (Or.inl ⟨by rfl, ?_⟩) ?_ ?_
              rotate_left
              · intro w'
                go_simp
                with_reducible rfl
              rotate_left
              · simp only [Act.put, List.setIfInBounds_toArray, List.set_cons_zero, List.set_cons_succ, i64_w, i32_w]
                rfl
              refine pure_ (i := 4) (N := some 148) (v := ?_) (a' := ?_) #[true, true, true, false, true, false, false, false, false] rfl rfl (by kernel_rfl) (fun _ _ _ h => h) (Or.inl ⟨by rfl, ?_⟩) ?_ ?_
              rotate_left
              · intro w'
                go_simp
                with_reducible rfl
              rotate_left
              · simp only [Act.put, List.setIfInBounds_toArray, List.set_cons_zero, List.set_cons_succ, i64_w, i32_w]
                rfl
              refine take_ (i := 3) (N := some 147) (v := ?_) (a' := ?_) #[true, true, true, true, true, false, false, false, false] rfl rfl (by kernel_rfl) (fun _ _ _ h => h) (Or.inl ⟨by rfl, ?_⟩) hHeld ?_ ?_
              rotate_left
              · rintro w' ⟨s0, s1⟩
                go_simp
                with_reducible rfl
              rotate_left
              · simp only [Act.put, List.setIfInBounds_toArray, List.set_cons_zero, List.set_cons_succ, i64_w, i32_w]
                rfl
              refine take_ (i := 5) (N := some 149) (v := ?_) (a' := ?_) #[true, true, true, true, true, true, false, false, false] rfl rfl (by kernel_rfl) (fun _ _ _ h => h) (Or.inl ⟨by rfl, ?_⟩) hHeld ?_ ?_
              rotate_left
              · rintro w' ⟨s0, s1⟩
                go_simp
                with_reducible rfl
              rotate_left
              · simp only [Act.put, List.setIfInBounds_toArray, List.set_cons_zero, List.set_cons_succ, i64_w, i32_w]
                rfl
              refine one_ (i := 6) (N := some 150) #[true, true, true, true, true, true, true, false, false] rfl rfl (by kernel_rfl) (by decide) (fun K hK => ?_)
              refine goes_ Try.func11 (by kernel_rfl) rfl #[.int .i64 s.n, .int .i64 4] (by rfl) rfl rfl (by simp only [List.map_toArray, List.map_cons, List.map_nil]; rfl) ?_
              with_reducible refine (place_any s.n 4 _ (by omega) (by omega)).mono ?_
              rintro e w1 ⟨rfl, rfl⟩
              refine ⟨_, rfl, ?_⟩
              refine hK.out _ _ ⟨hHeld.1, hHeld.2⟩ (fun hHeld => ?_)
              clear hK K
              refine norm_ (a' := ?_) ?_ ?_
              rotate_left
              · show Act.put _ (some 150) _ = _
                simp only [Act.put, List.setIfInBounds_toArray, List.set_cons_zero, List.set_cons_succ, i64_w, i32_w]
                rfl
              refine pure_ (i := 7) (N := some 151) (v := ?_) (a' := ?_) #[true, true, true, true, true, true, true, true, false] rfl rfl (by kernel_rfl) (fun _ _ _ h => h) (Or.inl ⟨by rfl, ?_⟩) ?_ ?_
              rotate_left
              · intro w'
                go_simp
                with_reducible rfl
              rotate_left
              · simp only [Act.put, List.setIfInBounds_toArray, List.set_cons_zero, List.set_cons_succ, i64_w, i32_w]
                rfl
              refine pure_ (i := 8) (N := some 18) (v := ?_) (a' := ?_) #[true, true, true, true, true, true, true, true, true] rfl rfl (by kernel_rfl) (fun _ _ _ h => h) (Or.inl ⟨by rfl, ?_⟩) ?_ ?_
              rotate_left
              · intro w'
                go_simp
                with_reducible rfl
              rotate_left
              · simp only [Act.put, List.setIfInBounds_toArray, List.set_cons_zero, List.set_cons_succ, i64_w, i32_w]
                rfl
              refine done_ (by kernel_rfl) ?_
              clear e1 e2
              generalize (World.drew WD) = WE at *
              have cpE := blkc PE.out
              go_wp2_with fail
              clear cpE
              generalize hqn : (st.line.from_ + s.n % 4) = qn at *
              clear hqn
              have OKT := Lib.hid (OK.out.ack qn)
              have SMT := Lib.hid (simO_ack OK.out SM.out qn)
              have hul := ack_len OK.out qn
              have HLT : Hid ((x.ack qn).1.all.length ≤ k + 1 ∧ (x.ack qn).1.first ≤ 1125899906842624) := Lib.hid ⟨by rw [(ack_all x qn).1]; omega, by rw [(ack_all x qn).2]; exact hxf⟩
              obtain ⟨hgm, hgxm, hvl, hvxl⟩ := TE.out.lt
              have HVXL := Lib.hid hvxl
              clear hvl hvxl
              have hwm := BE.out.size
              refine (ack_any qn OK.out TE.out.1 hgw BE.out hwl).mono ?_
              rintro e w5 ⟨r5, rfl, hp5⟩
              obtain ⟨v5, ht5, hr5, hv5, hs5, hb5⟩ := TE.out.first hp5
              have T5 := Lib.hid ht5
              have R5 := Lib.hid hr5
              have HV5 := Lib.hid hv5
              have B5 := Lib.hid hb5
              clear hp5 ht5 hr5 hv5 hb5
              generalize hm : WE.heap.size = m at *
              clear hm
              obtain ⟨AA, cA, rfl⟩ := Kd.R_slice R5.out
              go_wp2_with fail
              have H6 := refAck_any qn XOK.out T5.out.2.1 hgxw B5.out
              rw [← SMT.out.1] at H6
              refine H6.mono ?_
              clear H6
              rintro e w6 ⟨r6, rfl, hp6⟩
              obtain ⟨vx6, ht6, hr6, hr7, hx6, hs6, hb6⟩ := T5.out.second hgm hgxm HVXL.out R5.out HV5.out hp6
              have T6 := Lib.hid ht6
              have R6 := Lib.hid hr6
              have R7 := Lib.hid hr7
              have HV6 := HV5
              have HX6 := Lib.hid hx6
              have B6 := Lib.hid hb6
              have hm6 : m ≤ w6.heap.size := by omega
              have hol : (st.ack qn).2.length ≤ 1099511627776 := by omega
              clear hp6 ht6 hr6 hr7 hx6 hb6
              obtain ⟨AB, cB, rfl⟩ := Kd.R_slice R7.out
              go_wp2_with fail
              refine (same_any _ AA AB cA cB _ ((Kd.R_reads' R6.out).2.2) ((Kd.R_reads' R7.out).2.2)).mono ?_
              rintro e w7 ⟨rfl, nC, rfl⟩
              have T8 := Lib.hid (T6.out.drewN nC)
              have R8 := Lib.hid (Kd.R_drewN R6.out nC)
              have B8 := Lib.hid (pw_below_drewN B6.out nC)
              have hm8 : m ≤ (World.drewN w6 nC).heap.size := hm6
              clear T6 R6 R7 B6
              generalize (World.drewN w6 nC) = W8 at *
              go_wp2_with fail
              refine (own_any (w0 := w) R8.out hwm B8.out hm8 hol).mono ?_
              rintro e w9 ⟨rfl, hk9, hb9⟩
              have T9 := Lib.hid (T8.out.third hgm hgxm R8.out HV6.out HX6.out hk9)
              have B9 := Lib.hid hb9
              clear hk9 hb9
              go_wp2_with fail
              go_roundg k1
              case measure => exact Nat.lt_succ_self _
              case rel => exact ⟨k + 1, (st.ack qn).1, (x.ack qn).1, _, _, rfl, Lib.hid (by have := HK.out; omega), OKT.out, SMT.out.2, HLT.out, T9.out, B9.out⟩
            | false =>
              by_cases h1m : s.n = 9223372036854775807
              · have m1 : (s.n == 9223372036854775807) = true := by simpa using h1m
                have HM1 := Lib.hid h1m
                clear h1m
                go_wp2_with fail
                clear cpD
                generalize hqn : s.n = qn at *
                clear hqn
                have OKT := Lib.hid (OK.out.ack qn)
                have SMT := Lib.hid (simO_ack OK.out SM.out qn)
                have hul := ack_len OK.out qn
                have HLT : Hid ((x.ack qn).1.all.length ≤ k + 1 ∧ (x.ack qn).1.first ≤ 1125899906842624) := Lib.hid ⟨by rw [(ack_all x qn).1]; omega, by rw [(ack_all x qn).2]; exact hxf⟩
                obtain ⟨hgm, hgxm, hvl, hvxl⟩ := TD.out.lt
                have HVXL := Lib.hid hvxl
                clear hvl hvxl
                have hwm := BD.out.size
                refine (ack_any qn OK.out TD.out.1 hgw BD.out hwl).mono ?_
                rintro e w5 ⟨r5, rfl, hp5⟩
                obtain ⟨v5, ht5, hr5, hv5, hs5, hb5⟩ := TD.out.first hp5
                have T5 := Lib.hid ht5
                have R5 := Lib.hid hr5
                have HV5 := Lib.hid hv5
                have B5 := Lib.hid hb5
                clear hp5 ht5 hr5 hv5 hb5
                generalize hm : WD.heap.size = m at *
                clear hm
                obtain ⟨AA, cA, rfl⟩ := Kd.R_slice R5.out
                go_wp2_with fail
                have H6 := refAck_any qn XOK.out T5.out.2.1 hgxw B5.out
                rw [← SMT.out.1] at H6
                refine H6.mono ?_
                clear H6
                rintro e w6 ⟨r6, rfl, hp6⟩
                obtain ⟨vx6, ht6, hr6, hr7, hx6, hs6, hb6⟩ := T5.out.second hgm hgxm HVXL.out R5.out HV5.out hp6
                have T6 := Lib.hid ht6
                have R6 := Lib.hid hr6
                have R7 := Lib.hid hr7
                have HV6 := HV5
                have HX6 := Lib.hid hx6
                have B6 := Lib.hid hb6
                have hm6 : m ≤ w6.heap.size := by omega
                have hol : (st.ack qn).2.length ≤ 1099511627776 := by omega
                clear hp6 ht6 hr6 hr7 hx6 hb6
                obtain ⟨AB, cB, rfl⟩ := Kd.R_slice R7.out
                go_wp2_with fail
                refine (same_any _ AA AB cA cB _ ((Kd.R_reads' R6.out).2.2) ((Kd.R_reads' R7.out).2.2)).mono ?_
                rintro e w7 ⟨rfl, nC, rfl⟩
                have T8 := Lib.hid (T6.out.drewN nC)
                have R8 := Lib.hid (Kd.R_drewN R6.out nC)
                have B8 := Lib.hid (pw_below_drewN B6.out nC)
                have hm8 : m ≤ (World.drewN w6 nC).heap.size := hm6
                clear T6 R6 R7 B6
                generalize (World.drewN w6 nC) = W8 at *
                go_wp2_with fail
                refine (own_any (w0 := w) R8.out hwm B8.out hm8 hol).mono ?_
                rintro e w9 ⟨rfl, hk9, hb9⟩
                have T9 := Lib.hid (T8.out.third hgm hgxm R8.out HV6.out HX6.out hk9)
                have B9 := Lib.hid hb9
                clear hk9 hb9
                go_wp2_with fail
                go_roundg k1
                case measure => exact Nat.lt_succ_self _
                case rel => exact ⟨k + 1, (st.ack qn).1, (x.ack qn).1, _, _, rfl, Lib.hid (by have := HK.out; omega), OKT.out, SMT.out.2, HLT.out, T9.out, B9.out⟩
              · have m1 : (s.n == 9223372036854775807) = false := by simpa using h1m
                by_cases h2m : s.n = -9223372036854775808
                · have m2 : (s.n == -9223372036854775808) = true := by simpa using h2m
                  have HM1 := Lib.hid h1m
                  have HM2 := Lib.hid h2m
                  clear h1m h2m
                  go_wp2_with fail
                  clear cpD
                  generalize hqn : s.n = qn at *
                  clear hqn
                  have OKT := Lib.hid (OK.out.ack qn)
                  have SMT := Lib.hid (simO_ack OK.out SM.out qn)
                  have hul := ack_len OK.out qn
                  have HLT : Hid ((x.ack qn).1.all.length ≤ k + 1 ∧ (x.ack qn).1.first ≤ 1125899906842624) := Lib.hid ⟨by rw [(ack_all x qn).1]; omega, by rw [(ack_all x qn).2]; exact hxf⟩
                  obtain ⟨hgm, hgxm, hvl, hvxl⟩ := TD.out.lt
                  have HVXL := Lib.hid hvxl
                  clear hvl hvxl
                  have hwm := BD.out.size
                  refine (ack_any qn OK.out TD.out.1 hgw BD.out hwl).mono ?_
                  rintro e w5 ⟨r5, rfl, hp5⟩
                  obtain ⟨v5, ht5, hr5, hv5, hs5, hb5⟩ := TD.out.first hp5
                  have T5 := Lib.hid ht5
                  have R5 := Lib.hid hr5
                  have HV5 := Lib.hid hv5
                  have B5 := Lib.hid hb5
                  clear hp5 ht5 hr5 hv5 hb5
                  generalize hm : WD.heap.size = m at *
                  clear hm
                  obtain ⟨AA, cA, rfl⟩ := Kd.R_slice R5.out
                  go_wp2_with fail
                  have H6 := refAck_any qn XOK.out T5.out.2.1 hgxw B5.out
                  rw [← SMT.out.1] at H6
                  refine H6.mono ?_
                  clear H6
                  rintro e w6 ⟨r6, rfl, hp6⟩
                  obtain ⟨vx6, ht6, hr6, hr7, hx6, hs6, hb6⟩ := T5.out.second hgm hgxm HVXL.out R5.out HV5.out hp6
                  have T6 := Lib.hid ht6
                  have R6 := Lib.hid hr6
                  have R7 := Lib.hid hr7
                  have HV6 := HV5
                  have HX6 := Lib.hid hx6
                  have B6 := Lib.hid hb6
                  have hm6 : m ≤ w6.heap.size := by omega
                  have hol : (st.ack qn).2.length ≤ 1099511627776 := by omega
                  clear hp6 ht6 hr6 hr7 hx6 hb6
                  obtain ⟨AB, cB, rfl⟩ := Kd.R_slice R7.out
                  go_wp2_with fail
                  refine (same_any _ AA AB cA cB _ ((Kd.R_reads' R6.out).2.2) ((Kd.R_reads' R7.out).2.2)).mono ?_
                  rintro e w7 ⟨rfl, nC, rfl⟩
                  have T8 := Lib.hid (T6.out.drewN nC)
                  have R8 := Lib.hid (Kd.R_drewN R6.out nC)
                  have B8 := Lib.hid (pw_below_drewN B6.out nC)
                  have hm8 : m ≤ (World.drewN w6 nC).heap.size := hm6
                  clear T6 R6 R7 B6
                  generalize (World.drewN w6 nC) = W8 at *
                  go_wp2_with fail
                  refine (own_any (w0 := w) R8.out hwm B8.out hm8 hol).mono ?_
                  rintro e w9 ⟨rfl, hk9, hb9⟩
                  have T9 := Lib.hid (T8.out.third hgm hgxm R8.out HV6.out HX6.out hk9)
                  have B9 := Lib.hid hb9
                  clear hk9 hb9
                  go_wp2_with fail
                  go_roundg k1
                  case measure => exact Nat.lt_succ_self _
                  case rel => exact ⟨k + 1, (st.ack qn).1, (x.ack qn).1, _, _, rfl, Lib.hid (by have := HK.out; omega), OKT.out, SMT.out.2, HLT.out, T9.out, B9.out⟩
                · have m2 : (s.n == -9223372036854775808) = false := by simpa using h2m
                  have HM1 := Lib.hid h1m
                  have HM2 := Lib.hid h2m
                  clear h1m h2m
                  go_wp2_with fail
                  clear cpD
                  generalize hqn : (st.line.from_ + s.n % 200 - 100) = qn at *
                  clear hqn
                  have OKT := Lib.hid (OK.out.ack qn)
                  have SMT := Lib.hid (simO_ack OK.out SM.out qn)
                  have hul := ack_len OK.out qn
                  have HLT : Hid ((x.ack qn).1.all.length ≤ k + 1 ∧ (x.ack qn).1.first ≤ 1125899906842624) := Lib.hid ⟨by rw [(ack_all x qn).1]; omega, by rw [(ack_all x qn).2]; exact hxf⟩
                  obtain ⟨hgm, hgxm, hvl, hvxl⟩ := TD.out.lt
                  have HVXL := Lib.hid hvxl
                  clear hvl hvxl
                  have hwm := BD.out.size
                  refine (ack_any qn OK.out TD.out.1 hgw BD.out hwl).mono ?_
                  rintro e w5 ⟨r5, rfl, hp5⟩
                  obtain ⟨v5, ht5, hr5, hv5, hs5, hb5⟩ := TD.out.first hp5
                  have T5 := Lib.hid ht5
                  have R5 := Lib.hid hr5
                  have HV5 := Lib.hid hv5
                  have B5 := Lib.hid hb5
                  clear hp5 ht5 hr5 hv5 hb5
                  generalize hm : WD.heap.size = m at *
                  clear hm
                  obtain ⟨AA, cA, rfl⟩ := Kd.R_slice R5.out
                  go_wp2_with fail
                  have H6 := refAck_any qn XOK.out T5.out.2.1 hgxw B5.out
                  rw [← SMT.out.1] at H6
                  refine H6.mono ?_
                  clear H6
                  rintro e w6 ⟨r6, rfl, hp6⟩
                  obtain ⟨vx6, ht6, hr6, hr7, hx6, hs6, hb6⟩ := T5.out.second hgm hgxm HVXL.out R5.out HV5.out hp6
                  have T6 := Lib.hid ht6
                  have R6 := Lib.hid hr6
                  have R7 := Lib.hid hr7
                  have HV6 := HV5
                  have HX6 := Lib.hid hx6
                  have B6 := Lib.hid hb6
                  have hm6 : m ≤ w6.heap.size := by omega
                  have hol : (st.ack qn).2.length ≤ 1099511627776 := by omega
                  clear hp6 ht6 hr6 hr7 hx6 hb6
                  obtain ⟨AB, cB, rfl⟩ := Kd.R_slice R7.out
                  go_wp2_with fail
                  refine (same_any _ AA AB cA cB _ ((Kd.R_reads' R6.out).2.2) ((Kd.R_reads' R7.out).2.2)).mono ?_
                  rintro e w7 ⟨rfl, nC, rfl⟩
                  have T8 := Lib.hid (T6.out.drewN nC)
                  have R8 := Lib.hid (Kd.R_drewN R6.out nC)
                  have B8 := Lib.hid (pw_below_drewN B6.out nC)
                  have hm8 : m ≤ (World.drewN w6 nC).heap.size := hm6
                  clear T6 R6 R7 B6
                  generalize (World.drewN w6 nC) = W8 at *
                  go_wp2_with fail
                  refine (own_any (w0 := w) R8.out hwm B8.out hm8 hol).mono ?_
                  rintro e w9 ⟨rfl, hk9, hb9⟩
                  have T9 := Lib.hid (T8.out.third hgm hgxm R8.out HV6.out HX6.out hk9)
                  have B9 := Lib.hid hb9
                  clear hk9 hb9
                  go_wp2_with fail
                  go_roundg k1
                  case measure => exact Nat.lt_succ_self _
                  case rel => exact ⟨k + 1, (st.ack qn).1, (x.ack qn).1, _, _, rfl, Lib.hid (by have := HK.out; omega), OKT.out, SMT.out.2, HLT.out, T9.out, B9.out⟩
          | false =>
            go_wp2_with fail
            clear cp
            have TD := Lib.hid (T4.out.below (below_drew (Below.refl _ _)))
            have BD := Lib.hid B4.out.drew
            have e5 : IntKind.i64.wrap (st.sent - st.line.from_) = st.sent - st.line.from_ := IntWalk.i64_in _ (by omega)
            have e6 : wrap64 (st.sent - st.line.from_) = st.sent - st.line.from_ := by rw [← i64_w]; exact e5
            clear T4 B4
            refine start_ (n := 28) (S := fun w' => (w'.cell? ⟨gx, 7, none⟩ = some (.int .i64 st.line.from_)) ∧ (w'.cell? ⟨gx, 8, none⟩ = some (.int .i64 st.sent))) (ds := []) #[false, false, false, false, false, false, false, false, false, false, false, false, false, false, false, false, false, false, false, false, false, false, false, false, false, false, false, false] (by kernel_rfl) rfl rfl ⟨(by have h := TD.out.r.1; have h2 := blkc h 7; rw [← SM.out.acked]; exact h2), (by have h := TD.out.r.1; have h2 := blkc h 8; rw [← SM.out.sent]; exact h2)⟩ (fun hHeld => ?_)
            refine pure_ (i := 0) (N := some 59) (v := ?_) (a' := ?_) #[true, false, false, false, false, false, false, false, false, false, false, false, false, false, false, false, false, false, false, false, false, false, false, false, false, false, false, false] rfl rfl (by kernel_rfl) (fun _ _ _ h => h) (Or.inl ⟨by rfl, ?_⟩) ?_ ?_
            rotate_left
            · intro w'
              go_simp
              with_reducible rfl
            rotate_left
            · simp only [Act.put, List.setIfInBounds_toArray, List.set_cons_zero, List.set_cons_succ, i64_w, i32_w]
              rfl
            refine pure_ (i := 2) (N := some 61) (v := ?_) (a' := ?_) #[true, false, true, false, false, false, false, false, false, false, false, false, false, false, false, false, false, false, false, false, false, false, false, false, false, false, false, false] rfl rfl (by kernel_rfl) (fun _ _ _ h => h) (Or.inl ⟨by rfl, ?_⟩) ?_ ?_
            rotate_left
            · intro w'
              go_simp
              with_reducible rfl
            rotate_left
            · simp only [Act.put, List.setIfInBounds_toArray, List.set_cons_zero, List.set_cons_succ, i64_w, i32_w]
              rfl
            refine pure_ (i := 3) (N := some 62) (v := ?_) (a' := ?_) #[true, false, true, true, false, false, false, false, false, false, false, false, false, false, false, false, false, false, false, false, false, false, false, false, false, false, false, false] rfl rfl (by kernel_rfl) (fun _ _ _ h => h) (Or.inl ⟨by rfl, ?_⟩) ?_ ?_
            rotate_left
            · intro w'
              go_simp
              with_reducible rfl
            rotate_left
            · simp only [Act.put, List.setIfInBounds_toArray, List.set_cons_zero, List.set_cons_succ, i64_w, i32_w]
              rfl
            refine pure_ (i := 4) (N := some 63) (v := ?_) (a' := ?_) #[true, false, true, true, true, false, false, false, false, false, false, false, false, false, false, false, false, false, false, false, false, false, false, false, false, false, false, false] rfl rfl (by kernel_rfl) (fun _ _ _ h => h) (Or.inl ⟨by rfl, ?_⟩) ?_ ?_
            rotate_left
            · intro w'
              go_simp
              with_reducible rfl
            rotate_left
            · simp only [Act.put, List.setIfInBounds_toArray, List.set_cons_zero, List.set_cons_succ, i64_w, i32_w]
              rfl
            refine take_ (i := 5) (N := some 64) (v := ?_) (a' := ?_) #[true, false, true, true, true, true, false, false, false, false, false, false, false, false, false, false, false, false, false, false, false, false, false, false, false, false, false, false] rfl rfl (by kernel_rfl) (fun _ _ _ h => h) (Or.inl ⟨by rfl, ?_⟩) hHeld ?_ ?_
            rotate_left
            · rintro w' ⟨s0, s1⟩
              go_simp
              with_reducible rfl
            rotate_left
            · simp only [Act.put, List.setIfInBounds_toArray, List.set_cons_zero, List.set_cons_succ, i64_w, i32_w]
              rfl
            refine one_ (i := 1) (N := some 60) #[true, true, true, true, true, true, false, false, false, false, false, false, false, false, false, false, false, false, false, false, false, false, false, false, false, false, false, false] rfl rfl (by kernel_rfl) (by decide) (fun K hK => ?_)
            refine goes_ Try.func19 (by kernel_rfl) rfl #[.pointer (some ⟨g, 0, none⟩)] (by rfl) rfl rfl (by simp only [List.map_toArray, List.map_cons, List.map_nil]; rfl) ?_
            with_reducible refine (acked_any (TD.out.o.made OK.out) TD.out.o.from_).mono ?_
            rintro e w1 ⟨rfl, rfl⟩
            refine ⟨_, rfl, ?_⟩
            refine hK.out _ _ ⟨hHeld.1, hHeld.2⟩ (fun hHeld => ?_)
            clear hK K
            refine norm_ (a' := ?_) ?_ ?_
            rotate_left
            · show Act.put _ (some 60) _ = _
              simp only [Act.put, List.setIfInBounds_toArray, List.set_cons_zero, List.set_cons_succ, i64_w, i32_w]
              rfl
            refine pure_ (i := 6) (N := some 65) (v := ?_) (a' := ?_) #[true, true, true, true, true, true, true, false, false, false, false, false, false, false, false, false, false, false, false, false, false, false, false, false, false, false, false, false] rfl rfl (by kernel_rfl) (fun _ _ _ h => h) (Or.inl ⟨by rfl, ?_⟩) ?_ ?_
            rotate_left
            · intro w'
              go_simp
              with_reducible rfl
            rotate_left
            · simp only [Act.put, List.setIfInBounds_toArray, List.set_cons_zero, List.set_cons_succ, i64_w, i32_w]
              rfl
            refine pure_ (i := 7) (N := some 66) (v := ?_) (a' := ?_) #[true, true, true, true, true, true, true, true, false, false, false, false, false, false, false, false, false, false, false, false, false, false, false, false, false, false, false, false] rfl rfl (by kernel_rfl) (fun _ _ _ h => h) (Or.inl ⟨by rfl, ?_⟩) ?_ ?_
            rotate_left
            · intro w'
              go_simp
              with_reducible rfl
            rotate_left
            · simp only [Act.put, List.setIfInBounds_toArray, List.set_cons_zero, List.set_cons_succ, i64_w, i32_w]
              rfl
            refine pure_ (i := 8) (N := some 67) (v := ?_) (a' := ?_) #[true, true, true, true, true, true, true, true, true, false, false, false, false, false, false, false, false, false, false, false, false, false, false, false, false, false, false, false] rfl rfl (by kernel_rfl) (fun _ _ _ h => h) (Or.inl ⟨by rfl, ?_⟩) ?_ ?_
            rotate_left
            · intro w'
              go_simp
              with_reducible rfl
            rotate_left
            · simp only [Act.put, List.setIfInBounds_toArray, List.set_cons_zero, List.set_cons_succ, i64_w, i32_w]
              rfl
            refine pure_ (i := 10) (N := some 69) (v := ?_) (a' := ?_) #[true, true, true, true, true, true, true, true, true, false, true, false, false, false, false, false, false, false, false, false, false, false, false, false, false, false, false, false] rfl rfl (by kernel_rfl) (fun _ _ _ h => h) (Or.inl ⟨by rfl, ?_⟩) ?_ ?_
            rotate_left
            · intro w'
              go_simp
              with_reducible rfl
            rotate_left
            · simp only [Act.put, List.setIfInBounds_toArray, List.set_cons_zero, List.set_cons_succ, i64_w, i32_w]
              rfl
            refine one_ (i := 9) (N := some 68) #[true, true, true, true, true, true, true, true, true, true, true, false, false, false, false, false, false, false, false, false, false, false, false, false, false, false, false, false] rfl rfl (by kernel_rfl) (by decide) (fun K hK => ?_)
            refine goes_ Try.func20 (by kernel_rfl) rfl #[.pointer (some ⟨g, 0, none⟩)] (by rfl) rfl rfl (by simp only [List.map_toArray, List.map_cons, List.map_nil]; rfl) ?_
            with_reducible refine (last_any (TD.out.o.made OK.out) TD.out.o.last).mono ?_
            rintro e w1 ⟨rfl, rfl⟩
            refine ⟨_, rfl, ?_⟩
            refine hK.out _ _ ⟨hHeld.1, hHeld.2⟩ (fun hHeld => ?_)
            clear hK K
            refine norm_ (a' := ?_) ?_ ?_
            rotate_left
            · show Act.put _ (some 68) _ = _
              simp only [Act.put, List.setIfInBounds_toArray, List.set_cons_zero, List.set_cons_succ, i64_w, i32_w]
              rfl
            refine one_ (i := 11) (N := some 70) #[true, true, true, true, true, true, true, true, true, true, true, true, false, false, false, false, false, false, false, false, false, false, false, false, false, false, false, false] rfl rfl (by kernel_rfl) (by decide) (fun K hK => ?_)
            refine goes_ Try.func24 (by kernel_rfl) rfl #[.pointer (some ⟨gx, 0, none⟩)] (by rfl) rfl rfl (by simp only [List.map_toArray, List.map_cons, List.map_nil]; rfl) ?_
            with_reducible refine (refLastL (L := st.last) TD.out.r SM.out.last hf0 (by omega) (by omega)).mono ?_
            rintro e w1 ⟨rfl, nE, rfl⟩
            refine ⟨_, rfl, ?_⟩
            have TE := Lib.hid (TD.out.drewN nE)
            have BE := Lib.hid (pw_below_drewN BD.out nE)
            clear TD BD
            generalize (World.drewN _ nE) = WE at *
            refine hK.out _ _ ⟨(by have h := TE.out.r.1; have h2 := blkc h 7; rw [← SM.out.acked]; exact h2), (by have h := TE.out.r.1; have h2 := blkc h 8; rw [← SM.out.sent]; exact h2)⟩ (fun hHeld => ?_)
            clear hK K
            refine norm_ (a' := ?_) ?_ ?_
            rotate_left
            · show Act.put _ (some 70) _ = _
              simp only [Act.put, List.setIfInBounds_toArray, List.set_cons_zero, List.set_cons_succ, i64_w, i32_w]
              rfl
            refine pure_ (i := 12) (N := some 71) (v := ?_) (a' := ?_) #[true, true, true, true, true, true, true, true, true, true, true, true, true, false, false, false, false, false, false, false, false, false, false, false, false, false, false, false] rfl rfl (by kernel_rfl) (fun _ _ _ h => h) (Or.inl ⟨by rfl, ?_⟩) ?_ ?_
            rotate_left
            · intro w'
              go_simp
              with_reducible rfl
            rotate_left
            · simp only [Act.put, List.setIfInBounds_toArray, List.set_cons_zero, List.set_cons_succ, i64_w, i32_w]
              rfl
            refine pure_ (i := 13) (N := some 72) (v := ?_) (a' := ?_) #[true, true, true, true, true, true, true, true, true, true, true, true, true, true, false, false, false, false, false, false, false, false, false, false, false, false, false, false] rfl rfl (by kernel_rfl) (fun _ _ _ h => h) (Or.inl ⟨by rfl, ?_⟩) ?_ ?_
            rotate_left
            · intro w'
              go_simp
              with_reducible rfl
            rotate_left
            · simp only [Act.put, List.setIfInBounds_toArray, List.set_cons_zero, List.set_cons_succ, i64_w, i32_w]
              rfl
            refine pure_ (i := 14) (N := some 73) (v := ?_) (a' := ?_) #[true, true, true, true, true, true, true, true, true, true, true, true, true, true, true, false, false, false, false, false, false, false, false, false, false, false, false, false] rfl rfl (by kernel_rfl) (fun _ _ _ h => h) (Or.inl ⟨by rfl, ?_⟩) ?_ ?_
            rotate_left
            · intro w'
              go_simp
              with_reducible rfl
            rotate_left
            · simp only [Act.put, List.setIfInBounds_toArray, List.set_cons_zero, List.set_cons_succ, i64_w, i32_w]
              rfl
            refine pure_ (i := 15) (N := some 74) (v := ?_) (a' := ?_) #[true, true, true, true, true, true, true, true, true, true, true, true, true, true, true, true, false, false, false, false, false, false, false, false, false, false, false, false] rfl rfl (by kernel_rfl) (fun _ _ _ h => h) (Or.inl ⟨by rfl, ?_⟩) ?_ ?_
            rotate_left
            · intro w'
              go_simp
              with_reducible rfl
            rotate_left
            · simp only [Act.put, List.setIfInBounds_toArray, List.set_cons_zero, List.set_cons_succ, i64_w, i32_w]
              rfl
            refine pure_ (i := 17) (N := some 76) (v := ?_) (a' := ?_) #[true, true, true, true, true, true, true, true, true, true, true, true, true, true, true, true, false, true, false, false, false, false, false, false, false, false, false, false] rfl rfl (by kernel_rfl) (fun _ _ _ h => h) (Or.inl ⟨by rfl, ?_⟩) ?_ ?_
            rotate_left
            · intro w'
              go_simp
              with_reducible rfl
            rotate_left
            · simp only [Act.put, List.setIfInBounds_toArray, List.set_cons_zero, List.set_cons_succ, i64_w, i32_w]
              rfl
            refine pure_ (i := 18) (N := some 77) (v := ?_) (a' := ?_) #[true, true, true, true, true, true, true, true, true, true, true, true, true, true, true, true, false, true, true, false, false, false, false, false, false, false, false, false] rfl rfl (by kernel_rfl) (fun _ _ _ h => h) (Or.inl ⟨by rfl, ?_⟩) ?_ ?_
            rotate_left
            · intro w'
              go_simp
              with_reducible rfl
            rotate_left
            · simp only [Act.put, List.setIfInBounds_toArray, List.set_cons_zero, List.set_cons_succ, i64_w, i32_w]
              rfl
            refine pure_ (i := 19) (N := some 78) (v := ?_) (a' := ?_) #[true, true, true, true, true, true, true, true, true, true, true, true, true, true, true, true, false, true, true, true, false, false, false, false, false, false, false, false] rfl rfl (by kernel_rfl) (fun _ _ _ h => h) (Or.inl ⟨by rfl, ?_⟩) ?_ ?_
            rotate_left
            · intro w'
              go_simp
              with_reducible rfl
            rotate_left
            · simp only [Act.put, List.setIfInBounds_toArray, List.set_cons_zero, List.set_cons_succ, i64_w, i32_w]
              rfl
            refine pure_ (i := 21) (N := some 80) (v := ?_) (a' := ?_) #[true, true, true, true, true, true, true, true, true, true, true, true, true, true, true, true, false, true, true, true, false, true, false, false, false, false, false, false] rfl rfl (by kernel_rfl) (fun _ _ _ h => h) (Or.inl ⟨by rfl, ?_⟩) ?_ ?_
            rotate_left
            · intro w'
              go_simp
              with_reducible rfl
            rotate_left
            · simp only [Act.put, List.setIfInBounds_toArray, List.set_cons_zero, List.set_cons_succ, i64_w, i32_w]
              rfl
            refine pure_ (i := 22) (N := some 81) (v := ?_) (a' := ?_) #[true, true, true, true, true, true, true, true, true, true, true, true, true, true, true, true, false, true, true, true, false, true, true, false, false, false, false, false] rfl rfl (by kernel_rfl) (fun _ _ _ h => h) (Or.inl ⟨by rfl, ?_⟩) ?_ ?_
            rotate_left
            · intro w'
              go_simp
              with_reducible rfl
            rotate_left
            · simp only [Act.put, List.setIfInBounds_toArray, List.set_cons_zero, List.set_cons_succ, i64_w, i32_w]
              rfl
            refine pure_ (i := 23) (N := some 82) (v := ?_) (a' := ?_) #[true, true, true, true, true, true, true, true, true, true, true, true, true, true, true, true, false, true, true, true, false, true, true, true, false, false, false, false] rfl rfl (by kernel_rfl) (fun _ _ _ h => h) (Or.inl ⟨by rfl, ?_⟩) ?_ ?_
            rotate_left
            · intro w'
              go_simp
              with_reducible rfl
            rotate_left
            · simp only [Act.put, List.setIfInBounds_toArray, List.set_cons_zero, List.set_cons_succ, i64_w, i32_w]
              rfl
            refine take_ (i := 20) (N := some 79) (v := ?_) (a' := ?_) #[true, true, true, true, true, true, true, true, true, true, true, true, true, true, true, true, false, true, true, true, true, true, true, true, false, false, false, false] rfl rfl (by kernel_rfl) (fun _ _ _ h => h) (Or.inl ⟨by rfl, ?_⟩) hHeld ?_ ?_
            rotate_left
            · rintro w' ⟨s0, s1⟩
              go_simp
              with_reducible rfl
            rotate_left
            · simp only [Act.put, List.setIfInBounds_toArray, List.set_cons_zero, List.set_cons_succ, i64_w, i32_w]
              rfl
            refine take_ (i := 24) (N := some 83) (v := ?_) (a' := ?_) #[true, true, true, true, true, true, true, true, true, true, true, true, true, true, true, true, false, true, true, true, true, true, true, true, true, false, false, false] rfl rfl (by kernel_rfl) (fun _ _ _ h => h) (Or.inl ⟨by rfl, ?_⟩) hHeld ?_ ?_
            rotate_left
            · rintro w' ⟨s0, s1⟩
              go_simp
              with_reducible rfl
            rotate_left
            · simp only [Act.put, List.setIfInBounds_toArray, List.set_cons_zero, List.set_cons_succ, i64_w, i32_w]
              rfl
            refine pure_ (i := 25) (N := some 84) (v := ?_) (a' := ?_) #[true, true, true, true, true, true, true, true, true, true, true, true, true, true, true, true, false, true, true, true, true, true, true, true, true, true, false, false] rfl rfl (by kernel_rfl) (fun _ _ _ h => h) (Or.inl ⟨by rfl, ?_⟩) ?_ ?_
            rotate_left
            · intro w'
              go_simp
              with_reducible rfl
            rotate_left
            · simp only [Act.put, List.setIfInBounds_toArray, List.set_cons_zero, List.set_cons_succ, i64_w, i32_w]
              rfl
            refine one_ (i := 16) (N := some 75) #[true, true, true, true, true, true, true, true, true, true, true, true, true, true, true, true, true, true, true, true, true, true, true, true, true, true, false, false] rfl rfl (by kernel_rfl) (by decide) (fun K hK => ?_)
            refine goes_ Try.func21 (by kernel_rfl) rfl #[.pointer (some ⟨g, 0, none⟩)] (by rfl) rfl rfl (by simp only [List.map_toArray, List.map_cons, List.map_nil]; rfl) ?_
            with_reducible refine (under_any (TE.out.o.made OK.out) TE.out.o.from_ TE.out.o.sent hff hfs (by omega)).mono ?_
            rintro e w1 ⟨rfl, nF, rfl⟩
            refine ⟨_, rfl, ?_⟩
            have TF := Lib.hid (TE.out.drewN nF)
            have BF := Lib.hid (pw_below_drewN BE.out nF)
            clear TE BE
            generalize (World.drewN _ nF) = WF at *
            refine hK.out _ _ ⟨(by have h := TF.out.r.1; have h2 := blkc h 7; rw [← SM.out.acked]; exact h2), (by have h := TF.out.r.1; have h2 := blkc h 8; rw [← SM.out.sent]; exact h2)⟩ (fun hHeld => ?_)
            clear hK K
            refine norm_ (a' := ?_) ?_ ?_
            rotate_left
            · show Act.put _ (some 75) _ = _
              simp only [Act.put, List.setIfInBounds_toArray, List.set_cons_zero, List.set_cons_succ, i64_w, i32_w]
              rfl
            refine pure_ (i := 26) (N := some 85) (v := ?_) (a' := ?_) #[true, true, true, true, true, true, true, true, true, true, true, true, true, true, true, true, true, true, true, true, true, true, true, true, true, true, true, false] rfl rfl (by kernel_rfl) (fun _ _ _ h => h) (Or.inl ⟨by rfl, ?_⟩) ?_ ?_
            rotate_left
            · intro w'
              go_simp
              with_reducible rfl
            rotate_left
            · simp only [Act.put, List.setIfInBounds_toArray, List.set_cons_zero, List.set_cons_succ, i64_w, i32_w]
              rfl
            refine pure_ (i := 27) (N := some 86) (v := ?_) (a' := ?_) #[true, true, true, true, true, true, true, true, true, true, true, true, true, true, true, true, true, true, true, true, true, true, true, true, true, true, true, true] rfl rfl (by kernel_rfl) (fun _ _ _ h => h) (Or.inl ⟨by rfl, ?_⟩) ?_ ?_
            rotate_left
            · intro w'
              go_simp
              with_reducible rfl
            rotate_left
            · simp only [Act.put, List.setIfInBounds_toArray, List.set_cons_zero, List.set_cons_succ, i64_w, i32_w]
              rfl
            refine done_ (by kernel_rfl) ?_
            go_wp2_with fail
            go_roundg k1
            case measure => exact Nat.lt_succ_self _
            case rel => exact ⟨k + 1, st, x, _, _, rfl, Lib.hid (by have := HK.out; omega), OK.out, SM.out, Lib.hid ⟨by omega, hxf⟩, TF.out, BF.out⟩
end Go.Proofs.Ytofmgijdeeikeaa.Hop
namespace Go.Proofs.Ytofmgijdeeikeaa.Walk
open Go.RowKit Go.Proofs.Ytofmgijdeeikeaa.Opn Go.Proofs.Ytofmgijdeeikeaa.Hop Go.Proofs.YtofmgijdeeikeaaW.PrintWords
theorem HopOuts (x : BegT) (cs : List Value) (l : List Step) (A : Option Addr) (n : Nat) (W : World) (hc : kBeg.K W x cs) (hp : pBeg x) (hl : l.length ≤ n) (hC : kStep.C W A l.length l) (hm : l.length ≤ 9223372036854775807) (hq : ∀ a ∈ l, pStep a) (hr : l.length * Try.prog.bytesOf 53 ≤ 140737488351232) :
    Calls Try.prog 6 #[.agg cs.toArray, .slice A l.length n] W fun e W' => e = .returned (.bool true) ∧ Below W.heap.size W W' := by
  obtain rfl := kBeg_cells hc
  rw [bytesStep] at hr
  exact Hop.outs_any _ _ _ l A n W hl hr hC
end Go.Proofs.Ytofmgijdeeikeaa.Walk
