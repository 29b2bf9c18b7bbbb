/- HopIns, walked. -/
import Derived.Test.YtofmgijdeeikeaaHopSim
import Derived.Test.YtofmgijdeeikeaaHopNews
set_option linter.unusedVariables false
set_option linter.unusedSimpArgs false
namespace Go.Proofs.Ytofmgijdeeikeaa.Hop
open Go.RowKit Go.Proofs.Ytofmgijdeeikeaa.Mem Go.Proofs.YtofmgijdeeikeaaW.PrintWords Go.Proofs.YtofmgijdeeikeaaW.PrintLast Go.Deep
abbrev tSt : TypeId := 53
/-- A call of a script, at one place. -/
theorem at_Step {w : World} {A : Option Addr} {n : Nat} {xs : List Opn.Step} (h : Opn.kStep.C w A n xs) {i : Nat} {s : Opn.Step} (hi : xs[i]? = some s) : ∃ ad, A = some ad ∧ w.cell? (ad.add (i * 9)) = some (.int .i64 s.call) ∧ w.cell? ⟨(ad.add (i * 9)).block, (ad.add (i * 9)).off + 1, none⟩ = some (.int .i64 s.n) ∧ w.cell? ⟨(ad.add (i * 9)).block, (ad.add (i * 9)).off + 2, none⟩ = some (.int .i64 s.u.seq) ∧ w.cell? ⟨(ad.add (i * 9)).block, (ad.add (i * 9)).off + 3, none⟩ = some (.int .i64 s.u.client) ∧ w.cell? ⟨(ad.add (i * 9)).block, (ad.add (i * 9)).off + 4, none⟩ = some (.int .i64 s.u.number) ∧ w.cell? ⟨(ad.add (i * 9)).block, (ad.add (i * 9)).off + 5, none⟩ = some (.int .i64 s.u.kind) ∧ w.cell? ⟨(ad.add (i * 9)).block, (ad.add (i * 9)).off + 6, none⟩ = some (.string s.u.key) ∧ w.cell? ⟨(ad.add (i * 9)).block, (ad.add (i * 9)).off + 7, none⟩ = some (.string s.u.value) ∧ w.cell? ⟨(ad.add (i * 9)).block, (ad.add (i * 9)).off + 8, none⟩ = some (.int .i64 s.u.version) := by
  have hl := (List.getElem?_eq_some_iff.1 hi).1
  obtain ⟨ad, c, ha, hcl, hK, hcell⟩ := Kd.C_get h s (i : Int) (by omega) (by have := h.1; omega)
  have hK' : c = s.cells := by simpa [Opn.kStep, List.getD_eq_getElem?_getD, hi] using hK
  subst hK'
  simp only [Int.toNat_natCast] at hcell
  refine ⟨ad, ha, ?_, ?_, ?_, ?_, ?_, ?_, ?_, ?_, ?_⟩
  · simpa [Opn.kStep] using hcell 0 _ rfl
  · rw [← add_field ad (i * 9) 1 (by omega)]; exact hcell 1 _ rfl
  · rw [← add_field ad (i * 9) 2 (by omega)]; exact hcell 2 _ rfl
  · rw [← add_field ad (i * 9) 3 (by omega)]; exact hcell 3 _ rfl
  · rw [← add_field ad (i * 9) 4 (by omega)]; exact hcell 4 _ rfl
  · rw [← add_field ad (i * 9) 5 (by omega)]; exact hcell 5 _ rfl
  · rw [← add_field ad (i * 9) 6 (by omega)]; exact hcell 6 _ rfl
  · rw [← add_field ad (i * 9) 7 (by omega)]; exact hcell 7 _ rfl
  · rw [← add_field ad (i * 9) 8 (by omega)]; exact hcell 8 _ rfl
theorem InR.kept {w w1 : World} {g : Nat} {s : InSt} {P : Nat → Prop} (h : InR w g s) (hk : Kept w w1 P) (hne : ¬ P g) : InR w1 g s := by
  obtain ⟨cs, G, C⟩ := h
  exact ⟨cs, blk_kept G hk hne, C⟩
theorem RIR.kept {w w1 : World} {b g : Nat} {v : Value} {x : RI} {P : Nat → Prop} (h : RIR w b g v x) (hk : Kept w w1 P) (hne : ¬ P g) (hv : ∀ k, v.ownBlock = some k → ¬ P k) : RIR w1 b g v x :=
  ⟨blk_kept h.1 hk hne, R_mine h.2 (fun k hk' => hk.2 k (Kd.R_lt h.2 k hk') (hv k hk'))⟩
theorem lay_zero (u : U) : lay #[Value.int .i64 0, .int .i64 0, .int .i64 0, .int .i64 0, .string ⟨#[]⟩, .string ⟨#[]⟩, .int .i64 0] 0 u = #[.int .i64 u.seq, .int .i64 u.client, .int .i64 u.number, .int .i64 u.kind, .string u.key, .string u.value, .int .i64 u.version] := by
  simp [lay]
set_option maxHeartbeats 6400000 in
set_option maxRecDepth 100000 in
theorem ins_any (bf bw bp : Int) (script : List Opn.Step) (Ag : Option Addr) (cg : Nat) (w : World) (hcg : script.length ≤ cg) (hlen : script.length * 88 ≤ 140737488351232) (hG : Opn.kStep.C w Ag script.length script) :
    Calls Try.prog 7 #[.agg #[.int .i64 bf, .int .i64 bw, .int .i64 bp], .slice Ag script.length cg] w fun e w' => e = .returned (.bool true) ∧ Below w.heap.size w w' := by
  have HG := Lib.hid hG
  have h1 := Int.emod_nonneg bf (show (1125899906842624 : Int) ≠ 0 by omega)
  have h2 := Int.emod_lt_of_pos bf (show (0 : Int) < 1125899906842624 by omega)
  have h3 := Int.emod_nonneg bw (show (64 : Int) ≠ 0 by omega)
  have h4 := Int.emod_lt_of_pos bw (show (0 : Int) < 64 by omega)
  have h5 := Int.emod_nonneg bp (show (100 : Int) ≠ 0 by omega)
  have h6 := Int.emod_lt_of_pos bp (show (0 : Int) < 100 by omega)
  have hus := Try.underlying26
  clear hG
  go_enter Try.func7, Try.ntmps7
  have B0 := Lib.hid (below_alloc (Below.refl w.heap.size w) (.cells #[.int .i64 bf, .int .i64 bw, .int .i64 bp] 23))
  have P0 := Lib.hid (blk_new w (.cells #[.int .i64 bf, .int .i64 bw, .int .i64 bp] 23))
  go_wp2_with fail
  refine (set_any bw bp _).mono ?_
  rintro e w1 ⟨rfl, hb1⟩
  have B1 := Lib.hid (below_then B0.out B0.out.size hb1)
  have P1 := Lib.hid (blk_below P0.out hb1)
  have c1 := blkc P1.out
  clear hb1 B0 P0
  generalize hf : bf % 1125899906842624 = f at *
  generalize hwi : bw % 64 + 1 = wi at *
  generalize hpa : bp % 100 + 1 = pa at *
  have HSB := Lib.hid (show setB 1 wi pa 64 1 = true by simp [setB, inB]; omega)
  have SE := Lib.hid (show setE 1 wi pa 64 1 = 0 by exact setE_0 HSB.out)
  have hw1 : 1 ≤ wi := by omega
  have hw2 : wi ≤ 64 := by omega
  have HF := Lib.hid hf
  clear hf hwi hpa h3 h4 h5 h6
  have P2 := Lib.hid (blk_below P1.out (below_alloc (Below.refl _ _) (.cells #[.int .i64 1, .int .i64 wi, .int .i64 pa, .int .i64 64, .int .i64 1] 26)))
  have S2 := Lib.hid (blk_new w1 (.cells #[.int .i64 1, .int .i64 wi, .int .i64 pa, .int .i64 64, .int .i64 1] 26))
  have c2 := blkc P2.out
  have cs2 := blkc S2.out
  go_wp2_with fail
  refine (place_any _ 1125899906842624 _ (by omega) (by omega)).mono ?_
  rintro e w' ⟨rfl, rfl⟩
  rw [HF.out]
  go_wp2_with fail
  refine (newIn_ok f 1 wi pa 64 1 _ ⟨h1, by omega⟩ SE.out).mono ?_
  rintro e w2 ⟨g, rfl, hg, hI, hb2⟩
  have B2 := Lib.hid (below_then (below_alloc B1.out _) (by simp; have := B1.out.size; omega) hb2)
  have I2 := Lib.hid (show InR w2 g ⟨lineNew f wi, 0⟩ from ⟨_, hI, InC.new f wi⟩)
  have OK2 := Lib.hid (InSt.Ok.new (n := f) (wi := wi) h1 (by omega) hw1 hw2)
  have hgw : w.heap.size ≤ g := by have := B1.out.size; simp at hg; omega
  have S3 := Lib.hid (blk_below S2.out hb2)
  have cs3 := blkc S3.out
  clear hb2 hI P1 c1 P2 c2 S2 cs2 B1 hg
  go_wp2_with fail
  refine (refNewIn_ok f 1 wi pa 64 1 _ ⟨h1, by omega⟩ HSB.out).mono ?_
  rintro e w3 ⟨gx, rfl, hgx, hX, hb3⟩
  have B3 := Lib.hid (below_then B2.out B2.out.size hb3)
  have I3 := Lib.hid (I2.out.below hb3)
  have hgxw : w.heap.size ≤ gx := by have := B2.out.size; omega
  have X3 := Lib.hid (show RIR w3 w.heap.size gx (.slice none 0 0) ⟨1, wi, pa, 64, 1, f + 1, []⟩ from ⟨hX, Kd.R_nil _ _ _ _ _⟩)
  have SM3 := Lib.hid (sim_new f wi 1 pa 64 1)
  clear hb3 hX hgx I2 B2 S3 cs3
  go_wp2_with fail
  have HN := Lib.hid (show (⟨lineNew f wi, 0⟩ : InSt).line.from_ = f from rfl)
  generalize hs0 : (⟨lineNew f wi, 0⟩ : InSt) = st0 at *
  generalize (⟨1, wi, pa, 64, 1, f + 1, []⟩ : RI) = x0 at *
  clear hs0
  go_loopg [47] script.length (fun kq v47 w' => ∃ (k : Nat) (st : InSt) (x : RI) (v : Value), v47 = .int .i64 (k : Int) ∧ Hid (k + kq = script.length) ∧ Hid st.Ok ∧ Hid (Sim st x) ∧ Hid (st.line.from_ ≤ f + 65 * k) ∧ Hid (InR w' g st) ∧ Hid (RIR w' w.heap.size gx v x) ∧ Hid (Below w.heap.size w w'))
  case atStart => exact ⟨0, st0, x0, _, rfl, (show _ + _ = _ by omega), OK2.out, SM3.out, Lib.hid (by rw [HN.out]; omega), I3.out, X3.out, B3.out⟩
  case round =>
    clear I3 X3 B3 SM3 OK2 HN
    obtain ⟨k, st, x, v, rfl, HK, OK, SM, HFB, I3, X3, B3⟩ := hrel
    have hfb := HFB.out
    have hst0 := OK.out.mid.f0
    cases gk with
    | zero =>
      have hk : k = script.length := HK.out
      have c2 : decide (k < script.length) = false := by simp; omega
      clear hk
      go_wp2_with fail
      refine (lives_any _).mono ?_
      rintro e w5 ⟨rfl, hb5⟩
      have B5 := Lib.hid (below_then B3.out B3.out.size hb5)
      clear hb5
      go_wp2_with fail
      go_ret
      exact ⟨rfl, B5.out⟩
    | succ k1 =>
      have hk : k < script.length := by have := HK.out; omega
      have hbd : st.line.from_ + 65 < 2305843009213693952 := by omega
      have hn0 : 0 ≤ x.next := by have := SM.out.next; omega
      have hnb : x.next + 1099511627777 < 2305843009213693952 := by have := SM.out.next; omega
      have hxw1 : 1 ≤ x.wi := by have := SM.out.wi; have := OK.out.mid.w1; omega
      have hxw2 : x.wi ≤ 64 := by have := SM.out.wi; have := OK.out.mid.w2; omega
      have hxl : x.held.length < 1099511627776 := by have := sim_len SM.out; omega
      have hu := List.getElem?_eq_getElem hk
      generalize script[k] = s at *
      obtain ⟨ad, hA, hx0, hx1, hx2, hx3, hx4, hx5, hx6, hx7, hx8⟩ := at_Step HG.out hu
      cases hA
      have hx0 := pw_cell_below (w1 := wr) B3.out hx0
      have hx1 := pw_cell_below (w1 := wr) B3.out hx1
      have hx2 := pw_cell_below (w1 := wr) B3.out hx2
      have hx3 := pw_cell_below (w1 := wr) B3.out hx3
      have hx4 := pw_cell_below (w1 := wr) B3.out hx4
      have hx5 := pw_cell_below (w1 := wr) B3.out hx5
      have hx6 := pw_cell_below (w1 := wr) B3.out hx6
      have hx7 := pw_cell_below (w1 := wr) B3.out hx7
      have hx8 := pw_cell_below (w1 := wr) B3.out hx8
      have HU := Lib.hid hu
      have c2 : decide (k < script.length) = true := by simpa using hk
      have p1 := eq_true (show 0 ≤ (k : Int) by omega)
      have p2 := eq_true (show k < script.length by omega)
      have P4 := Lib.hid (blk_new wr (.cells #[.int .i64 s.call, .int .i64 s.n, .int .i64 s.u.seq, .int .i64 s.u.client, .int .i64 s.u.number, .int .i64 s.u.kind, .string s.u.key, .string s.u.value, .int .i64 s.u.version] tSt))
      have I4 := Lib.hid (I3.out.below (below_alloc (Below.refl _ _) (.cells #[.int .i64 s.call, .int .i64 s.n, .int .i64 s.u.seq, .int .i64 s.u.client, .int .i64 s.u.number, .int .i64 s.u.kind, .string s.u.key, .string s.u.value, .int .i64 s.u.version] tSt)))
      have X4 := Lib.hid (X3.out.below (below_alloc (Below.refl _ _) (.cells #[.int .i64 s.call, .int .i64 s.n, .int .i64 s.u.seq, .int .i64 s.u.client, .int .i64 s.u.number, .int .i64 s.u.kind, .string s.u.key, .string s.u.value, .int .i64 s.u.version] tSt)))
      have B4 := Lib.hid (below_alloc B3.out (.cells #[.int .i64 s.call, .int .i64 s.n, .int .i64 s.u.seq, .int .i64 s.u.client, .int .i64 s.u.number, .int .i64 s.u.kind, .string s.u.key, .string s.u.value, .int .i64 s.u.version] tSt))
      have hp4 : wr.heap.size < (wr.alloc (.cells #[.int .i64 s.call, .int .i64 s.n, .int .i64 s.u.seq, .int .i64 s.u.client, .int .i64 s.u.number, .int .i64 s.u.kind, .string s.u.key, .string s.u.value, .int .i64 s.u.version] tSt)).heap.size := blk_lt P4.out
      have hm1 := Int.emod_nonneg s.n (show (200 : Int) ≠ 0 by omega)
      have hm2 := Int.emod_lt_of_pos s.n (show (0 : Int) < 200 by omega)
      have hm3 := Int.emod_nonneg s.n (show (5 : Int) ≠ 0 by omega)
      have hm4 := Int.emod_lt_of_pos s.n (show (0 : Int) < 5 by omega)
      have HV4 := Lib.hid (Kd.R_lt X4.out.2)
      clear hu
      go_wp2_with fail
      generalize wr.heap.size = p at *
      generalize (World.alloc wr _) = W4 at *
      clear hx0 hx1 hx2 hx3 hx4 hx5 hx6 hx7 hx8 I3 X3 B3
      have BW1 := Lib.hid (below_drew (Below.refl W4.heap.size W4))
      have B4s := B4.out.size
      refine start_ (n := 12) (S := fun w' => (∀ o, w'.cell? ⟨p, o, none⟩ = #[Value.int .i64 s.call, .int .i64 s.n, .int .i64 s.u.seq, .int .i64 s.u.client, .int .i64 s.u.number, .int .i64 s.u.kind, .string s.u.key, .string s.u.value, .int .i64 s.u.version][o]?) ∧ (w'.cell? ⟨gx, 5, none⟩ = some (.int .i64 x.next))) (ds := []) #[false, false, false, false, false, false, false, false, false, false, false, false] (by kernel_rfl) rfl rfl ⟨(blkc (blk_below P4.out BW1.out)), (blkc (X4.out.below BW1.out).1 5)⟩ (fun hHeld => ?_)
      refine pure_ (i := 0) (N := some 51) (v := ?_) (a' := ?_) #[true, false, false, false, false, false, false, false, false, false, false, false] rfl rfl (by kernel_rfl) (fun _ _ _ h => h) (Or.inl ⟨by rfl, ?_⟩) ?_ ?_
      rotate_left
      · intro w'
        go_simp
        with_reducible rfl
      rotate_left
      · simp only [Act.put, List.setIfInBounds_toArray, List.set_cons_zero, List.set_cons_succ, i64_w, i32_w]
        rfl
      refine pure_ (i := 2) (N := some 53) (v := ?_) (a' := ?_) #[true, false, true, false, false, false, false, false, false, false, false, false] rfl rfl (by kernel_rfl) (fun _ _ _ h => h) (Or.inl ⟨by rfl, ?_⟩) ?_ ?_
      rotate_left
      · intro w'
        go_simp
        with_reducible rfl
      rotate_left
      · simp only [Act.put, List.setIfInBounds_toArray, List.set_cons_zero, List.set_cons_succ, i64_w, i32_w]
        rfl
      refine pure_ (i := 3) (N := some 54) (v := ?_) (a' := ?_) #[true, false, true, true, false, false, false, false, false, false, false, false] rfl rfl (by kernel_rfl) (fun _ _ _ h => h) (Or.inl ⟨by rfl, ?_⟩) ?_ ?_
      rotate_left
      · intro w'
        go_simp
        with_reducible rfl
      rotate_left
      · simp only [Act.put, List.setIfInBounds_toArray, List.set_cons_zero, List.set_cons_succ, i64_w, i32_w]
        rfl
      refine pure_ (i := 4) (N := some 55) (v := ?_) (a' := ?_) #[true, false, true, true, true, false, false, false, false, false, false, false] rfl rfl (by kernel_rfl) (fun _ _ _ h => h) (Or.inl ⟨by rfl, ?_⟩) ?_ ?_
      rotate_left
      · intro w'
        go_simp
        with_reducible rfl
      rotate_left
      · simp only [Act.put, List.setIfInBounds_toArray, List.set_cons_zero, List.set_cons_succ, i64_w, i32_w]
        rfl
      refine pure_ (i := 6) (N := some 57) (v := ?_) (a' := ?_) #[true, false, true, true, true, false, true, false, false, false, false, false] rfl rfl (by kernel_rfl) (fun _ _ _ h => h) (Or.inl ⟨by rfl, ?_⟩) ?_ ?_
      rotate_left
      · intro w'
        go_simp
        with_reducible rfl
      rotate_left
      · simp only [Act.put, List.setIfInBounds_toArray, List.set_cons_zero, List.set_cons_succ, i64_w, i32_w]
        rfl
      refine take_ (i := 1) (N := some 52) (v := ?_) (a' := ?_) #[true, true, true, true, true, false, true, false, false, false, false, false] rfl rfl (by kernel_rfl) (fun _ _ _ h => h) (Or.inl ⟨by rfl, ?_⟩) hHeld ?_ ?_
      rotate_left
      · rintro w' ⟨s0, s1⟩
        go_simp
        with_reducible rfl
      rotate_left
      · simp only [Act.put, List.setIfInBounds_toArray, List.set_cons_zero, List.set_cons_succ, i64_w, i32_w]
        rfl
      refine take_ (i := 5) (N := some 56) (v := ?_) (a' := ?_) #[true, true, true, true, true, true, true, false, false, false, false, false] rfl rfl (by kernel_rfl) (fun _ _ _ h => h) (Or.inl ⟨by rfl, ?_⟩) hHeld ?_ ?_
      rotate_left
      · rintro w' ⟨s0, s1⟩
        go_simp
        with_reducible rfl
      rotate_left
      · simp only [Act.put, List.setIfInBounds_toArray, List.set_cons_zero, List.set_cons_succ, i64_w, i32_w]
        rfl
      refine take_ (i := 7) (N := some 58) (v := ?_) (a' := ?_) #[true, true, true, true, true, true, true, true, false, false, false, false] rfl rfl (by kernel_rfl) (fun _ _ _ h => h) (Or.inl ⟨by rfl, ?_⟩) hHeld ?_ ?_
      rotate_left
      · rintro w' ⟨s0, s1⟩
        go_simp
        with_reducible rfl
      rotate_left
      · simp only [Act.put, List.setIfInBounds_toArray, List.set_cons_zero, List.set_cons_succ, i64_w, i32_w]
        rfl
      refine join_ (σ := Nat) 1 #[true, true, true, true, true, true, true, true, true, true, true, false] (fun q => [(59, .int .i64 (x.next + s.n % 200 - 100)), (60, (s.u.with (x.next + s.n % 200 - 100)).val), (13, .pointer (some ⟨q, 0, none⟩))]) (fun q w' => Below W4.heap.size W4 w' ∧ w'.heap[q]? = some (.cells #[Value.int .i64 0, .int .i64 0, .int .i64 0, .int .i64 0, .string ⟨#[]⟩, .string ⟨#[]⟩, .int .i64 0] tU) ∧ W4.heap.size ≤ q) ?_ ?_
      rotate_left
      · intro hCont
        refine two_ (i := 8) (j := 10) (Ni := some 59) (Nj := some 13) #[true, true, true, true, true, true, true, true, true, false, false, false] #[true, true, true, true, true, true, true, true, false, false, true, false] rfl rfl rfl rfl (by kernel_rfl) (by decide) (by decide) (fun K hK => ?_) (fun K hK => ?_)
        · skip
          refine goes_ Try.func25 (by kernel_rfl) rfl #[.int .i64 x.next, .int .i64 s.n] (by rfl) rfl rfl (by simp only [List.map_toArray, List.map_cons, List.map_nil]; rfl) ?_
          with_reducible refine (near_any x.next s.n _ (by omega) (by omega)).mono ?_
          rintro e w1 ⟨rfl, rfl⟩
          refine ⟨_, rfl, ?_⟩
          refine hK.out _ _ ⟨hHeld.1, hHeld.2⟩ (fun hHeld => ?_)
          clear hK K
          refine norm_ (a' := ?_) ?_ ?_
          rotate_left
          · show Act.put _ (some 59) _ = _
            simp only [Act.put, List.setIfInBounds_toArray, List.set_cons_zero, List.set_cons_succ, i64_w, i32_w]
            rfl
          refine two_ (i := 9) (j := 10) (Ni := some 60) (Nj := some 13) #[true, true, true, true, true, true, true, true, true, true, false, false] #[true, true, true, true, true, true, true, true, true, false, true, false] rfl rfl rfl rfl (by kernel_rfl) (by decide) (by decide) (fun K hK => ?_) (fun K hK => ?_)
          · skip
            refine goes_ Try.func13 (by kernel_rfl) rfl #[s.u.val, .int .i64 (x.next + s.n % 200 - 100)] (by rfl) rfl rfl (by simp only [List.map_toArray, List.map_cons, List.map_nil]; rfl) ?_
            with_reducible refine (numbered_any s.u (x.next + s.n % 200 - 100) _).mono ?_
            rintro e w2 ⟨rfl, hb2⟩
            refine ⟨_, rfl, ?_⟩
            have BW2 := Lib.hid (below_then BW1.out (Nat.le_refl _) hb2)
            refine hK.out _ _ ⟨(blkc (blk_below P4.out BW2.out)), (blkc (X4.out.below BW2.out).1 5)⟩ (fun hHeld => ?_)
            clear hK K
            refine norm_ (a' := ?_) ?_ ?_
            rotate_left
            · show Act.put _ (some 60) _ = _
              simp only [Act.put, List.setIfInBounds_toArray, List.set_cons_zero, List.set_cons_succ, i64_w, i32_w]
              rfl
            refine one_ (i := 10) (N := some 13) #[true, true, true, true, true, true, true, true, true, true, true, false] rfl rfl (by kernel_rfl) (by decide) (fun K hK => ?_)
            refine value_ (w1 := ?_) (v := ?_) (by rfl) rfl ?_ ?_
            rotate_left 2
            · go_simp
              constructor
              · rfl
              · rfl
            have BW3 := Lib.hid (below_alloc BW2.out (.cells #[Value.int .i64 0, .int .i64 0, .int .i64 0, .int .i64 0, .string ⟨#[]⟩, .string ⟨#[]⟩, .int .i64 0] tU))
            refine hK.out _ _ ⟨(blkc (blk_below P4.out BW3.out)), (blkc (X4.out.below BW3.out).1 5)⟩ (fun hHeld => ?_)
            clear hK K
            refine norm_ (a' := ?_) ?_ ?_
            rotate_left
            · show Act.put _ (some 13) _ = _
              simp only [Act.put, List.setIfInBounds_toArray, List.set_cons_zero, List.set_cons_succ, i64_w, i32_w]
              rfl
            exact norm_ (by simp only [putAll, Act.put, List.setIfInBounds_toArray, List.set_cons_zero, List.set_cons_succ]) (hCont _ _ ⟨BW3.out, blk_new w2 (.cells #[Value.int .i64 0, .int .i64 0, .int .i64 0, .int .i64 0, .string ⟨#[]⟩, .string ⟨#[]⟩, .int .i64 0] tU), BW2.out.size⟩)
          · skip
            refine value_ (w1 := ?_) (v := ?_) (by rfl) rfl ?_ ?_
            rotate_left 2
            · go_simp
              constructor
              · rfl
              · rfl
            have BW4 := Lib.hid (below_alloc (Below.refl W4.heap.size W4) (.cells #[Value.int .i64 0, .int .i64 0, .int .i64 0, .int .i64 0, .string ⟨#[]⟩, .string ⟨#[]⟩, .int .i64 0] tU)).drew
            refine hK.out _ _ ⟨(blkc (blk_below P4.out BW4.out)), (blkc (X4.out.below BW4.out).1 5)⟩ (fun hHeld => ?_)
            clear hK K
            refine norm_ (a' := ?_) ?_ ?_
            rotate_left
            · show Act.put _ (some 13) _ = _
              simp only [Act.put, List.setIfInBounds_toArray, List.set_cons_zero, List.set_cons_succ, i64_w, i32_w]
              rfl
            refine one_ (i := 9) (N := some 60) #[true, true, true, true, true, true, true, true, true, true, true, false] rfl rfl (by kernel_rfl) (by decide) (fun K hK => ?_)
            refine goes_ Try.func13 (by kernel_rfl) rfl #[s.u.val, .int .i64 (x.next + s.n % 200 - 100)] (by rfl) rfl rfl (by simp only [List.map_toArray, List.map_cons, List.map_nil]; rfl) ?_
            with_reducible refine (numbered_any s.u (x.next + s.n % 200 - 100) _).mono ?_
            rintro e w5 ⟨rfl, hb5⟩
            refine ⟨_, rfl, ?_⟩
            have BW5 := Lib.hid (below_then BW4.out BW4.out.size hb5)
            have Z5 := Lib.hid (blk_below (blk_drew (blk_new W4 (.cells #[Value.int .i64 0, .int .i64 0, .int .i64 0, .int .i64 0, .string ⟨#[]⟩, .string ⟨#[]⟩, .int .i64 0] tU))) hb5)
            refine hK.out _ _ ⟨(blkc (blk_below P4.out BW5.out)), (blkc (X4.out.below BW5.out).1 5)⟩ (fun hHeld => ?_)
            clear hK K
            refine norm_ (a' := ?_) ?_ ?_
            rotate_left
            · show Act.put _ (some 60) _ = _
              simp only [Act.put, List.setIfInBounds_toArray, List.set_cons_zero, List.set_cons_succ, i64_w, i32_w]
              rfl
            exact norm_ (by simp only [putAll, Act.put, List.setIfInBounds_toArray, List.set_cons_zero, List.set_cons_succ]) (hCont _ _ ⟨BW5.out, Z5.out, Nat.le_refl _⟩)
        · skip
          refine value_ (w1 := ?_) (v := ?_) (by rfl) rfl ?_ ?_
          rotate_left 2
          · go_simp
            constructor
            · rfl
            · rfl
          have BW4 := Lib.hid (below_alloc (Below.refl W4.heap.size W4) (.cells #[Value.int .i64 0, .int .i64 0, .int .i64 0, .int .i64 0, .string ⟨#[]⟩, .string ⟨#[]⟩, .int .i64 0] tU)).drew
          refine hK.out _ _ ⟨(blkc (blk_below P4.out BW4.out)), (blkc (X4.out.below BW4.out).1 5)⟩ (fun hHeld => ?_)
          clear hK K
          refine norm_ (a' := ?_) ?_ ?_
          rotate_left
          · show Act.put _ (some 13) _ = _
            simp only [Act.put, List.setIfInBounds_toArray, List.set_cons_zero, List.set_cons_succ, i64_w, i32_w]
            rfl
          refine one_ (i := 8) (N := some 59) #[true, true, true, true, true, true, true, true, true, false, true, false] rfl rfl (by kernel_rfl) (by decide) (fun K hK => ?_)
          refine goes_ Try.func25 (by kernel_rfl) rfl #[.int .i64 x.next, .int .i64 s.n] (by rfl) rfl rfl (by simp only [List.map_toArray, List.map_cons, List.map_nil]; rfl) ?_
          with_reducible refine (near_any x.next s.n _ (by omega) (by omega)).mono ?_
          rintro e w1 ⟨rfl, rfl⟩
          refine ⟨_, rfl, ?_⟩
          refine hK.out _ _ ⟨hHeld.1, hHeld.2⟩ (fun hHeld => ?_)
          clear hK K
          refine norm_ (a' := ?_) ?_ ?_
          rotate_left
          · show Act.put _ (some 59) _ = _
            simp only [Act.put, List.setIfInBounds_toArray, List.set_cons_zero, List.set_cons_succ, i64_w, i32_w]
            rfl
          refine one_ (i := 9) (N := some 60) #[true, true, true, true, true, true, true, true, true, true, true, false] rfl rfl (by kernel_rfl) (by decide) (fun K hK => ?_)
          refine goes_ Try.func13 (by kernel_rfl) rfl #[s.u.val, .int .i64 (x.next + s.n % 200 - 100)] (by rfl) rfl rfl (by simp only [List.map_toArray, List.map_cons, List.map_nil]; rfl) ?_
          with_reducible refine (numbered_any s.u (x.next + s.n % 200 - 100) _).mono ?_
          rintro e w5 ⟨rfl, hb5⟩
          refine ⟨_, rfl, ?_⟩
          have BW5 := Lib.hid (below_then BW4.out BW4.out.size hb5)
          have Z5 := Lib.hid (blk_below (blk_drew (blk_new W4 (.cells #[Value.int .i64 0, .int .i64 0, .int .i64 0, .int .i64 0, .string ⟨#[]⟩, .string ⟨#[]⟩, .int .i64 0] tU))) hb5)
          refine hK.out _ _ ⟨(blkc (blk_below P4.out BW5.out)), (blkc (X4.out.below BW5.out).1 5)⟩ (fun hHeld => ?_)
          clear hK K
          refine norm_ (a' := ?_) ?_ ?_
          rotate_left
          · show Act.put _ (some 60) _ = _
            simp only [Act.put, List.setIfInBounds_toArray, List.set_cons_zero, List.set_cons_succ, i64_w, i32_w]
            rfl
          exact norm_ (by simp only [putAll, Act.put, List.setIfInBounds_toArray, List.set_cons_zero, List.set_cons_succ]) (hCont _ _ ⟨BW5.out, Z5.out, Nat.le_refl _⟩)
      rintro q w6 ⟨BW6_, Z6_, hq6⟩
      have BW6 := Lib.hid BW6_
      have Z6 := Lib.hid Z6_
      clear BW6_ Z6_
      have hHeld := And.intro (blkc (blk_below P4.out BW6.out)) (blkc (X4.out.below BW6.out).1 5)
      refine norm_ (a' := ?_) ?_ ?_
      rotate_left
      · simp only [putAll, Act.put, List.setIfInBounds_toArray, List.set_cons_zero, List.set_cons_succ]
        rfl
      refine one_ (i := 11) (N := none) #[true, true, true, true, true, true, true, true, true, true, true, true] rfl rfl (by kernel_rfl) (by decide) (fun K hK => ?_)
      refine store_stepU (by rfl) (by rfl) tU (.tmp 13) (.tmp 60) rfl q 0 (s.u.with (x.next + s.n % 200 - 100)) rfl rfl (there_U Z6.out (by simp)) (by kernel_rfl) ?_
      have Z7 := Lib.hid (blk_lay (s.u.with (x.next + s.n % 200 - 100)) 0 Z6.out)
      have BW7 := Lib.hid (below_setCells hq6 (s.u.with (x.next + s.n % 200 - 100)).cells 0 BW6.out)
      generalize (World.setCells _ _ _ _) = W7 at *
      refine hK.out _ _ ⟨(blkc (blk_below P4.out BW7.out)), (blkc (X4.out.below BW7.out).1 5)⟩ (fun hHeld => ?_)
      clear hK K
      refine done_ (by kernel_rfl) ?_
      have z7 := Z7.out
      rw [lay_zero] at z7
      have Z7 := Lib.hid z7
      have P7 := Lib.hid (blk_below P4.out BW7.out)
      have I7 := Lib.hid (I4.out.below BW7.out)
      have X7 := Lib.hid (X4.out.below BW7.out)
      have B7 := Lib.hid (below_then B4.out B4.out.size BW7.out)
      clear z7 P4 I4 X4 B4 BW1 BW6 BW7 Z6
      generalize (s.u.with (x.next + s.n % 200 - 100)) = u1 at *
      have cp7 := blkc P7.out
      have HVQ := Lib.hid (fun (k : Nat) (h : v.ownBlock = some k) => Nat.lt_of_lt_of_le (HV4.out k h) hq6)
      cases t3 : (s.n.tmod 3 != 0) with
      | false =>
        have m1 : (s.n == 9223372036854775807) = false := by
          by_cases e : s.n = 9223372036854775807
          · rw [e] at t3; exact absurd t3 (by decide)
          · simpa using e
        have m2 : (s.n == -9223372036854775808) = false := by
          by_cases e : s.n = -9223372036854775808
          · rw [e] at t3; exact absurd t3 (by decide)
          · simpa using e
        have hqg : q ≠ g := by obtain ⟨cs, G, _⟩ := I7.out; exact blk_ne Z7.out G (by decide)
        have hqx : q ≠ gx := blk_ne Z7.out X7.out.1 (show tU ≠ tRI by decide)
        have hgx : g ≠ gx := by obtain ⟨cs, G, _⟩ := I7.out; exact blk_ne G X7.out.1 (show tIn ≠ tRI by decide)
        have HVG : Hid (some g ≠ v.ownBlock) := by obtain ⟨cs, G, _⟩ := I7.out; exact Lib.hid (Kd.R_ne X7.out.2 G (show tU ≠ tIn by decide))
        have HVX := Lib.hid (Kd.R_ne X7.out.2 X7.out.1 (show tU ≠ tRI by decide))
        have HV9 := Lib.hid (Kd.R_lt X7.out.2)
        have hg9 : g < W7.heap.size := by obtain ⟨cs, G, _⟩ := I7.out; exact blk_lt G
        have hx9 : gx < W7.heap.size := blk_lt X7.out.1
        have hq9 : q < W7.heap.size := blk_lt Z7.out
        have hw9 : w.heap.size ≤ W7.heap.size := B7.out.size
        have PRO := Lib.hid (take_props OK.out u1 hbd)
        have OKT := Lib.hid (OK.out.take u1 hbd)
        have hl65 := take_len st u1
        have SMT := Lib.hid (sim_take OK.out SM.out u1 hbd)
        have cq9 := blkc Z7.out
        go_wp2_with fail
        refine (take_any (w0 := w) u1 OK.out I7.out hgw B7.out hbd).mono ?_
        rintro e wA ⟨rA, rfl, hiA, hrA, hkA, hbA⟩
        have IA := Lib.hid hiA
        have BA := Lib.hid hbA
        have RA := Lib.hid hrA
        have ZA := Lib.hid (blk_kept Z7.out hkA hqg)
        have XA := Lib.hid (X7.out.kept hkA (fun e => hgx e.symm) (fun k hk e => HVG.out (by rw [hk, e])))
        have hAs := hkA.1
        clear cq9 hiA hbA hrA hkA
        generalize hT : st.take u1 = T at *
        generalize hTx : x.take u1 = Tx at *
        obtain ⟨st2, out⟩ := T
        obtain ⟨x2, out2⟩ := Tx
        have HTX := Lib.hid hTx
        clear hT hTx
        simp only at PRO OKT hl65 SMT IA RA
        have hout : out = out2 := SMT.out.1
        subst hout
        have SM2 := Lib.hid SMT.out.2
        have hf2 := PRO.out.1
        have hf2a : 0 ≤ st2.line.from_ := by omega
        have hf2b : st2.line.from_ ≤ st.line.from_ + 65 := by omega
        clear hf2
        obtain ⟨AA, cA, rfl⟩ := Kd.R_slice RA.out
        go_wp2_with fail
        have ID := Lib.hid (IA.out.below (below_drew (Below.refl _ _)))
        have XD := Lib.hid (XA.out.below (below_drew (Below.refl _ _)))
        have BD := Lib.hid BA.out.drew
        have RD := Lib.hid (Kd.R_drew RA.out)
        have ZD := Lib.hid (blk_drew ZA.out)
        have hDs : W7.heap.size ≤ wA.drew.heap.size := hAs
        clear IA XA BA RA ZA SMT PRO
        refine start_ (n := 30) (S := fun w' => (∀ o, w'.cell? ⟨q, o, none⟩ = #[Value.int .i64 u1.seq, .int .i64 u1.client, .int .i64 u1.number, .int .i64 u1.kind, .string u1.key, .string u1.value, .int .i64 u1.version][o]?)) (ds := []) #[false, false, false, false, false, false, false, false, false, false, false, false, false, false, false, false, false, false, false, false, false, false, false, false, false, false, false, false, false, false] (by kernel_rfl) rfl rfl ((blkc ZD.out)) (fun hHeld => ?_)
        refine pure_ (i := 0) (N := some 88) (v := ?_) (a' := ?_) #[true, false, false, false, false, false, false, false, false, false, false, false, false, false, false, false, false, false, false, false, false, false, false, false, false, false, false, false, false, false] rfl rfl (by kernel_rfl) (fun _ _ _ h => h) (Or.inl ⟨by rfl, ?_⟩) ?_ ?_
        rotate_left
        · intro w'
          go_simp
          with_reducible rfl
        rotate_left
        · simp only [Act.put, List.setIfInBounds_toArray, List.set_cons_zero, List.set_cons_succ, i64_w, i32_w]
          rfl
        refine pure_ (i := 1) (N := some 89) (v := ?_) (a' := ?_) #[true, true, false, false, false, false, false, false, false, false, false, false, false, false, false, false, false, false, false, false, false, false, false, false, false, false, false, false, false, false] rfl rfl (by kernel_rfl) (fun _ _ _ h => h) (Or.inl ⟨by rfl, ?_⟩) ?_ ?_
        rotate_left
        · intro w'
          go_simp
          with_reducible rfl
        rotate_left
        · simp only [Act.put, List.setIfInBounds_toArray, List.set_cons_zero, List.set_cons_succ, i64_w, i32_w]
          rfl
        refine take_ (i := 2) (N := some 90) (v := ?_) (a' := ?_) #[true, true, true, false, false, false, false, false, false, false, false, false, false, false, false, false, false, false, false, false, false, false, false, false, false, false, false, false, false, false] rfl rfl (by kernel_rfl) (fun _ _ _ h => h) (Or.inl ⟨by rfl, ?_⟩) hHeld ?_ ?_
        rotate_left
        · intro w' s0
          go_simp
          with_reducible rfl
        rotate_left
        · simp only [Act.put, List.setIfInBounds_toArray, List.set_cons_zero, List.set_cons_succ, i64_w, i32_w]
          rfl
        refine one_ (i := 3) (N := some 91) #[true, true, true, true, false, false, false, false, false, false, false, false, false, false, false, false, false, false, false, false, false, false, false, false, false, false, false, false, false, false] rfl rfl (by kernel_rfl) (by decide) (fun K hK => ?_)
        refine goes_ Try.func35 (by kernel_rfl) rfl #[.pointer (some ⟨gx, 0, none⟩), u1.val] (by rfl) rfl rfl (by simp only [List.map_toArray, List.map_cons, List.map_nil]; rfl) ?_
        with_reducible refine (refTake_any (w0 := w) u1 XD.out hgxw BD.out hn0 hnb hxw1 hxw2 hxl).mono ?_
        rintro e wB ⟨rB, rfl, vB, hxB, hvB, hrB, hkB, hbB⟩
        refine ⟨_, rfl, ?_⟩
        replace hxB : RIR wB w.heap.size gx vB (x.take u1).1 := hxB
        rw [HTX.out] at hxB hrB
        have XB := Lib.hid (show RIR wB w.heap.size gx vB x2 from hxB)
        have RB := Lib.hid (show kU.R tU wB wA.drew.heap.size (fun _ => True) rB out from R_ok hrB (fun _ _ => trivial))
        obtain ⟨AB, cB, rfl⟩ := Kd.R_slice RB.out
        have IB := Lib.hid (ID.out.kept hkB (fun h => h.elim hgx HVG.out))
        have RAB := Lib.hid (R_mine RD.out (fun k hk => hkB.2 k (Kd.R_lt RD.out k hk) (fun h => h.elim (fun e => by have := Kd.R_base RD.out k hk; omega) (fun e => by have := Kd.R_base RD.out k hk; have := HV9.out k e.symm; omega))))
        have ZB := Lib.hid (blk_kept ZD.out hkB (fun h => h.elim hqx (fun e => by have := HVQ.out q e.symm; omega)))
        have BB := Lib.hid hbB
        have hBs := hkB.1
        have HVA : Hid (∀ k, vB.ownBlock = some k → ¬ some k = (Value.slice AA out.length cA).ownBlock) := Lib.hid (fun k hk e => hvB.elim (fun h => by have h1 := HV9.out k (h.symm.trans hk); have h2 := Kd.R_base RD.out k e.symm; omega) (fun ⟨b, hb, hle⟩ => by have h1 := Kd.R_lt RD.out k e.symm; have h2 : k = b := Option.some.inj (hk.symm.trans hb); omega))
        clear hxB hvB hrB hkB hbB
        refine hK.out _ _ ((blkc ZB.out)) (fun hHeld => ?_)
        clear hK K
        refine norm_ (a' := ?_) ?_ ?_
        rotate_left
        · show Act.put _ (some 91) _ = _
          simp only [Act.put, List.setIfInBounds_toArray, List.set_cons_zero, List.set_cons_succ, i64_w, i32_w]
          rfl
        refine one_ (i := 4) (N := some 92) #[true, true, true, true, true, false, false, false, false, false, false, false, false, false, false, false, false, false, false, false, false, false, false, false, false, false, false, false, false, false] rfl rfl (by kernel_rfl) (by decide) (fun K hK => ?_)
        refine goes_ Try.func28 (by kernel_rfl) rfl #[.slice AA out.length cA, .slice AB out.length cB] (by rfl) rfl rfl (by simp only [List.map_toArray, List.map_cons, List.map_nil]; rfl) ?_
        with_reducible refine (same_any _ AA AB cA cB out ((Kd.R_reads' RAB.out).2.2) ((Kd.R_reads' RB.out).2.2)).mono ?_
        rintro e wC ⟨rfl, nC, rfl⟩
        refine ⟨_, rfl, ?_⟩
        have IC := Lib.hid (show InR (wB.drewN nC) g st2 from IB.out)
        have XC := Lib.hid (XB.out.drewN nC)
        have RC := Lib.hid (Kd.R_drewN RAB.out nC)
        have ZC := Lib.hid (show (wB.drewN nC).heap[q]? = some (.cells #[.int .i64 u1.seq, .int .i64 u1.client, .int .i64 u1.number, .int .i64 u1.kind, .string u1.key, .string u1.value, .int .i64 u1.version] tU (0, 0)) from ZB.out)
        have BC := Lib.hid (pw_below_drewN BB.out nC)
        have hCs : W7.heap.size ≤ (wB.drewN nC).heap.size := Nat.le_trans hDs hBs
        generalize (World.drewN wB nC) = WC at *
        have c514 := IC.out.made OKT.out.mid.made
        have c0 := IC.out.from_
        have c515 := IC.out.holds
        rw [show st2.holds = (x2.held.length : Int) by rw [OKT.out.mid.cnt, SM2.out.len]] at c515
        obtain ⟨AX, cX, rfl⟩ := Kd.R_slice XC.out.2
        have d5 := (show WC.cell? ⟨gx, 5, none⟩ = some (.int .i64 x2.next) from blkc XC.out.1 5)
        rw [SM2.out.next] at d5
        have d6 := (show WC.cell? ⟨gx, 6, none⟩ = some (.slice AX x2.held.length cX) from blkc XC.out.1 6)
        refine hK.out _ _ ((blkc ZC.out)) (fun hHeld => ?_)
        clear hK K
        refine norm_ (a' := ?_) ?_ ?_
        rotate_left
        · show Act.put _ (some 92) _ = _
          simp only [Act.put, List.setIfInBounds_toArray, List.set_cons_zero, List.set_cons_succ, i64_w, i32_w]
          rfl
        refine pure_ (i := 5) (N := some 93) (v := ?_) (a' := ?_) #[true, true, true, true, true, true, false, false, false, false, false, false, false, false, false, false, false, false, false, false, false, false, false, false, false, false, false, false, false, false] rfl rfl (by kernel_rfl) (fun _ _ _ h => h) (Or.inl ⟨by rfl, ?_⟩) ?_ ?_
        rotate_left
        · intro w'
          go_simp
          with_reducible rfl
        rotate_left
        · simp only [Act.put, List.setIfInBounds_toArray, List.set_cons_zero, List.set_cons_succ, i64_w, i32_w]
          rfl
        refine pure_ (i := 6) (N := some 94) (v := ?_) (a' := ?_) #[true, true, true, true, true, true, true, false, false, false, false, false, false, false, false, false, false, false, false, false, false, false, false, false, false, false, false, false, false, false] rfl rfl (by kernel_rfl) (fun _ _ _ h => h) (Or.inl ⟨by rfl, ?_⟩) ?_ ?_
        rotate_left
        · intro w'
          go_simp
          with_reducible rfl
        rotate_left
        · simp only [Act.put, List.setIfInBounds_toArray, List.set_cons_zero, List.set_cons_succ, i64_w, i32_w]
          rfl
        refine pure_ (i := 7) (N := some 95) (v := ?_) (a' := ?_) #[true, true, true, true, true, true, true, true, false, false, false, false, false, false, false, false, false, false, false, false, false, false, false, false, false, false, false, false, false, false] rfl rfl (by kernel_rfl) (fun _ _ _ h => h) (Or.inl ⟨by rfl, ?_⟩) ?_ ?_
        rotate_left
        · intro w'
          go_simp
          with_reducible rfl
        rotate_left
        · simp only [Act.put, List.setIfInBounds_toArray, List.set_cons_zero, List.set_cons_succ, i64_w, i32_w]
          rfl
        refine pure_ (i := 9) (N := some 97) (v := ?_) (a' := ?_) #[true, true, true, true, true, true, true, true, false, true, false, false, false, false, false, false, false, false, false, false, false, false, false, false, false, false, false, false, false, false] rfl rfl (by kernel_rfl) (fun _ _ _ h => h) (Or.inl ⟨by rfl, ?_⟩) ?_ ?_
        rotate_left
        · intro w'
          go_simp
          with_reducible rfl
        rotate_left
        · simp only [Act.put, List.setIfInBounds_toArray, List.set_cons_zero, List.set_cons_succ, i64_w, i32_w]
          rfl
        refine pure_ (i := 10) (N := some 98) (v := ?_) (a' := ?_) #[true, true, true, true, true, true, true, true, false, true, true, false, false, false, false, false, false, false, false, false, false, false, false, false, false, false, false, false, false, false] rfl rfl (by kernel_rfl) (fun _ _ _ h => h) (Or.inl ⟨by rfl, ?_⟩) ?_ ?_
        rotate_left
        · intro w'
          go_simp
          with_reducible rfl
        rotate_left
        · simp only [Act.put, List.setIfInBounds_toArray, List.set_cons_zero, List.set_cons_succ, i64_w, i32_w]
          rfl
        refine pure_ (i := 11) (N := some 99) (v := ?_) (a' := ?_) #[true, true, true, true, true, true, true, true, false, true, true, true, false, false, false, false, false, false, false, false, false, false, false, false, false, false, false, false, false, false] rfl rfl (by kernel_rfl) (fun _ _ _ h => h) (Or.inl ⟨by rfl, ?_⟩) ?_ ?_
        rotate_left
        · intro w'
          go_simp
          with_reducible rfl
        rotate_left
        · simp only [Act.put, List.setIfInBounds_toArray, List.set_cons_zero, List.set_cons_succ, i64_w, i32_w]
          rfl
        refine join_ (σ := Unit) 17 #[true, true, true, true, true, true, true, true, true, true, true, true, true, false, false, false, false, false, false, false, false, false, false, false, false, false, false, false, false, false] (fun _ => [(96, .int .i64 (st2.line.from_ + 1)), (100, .int .i64 (st2.line.from_ + 1))]) (fun _ w' => WC = w') ?_ ?_
        rotate_left
        · intro hCont
          refine two_ (i := 8) (j := 12) (Ni := some 96) (Nj := some 100) #[true, true, true, true, true, true, true, true, true, true, true, true, false, false, false, false, false, false, false, false, false, false, false, false, false, false, false, false, false, false] #[true, true, true, true, true, true, true, true, false, true, true, true, true, false, false, false, false, false, false, false, false, false, false, false, false, false, false, false, false, false] rfl rfl rfl rfl (by kernel_rfl) (by decide) (by decide) (fun K hK => ?_) (fun K hK => ?_)
          · skip
            refine goes_ Try.func15 (by kernel_rfl) rfl #[.pointer (some ⟨g, 0, none⟩)] (by rfl) rfl rfl (by simp only [List.map_toArray, List.map_cons, List.map_nil]; rfl) ?_
            with_reducible refine (next_any c514 c0 (by omega) (by omega)).mono ?_
            rintro e w1 ⟨rfl, rfl⟩
            refine ⟨_, rfl, ?_⟩
            refine hK.out _ _ (hHeld) (fun hHeld => ?_)
            clear hK K
            refine norm_ (a' := ?_) ?_ ?_
            rotate_left
            · show Act.put _ (some 96) _ = _
              simp only [Act.put, List.setIfInBounds_toArray, List.set_cons_zero, List.set_cons_succ, i64_w, i32_w]
              rfl
            refine one_ (i := 12) (N := some 100) #[true, true, true, true, true, true, true, true, true, true, true, true, true, false, false, false, false, false, false, false, false, false, false, false, false, false, false, false, false, false] rfl rfl (by kernel_rfl) (by decide) (fun K hK => ?_)
            refine value_ (w1 := ?_) (v := ?_) (by rfl) rfl ?_ ?_
            rotate_left 2
            · go_simp
              constructor
              · rfl
              · rfl
            refine hK.out _ _ (hHeld) (fun hHeld => ?_)
            clear hK K
            refine norm_ (a' := ?_) ?_ ?_
            rotate_left
            · show Act.put _ (some 100) _ = _
              simp only [Act.put, List.setIfInBounds_toArray, List.set_cons_zero, List.set_cons_succ, i64_w, i32_w]
              rfl
            exact norm_ (by simp only [putAll, Act.put, List.setIfInBounds_toArray, List.set_cons_zero, List.set_cons_succ]) (hCont () _ rfl)
          · skip
            refine value_ (w1 := ?_) (v := ?_) (by rfl) rfl ?_ ?_
            rotate_left 2
            · go_simp
              constructor
              · rfl
              · rfl
            refine hK.out _ _ (hHeld) (fun hHeld => ?_)
            clear hK K
            refine norm_ (a' := ?_) ?_ ?_
            rotate_left
            · show Act.put _ (some 100) _ = _
              simp only [Act.put, List.setIfInBounds_toArray, List.set_cons_zero, List.set_cons_succ, i64_w, i32_w]
              rfl
            refine one_ (i := 8) (N := some 96) #[true, true, true, true, true, true, true, true, true, true, true, true, true, false, false, false, false, false, false, false, false, false, false, false, false, false, false, false, false, false] rfl rfl (by kernel_rfl) (by decide) (fun K hK => ?_)
            refine goes_ Try.func15 (by kernel_rfl) rfl #[.pointer (some ⟨g, 0, none⟩)] (by rfl) rfl rfl (by simp only [List.map_toArray, List.map_cons, List.map_nil]; rfl) ?_
            with_reducible refine (next_any c514 c0 (by omega) (by omega)).mono ?_
            rintro e w1 ⟨rfl, rfl⟩
            refine ⟨_, rfl, ?_⟩
            refine hK.out _ _ (hHeld) (fun hHeld => ?_)
            clear hK K
            refine norm_ (a' := ?_) ?_ ?_
            rotate_left
            · show Act.put _ (some 96) _ = _
              simp only [Act.put, List.setIfInBounds_toArray, List.set_cons_zero, List.set_cons_succ, i64_w, i32_w]
              rfl
            exact norm_ (by simp only [putAll, Act.put, List.setIfInBounds_toArray, List.set_cons_zero, List.set_cons_succ]) (hCont () _ rfl)
        rintro _ _ rfl
        have hHeld := (blkc ZC.out)
        refine norm_ (a' := ?_) ?_ ?_
        rotate_left
        · simp only [putAll, Act.put, List.setIfInBounds_toArray, List.set_cons_zero, List.set_cons_succ]
          rfl
        refine pure_ (i := 13) (N := some 101) (v := ?_) (a' := ?_) #[true, true, true, true, true, true, true, true, true, true, true, true, true, true, false, false, false, false, false, false, false, false, false, false, false, false, false, false, false, false] rfl rfl (by kernel_rfl) (fun _ _ _ h => h) (Or.inl ⟨by rfl, ?_⟩) ?_ ?_
        rotate_left
        · intro w'
          go_simp
          with_reducible rfl
        rotate_left
        · simp only [Act.put, List.setIfInBounds_toArray, List.set_cons_zero, List.set_cons_succ, i64_w, i32_w]
          rfl
        refine pure_ (i := 14) (N := some 102) (v := ?_) (a' := ?_) #[true, true, true, true, true, true, true, true, true, true, true, true, true, true, true, false, false, false, false, false, false, false, false, false, false, false, false, false, false, false] rfl rfl (by kernel_rfl) (fun _ _ _ h => h) (Or.inl ⟨by rfl, ?_⟩) ?_ ?_
        rotate_left
        · intro w'
          go_simp
          with_reducible rfl
        rotate_left
        · simp only [Act.put, List.setIfInBounds_toArray, List.set_cons_zero, List.set_cons_succ, i64_w, i32_w]
          rfl
        refine pure_ (i := 15) (N := some 103) (v := ?_) (a' := ?_) #[true, true, true, true, true, true, true, true, true, true, true, true, true, true, true, true, false, false, false, false, false, false, false, false, false, false, false, false, false, false] rfl rfl (by kernel_rfl) (fun _ _ _ h => h) (Or.inl ⟨by rfl, ?_⟩) ?_ ?_
        rotate_left
        · intro w'
          go_simp
          with_reducible rfl
        rotate_left
        · simp only [Act.put, List.setIfInBounds_toArray, List.set_cons_zero, List.set_cons_succ, i64_w, i32_w]
          rfl
        refine pure_ (i := 16) (N := some 104) (v := ?_) (a' := ?_) #[true, true, true, true, true, true, true, true, true, true, true, true, true, true, true, true, true, false, false, false, false, false, false, false, false, false, false, false, false, false] rfl rfl (by kernel_rfl) (fun _ _ _ h => h) (Or.inl ⟨by rfl, ?_⟩) ?_ ?_
        rotate_left
        · intro w'
          go_simp
          with_reducible rfl
        rotate_left
        · simp only [Act.put, List.setIfInBounds_toArray, List.set_cons_zero, List.set_cons_succ, i64_w, i32_w]
          rfl
        refine pure_ (i := 18) (N := some 106) (v := ?_) (a' := ?_) #[true, true, true, true, true, true, true, true, true, true, true, true, true, true, true, true, true, false, true, false, false, false, false, false, false, false, false, false, false, false] rfl rfl (by kernel_rfl) (fun _ _ _ h => h) (Or.inl ⟨by rfl, ?_⟩) ?_ ?_
        rotate_left
        · intro w'
          go_simp
          with_reducible rfl
        rotate_left
        · simp only [Act.put, List.setIfInBounds_toArray, List.set_cons_zero, List.set_cons_succ, i64_w, i32_w]
          rfl
        refine pure_ (i := 19) (N := some 107) (v := ?_) (a' := ?_) #[true, true, true, true, true, true, true, true, true, true, true, true, true, true, true, true, true, false, true, true, false, false, false, false, false, false, false, false, false, false] rfl rfl (by kernel_rfl) (fun _ _ _ h => h) (Or.inl ⟨by rfl, ?_⟩) ?_ ?_
        rotate_left
        · intro w'
          go_simp
          with_reducible rfl
        rotate_left
        · simp only [Act.put, List.setIfInBounds_toArray, List.set_cons_zero, List.set_cons_succ, i64_w, i32_w]
          rfl
        refine pure_ (i := 20) (N := some 108) (v := ?_) (a' := ?_) #[true, true, true, true, true, true, true, true, true, true, true, true, true, true, true, true, true, false, true, true, true, false, false, false, false, false, false, false, false, false] rfl rfl (by kernel_rfl) (fun _ _ _ h => h) (Or.inl ⟨by rfl, ?_⟩) ?_ ?_
        rotate_left
        · intro w'
          go_simp
          with_reducible rfl
        rotate_left
        · simp only [Act.put, List.setIfInBounds_toArray, List.set_cons_zero, List.set_cons_succ, i64_w, i32_w]
          rfl
        refine join_ (σ := Unit) 7 #[true, true, true, true, true, true, true, true, true, true, true, true, true, true, true, true, true, true, true, true, true, true, true, false, false, false, false, false, false, false] (fun _ => [(105, .int .i64 (x2.held.length : Int)), (109, .slice AX x2.held.length cX), (110, .int .i64 (x2.held.length : Int))]) (fun _ w' => WC = w') ?_ ?_
        rotate_left
        · intro hCont
          refine two_ (i := 17) (j := 21) (Ni := some 105) (Nj := some 109) #[true, true, true, true, true, true, true, true, true, true, true, true, true, true, true, true, true, true, true, true, true, false, false, false, false, false, false, false, false, false] #[true, true, true, true, true, true, true, true, true, true, true, true, true, true, true, true, true, false, true, true, true, true, false, false, false, false, false, false, false, false] rfl rfl rfl rfl (by kernel_rfl) (by decide) (by decide) (fun K hK => ?_) (fun K hK => ?_)
          · skip
            refine goes_ Try.func22 (by kernel_rfl) rfl #[.pointer (some ⟨g, 0, none⟩)] (by rfl) rfl rfl (by simp only [List.map_toArray, List.map_cons, List.map_nil]; rfl) ?_
            with_reducible refine (held_any c515).mono ?_
            rintro e w1 ⟨rfl, rfl⟩
            refine ⟨_, rfl, ?_⟩
            refine hK.out _ _ (hHeld) (fun hHeld => ?_)
            clear hK K
            refine norm_ (a' := ?_) ?_ ?_
            rotate_left
            · show Act.put _ (some 105) _ = _
              simp only [Act.put, List.setIfInBounds_toArray, List.set_cons_zero, List.set_cons_succ, i64_w, i32_w]
              rfl
            refine one_ (i := 21) (N := some 109) #[true, true, true, true, true, true, true, true, true, true, true, true, true, true, true, true, true, true, true, true, true, true, false, false, false, false, false, false, false, false] rfl rfl (by kernel_rfl) (by decide) (fun K hK => ?_)
            refine value_ (w1 := ?_) (v := ?_) (by rfl) rfl ?_ ?_
            rotate_left 2
            · go_simp
              constructor
              · rfl
              · rfl
            refine hK.out _ _ (hHeld) (fun hHeld => ?_)
            clear hK K
            refine norm_ (a' := ?_) ?_ ?_
            rotate_left
            · show Act.put _ (some 109) _ = _
              simp only [Act.put, List.setIfInBounds_toArray, List.set_cons_zero, List.set_cons_succ, i64_w, i32_w]
              rfl
            refine pure_ (i := 22) (N := some 110) (v := ?_) (a' := ?_) #[true, true, true, true, true, true, true, true, true, true, true, true, true, true, true, true, true, true, true, true, true, true, true, false, false, false, false, false, false, false] rfl rfl (by kernel_rfl) (fun _ _ _ h => h) (Or.inl ⟨by rfl, ?_⟩) ?_ ?_
            rotate_left
            · intro w'
              go_simp
              with_reducible rfl
            rotate_left
            · simp only [Act.put, List.setIfInBounds_toArray, List.set_cons_zero, List.set_cons_succ, i64_w, i32_w]
              rfl
            exact norm_ (by simp only [putAll, Act.put, List.setIfInBounds_toArray, List.set_cons_zero, List.set_cons_succ]) (hCont () _ rfl)
          · skip
            refine value_ (w1 := ?_) (v := ?_) (by rfl) rfl ?_ ?_
            rotate_left 2
            · go_simp
              constructor
              · rfl
              · rfl
            refine hK.out _ _ (hHeld) (fun hHeld => ?_)
            clear hK K
            refine norm_ (a' := ?_) ?_ ?_
            rotate_left
            · show Act.put _ (some 109) _ = _
              simp only [Act.put, List.setIfInBounds_toArray, List.set_cons_zero, List.set_cons_succ, i64_w, i32_w]
              rfl
            refine pure_ (i := 22) (N := some 110) (v := ?_) (a' := ?_) #[true, true, true, true, true, true, true, true, true, true, true, true, true, true, true, true, true, false, true, true, true, true, true, false, false, false, false, false, false, false] rfl rfl (by kernel_rfl) (fun _ _ _ h => h) (Or.inl ⟨by rfl, ?_⟩) ?_ ?_
            rotate_left
            · intro w'
              go_simp
              with_reducible rfl
            rotate_left
            · simp only [Act.put, List.setIfInBounds_toArray, List.set_cons_zero, List.set_cons_succ, i64_w, i32_w]
              rfl
            refine one_ (i := 17) (N := some 105) #[true, true, true, true, true, true, true, true, true, true, true, true, true, true, true, true, true, true, true, true, true, true, true, false, false, false, false, false, false, false] rfl rfl (by kernel_rfl) (by decide) (fun K hK => ?_)
            refine goes_ Try.func22 (by kernel_rfl) rfl #[.pointer (some ⟨g, 0, none⟩)] (by rfl) rfl rfl (by simp only [List.map_toArray, List.map_cons, List.map_nil]; rfl) ?_
            with_reducible refine (held_any c515).mono ?_
            rintro e w1 ⟨rfl, rfl⟩
            refine ⟨_, rfl, ?_⟩
            refine hK.out _ _ (hHeld) (fun hHeld => ?_)
            clear hK K
            refine norm_ (a' := ?_) ?_ ?_
            rotate_left
            · show Act.put _ (some 105) _ = _
              simp only [Act.put, List.setIfInBounds_toArray, List.set_cons_zero, List.set_cons_succ, i64_w, i32_w]
              rfl
            exact norm_ (by simp only [putAll, Act.put, List.setIfInBounds_toArray, List.set_cons_zero, List.set_cons_succ]) (hCont () _ rfl)
        rintro _ _ rfl
        have hHeld := (blkc ZC.out)
        refine norm_ (a' := ?_) ?_ ?_
        rotate_left
        · simp only [putAll, Act.put, List.setIfInBounds_toArray, List.set_cons_zero, List.set_cons_succ]
          rfl
        refine pure_ (i := 23) (N := some 111) (v := ?_) (a' := ?_) #[true, true, true, true, true, true, true, true, true, true, true, true, true, true, true, true, true, true, true, true, true, true, true, true, false, false, false, false, false, false] rfl rfl (by kernel_rfl) (fun _ _ _ h => h) (Or.inl ⟨by rfl, ?_⟩) ?_ ?_
        rotate_left
        · intro w'
          go_simp
          with_reducible rfl
        rotate_left
        · simp only [Act.put, List.setIfInBounds_toArray, List.set_cons_zero, List.set_cons_succ, i64_w, i32_w]
          rfl
        refine pure_ (i := 24) (N := some 112) (v := ?_) (a' := ?_) #[true, true, true, true, true, true, true, true, true, true, true, true, true, true, true, true, true, true, true, true, true, true, true, true, true, false, false, false, false, false] rfl rfl (by kernel_rfl) (fun _ _ _ h => h) (Or.inl ⟨by rfl, ?_⟩) ?_ ?_
        rotate_left
        · intro w'
          go_simp
          with_reducible rfl
        rotate_left
        · simp only [Act.put, List.setIfInBounds_toArray, List.set_cons_zero, List.set_cons_succ, i64_w, i32_w]
          rfl
        refine pure_ (i := 25) (N := some 113) (v := ?_) (a' := ?_) #[true, true, true, true, true, true, true, true, true, true, true, true, true, true, true, true, true, true, true, true, true, true, true, true, true, true, false, false, false, false] rfl rfl (by kernel_rfl) (fun _ _ _ h => h) (Or.inl ⟨by rfl, ?_⟩) ?_ ?_
        rotate_left
        · intro w'
          go_simp
          with_reducible rfl
        rotate_left
        · simp only [Act.put, List.setIfInBounds_toArray, List.set_cons_zero, List.set_cons_succ, i64_w, i32_w]
          rfl
        refine pure_ (i := 26) (N := some 114) (v := ?_) (a' := ?_) #[true, true, true, true, true, true, true, true, true, true, true, true, true, true, true, true, true, true, true, true, true, true, true, true, true, true, true, false, false, false] rfl rfl (by kernel_rfl) (fun _ _ _ h => h) (Or.inl ⟨by rfl, ?_⟩) ?_ ?_
        rotate_left
        · intro w'
          go_simp
          with_reducible rfl
        rotate_left
        · simp only [Act.put, List.setIfInBounds_toArray, List.set_cons_zero, List.set_cons_succ, i64_w, i32_w]
          rfl
        refine one_ (i := 27) (N := some 115) #[true, true, true, true, true, true, true, true, true, true, true, true, true, true, true, true, true, true, true, true, true, true, true, true, true, true, true, true, false, false] rfl rfl (by kernel_rfl) (by decide) (fun K hK => ?_)
        refine goes_ Try.func29 (by kernel_rfl) rfl #[.slice AA out.length cA] (by rfl) rfl rfl (by simp only [List.map_toArray, List.map_cons, List.map_nil]; rfl) ?_
        with_reducible refine (own_any (w0 := w) RC.out hw9 BC.out hCs (by omega)).mono ?_
        rintro e wE ⟨rfl, hkE, hbE⟩
        refine ⟨_, rfl, ?_⟩
        have IE := Lib.hid (IC.out.kept hkE (fun e => by have := Kd.R_base RC.out g e.symm; omega))
        have XE := Lib.hid (XC.out.kept hkE (fun e => by have := Kd.R_base RC.out gx e.symm; omega) HVA.out)
        have ZE := Lib.hid (blk_kept ZC.out hkE (fun e => by have := Kd.R_base RC.out q e.symm; omega))
        have BE := Lib.hid hbE
        clear hkE hbE
        refine hK.out _ _ ((blkc ZE.out)) (fun hHeld => ?_)
        clear hK K
        refine norm_ (a' := ?_) ?_ ?_
        rotate_left
        · show Act.put _ (some 115) _ = _
          simp only [Act.put, List.setIfInBounds_toArray, List.set_cons_zero, List.set_cons_succ, i64_w, i32_w]
          rfl
        refine pure_ (i := 28) (N := some 116) (v := ?_) (a' := ?_) #[true, true, true, true, true, true, true, true, true, true, true, true, true, true, true, true, true, true, true, true, true, true, true, true, true, true, true, true, true, false] rfl rfl (by kernel_rfl) (fun _ _ _ h => h) (Or.inl ⟨by rfl, ?_⟩) ?_ ?_
        rotate_left
        · intro w'
          go_simp
          with_reducible rfl
        rotate_left
        · simp only [Act.put, List.setIfInBounds_toArray, List.set_cons_zero, List.set_cons_succ, i64_w, i32_w]
          rfl
        refine pure_ (i := 29) (N := some 117) (v := ?_) (a' := ?_) #[true, true, true, true, true, true, true, true, true, true, true, true, true, true, true, true, true, true, true, true, true, true, true, true, true, true, true, true, true, true] rfl rfl (by kernel_rfl) (fun _ _ _ h => h) (Or.inl ⟨by rfl, ?_⟩) ?_ ?_
        rotate_left
        · intro w'
          go_simp
          with_reducible rfl
        rotate_left
        · simp only [Act.put, List.setIfInBounds_toArray, List.set_cons_zero, List.set_cons_succ, i64_w, i32_w]
          rfl
        refine done_ (by kernel_rfl) ?_
        clear c514 c0 c515 d5 d6 ID XD BD RD ZD
        go_wp2_with fail
        go_roundg k1
        case measure => exact Nat.lt_succ_self _
        case rel => exact ⟨k + 1, st2, x2, _, rfl, Lib.hid (by have := HK.out; omega), OKT.out, SM2.out, Lib.hid (by omega), IE.out, XE.out, BE.out⟩
      | true =>
        have e1 : IntKind.i64.wrap (x.next + s.n % 5) = x.next + s.n % 5 := IntWalk.i64_in _ (by omega)
        go_wp2_with fail
        have Pd := Lib.hid (blk_drew P7.out)
        have Xd := Lib.hid (X7.out.below (below_drew (Below.refl _ _)))
        have Zd := Lib.hid (blk_drew Z7.out)
        clear cp7
        refine start_ (n := 10) (S := fun w' => (∀ o, w'.cell? ⟨p, o, none⟩ = #[Value.int .i64 s.call, .int .i64 s.n, .int .i64 s.u.seq, .int .i64 s.u.client, .int .i64 s.u.number, .int .i64 s.u.kind, .string s.u.key, .string s.u.value, .int .i64 s.u.version][o]?) ∧ (w'.cell? ⟨gx, 5, none⟩ = some (.int .i64 x.next))) (ds := [9]) #[false, false, false, false, false, false, false, false, false, false] (by kernel_rfl) rfl rfl ⟨(blkc Pd.out), (blkc Xd.out.1 5)⟩ (fun hHeld => ?_)
        refine pure_ (i := 0) (N := some 65) (v := ?_) (a' := ?_) #[true, false, false, false, false, false, false, false, false, false] rfl rfl (by kernel_rfl) (fun _ _ _ h => h) (Or.inl ⟨by rfl, ?_⟩) ?_ ?_
        rotate_left
        · intro w'
          go_simp
          with_reducible rfl
        rotate_left
        · simp only [Act.put, List.setIfInBounds_toArray, List.set_cons_zero, List.set_cons_succ, i64_w, i32_w]
          rfl
        refine pure_ (i := 1) (N := some 66) (v := ?_) (a' := ?_) #[true, true, false, false, false, false, false, false, false, false] rfl rfl (by kernel_rfl) (fun _ _ _ h => h) (Or.inl ⟨by rfl, ?_⟩) ?_ ?_
        rotate_left
        · intro w'
          go_simp
          with_reducible rfl
        rotate_left
        · simp only [Act.put, List.setIfInBounds_toArray, List.set_cons_zero, List.set_cons_succ, i64_w, i32_w]
          rfl
        refine pure_ (i := 2) (N := some 67) (v := ?_) (a' := ?_) #[true, true, true, false, false, false, false, false, false, false] rfl rfl (by kernel_rfl) (fun _ _ _ h => h) (Or.inl ⟨by rfl, ?_⟩) ?_ ?_
        rotate_left
        · intro w'
          go_simp
          with_reducible rfl
        rotate_left
        · simp only [Act.put, List.setIfInBounds_toArray, List.set_cons_zero, List.set_cons_succ, i64_w, i32_w]
          rfl
        refine pure_ (i := 4) (N := some 69) (v := ?_) (a' := ?_) #[true, true, true, false, true, false, false, false, false, false] rfl rfl (by kernel_rfl) (fun _ _ _ h => h) (Or.inl ⟨by rfl, ?_⟩) ?_ ?_
        rotate_left
        · intro w'
          go_simp
          with_reducible rfl
        rotate_left
        · simp only [Act.put, List.setIfInBounds_toArray, List.set_cons_zero, List.set_cons_succ, i64_w, i32_w]
          rfl
        refine take_ (i := 3) (N := some 68) (v := ?_) (a' := ?_) #[true, true, true, true, true, false, false, false, false, false] rfl rfl (by kernel_rfl) (fun _ _ _ h => h) (Or.inl ⟨by rfl, ?_⟩) hHeld ?_ ?_
        rotate_left
        · rintro w' ⟨s0, s1⟩
          go_simp
          with_reducible rfl
        rotate_left
        · simp only [Act.put, List.setIfInBounds_toArray, List.set_cons_zero, List.set_cons_succ, i64_w, i32_w]
          rfl
        refine take_ (i := 5) (N := some 70) (v := ?_) (a' := ?_) #[true, true, true, true, true, true, false, false, false, false] rfl rfl (by kernel_rfl) (fun _ _ _ h => h) (Or.inl ⟨by rfl, ?_⟩) hHeld ?_ ?_
        rotate_left
        · rintro w' ⟨s0, s1⟩
          go_simp
          with_reducible rfl
        rotate_left
        · simp only [Act.put, List.setIfInBounds_toArray, List.set_cons_zero, List.set_cons_succ, i64_w, i32_w]
          rfl
        refine one_ (i := 6) (N := some 71) #[true, true, true, true, true, true, true, false, false, false] rfl rfl (by kernel_rfl) (by decide) (fun K hK => ?_)
        refine goes_ Try.func11 (by kernel_rfl) rfl #[.int .i64 s.n, .int .i64 5] (by rfl) rfl rfl (by simp only [List.map_toArray, List.map_cons, List.map_nil]; rfl) ?_
        with_reducible refine (place_any s.n 5 _ (by omega) (by omega)).mono ?_
        rintro e w1 ⟨rfl, rfl⟩
        refine ⟨_, rfl, ?_⟩
        refine hK.out _ _ ⟨hHeld.1, hHeld.2⟩ (fun hHeld => ?_)
        clear hK K
        refine norm_ (a' := ?_) ?_ ?_
        rotate_left
        · show Act.put _ (some 71) _ = _
          simp only [Act.put, List.setIfInBounds_toArray, List.set_cons_zero, List.set_cons_succ, i64_w, i32_w]
          rfl
        refine pure_ (i := 7) (N := some 72) (v := ?_) (a' := ?_) #[true, true, true, true, true, true, true, true, false, false] rfl rfl (by kernel_rfl) (fun _ _ _ h => h) (Or.inl ⟨by rfl, ?_⟩) ?_ ?_
        rotate_left
        · intro w'
          go_simp
          with_reducible rfl
        rotate_left
        · simp only [Act.put, List.setIfInBounds_toArray, List.set_cons_zero, List.set_cons_succ, i64_w, i32_w]
          rfl
        refine pure_ (i := 8) (N := some 73) (v := ?_) (a' := ?_) #[true, true, true, true, true, true, true, true, true, false] rfl rfl (by kernel_rfl) (fun _ _ _ h => h) (Or.inl ⟨by rfl, ?_⟩) ?_ ?_
        rotate_left
        · intro w'
          go_simp
          with_reducible rfl
        rotate_left
        · simp only [Act.put, List.setIfInBounds_toArray, List.set_cons_zero, List.set_cons_succ, i64_w, i32_w]
          rfl
        refine last_ (i := 9) (N := none) #[true, true, true, true, true, true, true, true, true, true] rfl rfl (by kernel_rfl) (by decide) (fun K hK => ?_)
        have z8 := blkz Zd.out 0
        have c8 := blkc Zd.out 0
        refine skip_ (w1 := ?_) (by rfl) rfl ?_ ?_
        rotate_left
        · go_simp
          rfl
        refine hK.out _ _ ?_
        clear hK K
        refine done_ (by kernel_rfl) ?_
        have hpq : p ≠ q := by omega
        have hgq : g ≠ q := by obtain ⟨cs, G, _⟩ := I7.out; exact Ne.symm (blk_ne Z7.out G (by decide))
        have hxq : gx ≠ q := Ne.symm (blk_ne Z7.out X7.out.1 (show tU ≠ tRI by decide))
        have hqw : w.heap.size ≤ q := by have := B4s; omega
        clear Zd Xd Pd
        have Z8 := Lib.hid (show (World.setCell W7 ⟨q, 0, none⟩ (.int .i64 (x.next + s.n % 5))).heap[q]? = some (.cells #[.int .i64 (u1.with (x.next + s.n % 5)).seq, .int .i64 (u1.with (x.next + s.n % 5)).client, .int .i64 (u1.with (x.next + s.n % 5)).number, .int .i64 (u1.with (x.next + s.n % 5)).kind, .string (u1.with (x.next + s.n % 5)).key, .string (u1.with (x.next + s.n % 5)).value, .int .i64 (u1.with (x.next + s.n % 5)).version] tU (0, 0)) from by have := blk_set Z7.out 0 (.int .i64 (x.next + s.n % 5)); simpa [U.with] using this)
        have P8 := Lib.hid (blk_far (p := ⟨q, 0, none⟩) P7.out hpq (.int .i64 (x.next + s.n % 5)))
        have I8 : Hid (InR (World.setCell W7 ⟨q, 0, none⟩ (.int .i64 (x.next + s.n % 5))) g st) := by obtain ⟨cs, G, C⟩ := I7.out; exact Lib.hid ⟨cs, blk_far (p := ⟨q, 0, none⟩) G hgq (.int .i64 (x.next + s.n % 5)), C⟩
        have X8 : Hid (RIR (World.setCell W7 ⟨q, 0, none⟩ (.int .i64 (x.next + s.n % 5))) w.heap.size gx v x) := Lib.hid ⟨blk_far (p := ⟨q, 0, none⟩) X7.out.1 hxq (.int .i64 (x.next + s.n % 5)), R_mine X7.out.2 (fun k hk => Below.heap_setCell W7 ⟨q, 0, none⟩ _ k (fun e => by have := HVQ.out k hk; have e2 : k = q := e; omega))⟩
        have B8 := Lib.hid (below_set (g := q) (j := 0) (v := (.int .i64 (x.next + s.n % 5))) B7.out (by omega))
        clear Z7 P7 I7 X7 B7
        generalize (World.setCell _ _ _) = W8 at *
        generalize u1.with (x.next + s.n % 5) = u2 at *
        have Z9 := Lib.hid (blk_drew Z8.out)
        have P9 := Lib.hid (blk_drew P8.out)
        have I9 := Lib.hid (I8.out.below (below_drew (Below.refl _ _)))
        have X9 := Lib.hid (X8.out.below (below_drew (Below.refl _ _)))
        have B9 := Lib.hid B8.out.drew
        clear Z8 P8 I8 X8 B8
        generalize (World.drew W8) = W9 at *
        have cp9 := blkc P9.out
        have cz9 := blkc Z9.out 0
        have zz9 := blkz Z9.out 0
        by_cases h1m : s.n = 9223372036854775807
        · have m1 : (s.n == 9223372036854775807) = true := by simpa using h1m
          have HM1 := Lib.hid h1m
          clear h1m
          go_upto_region 15 with (fail)
          clear cp9 cz9 zz9
          have Z10 := Lib.hid (show (World.setCell W9 ⟨q, 0, none⟩ (.int .i64 (s.n))).heap[q]? = some (.cells #[.int .i64 (u2.with (s.n)).seq, .int .i64 (u2.with (s.n)).client, .int .i64 (u2.with (s.n)).number, .int .i64 (u2.with (s.n)).kind, .string (u2.with (s.n)).key, .string (u2.with (s.n)).value, .int .i64 (u2.with (s.n)).version] tU (0, 0)) from by have := blk_set Z9.out 0 (.int .i64 (s.n)); simpa [U.with] using this)
          have P10 := Lib.hid (blk_far (p := ⟨q, 0, none⟩) P9.out hpq (.int .i64 (s.n)))
          have I10 : Hid (InR (World.setCell W9 ⟨q, 0, none⟩ (.int .i64 (s.n))) g st) := by obtain ⟨cs, G, C⟩ := I9.out; exact Lib.hid ⟨cs, blk_far (p := ⟨q, 0, none⟩) G hgq (.int .i64 (s.n)), C⟩
          have X10 : Hid (RIR (World.setCell W9 ⟨q, 0, none⟩ (.int .i64 (s.n))) w.heap.size gx v x) := Lib.hid ⟨blk_far (p := ⟨q, 0, none⟩) X9.out.1 hxq (.int .i64 (s.n)), R_mine X9.out.2 (fun k hk => Below.heap_setCell W9 ⟨q, 0, none⟩ _ k (fun e => by have := HVQ.out k hk; have e2 : k = q := e; omega))⟩
          have B10 := Lib.hid (below_set (g := q) (j := 0) (v := (.int .i64 (s.n))) B9.out (by omega))
          clear Z9 P9 I9 X9 B9
          generalize (World.setCell _ _ _) = W10 at *
          generalize u2.with (s.n) = u3 at *
          have hqg : q ≠ g := by obtain ⟨cs, G, _⟩ := I10.out; exact blk_ne Z10.out G (by decide)
          have hqx : q ≠ gx := blk_ne Z10.out X10.out.1 (show tU ≠ tRI by decide)
          have hgx : g ≠ gx := by obtain ⟨cs, G, _⟩ := I10.out; exact blk_ne G X10.out.1 (show tIn ≠ tRI by decide)
          have HVG : Hid (some g ≠ v.ownBlock) := by obtain ⟨cs, G, _⟩ := I10.out; exact Lib.hid (Kd.R_ne X10.out.2 G (show tU ≠ tIn by decide))
          have HVX := Lib.hid (Kd.R_ne X10.out.2 X10.out.1 (show tU ≠ tRI by decide))
          have HV9 := Lib.hid (Kd.R_lt X10.out.2)
          have hg9 : g < W10.heap.size := by obtain ⟨cs, G, _⟩ := I10.out; exact blk_lt G
          have hx9 : gx < W10.heap.size := blk_lt X10.out.1
          have hq9 : q < W10.heap.size := blk_lt Z10.out
          have hw9 : w.heap.size ≤ W10.heap.size := B10.out.size
          have PRO := Lib.hid (take_props OK.out u3 hbd)
          have OKT := Lib.hid (OK.out.take u3 hbd)
          have hl65 := take_len st u3
          have SMT := Lib.hid (sim_take OK.out SM.out u3 hbd)
          have cq9 := blkc Z10.out
          go_wp2_with fail
          refine (take_any (w0 := w) u3 OK.out I10.out hgw B10.out hbd).mono ?_
          rintro e wA ⟨rA, rfl, hiA, hrA, hkA, hbA⟩
          have IA := Lib.hid hiA
          have BA := Lib.hid hbA
          have RA := Lib.hid hrA
          have ZA := Lib.hid (blk_kept Z10.out hkA hqg)
          have XA := Lib.hid (X10.out.kept hkA (fun e => hgx e.symm) (fun k hk e => HVG.out (by rw [hk, e])))
          have hAs := hkA.1
          clear cq9 hiA hbA hrA hkA
          generalize hT : st.take u3 = T at *
          generalize hTx : x.take u3 = Tx at *
          obtain ⟨st2, out⟩ := T
          obtain ⟨x2, out2⟩ := Tx
          have HTX := Lib.hid hTx
          clear hT hTx
          simp only at PRO OKT hl65 SMT IA RA
          have hout : out = out2 := SMT.out.1
          subst hout
          have SM2 := Lib.hid SMT.out.2
          have hf2 := PRO.out.1
          have hf2a : 0 ≤ st2.line.from_ := by omega
          have hf2b : st2.line.from_ ≤ st.line.from_ + 65 := by omega
          clear hf2
          obtain ⟨AA, cA, rfl⟩ := Kd.R_slice RA.out
          go_wp2_with fail
          have ID := Lib.hid (IA.out.below (below_drew (Below.refl _ _)))
          have XD := Lib.hid (XA.out.below (below_drew (Below.refl _ _)))
          have BD := Lib.hid BA.out.drew
          have RD := Lib.hid (Kd.R_drew RA.out)
          have ZD := Lib.hid (blk_drew ZA.out)
          have hDs : W10.heap.size ≤ wA.drew.heap.size := hAs
          clear IA XA BA RA ZA SMT PRO
          refine start_ (n := 30) (S := fun w' => (∀ o, w'.cell? ⟨q, o, none⟩ = #[Value.int .i64 u3.seq, .int .i64 u3.client, .int .i64 u3.number, .int .i64 u3.kind, .string u3.key, .string u3.value, .int .i64 u3.version][o]?)) (ds := []) #[false, false, false, false, false, false, false, false, false, false, false, false, false, false, false, false, false, false, false, false, false, false, false, false, false, false, false, false, false, false] (by kernel_rfl) rfl rfl ((blkc ZD.out)) (fun hHeld => ?_)
          refine pure_ (i := 0) (N := some 88) (v := ?_) (a' := ?_) #[true, false, false, false, false, false, false, false, false, false, false, false, false, false, false, false, false, false, false, false, false, false, false, false, false, false, false, false, false, false] rfl rfl (by kernel_rfl) (fun _ _ _ h => h) (Or.inl ⟨by rfl, ?_⟩) ?_ ?_
          rotate_left
          · intro w'
            go_simp
            with_reducible rfl
          rotate_left
          · simp only [Act.put, List.setIfInBounds_toArray, List.set_cons_zero, List.set_cons_succ, i64_w, i32_w]
            rfl
          refine pure_ (i := 1) (N := some 89) (v := ?_) (a' := ?_) #[true, true, false, false, false, false, false, false, false, false, false, false, false, false, false, false, false, false, false, false, false, false, false, false, false, false, false, false, false, false] rfl rfl (by kernel_rfl) (fun _ _ _ h => h) (Or.inl ⟨by rfl, ?_⟩) ?_ ?_
          rotate_left
          · intro w'
            go_simp
            with_reducible rfl
          rotate_left
          · simp only [Act.put, List.setIfInBounds_toArray, List.set_cons_zero, List.set_cons_succ, i64_w, i32_w]
            rfl
          refine take_ (i := 2) (N := some 90) (v := ?_) (a' := ?_) #[true, true, true, false, false, false, false, false, false, false, false, false, false, false, false, false, false, false, false, false, false, false, false, false, false, false, false, false, false, false] rfl rfl (by kernel_rfl) (fun _ _ _ h => h) (Or.inl ⟨by rfl, ?_⟩) hHeld ?_ ?_
          rotate_left
          · intro w' s0
            go_simp
            with_reducible rfl
          rotate_left
          · simp only [Act.put, List.setIfInBounds_toArray, List.set_cons_zero, List.set_cons_succ, i64_w, i32_w]
            rfl
          refine one_ (i := 3) (N := some 91) #[true, true, true, true, false, false, false, false, false, false, false, false, false, false, false, false, false, false, false, false, false, false, false, false, false, false, false, false, false, false] rfl rfl (by kernel_rfl) (by decide) (fun K hK => ?_)
          refine goes_ Try.func35 (by kernel_rfl) rfl #[.pointer (some ⟨gx, 0, none⟩), u3.val] (by rfl) rfl rfl (by simp only [List.map_toArray, List.map_cons, List.map_nil]; rfl) ?_
          with_reducible refine (refTake_any (w0 := w) u3 XD.out hgxw BD.out hn0 hnb hxw1 hxw2 hxl).mono ?_
          rintro e wB ⟨rB, rfl, vB, hxB, hvB, hrB, hkB, hbB⟩
          refine ⟨_, rfl, ?_⟩
          replace hxB : RIR wB w.heap.size gx vB (x.take u3).1 := hxB
          rw [HTX.out] at hxB hrB
          have XB := Lib.hid (show RIR wB w.heap.size gx vB x2 from hxB)
          have RB := Lib.hid (show kU.R tU wB wA.drew.heap.size (fun _ => True) rB out from R_ok hrB (fun _ _ => trivial))
          obtain ⟨AB, cB, rfl⟩ := Kd.R_slice RB.out
          have IB := Lib.hid (ID.out.kept hkB (fun h => h.elim hgx HVG.out))
          have RAB := Lib.hid (R_mine RD.out (fun k hk => hkB.2 k (Kd.R_lt RD.out k hk) (fun h => h.elim (fun e => by have := Kd.R_base RD.out k hk; omega) (fun e => by have := Kd.R_base RD.out k hk; have := HV9.out k e.symm; omega))))
          have ZB := Lib.hid (blk_kept ZD.out hkB (fun h => h.elim hqx (fun e => by have := HVQ.out q e.symm; omega)))
          have BB := Lib.hid hbB
          have hBs := hkB.1
          have HVA : Hid (∀ k, vB.ownBlock = some k → ¬ some k = (Value.slice AA out.length cA).ownBlock) := Lib.hid (fun k hk e => hvB.elim (fun h => by have h1 := HV9.out k (h.symm.trans hk); have h2 := Kd.R_base RD.out k e.symm; omega) (fun ⟨b, hb, hle⟩ => by have h1 := Kd.R_lt RD.out k e.symm; have h2 : k = b := Option.some.inj (hk.symm.trans hb); omega))
          clear hxB hvB hrB hkB hbB
          refine hK.out _ _ ((blkc ZB.out)) (fun hHeld => ?_)
          clear hK K
          refine norm_ (a' := ?_) ?_ ?_
          rotate_left
          · show Act.put _ (some 91) _ = _
            simp only [Act.put, List.setIfInBounds_toArray, List.set_cons_zero, List.set_cons_succ, i64_w, i32_w]
            rfl
          refine one_ (i := 4) (N := some 92) #[true, true, true, true, true, false, false, false, false, false, false, false, false, false, false, false, false, false, false, false, false, false, false, false, false, false, false, false, false, false] rfl rfl (by kernel_rfl) (by decide) (fun K hK => ?_)
          refine goes_ Try.func28 (by kernel_rfl) rfl #[.slice AA out.length cA, .slice AB out.length cB] (by rfl) rfl rfl (by simp only [List.map_toArray, List.map_cons, List.map_nil]; rfl) ?_
          with_reducible refine (same_any _ AA AB cA cB out ((Kd.R_reads' RAB.out).2.2) ((Kd.R_reads' RB.out).2.2)).mono ?_
          rintro e wC ⟨rfl, nC, rfl⟩
          refine ⟨_, rfl, ?_⟩
          have IC := Lib.hid (show InR (wB.drewN nC) g st2 from IB.out)
          have XC := Lib.hid (XB.out.drewN nC)
          have RC := Lib.hid (Kd.R_drewN RAB.out nC)
          have ZC := Lib.hid (show (wB.drewN nC).heap[q]? = some (.cells #[.int .i64 u3.seq, .int .i64 u3.client, .int .i64 u3.number, .int .i64 u3.kind, .string u3.key, .string u3.value, .int .i64 u3.version] tU (0, 0)) from ZB.out)
          have BC := Lib.hid (pw_below_drewN BB.out nC)
          have hCs : W10.heap.size ≤ (wB.drewN nC).heap.size := Nat.le_trans hDs hBs
          generalize (World.drewN wB nC) = WC at *
          have c514 := IC.out.made OKT.out.mid.made
          have c0 := IC.out.from_
          have c515 := IC.out.holds
          rw [show st2.holds = (x2.held.length : Int) by rw [OKT.out.mid.cnt, SM2.out.len]] at c515
          obtain ⟨AX, cX, rfl⟩ := Kd.R_slice XC.out.2
          have d5 := (show WC.cell? ⟨gx, 5, none⟩ = some (.int .i64 x2.next) from blkc XC.out.1 5)
          rw [SM2.out.next] at d5
          have d6 := (show WC.cell? ⟨gx, 6, none⟩ = some (.slice AX x2.held.length cX) from blkc XC.out.1 6)
          refine hK.out _ _ ((blkc ZC.out)) (fun hHeld => ?_)
          clear hK K
          refine norm_ (a' := ?_) ?_ ?_
          rotate_left
          · show Act.put _ (some 92) _ = _
            simp only [Act.put, List.setIfInBounds_toArray, List.set_cons_zero, List.set_cons_succ, i64_w, i32_w]
            rfl
          refine pure_ (i := 5) (N := some 93) (v := ?_) (a' := ?_) #[true, true, true, true, true, true, false, false, false, false, false, false, false, false, false, false, false, false, false, false, false, false, false, false, false, false, false, false, false, false] rfl rfl (by kernel_rfl) (fun _ _ _ h => h) (Or.inl ⟨by rfl, ?_⟩) ?_ ?_
          rotate_left
          · intro w'
            go_simp
            with_reducible rfl
          rotate_left
          · simp only [Act.put, List.setIfInBounds_toArray, List.set_cons_zero, List.set_cons_succ, i64_w, i32_w]
            rfl
          refine pure_ (i := 6) (N := some 94) (v := ?_) (a' := ?_) #[true, true, true, true, true, true, true, false, false, false, false, false, false, false, false, false, false, false, false, false, false, false, false, false, false, false, false, false, false, false] rfl rfl (by kernel_rfl) (fun _ _ _ h => h) (Or.inl ⟨by rfl, ?_⟩) ?_ ?_
          rotate_left
          · intro w'
            go_simp
            with_reducible rfl
          rotate_left
          · simp only [Act.put, List.setIfInBounds_toArray, List.set_cons_zero, List.set_cons_succ, i64_w, i32_w]
            rfl
          refine pure_ (i := 7) (N := some 95) (v := ?_) (a' := ?_) #[true, true, true, true, true, true, true, true, false, false, false, false, false, false, false, false, false, false, false, false, false, false, false, false, false, false, false, false, false, false] rfl rfl (by kernel_rfl) (fun _ _ _ h => h) (Or.inl ⟨by rfl, ?_⟩) ?_ ?_
          rotate_left
          · intro w'
            go_simp
            with_reducible rfl
          rotate_left
          · simp only [Act.put, List.setIfInBounds_toArray, List.set_cons_zero, List.set_cons_succ, i64_w, i32_w]
            rfl
          refine pure_ (i := 9) (N := some 97) (v := ?_) (a' := ?_) #[true, true, true, true, true, true, true, true, false, true, false, false, false, false, false, false, false, false, false, false, false, false, false, false, false, false, false, false, false, false] rfl rfl (by kernel_rfl) (fun _ _ _ h => h) (Or.inl ⟨by rfl, ?_⟩) ?_ ?_
          rotate_left
          · intro w'
            go_simp
            with_reducible rfl
          rotate_left
          · simp only [Act.put, List.setIfInBounds_toArray, List.set_cons_zero, List.set_cons_succ, i64_w, i32_w]
            rfl
          refine pure_ (i := 10) (N := some 98) (v := ?_) (a' := ?_) #[true, true, true, true, true, true, true, true, false, true, true, false, false, false, false, false, false, false, false, false, false, false, false, false, false, false, false, false, false, false] rfl rfl (by kernel_rfl) (fun _ _ _ h => h) (Or.inl ⟨by rfl, ?_⟩) ?_ ?_
          rotate_left
          · intro w'
            go_simp
            with_reducible rfl
          rotate_left
          · simp only [Act.put, List.setIfInBounds_toArray, List.set_cons_zero, List.set_cons_succ, i64_w, i32_w]
            rfl
          refine pure_ (i := 11) (N := some 99) (v := ?_) (a' := ?_) #[true, true, true, true, true, true, true, true, false, true, true, true, false, false, false, false, false, false, false, false, false, false, false, false, false, false, false, false, false, false] rfl rfl (by kernel_rfl) (fun _ _ _ h => h) (Or.inl ⟨by rfl, ?_⟩) ?_ ?_
          rotate_left
          · intro w'
            go_simp
            with_reducible rfl
          rotate_left
          · simp only [Act.put, List.setIfInBounds_toArray, List.set_cons_zero, List.set_cons_succ, i64_w, i32_w]
            rfl
          refine join_ (σ := Unit) 17 #[true, true, true, true, true, true, true, true, true, true, true, true, true, false, false, false, false, false, false, false, false, false, false, false, false, false, false, false, false, false] (fun _ => [(96, .int .i64 (st2.line.from_ + 1)), (100, .int .i64 (st2.line.from_ + 1))]) (fun _ w' => WC = w') ?_ ?_
          rotate_left
          · intro hCont
            refine two_ (i := 8) (j := 12) (Ni := some 96) (Nj := some 100) #[true, true, true, true, true, true, true, true, true, true, true, true, false, false, false, false, false, false, false, false, false, false, false, false, false, false, false, false, false, false] #[true, true, true, true, true, true, true, true, false, true, true, true, true, false, false, false, false, false, false, false, false, false, false, false, false, false, false, false, false, false] rfl rfl rfl rfl (by kernel_rfl) (by decide) (by decide) (fun K hK => ?_) (fun K hK => ?_)
            · skip
              refine goes_ Try.func15 (by kernel_rfl) rfl #[.pointer (some ⟨g, 0, none⟩)] (by rfl) rfl rfl (by simp only [List.map_toArray, List.map_cons, List.map_nil]; rfl) ?_
              with_reducible refine (next_any c514 c0 (by omega) (by omega)).mono ?_
              rintro e w1 ⟨rfl, rfl⟩
              refine ⟨_, rfl, ?_⟩
              refine hK.out _ _ (hHeld) (fun hHeld => ?_)
              clear hK K
              refine norm_ (a' := ?_) ?_ ?_
              rotate_left
              · show Act.put _ (some 96) _ = _
                simp only [Act.put, List.setIfInBounds_toArray, List.set_cons_zero, List.set_cons_succ, i64_w, i32_w]
                rfl
              refine one_ (i := 12) (N := some 100) #[true, true, true, true, true, true, true, true, true, true, true, true, true, false, false, false, false, false, false, false, false, false, false, false, false, false, false, false, false, false] rfl rfl (by kernel_rfl) (by decide) (fun K hK => ?_)
              refine value_ (w1 := ?_) (v := ?_) (by rfl) rfl ?_ ?_
              rotate_left 2
              · go_simp
                constructor
                · rfl
                · rfl
              refine hK.out _ _ (hHeld) (fun hHeld => ?_)
              clear hK K
              refine norm_ (a' := ?_) ?_ ?_
              rotate_left
              · show Act.put _ (some 100) _ = _
                simp only [Act.put, List.setIfInBounds_toArray, List.set_cons_zero, List.set_cons_succ, i64_w, i32_w]
                rfl
              exact norm_ (by simp only [putAll, Act.put, List.setIfInBounds_toArray, List.set_cons_zero, List.set_cons_succ]) (hCont () _ rfl)
            · skip
              refine value_ (w1 := ?_) (v := ?_) (by rfl) rfl ?_ ?_
              rotate_left 2
              · go_simp
                constructor
                · rfl
                · rfl
              refine hK.out _ _ (hHeld) (fun hHeld => ?_)
              clear hK K
              refine norm_ (a' := ?_) ?_ ?_
              rotate_left
              · show Act.put _ (some 100) _ = _
                simp only [Act.put, List.setIfInBounds_toArray, List.set_cons_zero, List.set_cons_succ, i64_w, i32_w]
                rfl
              refine one_ (i := 8) (N := some 96) #[true, true, true, true, true, true, true, true, true, true, true, true, true, false, false, false, false, false, false, false, false, false, false, false, false, false, false, false, false, false] rfl rfl (by kernel_rfl) (by decide) (fun K hK => ?_)
              refine goes_ Try.func15 (by kernel_rfl) rfl #[.pointer (some ⟨g, 0, none⟩)] (by rfl) rfl rfl (by simp only [List.map_toArray, List.map_cons, List.map_nil]; rfl) ?_
              with_reducible refine (next_any c514 c0 (by omega) (by omega)).mono ?_
              rintro e w1 ⟨rfl, rfl⟩
              refine ⟨_, rfl, ?_⟩
              refine hK.out _ _ (hHeld) (fun hHeld => ?_)
              clear hK K
              refine norm_ (a' := ?_) ?_ ?_
              rotate_left
              · show Act.put _ (some 96) _ = _
                simp only [Act.put, List.setIfInBounds_toArray, List.set_cons_zero, List.set_cons_succ, i64_w, i32_w]
                rfl
              exact norm_ (by simp only [putAll, Act.put, List.setIfInBounds_toArray, List.set_cons_zero, List.set_cons_succ]) (hCont () _ rfl)
          rintro _ _ rfl
          have hHeld := (blkc ZC.out)
          refine norm_ (a' := ?_) ?_ ?_
          rotate_left
          · simp only [putAll, Act.put, List.setIfInBounds_toArray, List.set_cons_zero, List.set_cons_succ]
            rfl
          refine pure_ (i := 13) (N := some 101) (v := ?_) (a' := ?_) #[true, true, true, true, true, true, true, true, true, true, true, true, true, true, false, false, false, false, false, false, false, false, false, false, false, false, false, false, false, false] rfl rfl (by kernel_rfl) (fun _ _ _ h => h) (Or.inl ⟨by rfl, ?_⟩) ?_ ?_
          rotate_left
          · intro w'
            go_simp
            with_reducible rfl
          rotate_left
          · simp only [Act.put, List.setIfInBounds_toArray, List.set_cons_zero, List.set_cons_succ, i64_w, i32_w]
            rfl
          refine pure_ (i := 14) (N := some 102) (v := ?_) (a' := ?_) #[true, true, true, true, true, true, true, true, true, true, true, true, true, true, true, false, false, false, false, false, false, false, false, false, false, false, false, false, false, false] rfl rfl (by kernel_rfl) (fun _ _ _ h => h) (Or.inl ⟨by rfl, ?_⟩) ?_ ?_
          rotate_left
          · intro w'
            go_simp
            with_reducible rfl
          rotate_left
          · simp only [Act.put, List.setIfInBounds_toArray, List.set_cons_zero, List.set_cons_succ, i64_w, i32_w]
            rfl
          refine pure_ (i := 15) (N := some 103) (v := ?_) (a' := ?_) #[true, true, true, true, true, true, true, true, true, true, true, true, true, true, true, true, false, false, false, false, false, false, false, false, false, false, false, false, false, false] rfl rfl (by kernel_rfl) (fun _ _ _ h => h) (Or.inl ⟨by rfl, ?_⟩) ?_ ?_
          rotate_left
          · intro w'
            go_simp
            with_reducible rfl
          rotate_left
          · simp only [Act.put, List.setIfInBounds_toArray, List.set_cons_zero, List.set_cons_succ, i64_w, i32_w]
            rfl
          refine pure_ (i := 16) (N := some 104) (v := ?_) (a' := ?_) #[true, true, true, true, true, true, true, true, true, true, true, true, true, true, true, true, true, false, false, false, false, false, false, false, false, false, false, false, false, false] rfl rfl (by kernel_rfl) (fun _ _ _ h => h) (Or.inl ⟨by rfl, ?_⟩) ?_ ?_
          rotate_left
          · intro w'
            go_simp
            with_reducible rfl
          rotate_left
          · simp only [Act.put, List.setIfInBounds_toArray, List.set_cons_zero, List.set_cons_succ, i64_w, i32_w]
            rfl
          refine pure_ (i := 18) (N := some 106) (v := ?_) (a' := ?_) #[true, true, true, true, true, true, true, true, true, true, true, true, true, true, true, true, true, false, true, false, false, false, false, false, false, false, false, false, false, false] rfl rfl (by kernel_rfl) (fun _ _ _ h => h) (Or.inl ⟨by rfl, ?_⟩) ?_ ?_
          rotate_left
          · intro w'
            go_simp
            with_reducible rfl
          rotate_left
          · simp only [Act.put, List.setIfInBounds_toArray, List.set_cons_zero, List.set_cons_succ, i64_w, i32_w]
            rfl
          refine pure_ (i := 19) (N := some 107) (v := ?_) (a' := ?_) #[true, true, true, true, true, true, true, true, true, true, true, true, true, true, true, true, true, false, true, true, false, false, false, false, false, false, false, false, false, false] rfl rfl (by kernel_rfl) (fun _ _ _ h => h) (Or.inl ⟨by rfl, ?_⟩) ?_ ?_
          rotate_left
          · intro w'
            go_simp
            with_reducible rfl
          rotate_left
          · simp only [Act.put, List.setIfInBounds_toArray, List.set_cons_zero, List.set_cons_succ, i64_w, i32_w]
            rfl
          refine pure_ (i := 20) (N := some 108) (v := ?_) (a' := ?_) #[true, true, true, true, true, true, true, true, true, true, true, true, true, true, true, true, true, false, true, true, true, false, false, false, false, false, false, false, false, false] rfl rfl (by kernel_rfl) (fun _ _ _ h => h) (Or.inl ⟨by rfl, ?_⟩) ?_ ?_
          rotate_left
          · intro w'
            go_simp
            with_reducible rfl
          rotate_left
          · simp only [Act.put, List.setIfInBounds_toArray, List.set_cons_zero, List.set_cons_succ, i64_w, i32_w]
            rfl
          refine join_ (σ := Unit) 7 #[true, true, true, true, true, true, true, true, true, true, true, true, true, true, true, true, true, true, true, true, true, true, true, false, false, false, false, false, false, false] (fun _ => [(105, .int .i64 (x2.held.length : Int)), (109, .slice AX x2.held.length cX), (110, .int .i64 (x2.held.length : Int))]) (fun _ w' => WC = w') ?_ ?_
          rotate_left
          · intro hCont
            refine two_ (i := 17) (j := 21) (Ni := some 105) (Nj := some 109) #[true, true, true, true, true, true, true, true, true, true, true, true, true, true, true, true, true, true, true, true, true, false, false, false, false, false, false, false, false, false] #[true, true, true, true, true, true, true, true, true, true, true, true, true, true, true, true, true, false, true, true, true, true, false, false, false, false, false, false, false, false] rfl rfl rfl rfl (by kernel_rfl) (by decide) (by decide) (fun K hK => ?_) (fun K hK => ?_)
            · skip
              refine goes_ Try.func22 (by kernel_rfl) rfl #[.pointer (some ⟨g, 0, none⟩)] (by rfl) rfl rfl (by simp only [List.map_toArray, List.map_cons, List.map_nil]; rfl) ?_
              with_reducible refine (held_any c515).mono ?_
              rintro e w1 ⟨rfl, rfl⟩
              refine ⟨_, rfl, ?_⟩
              refine hK.out _ _ (hHeld) (fun hHeld => ?_)
              clear hK K
              refine norm_ (a' := ?_) ?_ ?_
              rotate_left
              · show Act.put _ (some 105) _ = _
                simp only [Act.put, List.setIfInBounds_toArray, List.set_cons_zero, List.set_cons_succ, i64_w, i32_w]
                rfl
              refine one_ (i := 21) (N := some 109) #[true, true, true, true, true, true, true, true, true, true, true, true, true, true, true, true, true, true, true, true, true, true, false, false, false, false, false, false, false, false] rfl rfl (by kernel_rfl) (by decide) (fun K hK => ?_)
              refine value_ (w1 := ?_) (v := ?_) (by rfl) rfl ?_ ?_
              rotate_left 2
              · go_simp
                constructor
                · rfl
                · rfl
              refine hK.out _ _ (hHeld) (fun hHeld => ?_)
              clear hK K
              refine norm_ (a' := ?_) ?_ ?_
              rotate_left
              · show Act.put _ (some 109) _ = _
                simp only [Act.put, List.setIfInBounds_toArray, List.set_cons_zero, List.set_cons_succ, i64_w, i32_w]
                rfl
              refine pure_ (i := 22) (N := some 110) (v := ?_) (a' := ?_) #[true, true, true, true, true, true, true, true, true, true, true, true, true, true, true, true, true, true, true, true, true, true, true, false, false, false, false, false, false, false] rfl rfl (by kernel_rfl) (fun _ _ _ h => h) (Or.inl ⟨by rfl, ?_⟩) ?_ ?_
              rotate_left
              · intro w'
                go_simp
                with_reducible rfl
              rotate_left
              · simp only [Act.put, List.setIfInBounds_toArray, List.set_cons_zero, List.set_cons_succ, i64_w, i32_w]
                rfl
              exact norm_ (by simp only [putAll, Act.put, List.setIfInBounds_toArray, List.set_cons_zero, List.set_cons_succ]) (hCont () _ rfl)
            · skip
              refine value_ (w1 := ?_) (v := ?_) (by rfl) rfl ?_ ?_
              rotate_left 2
              · go_simp
                constructor
                · rfl
                · rfl
              refine hK.out _ _ (hHeld) (fun hHeld => ?_)
              clear hK K
              refine norm_ (a' := ?_) ?_ ?_
              rotate_left
              · show Act.put _ (some 109) _ = _
                simp only [Act.put, List.setIfInBounds_toArray, List.set_cons_zero, List.set_cons_succ, i64_w, i32_w]
                rfl
              refine pure_ (i := 22) (N := some 110) (v := ?_) (a' := ?_) #[true, true, true, true, true, true, true, true, true, true, true, true, true, true, true, true, true, false, true, true, true, true, true, false, false, false, false, false, false, false] rfl rfl (by kernel_rfl) (fun _ _ _ h => h) (Or.inl ⟨by rfl, ?_⟩) ?_ ?_
              rotate_left
              · intro w'
                go_simp
                with_reducible rfl
              rotate_left
              · simp only [Act.put, List.setIfInBounds_toArray, List.set_cons_zero, List.set_cons_succ, i64_w, i32_w]
                rfl
              refine one_ (i := 17) (N := some 105) #[true, true, true, true, true, true, true, true, true, true, true, true, true, true, true, true, true, true, true, true, true, true, true, false, false, false, false, false, false, false] rfl rfl (by kernel_rfl) (by decide) (fun K hK => ?_)
              refine goes_ Try.func22 (by kernel_rfl) rfl #[.pointer (some ⟨g, 0, none⟩)] (by rfl) rfl rfl (by simp only [List.map_toArray, List.map_cons, List.map_nil]; rfl) ?_
              with_reducible refine (held_any c515).mono ?_
              rintro e w1 ⟨rfl, rfl⟩
              refine ⟨_, rfl, ?_⟩
              refine hK.out _ _ (hHeld) (fun hHeld => ?_)
              clear hK K
              refine norm_ (a' := ?_) ?_ ?_
              rotate_left
              · show Act.put _ (some 105) _ = _
                simp only [Act.put, List.setIfInBounds_toArray, List.set_cons_zero, List.set_cons_succ, i64_w, i32_w]
                rfl
              exact norm_ (by simp only [putAll, Act.put, List.setIfInBounds_toArray, List.set_cons_zero, List.set_cons_succ]) (hCont () _ rfl)
          rintro _ _ rfl
          have hHeld := (blkc ZC.out)
          refine norm_ (a' := ?_) ?_ ?_
          rotate_left
          · simp only [putAll, Act.put, List.setIfInBounds_toArray, List.set_cons_zero, List.set_cons_succ]
            rfl
          refine pure_ (i := 23) (N := some 111) (v := ?_) (a' := ?_) #[true, true, true, true, true, true, true, true, true, true, true, true, true, true, true, true, true, true, true, true, true, true, true, true, false, false, false, false, false, false] rfl rfl (by kernel_rfl) (fun _ _ _ h => h) (Or.inl ⟨by rfl, ?_⟩) ?_ ?_
          rotate_left
          · intro w'
            go_simp
            with_reducible rfl
          rotate_left
          · simp only [Act.put, List.setIfInBounds_toArray, List.set_cons_zero, List.set_cons_succ, i64_w, i32_w]
            rfl
          refine pure_ (i := 24) (N := some 112) (v := ?_) (a' := ?_) #[true, true, true, true, true, true, true, true, true, true, true, true, true, true, true, true, true, true, true, true, true, true, true, true, true, false, false, false, false, false] rfl rfl (by kernel_rfl) (fun _ _ _ h => h) (Or.inl ⟨by rfl, ?_⟩) ?_ ?_
          rotate_left
          · intro w'
            go_simp
            with_reducible rfl
          rotate_left
          · simp only [Act.put, List.setIfInBounds_toArray, List.set_cons_zero, List.set_cons_succ, i64_w, i32_w]
            rfl
          refine pure_ (i := 25) (N := some 113) (v := ?_) (a' := ?_) #[true, true, true, true, true, true, true, true, true, true, true, true, true, true, true, true, true, true, true, true, true, true, true, true, true, true, false, false, false, false] rfl rfl (by kernel_rfl) (fun _ _ _ h => h) (Or.inl ⟨by rfl, ?_⟩) ?_ ?_
          rotate_left
          · intro w'
            go_simp
            with_reducible rfl
          rotate_left
          · simp only [Act.put, List.setIfInBounds_toArray, List.set_cons_zero, List.set_cons_succ, i64_w, i32_w]
            rfl
          refine pure_ (i := 26) (N := some 114) (v := ?_) (a' := ?_) #[true, true, true, true, true, true, true, true, true, true, true, true, true, true, true, true, true, true, true, true, true, true, true, true, true, true, true, false, false, false] rfl rfl (by kernel_rfl) (fun _ _ _ h => h) (Or.inl ⟨by rfl, ?_⟩) ?_ ?_
          rotate_left
          · intro w'
            go_simp
            with_reducible rfl
          rotate_left
          · simp only [Act.put, List.setIfInBounds_toArray, List.set_cons_zero, List.set_cons_succ, i64_w, i32_w]
            rfl
          refine one_ (i := 27) (N := some 115) #[true, true, true, true, true, true, true, true, true, true, true, true, true, true, true, true, true, true, true, true, true, true, true, true, true, true, true, true, false, false] rfl rfl (by kernel_rfl) (by decide) (fun K hK => ?_)
          refine goes_ Try.func29 (by kernel_rfl) rfl #[.slice AA out.length cA] (by rfl) rfl rfl (by simp only [List.map_toArray, List.map_cons, List.map_nil]; rfl) ?_
          with_reducible refine (own_any (w0 := w) RC.out hw9 BC.out hCs (by omega)).mono ?_
          rintro e wE ⟨rfl, hkE, hbE⟩
          refine ⟨_, rfl, ?_⟩
          have IE := Lib.hid (IC.out.kept hkE (fun e => by have := Kd.R_base RC.out g e.symm; omega))
          have XE := Lib.hid (XC.out.kept hkE (fun e => by have := Kd.R_base RC.out gx e.symm; omega) HVA.out)
          have ZE := Lib.hid (blk_kept ZC.out hkE (fun e => by have := Kd.R_base RC.out q e.symm; omega))
          have BE := Lib.hid hbE
          clear hkE hbE
          refine hK.out _ _ ((blkc ZE.out)) (fun hHeld => ?_)
          clear hK K
          refine norm_ (a' := ?_) ?_ ?_
          rotate_left
          · show Act.put _ (some 115) _ = _
            simp only [Act.put, List.setIfInBounds_toArray, List.set_cons_zero, List.set_cons_succ, i64_w, i32_w]
            rfl
          refine pure_ (i := 28) (N := some 116) (v := ?_) (a' := ?_) #[true, true, true, true, true, true, true, true, true, true, true, true, true, true, true, true, true, true, true, true, true, true, true, true, true, true, true, true, true, false] rfl rfl (by kernel_rfl) (fun _ _ _ h => h) (Or.inl ⟨by rfl, ?_⟩) ?_ ?_
          rotate_left
          · intro w'
            go_simp
            with_reducible rfl
          rotate_left
          · simp only [Act.put, List.setIfInBounds_toArray, List.set_cons_zero, List.set_cons_succ, i64_w, i32_w]
            rfl
          refine pure_ (i := 29) (N := some 117) (v := ?_) (a' := ?_) #[true, true, true, true, true, true, true, true, true, true, true, true, true, true, true, true, true, true, true, true, true, true, true, true, true, true, true, true, true, true] rfl rfl (by kernel_rfl) (fun _ _ _ h => h) (Or.inl ⟨by rfl, ?_⟩) ?_ ?_
          rotate_left
          · intro w'
            go_simp
            with_reducible rfl
          rotate_left
          · simp only [Act.put, List.setIfInBounds_toArray, List.set_cons_zero, List.set_cons_succ, i64_w, i32_w]
            rfl
          refine done_ (by kernel_rfl) ?_
          clear c514 c0 c515 d5 d6 ID XD BD RD ZD
          go_wp2_with fail
          go_roundg k1
          case measure => exact Nat.lt_succ_self _
          case rel => exact ⟨k + 1, st2, x2, _, rfl, Lib.hid (by have := HK.out; omega), OKT.out, SM2.out, Lib.hid (by omega), IE.out, XE.out, BE.out⟩
        · have m1 : (s.n == 9223372036854775807) = false := by simpa using h1m
          by_cases h2m : s.n = -9223372036854775808
          · have m2 : (s.n == -9223372036854775808) = true := by simpa using h2m
            have HM1 := Lib.hid h1m
            have HM2 := Lib.hid h2m
            clear h1m h2m
            go_upto_region 15 with (fail)
            clear cp9 cz9 zz9
            have Z10 := Lib.hid (show (World.setCell W9 ⟨q, 0, none⟩ (.int .i64 (s.n))).heap[q]? = some (.cells #[.int .i64 (u2.with (s.n)).seq, .int .i64 (u2.with (s.n)).client, .int .i64 (u2.with (s.n)).number, .int .i64 (u2.with (s.n)).kind, .string (u2.with (s.n)).key, .string (u2.with (s.n)).value, .int .i64 (u2.with (s.n)).version] tU (0, 0)) from by have := blk_set Z9.out 0 (.int .i64 (s.n)); simpa [U.with] using this)
            have P10 := Lib.hid (blk_far (p := ⟨q, 0, none⟩) P9.out hpq (.int .i64 (s.n)))
            have I10 : Hid (InR (World.setCell W9 ⟨q, 0, none⟩ (.int .i64 (s.n))) g st) := by obtain ⟨cs, G, C⟩ := I9.out; exact Lib.hid ⟨cs, blk_far (p := ⟨q, 0, none⟩) G hgq (.int .i64 (s.n)), C⟩
            have X10 : Hid (RIR (World.setCell W9 ⟨q, 0, none⟩ (.int .i64 (s.n))) w.heap.size gx v x) := Lib.hid ⟨blk_far (p := ⟨q, 0, none⟩) X9.out.1 hxq (.int .i64 (s.n)), R_mine X9.out.2 (fun k hk => Below.heap_setCell W9 ⟨q, 0, none⟩ _ k (fun e => by have := HVQ.out k hk; have e2 : k = q := e; omega))⟩
            have B10 := Lib.hid (below_set (g := q) (j := 0) (v := (.int .i64 (s.n))) B9.out (by omega))
            clear Z9 P9 I9 X9 B9
            generalize (World.setCell _ _ _) = W10 at *
            generalize u2.with (s.n) = u3 at *
            have hqg : q ≠ g := by obtain ⟨cs, G, _⟩ := I10.out; exact blk_ne Z10.out G (by decide)
            have hqx : q ≠ gx := blk_ne Z10.out X10.out.1 (show tU ≠ tRI by decide)
            have hgx : g ≠ gx := by obtain ⟨cs, G, _⟩ := I10.out; exact blk_ne G X10.out.1 (show tIn ≠ tRI by decide)
            have HVG : Hid (some g ≠ v.ownBlock) := by obtain ⟨cs, G, _⟩ := I10.out; exact Lib.hid (Kd.R_ne X10.out.2 G (show tU ≠ tIn by decide))
            have HVX := Lib.hid (Kd.R_ne X10.out.2 X10.out.1 (show tU ≠ tRI by decide))
            have HV9 := Lib.hid (Kd.R_lt X10.out.2)
            have hg9 : g < W10.heap.size := by obtain ⟨cs, G, _⟩ := I10.out; exact blk_lt G
            have hx9 : gx < W10.heap.size := blk_lt X10.out.1
            have hq9 : q < W10.heap.size := blk_lt Z10.out
            have hw9 : w.heap.size ≤ W10.heap.size := B10.out.size
            have PRO := Lib.hid (take_props OK.out u3 hbd)
            have OKT := Lib.hid (OK.out.take u3 hbd)
            have hl65 := take_len st u3
            have SMT := Lib.hid (sim_take OK.out SM.out u3 hbd)
            have cq9 := blkc Z10.out
            go_wp2_with fail
            refine (take_any (w0 := w) u3 OK.out I10.out hgw B10.out hbd).mono ?_
            rintro e wA ⟨rA, rfl, hiA, hrA, hkA, hbA⟩
            have IA := Lib.hid hiA
            have BA := Lib.hid hbA
            have RA := Lib.hid hrA
            have ZA := Lib.hid (blk_kept Z10.out hkA hqg)
            have XA := Lib.hid (X10.out.kept hkA (fun e => hgx e.symm) (fun k hk e => HVG.out (by rw [hk, e])))
            have hAs := hkA.1
            clear cq9 hiA hbA hrA hkA
            generalize hT : st.take u3 = T at *
            generalize hTx : x.take u3 = Tx at *
            obtain ⟨st2, out⟩ := T
            obtain ⟨x2, out2⟩ := Tx
            have HTX := Lib.hid hTx
            clear hT hTx
            simp only at PRO OKT hl65 SMT IA RA
            have hout : out = out2 := SMT.out.1
            subst hout
            have SM2 := Lib.hid SMT.out.2
            have hf2 := PRO.out.1
            have hf2a : 0 ≤ st2.line.from_ := by omega
            have hf2b : st2.line.from_ ≤ st.line.from_ + 65 := by omega
            clear hf2
            obtain ⟨AA, cA, rfl⟩ := Kd.R_slice RA.out
            go_wp2_with fail
            have ID := Lib.hid (IA.out.below (below_drew (Below.refl _ _)))
            have XD := Lib.hid (XA.out.below (below_drew (Below.refl _ _)))
            have BD := Lib.hid BA.out.drew
            have RD := Lib.hid (Kd.R_drew RA.out)
            have ZD := Lib.hid (blk_drew ZA.out)
            have hDs : W10.heap.size ≤ wA.drew.heap.size := hAs
            clear IA XA BA RA ZA SMT PRO
            refine start_ (n := 30) (S := fun w' => (∀ o, w'.cell? ⟨q, o, none⟩ = #[Value.int .i64 u3.seq, .int .i64 u3.client, .int .i64 u3.number, .int .i64 u3.kind, .string u3.key, .string u3.value, .int .i64 u3.version][o]?)) (ds := []) #[false, false, false, false, false, false, false, false, false, false, false, false, false, false, false, false, false, false, false, false, false, false, false, false, false, false, false, false, false, false] (by kernel_rfl) rfl rfl ((blkc ZD.out)) (fun hHeld => ?_)
            refine pure_ (i := 0) (N := some 88) (v := ?_) (a' := ?_) #[true, false, false, false, false, false, false, false, false, false, false, false, false, false, false, false, false, false, false, false, false, false, false, false, false, false, false, false, false, false] rfl rfl (by kernel_rfl) (fun _ _ _ h => h) (Or.inl ⟨by rfl, ?_⟩) ?_ ?_
            rotate_left
            · intro w'
              go_simp
              with_reducible rfl
            rotate_left
            · simp only [Act.put, List.setIfInBounds_toArray, List.set_cons_zero, List.set_cons_succ, i64_w, i32_w]
              rfl
            refine pure_ (i := 1) (N := some 89) (v := ?_) (a' := ?_) #[true, true, false, false, false, false, false, false, false, false, false, false, false, false, false, false, false, false, false, false, false, false, false, false, false, false, false, false, false, false] rfl rfl (by kernel_rfl) (fun _ _ _ h => h) (Or.inl ⟨by rfl, ?_⟩) ?_ ?_
            rotate_left
            · intro w'
              go_simp
              with_reducible rfl
            rotate_left
            · simp only [Act.put, List.setIfInBounds_toArray, List.set_cons_zero, List.set_cons_succ, i64_w, i32_w]
              rfl
            refine take_ (i := 2) (N := some 90) (v := ?_) (a' := ?_) #[true, true, true, false, false, false, false, false, false, false, false, false, false, false, false, false, false, false, false, false, false, false, false, false, false, false, false, false, false, false] rfl rfl (by kernel_rfl) (fun _ _ _ h => h) (Or.inl ⟨by rfl, ?_⟩) hHeld ?_ ?_
            rotate_left
            · intro w' s0
              go_simp
              with_reducible rfl
            rotate_left
            · simp only [Act.put, List.setIfInBounds_toArray, List.set_cons_zero, List.set_cons_succ, i64_w, i32_w]
              rfl
            refine one_ (i := 3) (N := some 91) #[true, true, true, true, false, false, false, false, false, false, false, false, false, false, false, false, false, false, false, false, false, false, false, false, false, false, false, false, false, false] rfl rfl (by kernel_rfl) (by decide) (fun K hK => ?_)
            refine goes_ Try.func35 (by kernel_rfl) rfl #[.pointer (some ⟨gx, 0, none⟩), u3.val] (by rfl) rfl rfl (by simp only [List.map_toArray, List.map_cons, List.map_nil]; rfl) ?_
            with_reducible refine (refTake_any (w0 := w) u3 XD.out hgxw BD.out hn0 hnb hxw1 hxw2 hxl).mono ?_
            rintro e wB ⟨rB, rfl, vB, hxB, hvB, hrB, hkB, hbB⟩
            refine ⟨_, rfl, ?_⟩
            replace hxB : RIR wB w.heap.size gx vB (x.take u3).1 := hxB
            rw [HTX.out] at hxB hrB
            have XB := Lib.hid (show RIR wB w.heap.size gx vB x2 from hxB)
            have RB := Lib.hid (show kU.R tU wB wA.drew.heap.size (fun _ => True) rB out from R_ok hrB (fun _ _ => trivial))
            obtain ⟨AB, cB, rfl⟩ := Kd.R_slice RB.out
            have IB := Lib.hid (ID.out.kept hkB (fun h => h.elim hgx HVG.out))
            have RAB := Lib.hid (R_mine RD.out (fun k hk => hkB.2 k (Kd.R_lt RD.out k hk) (fun h => h.elim (fun e => by have := Kd.R_base RD.out k hk; omega) (fun e => by have := Kd.R_base RD.out k hk; have := HV9.out k e.symm; omega))))
            have ZB := Lib.hid (blk_kept ZD.out hkB (fun h => h.elim hqx (fun e => by have := HVQ.out q e.symm; omega)))
            have BB := Lib.hid hbB
            have hBs := hkB.1
            have HVA : Hid (∀ k, vB.ownBlock = some k → ¬ some k = (Value.slice AA out.length cA).ownBlock) := Lib.hid (fun k hk e => hvB.elim (fun h => by have h1 := HV9.out k (h.symm.trans hk); have h2 := Kd.R_base RD.out k e.symm; omega) (fun ⟨b, hb, hle⟩ => by have h1 := Kd.R_lt RD.out k e.symm; have h2 : k = b := Option.some.inj (hk.symm.trans hb); omega))
            clear hxB hvB hrB hkB hbB
            refine hK.out _ _ ((blkc ZB.out)) (fun hHeld => ?_)
            clear hK K
            refine norm_ (a' := ?_) ?_ ?_
            rotate_left
            · show Act.put _ (some 91) _ = _
              simp only [Act.put, List.setIfInBounds_toArray, List.set_cons_zero, List.set_cons_succ, i64_w, i32_w]
              rfl
            refine one_ (i := 4) (N := some 92) #[true, true, true, true, true, false, false, false, false, false, false, false, false, false, false, false, false, false, false, false, false, false, false, false, false, false, false, false, false, false] rfl rfl (by kernel_rfl) (by decide) (fun K hK => ?_)
            refine goes_ Try.func28 (by kernel_rfl) rfl #[.slice AA out.length cA, .slice AB out.length cB] (by rfl) rfl rfl (by simp only [List.map_toArray, List.map_cons, List.map_nil]; rfl) ?_
            with_reducible refine (same_any _ AA AB cA cB out ((Kd.R_reads' RAB.out).2.2) ((Kd.R_reads' RB.out).2.2)).mono ?_
            rintro e wC ⟨rfl, nC, rfl⟩
            refine ⟨_, rfl, ?_⟩
            have IC := Lib.hid (show InR (wB.drewN nC) g st2 from IB.out)
            have XC := Lib.hid (XB.out.drewN nC)
            have RC := Lib.hid (Kd.R_drewN RAB.out nC)
            have ZC := Lib.hid (show (wB.drewN nC).heap[q]? = some (.cells #[.int .i64 u3.seq, .int .i64 u3.client, .int .i64 u3.number, .int .i64 u3.kind, .string u3.key, .string u3.value, .int .i64 u3.version] tU (0, 0)) from ZB.out)
            have BC := Lib.hid (pw_below_drewN BB.out nC)
            have hCs : W10.heap.size ≤ (wB.drewN nC).heap.size := Nat.le_trans hDs hBs
            generalize (World.drewN wB nC) = WC at *
            have c514 := IC.out.made OKT.out.mid.made
            have c0 := IC.out.from_
            have c515 := IC.out.holds
            rw [show st2.holds = (x2.held.length : Int) by rw [OKT.out.mid.cnt, SM2.out.len]] at c515
            obtain ⟨AX, cX, rfl⟩ := Kd.R_slice XC.out.2
            have d5 := (show WC.cell? ⟨gx, 5, none⟩ = some (.int .i64 x2.next) from blkc XC.out.1 5)
            rw [SM2.out.next] at d5
            have d6 := (show WC.cell? ⟨gx, 6, none⟩ = some (.slice AX x2.held.length cX) from blkc XC.out.1 6)
            refine hK.out _ _ ((blkc ZC.out)) (fun hHeld => ?_)
            clear hK K
            refine norm_ (a' := ?_) ?_ ?_
            rotate_left
            · show Act.put _ (some 92) _ = _
              simp only [Act.put, List.setIfInBounds_toArray, List.set_cons_zero, List.set_cons_succ, i64_w, i32_w]
              rfl
            refine pure_ (i := 5) (N := some 93) (v := ?_) (a' := ?_) #[true, true, true, true, true, true, false, false, false, false, false, false, false, false, false, false, false, false, false, false, false, false, false, false, false, false, false, false, false, false] rfl rfl (by kernel_rfl) (fun _ _ _ h => h) (Or.inl ⟨by rfl, ?_⟩) ?_ ?_
            rotate_left
            · intro w'
              go_simp
              with_reducible rfl
            rotate_left
            · simp only [Act.put, List.setIfInBounds_toArray, List.set_cons_zero, List.set_cons_succ, i64_w, i32_w]
              rfl
            refine pure_ (i := 6) (N := some 94) (v := ?_) (a' := ?_) #[true, true, true, true, true, true, true, false, false, false, false, false, false, false, false, false, false, false, false, false, false, false, false, false, false, false, false, false, false, false] rfl rfl (by kernel_rfl) (fun _ _ _ h => h) (Or.inl ⟨by rfl, ?_⟩) ?_ ?_
            rotate_left
            · intro w'
              go_simp
              with_reducible rfl
            rotate_left
            · simp only [Act.put, List.setIfInBounds_toArray, List.set_cons_zero, List.set_cons_succ, i64_w, i32_w]
              rfl
            refine pure_ (i := 7) (N := some 95) (v := ?_) (a' := ?_) #[true, true, true, true, true, true, true, true, false, false, false, false, false, false, false, false, false, false, false, false, false, false, false, false, false, false, false, false, false, false] rfl rfl (by kernel_rfl) (fun _ _ _ h => h) (Or.inl ⟨by rfl, ?_⟩) ?_ ?_
            rotate_left
            · intro w'
              go_simp
              with_reducible rfl
            rotate_left
            · simp only [Act.put, List.setIfInBounds_toArray, List.set_cons_zero, List.set_cons_succ, i64_w, i32_w]
              rfl
            refine pure_ (i := 9) (N := some 97) (v := ?_) (a' := ?_) #[true, true, true, true, true, true, true, true, false, true, false, false, false, false, false, false, false, false, false, false, false, false, false, false, false, false, false, false, false, false] rfl rfl (by kernel_rfl) (fun _ _ _ h => h) (Or.inl ⟨by rfl, ?_⟩) ?_ ?_
            rotate_left
            · intro w'
              go_simp
              with_reducible rfl
            rotate_left
            · simp only [Act.put, List.setIfInBounds_toArray, List.set_cons_zero, List.set_cons_succ, i64_w, i32_w]
              rfl
            refine pure_ (i := 10) (N := some 98) (v := ?_) (a' := ?_) #[true, true, true, true, true, true, true, true, false, true, true, false, false, false, false, false, false, false, false, false, false, false, false, false, false, false, false, false, false, false] rfl rfl (by kernel_rfl) (fun _ _ _ h => h) (Or.inl ⟨by rfl, ?_⟩) ?_ ?_
            rotate_left
            · intro w'
              go_simp
              with_reducible rfl
            rotate_left
            · simp only [Act.put, List.setIfInBounds_toArray, List.set_cons_zero, List.set_cons_succ, i64_w, i32_w]
              rfl
            refine pure_ (i := 11) (N := some 99) (v := ?_) (a' := ?_) #[true, true, true, true, true, true, true, true, false, true, true, true, false, false, false, false, false, false, false, false, false, false, false, false, false, false, false, false, false, false] rfl rfl (by kernel_rfl) (fun _ _ _ h => h) (Or.inl ⟨by rfl, ?_⟩) ?_ ?_
            rotate_left
            · intro w'
              go_simp
              with_reducible rfl
            rotate_left
            · simp only [Act.put, List.setIfInBounds_toArray, List.set_cons_zero, List.set_cons_succ, i64_w, i32_w]
              rfl
            refine join_ (σ := Unit) 17 #[true, true, true, true, true, true, true, true, true, true, true, true, true, false, false, false, false, false, false, false, false, false, false, false, false, false, false, false, false, false] (fun _ => [(96, .int .i64 (st2.line.from_ + 1)), (100, .int .i64 (st2.line.from_ + 1))]) (fun _ w' => WC = w') ?_ ?_
            rotate_left
            · intro hCont
              refine two_ (i := 8) (j := 12) (Ni := some 96) (Nj := some 100) #[true, true, true, true, true, true, true, true, true, true, true, true, false, false, false, false, false, false, false, false, false, false, false, false, false, false, false, false, false, false] #[true, true, true, true, true, true, true, true, false, true, true, true, true, false, false, false, false, false, false, false, false, false, false, false, false, false, false, false, false, false] rfl rfl rfl rfl (by kernel_rfl) (by decide) (by decide) (fun K hK => ?_) (fun K hK => ?_)
              · skip
                refine goes_ Try.func15 (by kernel_rfl) rfl #[.pointer (some ⟨g, 0, none⟩)] (by rfl) rfl rfl (by simp only [List.map_toArray, List.map_cons, List.map_nil]; rfl) ?_
                with_reducible refine (next_any c514 c0 (by omega) (by omega)).mono ?_
                rintro e w1 ⟨rfl, rfl⟩
                refine ⟨_, rfl, ?_⟩
                refine hK.out _ _ (hHeld) (fun hHeld => ?_)
                clear hK K
                refine norm_ (a' := ?_) ?_ ?_
                rotate_left
                · show Act.put _ (some 96) _ = _
                  simp only [Act.put, List.setIfInBounds_toArray, List.set_cons_zero, List.set_cons_succ, i64_w, i32_w]
                  rfl
                refine one_ (i := 12) (N := some 100) #[true, true, true, true, true, true, true, true, true, true, true, true, true, false, false, false, false, false, false, false, false, false, false, false, false, false, false, false, false, false] rfl rfl (by kernel_rfl) (by decide) (fun K hK => ?_)
                refine value_ (w1 := ?_) (v := ?_) (by rfl) rfl ?_ ?_
                rotate_left 2
                · go_simp
                  constructor
                  · rfl
                  · rfl
                refine hK.out _ _ (hHeld) (fun hHeld => ?_)
                clear hK K
                refine norm_ (a' := ?_) ?_ ?_
                rotate_left
                · show Act.put _ (some 100) _ = _
                  simp only [Act.put, List.setIfInBounds_toArray, List.set_cons_zero, List.set_cons_succ, i64_w, i32_w]
                  rfl
                exact norm_ (by simp only [putAll, Act.put, List.setIfInBounds_toArray, List.set_cons_zero, List.set_cons_succ]) (hCont () _ rfl)
              · skip
                refine value_ (w1 := ?_) (v := ?_) (by rfl) rfl ?_ ?_
                rotate_left 2
                · go_simp
                  constructor
                  · rfl
                  · rfl
                refine hK.out _ _ (hHeld) (fun hHeld => ?_)
                clear hK K
                refine norm_ (a' := ?_) ?_ ?_
                rotate_left
                · show Act.put _ (some 100) _ = _
                  simp only [Act.put, List.setIfInBounds_toArray, List.set_cons_zero, List.set_cons_succ, i64_w, i32_w]
                  rfl
                refine one_ (i := 8) (N := some 96) #[true, true, true, true, true, true, true, true, true, true, true, true, true, false, false, false, false, false, false, false, false, false, false, false, false, false, false, false, false, false] rfl rfl (by kernel_rfl) (by decide) (fun K hK => ?_)
                refine goes_ Try.func15 (by kernel_rfl) rfl #[.pointer (some ⟨g, 0, none⟩)] (by rfl) rfl rfl (by simp only [List.map_toArray, List.map_cons, List.map_nil]; rfl) ?_
                with_reducible refine (next_any c514 c0 (by omega) (by omega)).mono ?_
                rintro e w1 ⟨rfl, rfl⟩
                refine ⟨_, rfl, ?_⟩
                refine hK.out _ _ (hHeld) (fun hHeld => ?_)
                clear hK K
                refine norm_ (a' := ?_) ?_ ?_
                rotate_left
                · show Act.put _ (some 96) _ = _
                  simp only [Act.put, List.setIfInBounds_toArray, List.set_cons_zero, List.set_cons_succ, i64_w, i32_w]
                  rfl
                exact norm_ (by simp only [putAll, Act.put, List.setIfInBounds_toArray, List.set_cons_zero, List.set_cons_succ]) (hCont () _ rfl)
            rintro _ _ rfl
            have hHeld := (blkc ZC.out)
            refine norm_ (a' := ?_) ?_ ?_
            rotate_left
            · simp only [putAll, Act.put, List.setIfInBounds_toArray, List.set_cons_zero, List.set_cons_succ]
              rfl
            refine pure_ (i := 13) (N := some 101) (v := ?_) (a' := ?_) #[true, true, true, true, true, true, true, true, true, true, true, true, true, true, false, false, false, false, false, false, false, false, false, false, false, false, false, false, false, false] rfl rfl (by kernel_rfl) (fun _ _ _ h => h) (Or.inl ⟨by rfl, ?_⟩) ?_ ?_
            rotate_left
            · intro w'
              go_simp
              with_reducible rfl
            rotate_left
            · simp only [Act.put, List.setIfInBounds_toArray, List.set_cons_zero, List.set_cons_succ, i64_w, i32_w]
              rfl
            refine pure_ (i := 14) (N := some 102) (v := ?_) (a' := ?_) #[true, true, true, true, true, true, true, true, true, true, true, true, true, true, true, false, false, false, false, false, false, false, false, false, false, false, false, false, false, false] rfl rfl (by kernel_rfl) (fun _ _ _ h => h) (Or.inl ⟨by rfl, ?_⟩) ?_ ?_
            rotate_left
            · intro w'
              go_simp
              with_reducible rfl
            rotate_left
            · simp only [Act.put, List.setIfInBounds_toArray, List.set_cons_zero, List.set_cons_succ, i64_w, i32_w]
              rfl
            refine pure_ (i := 15) (N := some 103) (v := ?_) (a' := ?_) #[true, true, true, true, true, true, true, true, true, true, true, true, true, true, true, true, false, false, false, false, false, false, false, false, false, false, false, false, false, false] rfl rfl (by kernel_rfl) (fun _ _ _ h => h) (Or.inl ⟨by rfl, ?_⟩) ?_ ?_
            rotate_left
            · intro w'
              go_simp
              with_reducible rfl
            rotate_left
            · simp only [Act.put, List.setIfInBounds_toArray, List.set_cons_zero, List.set_cons_succ, i64_w, i32_w]
              rfl
            refine pure_ (i := 16) (N := some 104) (v := ?_) (a' := ?_) #[true, true, true, true, true, true, true, true, true, true, true, true, true, true, true, true, true, false, false, false, false, false, false, false, false, false, false, false, false, false] rfl rfl (by kernel_rfl) (fun _ _ _ h => h) (Or.inl ⟨by rfl, ?_⟩) ?_ ?_
            rotate_left
            · intro w'
              go_simp
              with_reducible rfl
            rotate_left
            · simp only [Act.put, List.setIfInBounds_toArray, List.set_cons_zero, List.set_cons_succ, i64_w, i32_w]
              rfl
            refine pure_ (i := 18) (N := some 106) (v := ?_) (a' := ?_) #[true, true, true, true, true, true, true, true, true, true, true, true, true, true, true, true, true, false, true, false, false, false, false, false, false, false, false, false, false, false] rfl rfl (by kernel_rfl) (fun _ _ _ h => h) (Or.inl ⟨by rfl, ?_⟩) ?_ ?_
            rotate_left
            · intro w'
              go_simp
              with_reducible rfl
            rotate_left
            · simp only [Act.put, List.setIfInBounds_toArray, List.set_cons_zero, List.set_cons_succ, i64_w, i32_w]
              rfl
            refine pure_ (i := 19) (N := some 107) (v := ?_) (a' := ?_) #[true, true, true, true, true, true, true, true, true, true, true, true, true, true, true, true, true, false, true, true, false, false, false, false, false, false, false, false, false, false] rfl rfl (by kernel_rfl) (fun _ _ _ h => h) (Or.inl ⟨by rfl, ?_⟩) ?_ ?_
            rotate_left
            · intro w'
              go_simp
              with_reducible rfl
            rotate_left
            · simp only [Act.put, List.setIfInBounds_toArray, List.set_cons_zero, List.set_cons_succ, i64_w, i32_w]
              rfl
            refine pure_ (i := 20) (N := some 108) (v := ?_) (a' := ?_) #[true, true, true, true, true, true, true, true, true, true, true, true, true, true, true, true, true, false, true, true, true, false, false, false, false, false, false, false, false, false] rfl rfl (by kernel_rfl) (fun _ _ _ h => h) (Or.inl ⟨by rfl, ?_⟩) ?_ ?_
            rotate_left
            · intro w'
              go_simp
              with_reducible rfl
            rotate_left
            · simp only [Act.put, List.setIfInBounds_toArray, List.set_cons_zero, List.set_cons_succ, i64_w, i32_w]
              rfl
            refine join_ (σ := Unit) 7 #[true, true, true, true, true, true, true, true, true, true, true, true, true, true, true, true, true, true, true, true, true, true, true, false, false, false, false, false, false, false] (fun _ => [(105, .int .i64 (x2.held.length : Int)), (109, .slice AX x2.held.length cX), (110, .int .i64 (x2.held.length : Int))]) (fun _ w' => WC = w') ?_ ?_
            rotate_left
            · intro hCont
              refine two_ (i := 17) (j := 21) (Ni := some 105) (Nj := some 109) #[true, true, true, true, true, true, true, true, true, true, true, true, true, true, true, true, true, true, true, true, true, false, false, false, false, false, false, false, false, false] #[true, true, true, true, true, true, true, true, true, true, true, true, true, true, true, true, true, false, true, true, true, true, false, false, false, false, false, false, false, false] rfl rfl rfl rfl (by kernel_rfl) (by decide) (by decide) (fun K hK => ?_) (fun K hK => ?_)
              · skip
                refine goes_ Try.func22 (by kernel_rfl) rfl #[.pointer (some ⟨g, 0, none⟩)] (by rfl) rfl rfl (by simp only [List.map_toArray, List.map_cons, List.map_nil]; rfl) ?_
                with_reducible refine (held_any c515).mono ?_
                rintro e w1 ⟨rfl, rfl⟩
                refine ⟨_, rfl, ?_⟩
                refine hK.out _ _ (hHeld) (fun hHeld => ?_)
                clear hK K
                refine norm_ (a' := ?_) ?_ ?_
                rotate_left
                · show Act.put _ (some 105) _ = _
                  simp only [Act.put, List.setIfInBounds_toArray, List.set_cons_zero, List.set_cons_succ, i64_w, i32_w]
                  rfl
                refine one_ (i := 21) (N := some 109) #[true, true, true, true, true, true, true, true, true, true, true, true, true, true, true, true, true, true, true, true, true, true, false, false, false, false, false, false, false, false] rfl rfl (by kernel_rfl) (by decide) (fun K hK => ?_)
                refine value_ (w1 := ?_) (v := ?_) (by rfl) rfl ?_ ?_
                rotate_left 2
                · go_simp
                  constructor
                  · rfl
                  · rfl
                refine hK.out _ _ (hHeld) (fun hHeld => ?_)
                clear hK K
                refine norm_ (a' := ?_) ?_ ?_
                rotate_left
                · show Act.put _ (some 109) _ = _
                  simp only [Act.put, List.setIfInBounds_toArray, List.set_cons_zero, List.set_cons_succ, i64_w, i32_w]
                  rfl
                refine pure_ (i := 22) (N := some 110) (v := ?_) (a' := ?_) #[true, true, true, true, true, true, true, true, true, true, true, true, true, true, true, true, true, true, true, true, true, true, true, false, false, false, false, false, false, false] rfl rfl (by kernel_rfl) (fun _ _ _ h => h) (Or.inl ⟨by rfl, ?_⟩) ?_ ?_
                rotate_left
                · intro w'
                  go_simp
                  with_reducible rfl
                rotate_left
                · simp only [Act.put, List.setIfInBounds_toArray, List.set_cons_zero, List.set_cons_succ, i64_w, i32_w]
                  rfl
                exact norm_ (by simp only [putAll, Act.put, List.setIfInBounds_toArray, List.set_cons_zero, List.set_cons_succ]) (hCont () _ rfl)
              · skip
                refine value_ (w1 := ?_) (v := ?_) (by rfl) rfl ?_ ?_
                rotate_left 2
                · go_simp
                  constructor
                  · rfl
                  · rfl
                refine hK.out _ _ (hHeld) (fun hHeld => ?_)
                clear hK K
                refine norm_ (a' := ?_) ?_ ?_
                rotate_left
                · show Act.put _ (some 109) _ = _
                  simp only [Act.put, List.setIfInBounds_toArray, List.set_cons_zero, List.set_cons_succ, i64_w, i32_w]
                  rfl
                refine pure_ (i := 22) (N := some 110) (v := ?_) (a' := ?_) #[true, true, true, true, true, true, true, true, true, true, true, true, true, true, true, true, true, false, true, true, true, true, true, false, false, false, false, false, false, false] rfl rfl (by kernel_rfl) (fun _ _ _ h => h) (Or.inl ⟨by rfl, ?_⟩) ?_ ?_
                rotate_left
                · intro w'
                  go_simp
                  with_reducible rfl
                rotate_left
                · simp only [Act.put, List.setIfInBounds_toArray, List.set_cons_zero, List.set_cons_succ, i64_w, i32_w]
                  rfl
                refine one_ (i := 17) (N := some 105) #[true, true, true, true, true, true, true, true, true, true, true, true, true, true, true, true, true, true, true, true, true, true, true, false, false, false, false, false, false, false] rfl rfl (by kernel_rfl) (by decide) (fun K hK => ?_)
                refine goes_ Try.func22 (by kernel_rfl) rfl #[.pointer (some ⟨g, 0, none⟩)] (by rfl) rfl rfl (by simp only [List.map_toArray, List.map_cons, List.map_nil]; rfl) ?_
                with_reducible refine (held_any c515).mono ?_
                rintro e w1 ⟨rfl, rfl⟩
                refine ⟨_, rfl, ?_⟩
                refine hK.out _ _ (hHeld) (fun hHeld => ?_)
                clear hK K
                refine norm_ (a' := ?_) ?_ ?_
                rotate_left
                · show Act.put _ (some 105) _ = _
                  simp only [Act.put, List.setIfInBounds_toArray, List.set_cons_zero, List.set_cons_succ, i64_w, i32_w]
                  rfl
                exact norm_ (by simp only [putAll, Act.put, List.setIfInBounds_toArray, List.set_cons_zero, List.set_cons_succ]) (hCont () _ rfl)
            rintro _ _ rfl
            have hHeld := (blkc ZC.out)
            refine norm_ (a' := ?_) ?_ ?_
            rotate_left
            · simp only [putAll, Act.put, List.setIfInBounds_toArray, List.set_cons_zero, List.set_cons_succ]
              rfl
            refine pure_ (i := 23) (N := some 111) (v := ?_) (a' := ?_) #[true, true, true, true, true, true, true, true, true, true, true, true, true, true, true, true, true, true, true, true, true, true, true, true, false, false, false, false, false, false] rfl rfl (by kernel_rfl) (fun _ _ _ h => h) (Or.inl ⟨by rfl, ?_⟩) ?_ ?_
            rotate_left
            · intro w'
              go_simp
              with_reducible rfl
            rotate_left
            · simp only [Act.put, List.setIfInBounds_toArray, List.set_cons_zero, List.set_cons_succ, i64_w, i32_w]
              rfl
            refine pure_ (i := 24) (N := some 112) (v := ?_) (a' := ?_) #[true, true, true, true, true, true, true, true, true, true, true, true, true, true, true, true, true, true, true, true, true, true, true, true, true, false, false, false, false, false] rfl rfl (by kernel_rfl) (fun _ _ _ h => h) (Or.inl ⟨by rfl, ?_⟩) ?_ ?_
            rotate_left
            · intro w'
              go_simp
              with_reducible rfl
            rotate_left
            · simp only [Act.put, List.setIfInBounds_toArray, List.set_cons_zero, List.set_cons_succ, i64_w, i32_w]
              rfl
            refine pure_ (i := 25) (N := some 113) (v := ?_) (a' := ?_) #[true, true, true, true, true, true, true, true, true, true, true, true, true, true, true, true, true, true, true, true, true, true, true, true, true, true, false, false, false, false] rfl rfl (by kernel_rfl) (fun _ _ _ h => h) (Or.inl ⟨by rfl, ?_⟩) ?_ ?_
            rotate_left
            · intro w'
              go_simp
              with_reducible rfl
            rotate_left
            · simp only [Act.put, List.setIfInBounds_toArray, List.set_cons_zero, List.set_cons_succ, i64_w, i32_w]
              rfl
            refine pure_ (i := 26) (N := some 114) (v := ?_) (a' := ?_) #[true, true, true, true, true, true, true, true, true, true, true, true, true, true, true, true, true, true, true, true, true, true, true, true, true, true, true, false, false, false] rfl rfl (by kernel_rfl) (fun _ _ _ h => h) (Or.inl ⟨by rfl, ?_⟩) ?_ ?_
            rotate_left
            · intro w'
              go_simp
              with_reducible rfl
            rotate_left
            · simp only [Act.put, List.setIfInBounds_toArray, List.set_cons_zero, List.set_cons_succ, i64_w, i32_w]
              rfl
            refine one_ (i := 27) (N := some 115) #[true, true, true, true, true, true, true, true, true, true, true, true, true, true, true, true, true, true, true, true, true, true, true, true, true, true, true, true, false, false] rfl rfl (by kernel_rfl) (by decide) (fun K hK => ?_)
            refine goes_ Try.func29 (by kernel_rfl) rfl #[.slice AA out.length cA] (by rfl) rfl rfl (by simp only [List.map_toArray, List.map_cons, List.map_nil]; rfl) ?_
            with_reducible refine (own_any (w0 := w) RC.out hw9 BC.out hCs (by omega)).mono ?_
            rintro e wE ⟨rfl, hkE, hbE⟩
            refine ⟨_, rfl, ?_⟩
            have IE := Lib.hid (IC.out.kept hkE (fun e => by have := Kd.R_base RC.out g e.symm; omega))
            have XE := Lib.hid (XC.out.kept hkE (fun e => by have := Kd.R_base RC.out gx e.symm; omega) HVA.out)
            have ZE := Lib.hid (blk_kept ZC.out hkE (fun e => by have := Kd.R_base RC.out q e.symm; omega))
            have BE := Lib.hid hbE
            clear hkE hbE
            refine hK.out _ _ ((blkc ZE.out)) (fun hHeld => ?_)
            clear hK K
            refine norm_ (a' := ?_) ?_ ?_
            rotate_left
            · show Act.put _ (some 115) _ = _
              simp only [Act.put, List.setIfInBounds_toArray, List.set_cons_zero, List.set_cons_succ, i64_w, i32_w]
              rfl
            refine pure_ (i := 28) (N := some 116) (v := ?_) (a' := ?_) #[true, true, true, true, true, true, true, true, true, true, true, true, true, true, true, true, true, true, true, true, true, true, true, true, true, true, true, true, true, false] rfl rfl (by kernel_rfl) (fun _ _ _ h => h) (Or.inl ⟨by rfl, ?_⟩) ?_ ?_
            rotate_left
            · intro w'
              go_simp
              with_reducible rfl
            rotate_left
            · simp only [Act.put, List.setIfInBounds_toArray, List.set_cons_zero, List.set_cons_succ, i64_w, i32_w]
              rfl
            refine pure_ (i := 29) (N := some 117) (v := ?_) (a' := ?_) #[true, true, true, true, true, true, true, true, true, true, true, true, true, true, true, true, true, true, true, true, true, true, true, true, true, true, true, true, true, true] rfl rfl (by kernel_rfl) (fun _ _ _ h => h) (Or.inl ⟨by rfl, ?_⟩) ?_ ?_
            rotate_left
            · intro w'
              go_simp
              with_reducible rfl
            rotate_left
            · simp only [Act.put, List.setIfInBounds_toArray, List.set_cons_zero, List.set_cons_succ, i64_w, i32_w]
              rfl
            refine done_ (by kernel_rfl) ?_
            clear c514 c0 c515 d5 d6 ID XD BD RD ZD
            go_wp2_with fail
            go_roundg k1
            case measure => exact Nat.lt_succ_self _
            case rel => exact ⟨k + 1, st2, x2, _, rfl, Lib.hid (by have := HK.out; omega), OKT.out, SM2.out, Lib.hid (by omega), IE.out, XE.out, BE.out⟩
          · have m2 : (s.n == -9223372036854775808) = false := by simpa using h2m
            have HM1 := Lib.hid h1m
            have HM2 := Lib.hid h2m
            clear h1m h2m cz9 zz9
            have hqg : q ≠ g := by obtain ⟨cs, G, _⟩ := I9.out; exact blk_ne Z9.out G (by decide)
            have hqx : q ≠ gx := blk_ne Z9.out X9.out.1 (show tU ≠ tRI by decide)
            have hgx : g ≠ gx := by obtain ⟨cs, G, _⟩ := I9.out; exact blk_ne G X9.out.1 (show tIn ≠ tRI by decide)
            have HVG : Hid (some g ≠ v.ownBlock) := by obtain ⟨cs, G, _⟩ := I9.out; exact Lib.hid (Kd.R_ne X9.out.2 G (show tU ≠ tIn by decide))
            have HVX := Lib.hid (Kd.R_ne X9.out.2 X9.out.1 (show tU ≠ tRI by decide))
            have HV9 := Lib.hid (Kd.R_lt X9.out.2)
            have hg9 : g < W9.heap.size := by obtain ⟨cs, G, _⟩ := I9.out; exact blk_lt G
            have hx9 : gx < W9.heap.size := blk_lt X9.out.1
            have hq9 : q < W9.heap.size := blk_lt Z9.out
            have hw9 : w.heap.size ≤ W9.heap.size := B9.out.size
            have PRO := Lib.hid (take_props OK.out u2 hbd)
            have OKT := Lib.hid (OK.out.take u2 hbd)
            have hl65 := take_len st u2
            have SMT := Lib.hid (sim_take OK.out SM.out u2 hbd)
            have cq9 := blkc Z9.out
            go_wp2_with fail
            refine (take_any (w0 := w) u2 OK.out I9.out hgw B9.out hbd).mono ?_
            rintro e wA ⟨rA, rfl, hiA, hrA, hkA, hbA⟩
            have IA := Lib.hid hiA
            have BA := Lib.hid hbA
            have RA := Lib.hid hrA
            have ZA := Lib.hid (blk_kept Z9.out hkA hqg)
            have XA := Lib.hid (X9.out.kept hkA (fun e => hgx e.symm) (fun k hk e => HVG.out (by rw [hk, e])))
            have hAs := hkA.1
            clear cq9 hiA hbA hrA hkA
            generalize hT : st.take u2 = T at *
            generalize hTx : x.take u2 = Tx at *
            obtain ⟨st2, out⟩ := T
            obtain ⟨x2, out2⟩ := Tx
            have HTX := Lib.hid hTx
            clear hT hTx
            simp only at PRO OKT hl65 SMT IA RA
            have hout : out = out2 := SMT.out.1
            subst hout
            have SM2 := Lib.hid SMT.out.2
            have hf2 := PRO.out.1
            have hf2a : 0 ≤ st2.line.from_ := by omega
            have hf2b : st2.line.from_ ≤ st.line.from_ + 65 := by omega
            clear hf2
            obtain ⟨AA, cA, rfl⟩ := Kd.R_slice RA.out
            go_wp2_with fail
            have ID := Lib.hid (IA.out.below (below_drew (Below.refl _ _)))
            have XD := Lib.hid (XA.out.below (below_drew (Below.refl _ _)))
            have BD := Lib.hid BA.out.drew
            have RD := Lib.hid (Kd.R_drew RA.out)
            have ZD := Lib.hid (blk_drew ZA.out)
            have hDs : W9.heap.size ≤ wA.drew.heap.size := hAs
            clear IA XA BA RA ZA SMT PRO
            refine start_ (n := 30) (S := fun w' => (∀ o, w'.cell? ⟨q, o, none⟩ = #[Value.int .i64 u2.seq, .int .i64 u2.client, .int .i64 u2.number, .int .i64 u2.kind, .string u2.key, .string u2.value, .int .i64 u2.version][o]?)) (ds := []) #[false, false, false, false, false, false, false, false, false, false, false, false, false, false, false, false, false, false, false, false, false, false, false, false, false, false, false, false, false, false] (by kernel_rfl) rfl rfl ((blkc ZD.out)) (fun hHeld => ?_)
            refine pure_ (i := 0) (N := some 88) (v := ?_) (a' := ?_) #[true, false, false, false, false, false, false, false, false, false, false, false, false, false, false, false, false, false, false, false, false, false, false, false, false, false, false, false, false, false] rfl rfl (by kernel_rfl) (fun _ _ _ h => h) (Or.inl ⟨by rfl, ?_⟩) ?_ ?_
            rotate_left
            · intro w'
              go_simp
              with_reducible rfl
            rotate_left
            · simp only [Act.put, List.setIfInBounds_toArray, List.set_cons_zero, List.set_cons_succ, i64_w, i32_w]
              rfl
            refine pure_ (i := 1) (N := some 89) (v := ?_) (a' := ?_) #[true, true, false, false, false, false, false, false, false, false, false, false, false, false, false, false, false, false, false, false, false, false, false, false, false, false, false, false, false, false] rfl rfl (by kernel_rfl) (fun _ _ _ h => h) (Or.inl ⟨by rfl, ?_⟩) ?_ ?_
            rotate_left
            · intro w'
              go_simp
              with_reducible rfl
            rotate_left
            · simp only [Act.put, List.setIfInBounds_toArray, List.set_cons_zero, List.set_cons_succ, i64_w, i32_w]
              rfl
            refine take_ (i := 2) (N := some 90) (v := ?_) (a' := ?_) #[true, true, true, false, false, false, false, false, false, false, false, false, false, false, false, false, false, false, false, false, false, false, false, false, false, false, false, false, false, false] rfl rfl (by kernel_rfl) (fun _ _ _ h => h) (Or.inl ⟨by rfl, ?_⟩) hHeld ?_ ?_
            rotate_left
            · intro w' s0
              go_simp
              with_reducible rfl
            rotate_left
            · simp only [Act.put, List.setIfInBounds_toArray, List.set_cons_zero, List.set_cons_succ, i64_w, i32_w]
              rfl
            refine one_ (i := 3) (N := some 91) #[true, true, true, true, false, false, false, false, false, false, false, false, false, false, false, false, false, false, false, false, false, false, false, false, false, false, false, false, false, false] rfl rfl (by kernel_rfl) (by decide) (fun K hK => ?_)
            refine goes_ Try.func35 (by kernel_rfl) rfl #[.pointer (some ⟨gx, 0, none⟩), u2.val] (by rfl) rfl rfl (by simp only [List.map_toArray, List.map_cons, List.map_nil]; rfl) ?_
            with_reducible refine (refTake_any (w0 := w) u2 XD.out hgxw BD.out hn0 hnb hxw1 hxw2 hxl).mono ?_
            rintro e wB ⟨rB, rfl, vB, hxB, hvB, hrB, hkB, hbB⟩
            refine ⟨_, rfl, ?_⟩
            replace hxB : RIR wB w.heap.size gx vB (x.take u2).1 := hxB
            rw [HTX.out] at hxB hrB
            have XB := Lib.hid (show RIR wB w.heap.size gx vB x2 from hxB)
            have RB := Lib.hid (show kU.R tU wB wA.drew.heap.size (fun _ => True) rB out from R_ok hrB (fun _ _ => trivial))
            obtain ⟨AB, cB, rfl⟩ := Kd.R_slice RB.out
            have IB := Lib.hid (ID.out.kept hkB (fun h => h.elim hgx HVG.out))
            have RAB := Lib.hid (R_mine RD.out (fun k hk => hkB.2 k (Kd.R_lt RD.out k hk) (fun h => h.elim (fun e => by have := Kd.R_base RD.out k hk; omega) (fun e => by have := Kd.R_base RD.out k hk; have := HV9.out k e.symm; omega))))
            have ZB := Lib.hid (blk_kept ZD.out hkB (fun h => h.elim hqx (fun e => by have := HVQ.out q e.symm; omega)))
            have BB := Lib.hid hbB
            have hBs := hkB.1
            have HVA : Hid (∀ k, vB.ownBlock = some k → ¬ some k = (Value.slice AA out.length cA).ownBlock) := Lib.hid (fun k hk e => hvB.elim (fun h => by have h1 := HV9.out k (h.symm.trans hk); have h2 := Kd.R_base RD.out k e.symm; omega) (fun ⟨b, hb, hle⟩ => by have h1 := Kd.R_lt RD.out k e.symm; have h2 : k = b := Option.some.inj (hk.symm.trans hb); omega))
            clear hxB hvB hrB hkB hbB
            refine hK.out _ _ ((blkc ZB.out)) (fun hHeld => ?_)
            clear hK K
            refine norm_ (a' := ?_) ?_ ?_
            rotate_left
            · show Act.put _ (some 91) _ = _
              simp only [Act.put, List.setIfInBounds_toArray, List.set_cons_zero, List.set_cons_succ, i64_w, i32_w]
              rfl
            refine one_ (i := 4) (N := some 92) #[true, true, true, true, true, false, false, false, false, false, false, false, false, false, false, false, false, false, false, false, false, false, false, false, false, false, false, false, false, false] rfl rfl (by kernel_rfl) (by decide) (fun K hK => ?_)
            refine goes_ Try.func28 (by kernel_rfl) rfl #[.slice AA out.length cA, .slice AB out.length cB] (by rfl) rfl rfl (by simp only [List.map_toArray, List.map_cons, List.map_nil]; rfl) ?_
            with_reducible refine (same_any _ AA AB cA cB out ((Kd.R_reads' RAB.out).2.2) ((Kd.R_reads' RB.out).2.2)).mono ?_
            rintro e wC ⟨rfl, nC, rfl⟩
            refine ⟨_, rfl, ?_⟩
            have IC := Lib.hid (show InR (wB.drewN nC) g st2 from IB.out)
            have XC := Lib.hid (XB.out.drewN nC)
            have RC := Lib.hid (Kd.R_drewN RAB.out nC)
            have ZC := Lib.hid (show (wB.drewN nC).heap[q]? = some (.cells #[.int .i64 u2.seq, .int .i64 u2.client, .int .i64 u2.number, .int .i64 u2.kind, .string u2.key, .string u2.value, .int .i64 u2.version] tU (0, 0)) from ZB.out)
            have BC := Lib.hid (pw_below_drewN BB.out nC)
            have hCs : W9.heap.size ≤ (wB.drewN nC).heap.size := Nat.le_trans hDs hBs
            generalize (World.drewN wB nC) = WC at *
            have c514 := IC.out.made OKT.out.mid.made
            have c0 := IC.out.from_
            have c515 := IC.out.holds
            rw [show st2.holds = (x2.held.length : Int) by rw [OKT.out.mid.cnt, SM2.out.len]] at c515
            obtain ⟨AX, cX, rfl⟩ := Kd.R_slice XC.out.2
            have d5 := (show WC.cell? ⟨gx, 5, none⟩ = some (.int .i64 x2.next) from blkc XC.out.1 5)
            rw [SM2.out.next] at d5
            have d6 := (show WC.cell? ⟨gx, 6, none⟩ = some (.slice AX x2.held.length cX) from blkc XC.out.1 6)
            refine hK.out _ _ ((blkc ZC.out)) (fun hHeld => ?_)
            clear hK K
            refine norm_ (a' := ?_) ?_ ?_
            rotate_left
            · show Act.put _ (some 92) _ = _
              simp only [Act.put, List.setIfInBounds_toArray, List.set_cons_zero, List.set_cons_succ, i64_w, i32_w]
              rfl
            refine pure_ (i := 5) (N := some 93) (v := ?_) (a' := ?_) #[true, true, true, true, true, true, false, false, false, false, false, false, false, false, false, false, false, false, false, false, false, false, false, false, false, false, false, false, false, false] rfl rfl (by kernel_rfl) (fun _ _ _ h => h) (Or.inl ⟨by rfl, ?_⟩) ?_ ?_
            rotate_left
            · intro w'
              go_simp
              with_reducible rfl
            rotate_left
            · simp only [Act.put, List.setIfInBounds_toArray, List.set_cons_zero, List.set_cons_succ, i64_w, i32_w]
              rfl
            refine pure_ (i := 6) (N := some 94) (v := ?_) (a' := ?_) #[true, true, true, true, true, true, true, false, false, false, false, false, false, false, false, false, false, false, false, false, false, false, false, false, false, false, false, false, false, false] rfl rfl (by kernel_rfl) (fun _ _ _ h => h) (Or.inl ⟨by rfl, ?_⟩) ?_ ?_
            rotate_left
            · intro w'
              go_simp
              with_reducible rfl
            rotate_left
            · simp only [Act.put, List.setIfInBounds_toArray, List.set_cons_zero, List.set_cons_succ, i64_w, i32_w]
              rfl
            refine pure_ (i := 7) (N := some 95) (v := ?_) (a' := ?_) #[true, true, true, true, true, true, true, true, false, false, false, false, false, false, false, false, false, false, false, false, false, false, false, false, false, false, false, false, false, false] rfl rfl (by kernel_rfl) (fun _ _ _ h => h) (Or.inl ⟨by rfl, ?_⟩) ?_ ?_
            rotate_left
            · intro w'
              go_simp
              with_reducible rfl
            rotate_left
            · simp only [Act.put, List.setIfInBounds_toArray, List.set_cons_zero, List.set_cons_succ, i64_w, i32_w]
              rfl
            refine pure_ (i := 9) (N := some 97) (v := ?_) (a' := ?_) #[true, true, true, true, true, true, true, true, false, true, false, false, false, false, false, false, false, false, false, false, false, false, false, false, false, false, false, false, false, false] rfl rfl (by kernel_rfl) (fun _ _ _ h => h) (Or.inl ⟨by rfl, ?_⟩) ?_ ?_
            rotate_left
            · intro w'
              go_simp
              with_reducible rfl
            rotate_left
            · simp only [Act.put, List.setIfInBounds_toArray, List.set_cons_zero, List.set_cons_succ, i64_w, i32_w]
              rfl
            refine pure_ (i := 10) (N := some 98) (v := ?_) (a' := ?_) #[true, true, true, true, true, true, true, true, false, true, true, false, false, false, false, false, false, false, false, false, false, false, false, false, false, false, false, false, false, false] rfl rfl (by kernel_rfl) (fun _ _ _ h => h) (Or.inl ⟨by rfl, ?_⟩) ?_ ?_
            rotate_left
            · intro w'
              go_simp
              with_reducible rfl
            rotate_left
            · simp only [Act.put, List.setIfInBounds_toArray, List.set_cons_zero, List.set_cons_succ, i64_w, i32_w]
              rfl
            refine pure_ (i := 11) (N := some 99) (v := ?_) (a' := ?_) #[true, true, true, true, true, true, true, true, false, true, true, true, false, false, false, false, false, false, false, false, false, false, false, false, false, false, false, false, false, false] rfl rfl (by kernel_rfl) (fun _ _ _ h => h) (Or.inl ⟨by rfl, ?_⟩) ?_ ?_
            rotate_left
            · intro w'
              go_simp
              with_reducible rfl
            rotate_left
            · simp only [Act.put, List.setIfInBounds_toArray, List.set_cons_zero, List.set_cons_succ, i64_w, i32_w]
              rfl
            refine join_ (σ := Unit) 17 #[true, true, true, true, true, true, true, true, true, true, true, true, true, false, false, false, false, false, false, false, false, false, false, false, false, false, false, false, false, false] (fun _ => [(96, .int .i64 (st2.line.from_ + 1)), (100, .int .i64 (st2.line.from_ + 1))]) (fun _ w' => WC = w') ?_ ?_
            rotate_left
            · intro hCont
              refine two_ (i := 8) (j := 12) (Ni := some 96) (Nj := some 100) #[true, true, true, true, true, true, true, true, true, true, true, true, false, false, false, false, false, false, false, false, false, false, false, false, false, false, false, false, false, false] #[true, true, true, true, true, true, true, true, false, true, true, true, true, false, false, false, false, false, false, false, false, false, false, false, false, false, false, false, false, false] rfl rfl rfl rfl (by kernel_rfl) (by decide) (by decide) (fun K hK => ?_) (fun K hK => ?_)
              · skip
                refine goes_ Try.func15 (by kernel_rfl) rfl #[.pointer (some ⟨g, 0, none⟩)] (by rfl) rfl rfl (by simp only [List.map_toArray, List.map_cons, List.map_nil]; rfl) ?_
                with_reducible refine (next_any c514 c0 (by omega) (by omega)).mono ?_
                rintro e w1 ⟨rfl, rfl⟩
                refine ⟨_, rfl, ?_⟩
                refine hK.out _ _ (hHeld) (fun hHeld => ?_)
                clear hK K
                refine norm_ (a' := ?_) ?_ ?_
                rotate_left
                · show Act.put _ (some 96) _ = _
                  simp only [Act.put, List.setIfInBounds_toArray, List.set_cons_zero, List.set_cons_succ, i64_w, i32_w]
                  rfl
                refine one_ (i := 12) (N := some 100) #[true, true, true, true, true, true, true, true, true, true, true, true, true, false, false, false, false, false, false, false, false, false, false, false, false, false, false, false, false, false] rfl rfl (by kernel_rfl) (by decide) (fun K hK => ?_)
                refine value_ (w1 := ?_) (v := ?_) (by rfl) rfl ?_ ?_
                rotate_left 2
                · go_simp
                  constructor
                  · rfl
                  · rfl
                refine hK.out _ _ (hHeld) (fun hHeld => ?_)
                clear hK K
                refine norm_ (a' := ?_) ?_ ?_
                rotate_left
                · show Act.put _ (some 100) _ = _
                  simp only [Act.put, List.setIfInBounds_toArray, List.set_cons_zero, List.set_cons_succ, i64_w, i32_w]
                  rfl
                exact norm_ (by simp only [putAll, Act.put, List.setIfInBounds_toArray, List.set_cons_zero, List.set_cons_succ]) (hCont () _ rfl)
              · skip
                refine value_ (w1 := ?_) (v := ?_) (by rfl) rfl ?_ ?_
                rotate_left 2
                · go_simp
                  constructor
                  · rfl
                  · rfl
                refine hK.out _ _ (hHeld) (fun hHeld => ?_)
                clear hK K
                refine norm_ (a' := ?_) ?_ ?_
                rotate_left
                · show Act.put _ (some 100) _ = _
                  simp only [Act.put, List.setIfInBounds_toArray, List.set_cons_zero, List.set_cons_succ, i64_w, i32_w]
                  rfl
                refine one_ (i := 8) (N := some 96) #[true, true, true, true, true, true, true, true, true, true, true, true, true, false, false, false, false, false, false, false, false, false, false, false, false, false, false, false, false, false] rfl rfl (by kernel_rfl) (by decide) (fun K hK => ?_)
                refine goes_ Try.func15 (by kernel_rfl) rfl #[.pointer (some ⟨g, 0, none⟩)] (by rfl) rfl rfl (by simp only [List.map_toArray, List.map_cons, List.map_nil]; rfl) ?_
                with_reducible refine (next_any c514 c0 (by omega) (by omega)).mono ?_
                rintro e w1 ⟨rfl, rfl⟩
                refine ⟨_, rfl, ?_⟩
                refine hK.out _ _ (hHeld) (fun hHeld => ?_)
                clear hK K
                refine norm_ (a' := ?_) ?_ ?_
                rotate_left
                · show Act.put _ (some 96) _ = _
                  simp only [Act.put, List.setIfInBounds_toArray, List.set_cons_zero, List.set_cons_succ, i64_w, i32_w]
                  rfl
                exact norm_ (by simp only [putAll, Act.put, List.setIfInBounds_toArray, List.set_cons_zero, List.set_cons_succ]) (hCont () _ rfl)
            rintro _ _ rfl
            have hHeld := (blkc ZC.out)
            refine norm_ (a' := ?_) ?_ ?_
            rotate_left
            · simp only [putAll, Act.put, List.setIfInBounds_toArray, List.set_cons_zero, List.set_cons_succ]
              rfl
            refine pure_ (i := 13) (N := some 101) (v := ?_) (a' := ?_) #[true, true, true, true, true, true, true, true, true, true, true, true, true, true, false, false, false, false, false, false, false, false, false, false, false, false, false, false, false, false] rfl rfl (by kernel_rfl) (fun _ _ _ h => h) (Or.inl ⟨by rfl, ?_⟩) ?_ ?_
            rotate_left
            · intro w'
              go_simp
              with_reducible rfl
            rotate_left
            · simp only [Act.put, List.setIfInBounds_toArray, List.set_cons_zero, List.set_cons_succ, i64_w, i32_w]
              rfl
            refine pure_ (i := 14) (N := some 102) (v := ?_) (a' := ?_) #[true, true, true, true, true, true, true, true, true, true, true, true, true, true, true, false, false, false, false, false, false, false, false, false, false, false, false, false, false, false] rfl rfl (by kernel_rfl) (fun _ _ _ h => h) (Or.inl ⟨by rfl, ?_⟩) ?_ ?_
            rotate_left
            · intro w'
              go_simp
              with_reducible rfl
            rotate_left
            · simp only [Act.put, List.setIfInBounds_toArray, List.set_cons_zero, List.set_cons_succ, i64_w, i32_w]
              rfl
            refine pure_ (i := 15) (N := some 103) (v := ?_) (a' := ?_) #[true, true, true, true, true, true, true, true, true, true, true, true, true, true, true, true, false, false, false, false, false, false, false, false, false, false, false, false, false, false] rfl rfl (by kernel_rfl) (fun _ _ _ h => h) (Or.inl ⟨by rfl, ?_⟩) ?_ ?_
            rotate_left
            · intro w'
              go_simp
              with_reducible rfl
            rotate_left
            · simp only [Act.put, List.setIfInBounds_toArray, List.set_cons_zero, List.set_cons_succ, i64_w, i32_w]
              rfl
            refine pure_ (i := 16) (N := some 104) (v := ?_) (a' := ?_) #[true, true, true, true, true, true, true, true, true, true, true, true, true, true, true, true, true, false, false, false, false, false, false, false, false, false, false, false, false, false] rfl rfl (by kernel_rfl) (fun _ _ _ h => h) (Or.inl ⟨by rfl, ?_⟩) ?_ ?_
            rotate_left
            · intro w'
              go_simp
              with_reducible rfl
            rotate_left
            · simp only [Act.put, List.setIfInBounds_toArray, List.set_cons_zero, List.set_cons_succ, i64_w, i32_w]
              rfl
            refine pure_ (i := 18) (N := some 106) (v := ?_) (a' := ?_) #[true, true, true, true, true, true, true, true, true, true, true, true, true, true, true, true, true, false, true, false, false, false, false, false, false, false, false, false, false, false] rfl rfl (by kernel_rfl) (fun _ _ _ h => h) (Or.inl ⟨by rfl, ?_⟩) ?_ ?_
            rotate_left
            · intro w'
              go_simp
              with_reducible rfl
            rotate_left
            · simp only [Act.put, List.setIfInBounds_toArray, List.set_cons_zero, List.set_cons_succ, i64_w, i32_w]
              rfl
            refine pure_ (i := 19) (N := some 107) (v := ?_) (a' := ?_) #[true, true, true, true, true, true, true, true, true, true, true, true, true, true, true, true, true, false, true, true, false, false, false, false, false, false, false, false, false, false] rfl rfl (by kernel_rfl) (fun _ _ _ h => h) (Or.inl ⟨by rfl, ?_⟩) ?_ ?_
            rotate_left
            · intro w'
              go_simp
              with_reducible rfl
            rotate_left
            · simp only [Act.put, List.setIfInBounds_toArray, List.set_cons_zero, List.set_cons_succ, i64_w, i32_w]
              rfl
            refine pure_ (i := 20) (N := some 108) (v := ?_) (a' := ?_) #[true, true, true, true, true, true, true, true, true, true, true, true, true, true, true, true, true, false, true, true, true, false, false, false, false, false, false, false, false, false] rfl rfl (by kernel_rfl) (fun _ _ _ h => h) (Or.inl ⟨by rfl, ?_⟩) ?_ ?_
            rotate_left
            · intro w'
              go_simp
              with_reducible rfl
            rotate_left
            · simp only [Act.put, List.setIfInBounds_toArray, List.set_cons_zero, List.set_cons_succ, i64_w, i32_w]
              rfl
            refine join_ (σ := Unit) 7 #[true, true, true, true, true, true, true, true, true, true, true, true, true, true, true, true, true, true, true, true, true, true, true, false, false, false, false, false, false, false] (fun _ => [(105, .int .i64 (x2.held.length : Int)), (109, .slice AX x2.held.length cX), (110, .int .i64 (x2.held.length : Int))]) (fun _ w' => WC = w') ?_ ?_
            rotate_left
            · intro hCont
              refine two_ (i := 17) (j := 21) (Ni := some 105) (Nj := some 109) #[true, true, true, true, true, true, true, true, true, true, true, true, true, true, true, true, true, true, true, true, true, false, false, false, false, false, false, false, false, false] #[true, true, true, true, true, true, true, true, true, true, true, true, true, true, true, true, true, false, true, true, true, true, false, false, false, false, false, false, false, false] rfl rfl rfl rfl (by kernel_rfl) (by decide) (by decide) (fun K hK => ?_) (fun K hK => ?_)
              · skip
                refine goes_ Try.func22 (by kernel_rfl) rfl #[.pointer (some ⟨g, 0, none⟩)] (by rfl) rfl rfl (by simp only [List.map_toArray, List.map_cons, List.map_nil]; rfl) ?_
                with_reducible refine (held_any c515).mono ?_
                rintro e w1 ⟨rfl, rfl⟩
                refine ⟨_, rfl, ?_⟩
                refine hK.out _ _ (hHeld) (fun hHeld => ?_)
                clear hK K
                refine norm_ (a' := ?_) ?_ ?_
                rotate_left
                · show Act.put _ (some 105) _ = _
                  simp only [Act.put, List.setIfInBounds_toArray, List.set_cons_zero, List.set_cons_succ, i64_w, i32_w]
                  rfl
                refine one_ (i := 21) (N := some 109) #[true, true, true, true, true, true, true, true, true, true, true, true, true, true, true, true, true, true, true, true, true, true, false, false, false, false, false, false, false, false] rfl rfl (by kernel_rfl) (by decide) (fun K hK => ?_)
                refine value_ (w1 := ?_) (v := ?_) (by rfl) rfl ?_ ?_
                rotate_left 2
                · go_simp
                  constructor
                  · rfl
                  · rfl
                refine hK.out _ _ (hHeld) (fun hHeld => ?_)
                clear hK K
                refine norm_ (a' := ?_) ?_ ?_
                rotate_left
                · show Act.put _ (some 109) _ = _
                  simp only [Act.put, List.setIfInBounds_toArray, List.set_cons_zero, List.set_cons_succ, i64_w, i32_w]
                  rfl
                refine pure_ (i := 22) (N := some 110) (v := ?_) (a' := ?_) #[true, true, true, true, true, true, true, true, true, true, true, true, true, true, true, true, true, true, true, true, true, true, true, false, false, false, false, false, false, false] rfl rfl (by kernel_rfl) (fun _ _ _ h => h) (Or.inl ⟨by rfl, ?_⟩) ?_ ?_
                rotate_left
                · intro w'
                  go_simp
                  with_reducible rfl
                rotate_left
                · simp only [Act.put, List.setIfInBounds_toArray, List.set_cons_zero, List.set_cons_succ, i64_w, i32_w]
                  rfl
                exact norm_ (by simp only [putAll, Act.put, List.setIfInBounds_toArray, List.set_cons_zero, List.set_cons_succ]) (hCont () _ rfl)
              · skip
                refine value_ (w1 := ?_) (v := ?_) (by rfl) rfl ?_ ?_
                rotate_left 2
                · go_simp
                  constructor
                  · rfl
                  · rfl
                refine hK.out _ _ (hHeld) (fun hHeld => ?_)
                clear hK K
                refine norm_ (a' := ?_) ?_ ?_
                rotate_left
                · show Act.put _ (some 109) _ = _
                  simp only [Act.put, List.setIfInBounds_toArray, List.set_cons_zero, List.set_cons_succ, i64_w, i32_w]
                  rfl
                refine pure_ (i := 22) (N := some 110) (v := ?_) (a' := ?_) #[true, true, true, true, true, true, true, true, true, true, true, true, true, true, true, true, true, false, true, true, true, true, true, false, false, false, false, false, false, false] rfl rfl (by kernel_rfl) (fun _ _ _ h => h) (Or.inl ⟨by rfl, ?_⟩) ?_ ?_
                rotate_left
                · intro w'
                  go_simp
                  with_reducible rfl
                rotate_left
                · simp only [Act.put, List.setIfInBounds_toArray, List.set_cons_zero, List.set_cons_succ, i64_w, i32_w]
                  rfl
                refine one_ (i := 17) (N := some 105) #[true, true, true, true, true, true, true, true, true, true, true, true, true, true, true, true, true, true, true, true, true, true, true, false, false, false, false, false, false, false] rfl rfl (by kernel_rfl) (by decide) (fun K hK => ?_)
                refine goes_ Try.func22 (by kernel_rfl) rfl #[.pointer (some ⟨g, 0, none⟩)] (by rfl) rfl rfl (by simp only [List.map_toArray, List.map_cons, List.map_nil]; rfl) ?_
                with_reducible refine (held_any c515).mono ?_
                rintro e w1 ⟨rfl, rfl⟩
                refine ⟨_, rfl, ?_⟩
                refine hK.out _ _ (hHeld) (fun hHeld => ?_)
                clear hK K
                refine norm_ (a' := ?_) ?_ ?_
                rotate_left
                · show Act.put _ (some 105) _ = _
                  simp only [Act.put, List.setIfInBounds_toArray, List.set_cons_zero, List.set_cons_succ, i64_w, i32_w]
                  rfl
                exact norm_ (by simp only [putAll, Act.put, List.setIfInBounds_toArray, List.set_cons_zero, List.set_cons_succ]) (hCont () _ rfl)
            rintro _ _ rfl
            have hHeld := (blkc ZC.out)
            refine norm_ (a' := ?_) ?_ ?_
            rotate_left
            · simp only [putAll, Act.put, List.setIfInBounds_toArray, List.set_cons_zero, List.set_cons_succ]
              rfl
            refine pure_ (i := 23) (N := some 111) (v := ?_) (a' := ?_) #[true, true, true, true, true, true, true, true, true, true, true, true, true, true, true, true, true, true, true, true, true, true, true, true, false, false, false, false, false, false] rfl rfl (by kernel_rfl) (fun _ _ _ h => h) (Or.inl ⟨by rfl, ?_⟩) ?_ ?_
            rotate_left
            · intro w'
              go_simp
              with_reducible rfl
            rotate_left
            · simp only [Act.put, List.setIfInBounds_toArray, List.set_cons_zero, List.set_cons_succ, i64_w, i32_w]
              rfl
            refine pure_ (i := 24) (N := some 112) (v := ?_) (a' := ?_) #[true, true, true, true, true, true, true, true, true, true, true, true, true, true, true, true, true, true, true, true, true, true, true, true, true, false, false, false, false, false] rfl rfl (by kernel_rfl) (fun _ _ _ h => h) (Or.inl ⟨by rfl, ?_⟩) ?_ ?_
            rotate_left
            · intro w'
              go_simp
              with_reducible rfl
            rotate_left
            · simp only [Act.put, List.setIfInBounds_toArray, List.set_cons_zero, List.set_cons_succ, i64_w, i32_w]
              rfl
            refine pure_ (i := 25) (N := some 113) (v := ?_) (a' := ?_) #[true, true, true, true, true, true, true, true, true, true, true, true, true, true, true, true, true, true, true, true, true, true, true, true, true, true, false, false, false, false] rfl rfl (by kernel_rfl) (fun _ _ _ h => h) (Or.inl ⟨by rfl, ?_⟩) ?_ ?_
            rotate_left
            · intro w'
              go_simp
              with_reducible rfl
            rotate_left
            · simp only [Act.put, List.setIfInBounds_toArray, List.set_cons_zero, List.set_cons_succ, i64_w, i32_w]
              rfl
            refine pure_ (i := 26) (N := some 114) (v := ?_) (a' := ?_) #[true, true, true, true, true, true, true, true, true, true, true, true, true, true, true, true, true, true, true, true, true, true, true, true, true, true, true, false, false, false] rfl rfl (by kernel_rfl) (fun _ _ _ h => h) (Or.inl ⟨by rfl, ?_⟩) ?_ ?_
            rotate_left
            · intro w'
              go_simp
              with_reducible rfl
            rotate_left
            · simp only [Act.put, List.setIfInBounds_toArray, List.set_cons_zero, List.set_cons_succ, i64_w, i32_w]
              rfl
            refine one_ (i := 27) (N := some 115) #[true, true, true, true, true, true, true, true, true, true, true, true, true, true, true, true, true, true, true, true, true, true, true, true, true, true, true, true, false, false] rfl rfl (by kernel_rfl) (by decide) (fun K hK => ?_)
            refine goes_ Try.func29 (by kernel_rfl) rfl #[.slice AA out.length cA] (by rfl) rfl rfl (by simp only [List.map_toArray, List.map_cons, List.map_nil]; rfl) ?_
            with_reducible refine (own_any (w0 := w) RC.out hw9 BC.out hCs (by omega)).mono ?_
            rintro e wE ⟨rfl, hkE, hbE⟩
            refine ⟨_, rfl, ?_⟩
            have IE := Lib.hid (IC.out.kept hkE (fun e => by have := Kd.R_base RC.out g e.symm; omega))
            have XE := Lib.hid (XC.out.kept hkE (fun e => by have := Kd.R_base RC.out gx e.symm; omega) HVA.out)
            have ZE := Lib.hid (blk_kept ZC.out hkE (fun e => by have := Kd.R_base RC.out q e.symm; omega))
            have BE := Lib.hid hbE
            clear hkE hbE
            refine hK.out _ _ ((blkc ZE.out)) (fun hHeld => ?_)
            clear hK K
            refine norm_ (a' := ?_) ?_ ?_
            rotate_left
            · show Act.put _ (some 115) _ = _
              simp only [Act.put, List.setIfInBounds_toArray, List.set_cons_zero, List.set_cons_succ, i64_w, i32_w]
              rfl
            refine pure_ (i := 28) (N := some 116) (v := ?_) (a' := ?_) #[true, true, true, true, true, true, true, true, true, true, true, true, true, true, true, true, true, true, true, true, true, true, true, true, true, true, true, true, true, false] rfl rfl (by kernel_rfl) (fun _ _ _ h => h) (Or.inl ⟨by rfl, ?_⟩) ?_ ?_
            rotate_left
            · intro w'
              go_simp
              with_reducible rfl
            rotate_left
            · simp only [Act.put, List.setIfInBounds_toArray, List.set_cons_zero, List.set_cons_succ, i64_w, i32_w]
              rfl
            refine pure_ (i := 29) (N := some 117) (v := ?_) (a' := ?_) #[true, true, true, true, true, true, true, true, true, true, true, true, true, true, true, true, true, true, true, true, true, true, true, true, true, true, true, true, true, true] rfl rfl (by kernel_rfl) (fun _ _ _ h => h) (Or.inl ⟨by rfl, ?_⟩) ?_ ?_
            rotate_left
            · intro w'
              go_simp
              with_reducible rfl
            rotate_left
            · simp only [Act.put, List.setIfInBounds_toArray, List.set_cons_zero, List.set_cons_succ, i64_w, i32_w]
              rfl
            refine done_ (by kernel_rfl) ?_
            clear c514 c0 c515 d5 d6 ID XD BD RD ZD
            go_wp2_with fail
            go_roundg k1
            case measure => exact Nat.lt_succ_self _
            case rel => exact ⟨k + 1, st2, x2, _, rfl, Lib.hid (by have := HK.out; omega), OKT.out, SM2.out, Lib.hid (by omega), IE.out, XE.out, BE.out⟩
end Go.Proofs.Ytofmgijdeeikeaa.Hop
namespace Go.Proofs.Ytofmgijdeeikeaa.Walk
open Go.RowKit Go.Proofs.Ytofmgijdeeikeaa.Opn Go.Proofs.Ytofmgijdeeikeaa.Hop Go.Proofs.YtofmgijdeeikeaaW.PrintWords
theorem bytesStep : Try.prog.bytesOf 53 = 88 := by kernel_rfl
theorem HopIns (x : BegT) (cs : List Value) (l : List Step) (A : Option Addr) (n : Nat) (W : World) (hc : kBeg.K W x cs) (hp : pBeg x) (hl : l.length ≤ n) (hC : kStep.C W A l.length l) (hm : l.length ≤ 9223372036854775807) (hq : ∀ a ∈ l, pStep a) (hr : l.length * Try.prog.bytesOf 53 ≤ 140737488351232) :
    Calls Try.prog 7 #[.agg cs.toArray, .slice A l.length n] W fun e W' => e = .returned (.bool true) ∧ Below W.heap.size W W' := by
  obtain rfl := kBeg_cells hc
  rw [bytesStep] at hr
  exact Hop.ins_any _ _ _ l A n W hl hr hC
end Go.Proofs.Ytofmgijdeeikeaa.Walk
