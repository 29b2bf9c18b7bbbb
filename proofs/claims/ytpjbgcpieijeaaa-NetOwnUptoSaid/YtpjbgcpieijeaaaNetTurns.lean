/- NetTurns, walked. -/
import Derived.Test.YtpjbgcpieijeaaaNetHold
import Derived.Laws.BitsLemmas
set_option linter.unusedVariables false
set_option linter.unusedSimpArgs false
namespace Go.Proofs.Ytpjbgcpieijeaaa.Net
open Go.RowKit Go.Proofs.Ytpjbgcpieijeaaa.Mem Go.Proofs.YtpjbgcpieijeaaaW.PrintWords Go.Proofs.YtpjbgcpieijeaaaW.PrintLast Go.Proofs.Ytpjbgcpieijeaaa.Byt Go.Proofs.Ytpjbgcpieijeaaa.Opn Go.Deep
theorem w64_nat {n : Nat} (h : n < 9223372036854775808) : wrap64 (n : Int) = (n : Int) := by unfold wrap64; omega
theorem wrap_u64' (n : Int) : IntKind.u64.wrap n = n % 18446744073709551616 := by simp [IntKind.wrap, IntKind.bits, IntKind.signed]
theorem u64_nat {n : Nat} (h : n < 18446744073709551616) : IntKind.u64.wrap (n : Int) = (n : Int) := by rw [wrap_u64']; omega
theorem corr {w : World} {base g m : Nat} {O : Nat → Prop} {v sv : Value} {fls : List Fl} {ps : List Pv} {qs : List PkT} (h : FillR w base O g m v fls sv ps qs) : fls.length = ps.length ∧ ∀ (j : Nat) (p : Pv), ps[j]? = some p → ∃ f, fls[j]? = some f ∧ f.src = p.src ∧ f.dst = p.dst ∧ f.sb = p.bs ∧ f.nb = p.bs := by
  have h1 : fls.map Fl.plain = ps.map (fun p => (p.src, p.dst, p.bs, p.bs)) := by
    rw [h.ff, ← h.pp, List.map_map]
    rfl
  have hl : fls.length = ps.length := by simpa using congrArg List.length h1
  refine ⟨hl, fun j p hj => ?_⟩
  have h2 := congrArg (fun l => l[j]?) h1
  simp only [List.getElem?_map, hj, Option.map_some] at h2
  obtain ⟨f, hf, hp⟩ := Option.map_eq_some_iff.1 h2
  simp only [Fl.plain, Prod.mk.injEq] at hp
  exact ⟨f, hf, hp.1, hp.2.1, hp.2.2.1, hp.2.2.2⟩
theorem fill_pos {w : World} {base g m : Nat} {O : Nat → Prop} {v sv : Value} {fls : List Fl} {ps : List Pv} {l : List PkT} (h : FillR w base O g m v fls sv ps ((ownP :: l).filter okP)) : 0 < ps.length ∧ ps.length ≤ l.length + 1 := by
  have h2 := congrArg List.length h.pp
  have h3 := List.length_filter_le okP (ownP :: l)
  rw [List.length_map] at h2
  refine ⟨?_, by rw [List.length_cons] at h3; omega⟩
  rw [h2, List.filter_cons, if_pos own_ok, List.length_cons]
  omega
set_option maxHeartbeats 12800000 in
set_option maxRecDepth 100000 in
theorem turns_any {w : World} {A : Option Addr} {c : Nat} {l : List PkT} (hC : kPk.C w A l.length l) (hc : l.length ≤ c) (hp : ∀ x ∈ l, (∀ z ∈ x.2.2, 0 ≤ z ∧ z < 256) ∧ x.2.2.length ≤ 140737488351232) (hl : l.length ≤ 1048576) (at_ bt : Nat) (hat : at_ < 18446744073709551616) (hbt : bt < 18446744073709551616) :
    Calls Try.prog 4 #[.slice A l.length c, .int .u64 (at_ : Int), .int .u64 (bt : Int)] w fun e w' => e = .returned (.bool true) ∧ Below w.heap.size w w' := by
  have HFA := Lib.hid (filled_any hC hc hp hl)
  have HL := Lib.hid hl
  have HBT := Lib.hid hbt
  clear hC hc hp hl hbt
  go_enter Try.func4, Try.ntmps4
  go_wp2_with fail
  refine HFA.out.mono ?_
  rintro e w1 ⟨g, m, v, fls, sv, ps, O, rfl, hF, hb⟩
  obtain ⟨hfl, hcor⟩ := corr hF
  obtain ⟨hn0, hn1⟩ := fill_pos hF
  obtain ⟨As, cs, rfl⟩ := own_slice hF.some_
  have H1 := Lib.hid hF.hold
  have B1 := Lib.hid hb
  have HFL := Lib.hid (And.intro hfl (show ps.length ≤ 1048577 by have := HL.out; omega))
  have HCOR := Lib.hid hcor
  obtain ⟨i, hi⟩ : ∃ i, at_ % ps.length = i := ⟨_, rfl⟩
  have hil : i < ps.length := by rw [← hi]; exact Nat.mod_lt _ hn0
  have b1 : ps.length < 9223372036854775808 := by have := HFL.out.2; omega
  have b2 : ps.length < 18446744073709551616 := by omega
  have b3 : i < 9223372036854775808 := by omega
  have b4 : i < 18446744073709551616 := by omega
  have m5 : ((ps.length : Int) == 0) = false := by rw [beq_eq_false_iff_ne]; omega
  have m6 : ¬ (ps.length : Int) = 0 := by omega
  obtain ⟨p, hp⟩ : ∃ p, ps[i]? = some p := ⟨_, List.getElem?_eq_getElem hil⟩
  obtain ⟨f, hf, hf1, hf2, hf3, hf4⟩ := hcor i p hp
  obtain ⟨ad, cs', hsv, _, y0, y1, y2⟩ := H1.out.some_.at hp
  cases hsv
  obtain ⟨A', c', hpv, hlc, hpC, hpA⟩ := (H1.out.pv p (List.mem_of_getElem? hp)).rd
  rw [hpv] at y2
  have HP := Lib.hid hp
  have HF := Lib.hid hf
  have HFF := Lib.hid (And.intro hf1 (And.intro hf2 (And.intro hf3 hf4)))
  have HIL := Lib.hid hil
  have HAT := Lib.hid hi
  have HPV := Lib.hid hpv
  clear hfl hcor hn0 hn1 hb hF hi hp hf hf1 hf2 hf3 hf4 hlc hpC hpA hpv HFA
  have m2 := u64_nat b2
  have m3 : Int.tmod (at_ : Int) (ps.length : Int) = (i : Int) := by rw [← HAT.out]; rfl
  have m3b : (at_ : Int) % (ps.length : Int) = (i : Int) := by rw [← HAT.out]; rfl
  have m4 := w64_nat b3
  have m7 := u64_nat b4
  have m8 := w64_nat b1
  clear b1 b2 b3 b4
  go_upto_region 5 with (fail)
  rw [m4]
  clear m2 m3 m3b m4 m5 m6 m7 m8
  have p0 := eq_true (show 0 ≤ (i : Int) by omega)
  have p1 := eq_true hil
  by_cases hz : p.bs.length = 0
  · have d0 : ((p.bs.length : Int) == 0) = true := by rw [beq_iff_eq]; omega
    have d1 : decide ((p.bs.length : Int) = 0) = true := decide_eq_true (by omega)
    have HNB := Lib.hid (show bitB f.nb.length 0 = false by rw [HFF.out.2.2.2, hz]; decide)
    clear hz
    go_wp2_with fail
    refine (flip_bit H1.out.net HF.out HNB.out (by omega)).mono ?_
    rintro e w2 ⟨rfl, hb⟩
    have B2 := Lib.hid (below_then B1.out B1.out.size hb)
    clear hb
    go_wp2_with fail
    go_ret
    exact ⟨rfl, B2.out⟩
  · have d0 : ((p.bs.length : Int) == 0) = false := by rw [beq_eq_false_iff_ne]; omega
    have d1 : decide ((p.bs.length : Int) = 0) = false := decide_eq_false (by omega)
    obtain ⟨M, hM⟩ : ∃ M, 8 * p.bs.length = M := ⟨_, rfl⟩
    obtain ⟨k, hk⟩ : ∃ k, bt % M = k := ⟨_, rfl⟩
    have hlb := (H1.out.pv p (List.mem_of_getElem? HP.out)).len
    have hkl : k < M := by rw [← hk]; exact Nat.mod_lt _ (by omega)
    have b1 : M < 9223372036854775808 := by omega
    have b2 : M < 18446744073709551616 := by omega
    have b3 : k < 9223372036854775808 := by omega
    have b4 : k < 18446744073709551616 := by omega
    have n5 : ((M : Int) == 0) = false := by rw [beq_eq_false_iff_ne]; omega
    have n6 : ¬ (M : Int) = 0 := by omega
    have hkj : k / 8 < p.bs.length := by omega
    have n0 : (8 * (p.bs.length : Int)) = (M : Int) := by omega
    have HKR := Lib.hid (show 0 ≤ (k : Int) ∧ (k : Int) ≤ 9223372036854775807 by omega)
    obtain ⟨x, hx⟩ : ∃ x, p.bs[k / 8]? = some x := ⟨_, List.getElem?_eq_getElem hkj⟩
    have HX := Lib.hid hx
    have HXR := Lib.hid ((H1.out.pv p (List.mem_of_getElem? HP.out)).rng x (List.mem_of_getElem? hx))
    have HK := Lib.hid hk
    clear hz hM hk hlb hkl hkj hx
    have n1 : wrap64 (8 * (p.bs.length : Int)) = (M : Int) := by rw [n0]; exact w64_nat b1
    have n2 := u64_nat b2
    have n3 : Int.tmod (bt : Int) (M : Int) = (k : Int) := by rw [← HK.out]; rfl
    have n3b : (bt : Int) % (M : Int) = (k : Int) := by rw [← HK.out]; rfl
    have n4 := w64_nat b3
    have n7 := u64_nat b4
    clear b1 b2 b3 b4 n0
    go_upto_region 8 with (fail)
    rw [n4]
    clear n1 n2 n3 n3b n4 n5 n6 n7 y0 y1 y2
    go_wp2_with fail
    refine (copy_net (w0 := w) H1.out.net HF.out (by have := HFL.out; omega) B1.out rfl).mono ?_
    rintro e w2 ⟨rfl, ⟨v2, nv2, hN2⟩, hk2, hb2⟩
    obtain ⟨O2, h2⟩ : ∃ O2, HoldR w2 w.heap.size O2 g m v2 (fls ++ [⟨f.src, f.dst, f.sv, nv2, f.sb, f.nb⟩]) (.slice (some ad) ps.length cs) ps _ := ⟨_, H1.out.next hN2 (fun k hk => hk) hk2⟩
    have H2 := Lib.hid h2
    have B2 := Lib.hid hb2
    have HI2 := Lib.hid (show (fls ++ [(⟨f.src, f.dst, f.sv, nv2, f.sb, f.nb⟩ : Fl)])[i]? = some f by rw [List.getElem?_append_left (by have := HFL.out.1; have := HIL.out; omega)]; exact HF.out)
    clear hN2 hk2 hb2 h2
    go_wp2_with fail
    refine (flip_net (w0 := w) H2.out.net HI2.out (k := (k : Int)) HKR.out.1 HKR.out.2 (x := x) (by rw [Int.toNat_natCast, HFF.out.2.2.2]; exact HX.out) B2.out rfl).mono ?_
    rintro e w3 ⟨rfl, hN3, hk3, hb3⟩
    rw [Int.toNat_natCast] at hN3
    obtain ⟨O3, h3⟩ : ∃ O3, HoldR w3 w.heap.size O3 g m v2 ((fls ++ [(⟨f.src, f.dst, f.sv, nv2, f.sb, f.nb⟩ : Fl)]).set i ⟨f.src, f.dst, f.sv, f.nv, f.sb, f.nb.set (k / 8) (turnB x k)⟩) (.slice (some ad) ps.length cs) ps _ := ⟨_, H2.out.next hN3 (fun k hk => .inl hk) hk3⟩
    have B3 := Lib.hid hb3
    obtain ⟨f3, hf3⟩ : ∃ f3 : Fl, f3 = ⟨f.src, f.dst, f.sv, f.nv, f.sb, f.nb.set (k / 8) (turnB x k)⟩ := ⟨_, rfl⟩
    obtain ⟨f2, hf2⟩ : ∃ f2 : Fl, f2 = ⟨f.src, f.dst, f.sv, nv2, f.sb, f.nb⟩ := ⟨_, rfl⟩
    rw [← hf3, ← hf2] at h3
    have HF3 := Lib.hid (show f3.src = p.src ∧ f3.dst = p.dst ∧ f3.sb = p.bs ∧ f3.nb = p.bs.set (k / 8) (turnB x k) by rw [hf3]; exact ⟨HFF.out.1, HFF.out.2.1, HFF.out.2.2.1, by show f.nb.set _ _ = _; rw [HFF.out.2.2.2]⟩)
    have HF2 := Lib.hid (show f2.src = p.src ∧ f2.dst = p.dst ∧ f2.sb = p.bs ∧ f2.nb = p.bs by rw [hf2]; exact HFF.out)
    have HG := Lib.hid (show ((fls ++ [f2]).set i f3)[i]? = some f3 ∧ ((fls ++ [f2]).set i f3)[ps.length]? = some f2 ∧ ∀ (j : Nat) (p' : Pv), ps[j]? = some p' → j ≠ i → ∃ f', ((fls ++ [f2]).set i f3)[j]? = some f' ∧ f'.src = p'.src ∧ f'.dst = p'.dst ∧ f'.nb = p'.bs by
      have h1 := HFL.out.1
      have h2 := HIL.out
      refine ⟨by rw [List.getElem?_set_self (by rw [List.length_append]; omega)], by rw [List.getElem?_set_ne (by omega), List.getElem?_append_right (by omega), h1, Nat.sub_self]; rfl, fun j p' hj hne => ?_⟩
      obtain ⟨f', a1, a2, a3, _, a4⟩ := HCOR.out j p' hj
      exact ⟨f', by rw [List.getElem?_set_ne (fun e => hne e.symm), List.getElem?_append_left (List.getElem?_eq_some_iff.1 a1).1]; exact a1, a2, a3, a4⟩)
    have H3 := Lib.hid h3
    clear hN3 hk3 hb3 h3 hf3 hf2 HI2 H2 H1 HCOR HFF HF B1 B2
    generalize (fls ++ [f2]).set i f3 = fl3 at *
    have HONE := Lib.hid (show flipsN f3.nb f3.sb = 1 by rw [HF3.out.2.2.1, HF3.out.2.2.2]; exact turnB_flips HX.out)
    have HNIL := Lib.hid (show flipsN f2.nb f2.sb = 0 by rw [HF2.out.2.2.1, HF2.out.2.2.2]; exact flipsN_self _)
    go_wp2_with fail
    refine (flips_net H3.out.net HG.out.1).mono ?_
    rintro e w4 ⟨rfl, hb4⟩
    rw [HONE.out]
    have H4 := Lib.hid (H3.out.below hb4)
    have B4 := Lib.hid (below_then B3.out B3.out.size hb4)
    clear hb4 H3 B3 HONE
    go_wp2_with fail
    refine (flips_net H4.out.net HG.out.2.1).mono ?_
    rintro e w5 ⟨rfl, hb5⟩
    rw [HNIL.out]
    have H5 := Lib.hid (H4.out.below hb5)
    have B5 := Lib.hid (below_then B4.out B4.out.size hb5)
    clear hb5 H4 B4 HNIL
    go_wp2_with fail
    go_loopg [15] (ps.length + 1) (fun kq v15 w' => ∃ (j : Nat), v15 = .int .i64 (j : Int) ∧ Hid (j + kq = ps.length + 1) ∧ Hid (HoldR w' w.heap.size O3 g m v2 fl3 (.slice (some ad) ps.length cs) ps _) ∧ Hid (Below w.heap.size w w'))
    case atStart => exact ⟨0, rfl, (show _ + _ = _ by omega), H5.out, B5.out⟩
    case round =>
      obtain ⟨j, rfl, HI, HH, HB⟩ := hrel
      cases gk with
      | zero =>
        have hj : j = ps.length + 1 := HI.out
        have d1 : decide ((j : Int) ≤ (ps.length : Int)) = false := decide_eq_false (by omega)
        have d2 : decide (j ≤ ps.length) = false := decide_eq_false (by omega)
        clear hj HI
        go_wp2_with fail
        have hbk : (p.bs.set (k / 8) (turnB x k)).set (k / 8) (turnB (turnB x k) k) = p.bs := by
          rw [turnB_back k HXR.out.1, List.set_set]
          obtain ⟨h1, h2⟩ := List.getElem?_eq_some_iff.1 HX.out
          rw [← h2, List.set_getElem_self]
        refine (flip_net (w0 := w) HH.out.net HG.out.1 (k := (k : Int)) HKR.out.1 HKR.out.2 (x := turnB x k) (by rw [Int.toNat_natCast, HF3.out.2.2.2, List.getElem?_set_self (List.getElem?_eq_some_iff.1 HX.out).1]) HB.out rfl).mono ?_
        rintro e w6 ⟨rfl, hN6, hk6, hb6⟩
        rw [Int.toNat_natCast] at hN6
        obtain ⟨O6, h6⟩ : ∃ O6, HoldR w6 w.heap.size O6 g m v2 (fl3.set i ⟨f3.src, f3.dst, f3.sv, f3.nv, f3.sb, f3.nb.set (k / 8) (turnB (turnB x k) k)⟩) (.slice (some ad) ps.length cs) ps _ := ⟨_, HH.out.next hN6 (fun k hk => .inl hk) hk6⟩
        have B6 := Lib.hid hb6
        obtain ⟨f6, hf6⟩ : ∃ f6 : Fl, f6 = ⟨f3.src, f3.dst, f3.sv, f3.nv, f3.sb, f3.nb.set (k / 8) (turnB (turnB x k) k)⟩ := ⟨_, rfl⟩
        rw [← hf6] at h6
        have HF6 := Lib.hid (show f6.src = p.src ∧ f6.dst = p.dst ∧ f6.sb = p.bs ∧ f6.nb = p.bs by rw [hf6]; exact ⟨HF3.out.1, HF3.out.2.1, HF3.out.2.2.1, by show f3.nb.set _ _ = _; rw [HF3.out.2.2.2]; exact hbk⟩)
        have HI6 := Lib.hid (show (fl3.set i f6)[i]? = some f6 by rw [List.getElem?_set_self (List.getElem?_eq_some_iff.1 HG.out.1).1])
        have H6 := Lib.hid h6
        clear hN6 hk6 hb6 h6 hf6 hbk HH HB
        generalize fl3.set i f6 = fl6 at *
        go_wp2_with fail
        have HXN := Lib.hid (H6.out.net.fl f6 (List.mem_of_getElem? HI6.out)).rn
        refine (get_net H6.out.net HI6.out).mono ?_
        rintro e w7 ⟨v7, rfl, ho7, hb7⟩
        obtain ⟨A7, c7, rfl⟩ := own_slice ho7
        obtain ⟨A9, c9, he9, _, hC7⟩ := ho7.reads
        cases he9
        have ba := below_alloc (Below.refl w7.heap.size w7) (.cells #[.int .i64 f6.src, .int .i64 f6.dst, .slice A7 f6.nb.length c7] tPk)
        have H7 := Lib.hid ((H6.out.below hb7).below ba)
        have B7 := Lib.hid (below_then (below_then B6.out B6.out.size hb7) (below_then B6.out B6.out.size hb7).size ba)
        have C7 := Lib.hid (Kd.C_below hC7 ba)
        have P7 := Lib.hid (blk_new w7 (.cells #[.int .i64 f6.src, .int .i64 f6.dst, .slice A7 f6.nb.length c7] tPk))
        clear ho7 hb7 hC7 ba H6 B6
        go_upto_region 26 with (fail)
        generalize (World.alloc w7 _) = W7 at *
        generalize w7.heap.size = b7 at *
        have HNIL2 := Lib.hid (show flipsN f6.nb f6.sb = 0 by rw [HF6.out.2.2.1, HF6.out.2.2.2]; exact flipsN_self _)
        go_wp2_with fail
        refine (flips_net H7.out.net HI6.out).mono ?_
        rintro e w8 ⟨rfl, hb8⟩
        rw [HNIL2.out]
        have H8 := Lib.hid (H7.out.below hb8)
        have B8 := Lib.hid (below_then B7.out B7.out.size hb8)
        have C8 := Lib.hid (Kd.C_below C7.out hb8)
        have P8 := Lib.hid (blk_below P7.out hb8)
        clear hb8 H7 B7 C7 P7
        go_upto_region 27 with (fail)
        have HD8 := Lib.hid (H8.out.below (w1 := w8.drew) (Below.refl w8.heap.size w8).drew)
        obtain ⟨ad9, c9, hsv9, _, y0, y1, y2⟩ := HD8.out.some_.at HP.out
        cases hsv9
        rw [HPV.out] at y2
        obtain ⟨Ap, cp', hpv2, _, hCp, _⟩ := (HD8.out.pv p (List.mem_of_getElem? HP.out)).rd
        rw [HPV.out] at hpv2
        cases hpv2
        have HCP := Lib.hid hCp
        have HRP := Lib.hid (HD8.out.pv p (List.mem_of_getElem? HP.out)).rng
        have PD := Lib.hid (blk_drew P8.out)
        have CD := Lib.hid (show kB.C w8.drew A7 f6.nb.length f6.nb from C8.out)
        have HD := Lib.hid (show decide ((f6.src, f6.dst, f6.nb) = (p.src, p.dst, p.bs)) = true by rw [HF6.out.1, HF6.out.2.1, HF6.out.2.2.2]; simp)
        have p0 := eq_true (show 0 ≤ (i : Int) by omega)
        have p1 := eq_true HIL.out
        clear hCp
        refine start_ (n := 19) (S := fun w' => (∀ o, w'.cell? ⟨b7, o, none⟩ = #[Value.int .i64 f6.src, .int .i64 f6.dst, .slice A7 f6.nb.length c7][o]?) ∧ w'.cell? (ad.add (i * 3)) = some (.int .i64 p.src) ∧ w'.cell? ⟨(ad.add (i * 3)).block, (ad.add (i * 3)).off + 1, none⟩ = some (.int .i64 p.dst) ∧ w'.cell? ⟨(ad.add (i * 3)).block, (ad.add (i * 3)).off + 2, none⟩ = some (.slice A' p.bs.length c')) (ds := []) #[false, false, false, false, false, false, false, false, false, false, false, false, false, false, false, false, false, false, false] (by kernel_rfl) rfl rfl ⟨(blkc PD.out), y0, y1, y2⟩ (fun hHeld => ?_)
        refine pure_ (i := 0) (N := some 148) (v := ?_) (a' := ?_) #[true, false, false, false, false, false, false, false, false, false, false, false, false, false, false, false, false, false, false] rfl rfl (by kernel_rfl) (fun _ _ _ h => h) (Or.inl ⟨by rfl, ?_⟩) ?_ ?_
        rotate_left
        · intro w'
          go_simp
          with_reducible rfl
        rotate_left
        · simp only [Act.put, List.setIfInBounds_toArray, List.set_cons_zero, List.set_cons_succ, i64_w, i32_w]
          rfl
        refine pure_ (i := 1) (N := some 149) (v := ?_) (a' := ?_) #[true, true, false, false, false, false, false, false, false, false, false, false, false, false, false, false, false, false, false] rfl rfl (by kernel_rfl) (fun _ _ _ h => h) (Or.inl ⟨by rfl, ?_⟩) ?_ ?_
        rotate_left
        · intro w'
          go_simp
          with_reducible rfl
        rotate_left
        · simp only [Act.put, List.setIfInBounds_toArray, List.set_cons_zero, List.set_cons_succ, i64_w, i32_w]
          rfl
        refine pure_ (i := 2) (N := some 150) (v := ?_) (a' := ?_) #[true, true, true, false, false, false, false, false, false, false, false, false, false, false, false, false, false, false, false] rfl rfl (by kernel_rfl) (fun _ _ _ h => h) (Or.inl ⟨by rfl, ?_⟩) ?_ ?_
        rotate_left
        · intro w'
          go_simp
          with_reducible rfl
        rotate_left
        · simp only [Act.put, List.setIfInBounds_toArray, List.set_cons_zero, List.set_cons_succ, i64_w, i32_w]
          rfl
        refine pure_ (i := 3) (N := some 151) (v := ?_) (a' := ?_) #[true, true, true, true, false, false, false, false, false, false, false, false, false, false, false, false, false, false, false] rfl rfl (by kernel_rfl) (fun _ _ _ h => h) (Or.inl ⟨by rfl, ?_⟩) ?_ ?_
        rotate_left
        · intro w'
          go_simp
          with_reducible rfl
        rotate_left
        · simp only [Act.put, List.setIfInBounds_toArray, List.set_cons_zero, List.set_cons_succ, i64_w, i32_w]
          rfl
        refine pure_ (i := 4) (N := some 152) (v := ?_) (a' := ?_) #[true, true, true, true, true, false, false, false, false, false, false, false, false, false, false, false, false, false, false] rfl rfl (by kernel_rfl) (fun _ _ _ h => h) (Or.inl ⟨by rfl, ?_⟩) ?_ ?_
        rotate_left
        · intro w'
          go_simp
          with_reducible rfl
        rotate_left
        · simp only [Act.put, List.setIfInBounds_toArray, List.set_cons_zero, List.set_cons_succ, i64_w, i32_w]
          rfl
        refine pure_ (i := 5) (N := some 153) (v := ?_) (a' := ?_) #[true, true, true, true, true, true, false, false, false, false, false, false, false, false, false, false, false, false, false] rfl rfl (by kernel_rfl) (fun _ _ _ h => h) (Or.inl ⟨by rfl, ?_⟩) ?_ ?_
        rotate_left
        · intro w'
          go_simp
          with_reducible rfl
        rotate_left
        · simp only [Act.put, List.setIfInBounds_toArray, List.set_cons_zero, List.set_cons_succ, i64_w, i32_w]
          rfl
        refine pure_ (i := 6) (N := some 154) (v := ?_) (a' := ?_) #[true, true, true, true, true, true, true, false, false, false, false, false, false, false, false, false, false, false, false] rfl rfl (by kernel_rfl) (fun _ _ _ h => h) (Or.inl ⟨by rfl, ?_⟩) ?_ ?_
        rotate_left
        · intro w'
          go_simp
          with_reducible rfl
        rotate_left
        · simp only [Act.put, List.setIfInBounds_toArray, List.set_cons_zero, List.set_cons_succ, i64_w, i32_w]
          rfl
        refine pure_ (i := 7) (N := some 155) (v := ?_) (a' := ?_) #[true, true, true, true, true, true, true, true, false, false, false, false, false, false, false, false, false, false, false] rfl rfl (by kernel_rfl) (fun _ _ _ h => h) (Or.inl ⟨by rfl, ?_⟩) ?_ ?_
        rotate_left
        · intro w'
          go_simp
          with_reducible rfl
        rotate_left
        · simp only [Act.put, List.setIfInBounds_toArray, List.set_cons_zero, List.set_cons_succ, i64_w, i32_w]
          rfl
        refine pure_ (i := 8) (N := some 156) (v := ?_) (a' := ?_) #[true, true, true, true, true, true, true, true, true, false, false, false, false, false, false, false, false, false, false] rfl rfl (by kernel_rfl) (fun _ _ _ h => h) (Or.inl ⟨by rfl, ?_⟩) ?_ ?_
        rotate_left
        · intro w'
          go_simp
          with_reducible rfl
        rotate_left
        · simp only [Act.put, List.setIfInBounds_toArray, List.set_cons_zero, List.set_cons_succ, i64_w, i32_w]
          rfl
        refine pure_ (i := 9) (N := some 157) (v := ?_) (a' := ?_) #[true, true, true, true, true, true, true, true, true, true, false, false, false, false, false, false, false, false, false] rfl rfl (by kernel_rfl) (fun _ _ _ h => h) (Or.inl ⟨by rfl, ?_⟩) ?_ ?_
        rotate_left
        · intro w'
          go_simp
          with_reducible rfl
        rotate_left
        · simp only [Act.put, List.setIfInBounds_toArray, List.set_cons_zero, List.set_cons_succ, i64_w, i32_w]
          rfl
        refine pure_ (i := 10) (N := some 158) (v := ?_) (a' := ?_) #[true, true, true, true, true, true, true, true, true, true, true, false, false, false, false, false, false, false, false] rfl rfl (by kernel_rfl) (fun _ _ _ h => h) (Or.inl ⟨by rfl, ?_⟩) ?_ ?_
        rotate_left
        · intro w'
          go_simp
          with_reducible rfl
        rotate_left
        · simp only [Act.put, List.setIfInBounds_toArray, List.set_cons_zero, List.set_cons_succ, i64_w, i32_w]
          rfl
        refine pure_ (i := 12) (N := some 160) (v := ?_) (a' := ?_) #[true, true, true, true, true, true, true, true, true, true, true, false, true, false, false, false, false, false, false] rfl rfl (by kernel_rfl) (fun _ _ _ h => h) (Or.inl ⟨by rfl, ?_⟩) ?_ ?_
        rotate_left
        · intro w'
          go_simp
          with_reducible rfl
        rotate_left
        · simp only [Act.put, List.setIfInBounds_toArray, List.set_cons_zero, List.set_cons_succ, i64_w, i32_w]
          rfl
        refine pure_ (i := 13) (N := some 161) (v := ?_) (a' := ?_) #[true, true, true, true, true, true, true, true, true, true, true, false, true, true, false, false, false, false, false] rfl rfl (by kernel_rfl) (fun _ _ _ h => h) (Or.inl ⟨by rfl, ?_⟩) ?_ ?_
        rotate_left
        · intro w'
          go_simp
          with_reducible rfl
        rotate_left
        · simp only [Act.put, List.setIfInBounds_toArray, List.set_cons_zero, List.set_cons_succ, i64_w, i32_w]
          rfl
        refine pure_ (i := 14) (N := some 162) (v := ?_) (a' := ?_) #[true, true, true, true, true, true, true, true, true, true, true, false, true, true, true, false, false, false, false] rfl rfl (by kernel_rfl) (fun _ _ _ h => h) (Or.inl ⟨by rfl, ?_⟩) ?_ ?_
        rotate_left
        · intro w'
          go_simp
          with_reducible rfl
        rotate_left
        · simp only [Act.put, List.setIfInBounds_toArray, List.set_cons_zero, List.set_cons_succ, i64_w, i32_w]
          rfl
        refine take_ (i := 11) (N := some 159) (v := ?_) (a' := ?_) #[true, true, true, true, true, true, true, true, true, true, true, true, true, true, true, false, false, false, false] rfl rfl (by kernel_rfl) (fun _ _ _ h => h) (Or.inl ⟨by rfl, ?_⟩) hHeld ?_ ?_
        rotate_left
        · rintro w' ⟨s0, s1, s2, s3⟩
          go_simp
          with_reducible rfl
        rotate_left
        · simp only [Act.put, List.setIfInBounds_toArray, List.set_cons_zero, List.set_cons_succ, i64_w, i32_w]
          rfl
        refine take_ (i := 15) (N := some 163) (v := ?_) (a' := ?_) #[true, true, true, true, true, true, true, true, true, true, true, true, true, true, true, true, false, false, false] rfl rfl (by kernel_rfl) (fun _ _ _ h => h) (Or.inl ⟨by rfl, ?_⟩) hHeld ?_ ?_
        rotate_left
        · rintro w' ⟨s0, s1, s2, s3⟩
          go_simp
          with_reducible rfl
        rotate_left
        · simp only [Act.put, List.setIfInBounds_toArray, List.set_cons_zero, List.set_cons_succ, i64_w, i32_w]
          rfl
        refine one_ (i := 16) (N := some 164) #[true, true, true, true, true, true, true, true, true, true, true, true, true, true, true, true, true, false, false] rfl rfl (by kernel_rfl) (by decide) (fun K hK => ?_)
        refine goes_ Try.func18 (by kernel_rfl) rfl #[.agg #[.int .i64 f6.src, .int .i64 f6.dst, .slice A7 f6.nb.length c7], .agg #[.int .i64 p.src, .int .i64 p.dst, .slice A' p.bs.length c']] (by rfl) rfl rfl (by simp only [List.map_toArray, List.map_cons, List.map_nil]; rfl) ?_
        with_reducible refine ((equal_any CD.out HCP.out HXN.out HRP.out)).mono ?_
        rintro e w9 ⟨rfl, hb9⟩
        refine ⟨_, rfl, ?_⟩
        rw [HD.out]
        have B9 := Lib.hid (below_then B8.out.drew B8.out.drew.size hb9)
        refine hK.out _ _ ⟨(blkc (blk_below PD.out hb9)), (hb9.cell (World.block_lt_of_cell? _ _ y0)).trans y0, (hb9.cell (World.block_lt_of_cell? _ _ y1)).trans y1, (hb9.cell (World.block_lt_of_cell? _ _ y2)).trans y2⟩ (fun hHeld => ?_)
        clear hK K
        refine norm_ (a' := ?_) ?_ ?_
        rotate_left
        · show Act.put _ (some 164) _ = _
          simp only [Act.put, List.setIfInBounds_toArray, List.set_cons_zero, List.set_cons_succ, i64_w, i32_w]
          rfl
        refine pure_ (i := 17) (N := some 165) (v := ?_) (a' := ?_) #[true, true, true, true, true, true, true, true, true, true, true, true, true, true, true, true, true, true, false] rfl rfl (by kernel_rfl) (fun _ _ _ h => h) (Or.inl ⟨by rfl, ?_⟩) ?_ ?_
        rotate_left
        · intro w'
          go_simp
          with_reducible rfl
        rotate_left
        · simp only [Act.put, List.setIfInBounds_toArray, List.set_cons_zero, List.set_cons_succ, i64_w, i32_w]
          rfl
        refine pure_ (i := 18) (N := some 6) (v := ?_) (a' := ?_) #[true, true, true, true, true, true, true, true, true, true, true, true, true, true, true, true, true, true, true] rfl rfl (by kernel_rfl) (fun _ _ _ h => h) (Or.inl ⟨by rfl, ?_⟩) ?_ ?_
        rotate_left
        · intro w'
          go_simp
          with_reducible rfl
        rotate_left
        · simp only [Act.put, List.setIfInBounds_toArray, List.set_cons_zero, List.set_cons_succ, i64_w, i32_w]
          rfl
        refine done_ (by kernel_rfl) ?_
        go_wp2_with fail
        go_ret
        exact ⟨by simp, by first | exact B9.out | exact B9.out.drew⟩
      | succ k1 =>
        have hj : j ≤ ps.length := by have := HI.out; omega
        have d1 : decide ((j : Int) ≤ (ps.length : Int)) = true := decide_eq_true (by omega)
        have d2 : decide (j ≤ ps.length) = true := decide_eq_true hj
        have HJ := Lib.hid hj
        clear hj
        go_wp2_with fail
        obtain ⟨fx, hfx⟩ : ∃ fx, fl3[j]? = some fx := by
          rcases Nat.lt_or_ge j ps.length with h | h
          · by_cases hji : j = i
            · exact ⟨f3, by rw [hji]; exact HG.out.1⟩
            · obtain ⟨f', h1, _⟩ := HG.out.2.2 j _ (List.getElem?_eq_getElem h) hji
              exact ⟨f', h1⟩
          · exact ⟨f2, by rw [show j = ps.length by have := HJ.out; omega]; exact HG.out.2.1⟩
        have HFX := Lib.hid hfx
        have HXN := Lib.hid (HH.out.net.fl fx (List.mem_of_getElem? hfx)).rn
        clear hfx
        refine (get_net HH.out.net HFX.out).mono ?_
        rintro e w6 ⟨v6, rfl, ho6, hb6⟩
        obtain ⟨A6, c6, rfl⟩ := own_slice ho6
        obtain ⟨A9, c9, he9, _, hC6⟩ := ho6.reads
        cases he9
        have ba := below_alloc (Below.refl w6.heap.size w6) (.cells #[.int .i64 fx.src, .int .i64 fx.dst, .slice A6 fx.nb.length c6] tPk)
        have H7 := Lib.hid ((HH.out.below hb6).below ba)
        have B7 := Lib.hid (below_then (below_then HB.out HB.out.size hb6) (below_then HB.out HB.out.size hb6).size ba)
        have C7 := Lib.hid (Kd.C_below hC6 ba)
        have P7 := Lib.hid (blk_new w6 (.cells #[.int .i64 fx.src, .int .i64 fx.dst, .slice A6 fx.nb.length c6] tPk))
        clear ho6 hb6 hC6 ba HH HB
        go_upto_region 18 with (fail)
        generalize (World.alloc w6 _) = W7 at *
        generalize w6.heap.size = b7 at *
        obtain ⟨ad9, c9, hsv9, _, y0, y1, y2⟩ := H7.out.some_.at HP.out
        cases hsv9
        rw [HPV.out] at y2
        have ba := below_alloc (Below.refl W7.heap.size W7) (.cells #[.int .i64 p.src, .int .i64 p.dst, .slice A' p.bs.length c'] tPk)
        have H8 := Lib.hid (H7.out.below ba)
        have B8 := Lib.hid (below_then B7.out B7.out.size ba)
        have C8 := Lib.hid (Kd.C_below C7.out ba)
        have P8 := Lib.hid (blk_below P7.out ba)
        have Q8 := Lib.hid (blk_new W7 (.cells #[.int .i64 p.src, .int .i64 p.dst, .slice A' p.bs.length c'] tPk))
        have h78 : b7 ≠ W7.heap.size := by have := blk_lt P7.out; omega
        have HB78 := Lib.hid h78
        have HB8 := Lib.hid B7.out.size
        have p0 := eq_true (show 0 ≤ (i : Int) by omega)
        have p1 := eq_true HIL.out
        have BA8 := Lib.hid ba
        clear ba
        go_upto_region 19 with (fail)
        clear y0 y1 y2 p0 p1
        generalize (World.alloc W7 _) = W8 at *
        generalize hb8 : W7.heap.size = b8 at *
        have HW7 := Lib.hid hb8
        clear hb8
        have HW3 := Lib.hid (show wrap64 ((j : Int) + 1) = ((j + 1 : Nat) : Int) by have := HFL.out.2; have := HJ.out; unfold wrap64; omega)
        have HQ8 := HB8
        rcases Nat.lt_or_ge j ps.length with hlt | hge
        · have e1 : decide (j < ps.length) = true := decide_eq_true hlt
          have e2 : decide ((j : Int) < (ps.length : Int)) = true := decide_eq_true (by omega)
          obtain ⟨px, hpx⟩ : ∃ px, ps[j]? = some px := ⟨_, List.getElem?_eq_getElem hlt⟩
          obtain ⟨ad9, c9, hsv9, _, y0, y1, y2⟩ := H8.out.some_.at hpx
          cases hsv9
          obtain ⟨Ax, cx, hpvx, _, hCx, hAx⟩ := (H8.out.pv px (List.mem_of_getElem? hpx)).rd
          rw [hpvx] at y2
          have HRX := Lib.hid (H8.out.pv px (List.mem_of_getElem? hpx)).rng
          have HPX := Lib.hid hpx
          have p0 := eq_true (show 0 ≤ (j : Int) by omega)
          have p1 := eq_true hlt
          have cq := blkc Q8.out
          have zq := blkz Q8.out
          clear hpx hCx hAx
          go_upto_region 21 with (fail)
          clear y0 y1 y2 p0 p1 cq zq
          have BA9 := Lib.hid (set3 (w := W7) (W := W8) (b := b8) (by rw [HW7.out]; exact BA8.out) (by rw [HW7.out]; omega) (.int .i64 px.src) (.int .i64 px.dst) (.slice Ax px.bs.length cx))
          have Q9 := Lib.hid (zero3' Q8.out (.int .i64 px.src) (.int .i64 px.dst) (.slice Ax px.bs.length cx))
          generalize (World.setCell (World.setCell (World.setCell W8 _ _) _ _) _ _) = W9 at *
          have H9 := Lib.hid (H7.out.below BA9.out)
          have B9 := Lib.hid (below_then B7.out B7.out.size BA9.out)
          have C9 := Lib.hid (Kd.C_below C7.out BA9.out)
          have P9 := Lib.hid (blk_below P7.out BA9.out)
          obtain ⟨Ap, cp', hpv2, _, hCp, _⟩ := (H9.out.pv px (List.mem_of_getElem? HPX.out)).rd
          rw [hpvx] at hpv2
          cases hpv2
          have HCP := Lib.hid hCp
          clear hCp hpvx H8 B8 C8 P8 Q8 BA8 BA9
          have HDJ := Lib.hid (show decide ((fx.src, fx.dst, fx.nb) = (px.src, px.dst, px.bs)) = !((j : Int) == (i : Int)) by
            by_cases hji : j = i
            · have h1 : fx = f3 := by have h1 := HFX.out; rw [hji, HG.out.1] at h1; exact (Option.some.inj h1).symm
              have h2 : px = p := by have h2 := HPX.out; rw [hji, HP.out] at h2; exact (Option.some.inj h2).symm
              have h3 : ((j : Int) == (i : Int)) = true := by rw [beq_iff_eq]; omega
              rw [h3, h1, h2, HF3.out.1, HF3.out.2.1, HF3.out.2.2.2]
              simp [turnB_ne HX.out]
            · obtain ⟨f', a1, a2, a3, a4⟩ := HG.out.2.2 j px HPX.out hji
              have h1 : fx = f' := by have h1 := HFX.out; rw [a1] at h1; exact (Option.some.inj h1).symm
              have h3 : ((j : Int) == (i : Int)) = false := by rw [beq_eq_false_iff_ne]; omega
              rw [h3, h1, a2, a3, a4]
              simp)
          clear hlt
          have c7 := blkc P9.out
          have c8 := blkc Q9.out
          go_wp2_with fail
          refine (equal_any C9.out HCP.out HXN.out HRX.out).mono ?_
          rintro e w9 ⟨rfl, hb9⟩
          rw [HDJ.out]
          have H10 := Lib.hid (H9.out.below hb9)
          have B10 := Lib.hid (below_then B9.out B9.out.size hb9)
          clear hb9 c7 c8
          generalize hbb : ((j : Int) == (i : Int)) = bb at *
          have hbn : ((!bb) == bb) = false := by cases bb <;> rfl
          go_wp2_with fail
          go_roundg k1
          case measure => exact Nat.lt_succ_self _
          case rel => exact ⟨j + 1, by first | rfl | rw [HW3.out] | exact congrArg (Value.int .i64) HW3.out, Lib.hid (by have := HI.out; omega), H10, B10⟩
        · have e1 : decide (j < ps.length) = false := decide_eq_false (by omega)
          have e2 : decide ((j : Int) < (ps.length : Int)) = false := decide_eq_false (by omega)
          have hjn : j = ps.length := by have := HJ.out; omega
          have hfx2 : fx = f2 := by have h1 := HFX.out; rw [hjn, HG.out.2.1] at h1; exact (Option.some.inj h1).symm
          have hdec : decide ((fx.src, fx.dst, fx.nb) = (p.src, p.dst, p.bs)) = true := by rw [hfx2, HF2.out.1, HF2.out.2.1, HF2.out.2.2.2]; simp
          have hji : ((j : Int) == (i : Int)) = false := by rw [beq_eq_false_iff_ne]; have := HIL.out; omega
          obtain ⟨Ap, cp', hpv2, _, hCp, _⟩ := (H8.out.pv p (List.mem_of_getElem? HP.out)).rd
          rw [HPV.out] at hpv2
          cases hpv2
          have HCP := Lib.hid hCp
          have HRP := Lib.hid (H8.out.pv p (List.mem_of_getElem? HP.out)).rng
          have HD := Lib.hid hdec
          have HJI := Lib.hid hji
          clear hdec hjn hfx2 hCp hge hji
          have c7 := blkc P8.out
          have c8 := blkc Q8.out
          go_wp2_with fail
          refine (equal_any C8.out HCP.out HXN.out HRP.out).mono ?_
          rintro e w9 ⟨rfl, hb9⟩
          rw [HD.out]
          have H9 := Lib.hid (H8.out.below hb9)
          have B9 := Lib.hid (below_then B8.out B8.out.size hb9)
          have hji := HJI.out
          clear hb9 c7 c8
          go_wp2_with fail
          go_roundg k1
          case measure => exact Nat.lt_succ_self _
          case rel => exact ⟨j + 1, by first | rfl | rw [HW3.out] | exact congrArg (Value.int .i64) HW3.out, Lib.hid (by have := HI.out; omega), H9, B9⟩
end Go.Proofs.Ytpjbgcpieijeaaa.Net
namespace Go.Proofs.Ytpjbgcpieijeaaa.Walk
open Go.RowKit Go.Proofs.Ytpjbgcpieijeaaa.Opn Go.Proofs.YtpjbgcpieijeaaaW.PrintWords
theorem pk_range {x : PkT} (h : pPk x) (hm : mPk x ≤ 1048576) : (∀ z ∈ x.2.2, 0 ≤ z ∧ z < 256) ∧ x.2.2.length ≤ 140737488351232 := by
  refine ⟨fun z hz => u8ok_range (h.2.2.2 z hz), ?_⟩
  have h1 : sumOf (fun _ : Int => 1) x.2.2 = x.2.2.length := by
    generalize x.2.2 = l
    induction l with
    | nil => rfl
    | cons a l ih => simp [sumOf, ih]; omega
  simp only [mPk, mBs, h1] at hm
  omega
theorem nat_of_u64 {n : Int} (h : (Lit.int .u64 n).wf = true) : ∃ k : Nat, n = (k : Int) ∧ k < 18446744073709551616 := by
  simp [Lit.wf] at h
  have h4 : IntKind.u64.min = 0 := by decide
  have h5 : IntKind.u64.max = 18446744073709551615 := by decide
  exact ⟨n.toNat, by omega, by omega⟩
theorem mPk_mem {x : PkT} : ∀ {l : List PkT}, x ∈ l → mPk x ≤ sumOf mPk l
  | y :: l, h => by
    rcases List.mem_cons.1 h with rfl | h
    · simp [sumOf]
    · have := mPk_mem h
      simp [sumOf]
      omega
theorem mPk_len : ∀ (l : List PkT), l.length ≤ sumOf mPk l
  | [] => by simp
  | x :: l => by
    have := mPk_len l
    simp only [List.length_cons, sumOf, mPk]
    omega
theorem NetTurns (l : List PkT) (A : Option Addr) (c : Nat) (a b : Int) (W : World) (hc : l.length ≤ c) (h : kPk.C W A l.length l) (hl : l.length ≤ 9223372036854775807) (hp : ∀ x ∈ l, pPk x) (ha : (Lit.int .u64 a).wf = true) (hb : (Lit.int .u64 b).wf = true) (hm : sumOf mPk l + 1 ≤ 1048576) :
    Calls Try.prog 4 #[.slice A l.length c, .int .u64 a, .int .u64 b] W fun e W' => e = .returned (.bool true) ∧ Below W.heap.size W W' := by
  obtain ⟨a, rfl, h1⟩ := nat_of_u64 ha
  obtain ⟨b, rfl, h2⟩ := nat_of_u64 hb
  exact Net.turns_any h hc (fun x hx => pk_range (hp x hx) (by have := mPk_mem hx; omega)) (by have := mPk_len l; omega) a b h1 h2
end Go.Proofs.Ytpjbgcpieijeaaa.Walk
