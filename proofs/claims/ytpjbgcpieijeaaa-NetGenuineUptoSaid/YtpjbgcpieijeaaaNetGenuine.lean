/- NetGenuine, walked. -/
import Derived.Test.YtpjbgcpieijeaaaNetGen
import Derived.Test.YtpjbgcpieijeaaaNetTurns
import Derived.Deep.CutRange
set_option linter.unusedVariables false
set_option linter.unusedSimpArgs false
namespace Go.Proofs.Ytpjbgcpieijeaaa.Net
open Go.RowKit Go.Proofs.Ytpjbgcpieijeaaa.Mem Go.Proofs.YtpjbgcpieijeaaaW.PrintWords Go.Proofs.YtpjbgcpieijeaaaW.PrintLast Go.Proofs.Ytpjbgcpieijeaaa.Byt Go.Proofs.Ytpjbgcpieijeaaa.Opn Go.Deep
abbrev tSt2 : TypeId := 59
/-- The cells of a step of a script that is read. -/
theorem at_St {w : World} {A : Option Addr} {n : Nat} {l : List StT} (h : kSt.C w A n l) {i : Nat} {x : StT} (hi : l[i]? = some x) : ∃ ad A' c', A = some ad ∧ w.cell? (ad.add (i * 6)) = some (.int .i64 x.1) ∧ w.cell? ⟨(ad.add (i * 6)).block, (ad.add (i * 6)).off + 1, none⟩ = some (.int .i64 x.2.1.1) ∧ w.cell? ⟨(ad.add (i * 6)).block, (ad.add (i * 6)).off + 2, none⟩ = some (.int .i64 x.2.1.2.1) ∧ w.cell? ⟨(ad.add (i * 6)).block, (ad.add (i * 6)).off + 3, none⟩ = some (.slice A' x.2.1.2.2.length c') ∧
    w.cell? ⟨(ad.add (i * 6)).block, (ad.add (i * 6)).off + 4, none⟩ = some (.int .i64 x.2.2.1) ∧ w.cell? ⟨(ad.add (i * 6)).block, (ad.add (i * 6)).off + 5, none⟩ = some (.int .i64 x.2.2.2) ∧ x.2.1.2.2.length ≤ c' ∧ kB.C w A' x.2.1.2.2.length x.2.1.2.2 := by
  have hil := (List.getElem?_eq_some_iff.1 hi).1
  obtain ⟨ad, rfl, hc⟩ := h.2.2 (by have := h.1; omega)
  obtain ⟨cs, _, hK, hcell⟩ := hc i x hi
  obtain ⟨A', c', rfl, h1, h2⟩ := kSt_cells hK
  have hs : kSt.sz = 6 := rfl
  rw [hs] at hcell
  refine ⟨ad, A', c', rfl, hcell 0 _ rfl, ?_, ?_, ?_, ?_, ?_, h1, h2⟩
  · rw [← add_field _ _ 1 (by omega)]; exact hcell 1 _ rfl
  · rw [← add_field _ _ 2 (by omega)]; exact hcell 2 _ rfl
  · rw [← add_field _ _ 3 (by omega)]; exact hcell 3 _ rfl
  · rw [← add_field _ _ 4 (by omega)]; exact hcell 4 _ rfl
  · rw [← add_field _ _ 5 (by omega)]; exact hcell 5 _ rfl
theorem Does.out {f : FuncId} {args : Array Value} {w0 : World} {g m : Nat} {sv : Value} {ps : List Pv} {sent : List LtT} {qs : List PkT} {n : Nat} {w : World} (h : Does f args w0 g m sv ps sent qs n w) : Calls Try.prog f args w fun e w' => (∃ r : Int, e = .returned (.int .i64 r)) ∧ GenP w0 g m sv ps sent qs n w' := h
theorem FillR.gen {w : World} {g m : Nat} {O : Nat → Prop} {v sv : Value} {fls : List Fl} {ps : List Pv} {qs : List PkT} {w1 : World} (h : FillR w1 w.heap.size O g m v fls sv ps qs) (hb : Below w.heap.size w w1) {n : Nat} (hn : qs.length ≤ n) : GenP w g m sv ps (qs.map letOf) qs n w1 := by
  refine ⟨O, v, fls, h.hold, fun f hf => ?_, by have := congrArg List.length h.ff; simp only [List.length_map] at this; omega, hb⟩
  have h1 : f.plain ∈ qs.map (fun q => (q.1, q.2.1, q.2.2, q.2.2)) := by rw [← h.ff]; exact List.mem_map.2 ⟨f, hf, rfl⟩
  obtain ⟨q, hq, he⟩ := List.mem_map.1 h1
  simp only [Fl.plain, Prod.mk.injEq] at he
  rw [← he.1, ← he.2.1, ← he.2.2.1]
  exact hq
theorem pops_zero : ∀ n, n < 256 → pops 8 n = 0 → n = 0 := by decide +kernel
theorem flipsN_zero : ∀ {xs ys : List Int}, xs.length = ys.length → (∀ z ∈ xs, 0 ≤ z ∧ z < 256) → (∀ z ∈ ys, 0 ≤ z ∧ z < 256) → flipsN xs ys = 0 → xs = ys
  | [], [], _, _, _, _ => rfl
  | x :: xs, y :: ys, h, hx, hy, h0 => by
    rw [flipsN] at h0
    have h1 := hx x (by simp)
    have h2 := hy y (by simp)
    have hb : x.toNat ^^^ y.toNat < 2 ^ 8 := Nat.xor_lt_two_pow (by omega) (by omega)
    have h3 := pops_zero _ hb (by omega)
    have h4 : x.toNat = y.toNat := by
      have h5 : (x.toNat ^^^ y.toNat) ^^^ y.toNat = y.toNat := by rw [h3, Nat.zero_xor]
      rw [Nat.xor_assoc, Nat.xor_self, Nat.xor_zero] at h5
      exact h5
    have h6 : xs = ys := flipsN_zero (by simpa using h) (fun z hz => hx z (by simp [hz])) (fun z hz => hy z (by simp [hz])) (by omega)
    rw [h6, show x = y by omega]
/-- Was it sent? By the list of what may be sent. -/
theorem sent_is {w w0 : World} {g m : Nat} {O : Nat → Prop} {v sv : Value} {fls : List Fl} {ps : List Pv} {qs : List PkT} (h : HoldR w w0.heap.size O g m v fls sv ps (qs.map letOf)) {x y : Int} {A : Option Addr} {c : Nat} {bs : List Int} (hC : kB.C w A bs.length bs) (hxy : addrB 4 4 x = true ∧ addrB 4 4 y = true) (hr : ∀ z ∈ bs, 0 ≤ z ∧ z < 256) (hl : bs.length ≤ 140737488351232) (hq : ∀ q ∈ qs, ∀ z ∈ q.2.2, 0 ≤ z ∧ z < 256) {r : Bool} (hm : decide ((x, y, bs) ∈ qs) = r) :
    Calls Try.prog 21 #[.pointer (some ⟨g, 0, none⟩), .agg #[.int .i64 x, .int .i64 y, .slice A bs.length c]] w fun e w' => e = .returned (.bool r) ∧ Below w.heap.size w w' := by
  refine (sent_net h.net (lt_ok (bs := bs) h.net.nn h.net.nc hxy.1 hxy.2 hl) hC).mono ?_
  rintro e w1 ⟨r', rfl, hr', hb⟩
  refine ⟨?_, hb⟩
  have key : (x, y, strOfNums bs) ∈ qs.map letOf ↔ (x, y, bs) ∈ qs := by
    constructor
    · intro h1
      obtain ⟨⟨x', y', bs'⟩, h2, h3⟩ := List.mem_map.1 h1
      simp only [letOf, Prod.mk.injEq] at h3
      obtain ⟨rfl, rfl, h4⟩ := h3
      rw [← strOfNums_inj (hq _ h2) hr h4]
      exact h2
    · intro h1
      exact List.mem_map.2 ⟨_, h1, rfl⟩
  rw [key] at hr'
  subst hm
  congr 2
  rw [Bool.eq_iff_iff, hr', decide_eq_true_eq]
theorem pick_facts {n : Nat} {I : Int} (h0 : 0 < n) (h1 : n ≤ 4194304) : ∃ u : Nat, IntKind.u64.wrap I = (u : Int) ∧ u % n < n ∧ ((n : Int) == 0) = false ∧ ¬ (n : Int) = 0 ∧ IntKind.u64.wrap (n : Int) = (n : Int) ∧ Int.tmod (u : Int) (n : Int) = ((u % n : Nat) : Int) ∧ wrap64 ((u % n : Nat) : Int) = ((u % n : Nat) : Int) ∧ IntKind.u64.wrap ((u % n : Nat) : Int) = ((u % n : Nat) : Int) ∧ ¬ n = 0 := by
  have h2 : (I % 18446744073709551616).toNat % n < n := Nat.mod_lt _ h0
  refine ⟨(I % 18446744073709551616).toNat, by rw [wrap_u64']; omega, h2, by rw [beq_eq_false_iff_ne]; omega, by omega, u64_nat (by omega), rfl, w64_nat (by omega), u64_nat (by omega), by omega⟩
set_option maxHeartbeats 12800000 in
set_option maxRecDepth 100000 in
theorem genuine_any {w : World} {A B : Option Addr} {c d : Nat} {l : List PkT} {s : List StT} (hC : kPk.C w A l.length l) (hc : l.length ≤ c) (hp : ∀ x ∈ l, (∀ z ∈ x.2.2, 0 ≤ z ∧ z < 256) ∧ x.2.2.length ≤ 140737488351232) (hl : l.length ≤ 1048576) (hS : kSt.C w B s.length s) (hsl : s.length ≤ 1048576) (hsp : ∀ x ∈ s, x.2.2.2 ≤ 9223372036854775807) :
    Calls Try.prog 8 #[.slice A l.length c, .slice B s.length d] w fun e w' => e = .returned (.bool true) ∧ Below w.heap.size w w' := by
  have HFA := Lib.hid (filled_any hC hc hp hl)
  have HL := Lib.hid hl
  have HS := Lib.hid hS
  have HSL := Lib.hid hsl
  have HSP := Lib.hid hsp
  have HQR0 := Lib.hid hp
  clear hC hc hp hl hS hsl hsp
  go_enter Try.func8, Try.ntmps8
  go_wp2_with fail
  refine HFA.out.mono ?_
  rintro e w1 ⟨g, m, v, fls, sv, ps, O, rfl, hF, hb⟩
  obtain ⟨hn0, hn1⟩ := fill_pos hF
  obtain ⟨qs, hqs⟩ : ∃ qs, (ownP :: l).filter okP = qs := ⟨_, rfl⟩
  rw [hqs] at hF
  have hpp := hF.pp
  have hpl : ps.length = qs.length := by have := congrArg List.length hpp; simpa using this
  have HQ := Lib.hid (show ∀ q ∈ qs, okP q = true ∧ (∀ z ∈ q.2.2, 0 ≤ z ∧ z < 256) by
    intro q hq
    rw [← hqs] at hq
    obtain ⟨h1, h2⟩ := List.mem_filter.1 hq
    refine ⟨h2, ?_⟩
    rcases List.mem_cons.1 h1 with rfl | h1
    · decide
    · exact (HQR0.out q h1).1)
  have G0 := Lib.hid (hF.gen hb (n := l.length + 1) (by omega))
  have HPP := Lib.hid hpp
  have HPL := Lib.hid (show ps.length ≤ 1048577 by have := HL.out; omega)
  clear hn0 hn1 hF hb hqs hpp hpl HFA HQR0
  go_wp2_with fail
  go_loopg [7] s.length (fun kq v7 w' => ∃ (i : Nat), v7 = .int .i64 (i : Int) ∧ Hid (i + kq = s.length) ∧ Hid (GenP w g m sv ps (qs.map letOf) qs (l.length + 1 + i) w'))
  case atStart => exact ⟨0, rfl, (show _ + _ = _ by omega), G0.out⟩
  case round =>
    obtain ⟨i, rfl, HI, HG⟩ := hrel
    cases gk with
    | zero =>
      have hi : i = s.length := HI.out
      have d1 : decide (i < s.length) = false := decide_eq_false (by omega)
      obtain ⟨O, v, fls, h1, h2, h3, h4⟩ := HG.out
      have HH := Lib.hid h1
      have HGI := Lib.hid h2
      have HB := Lib.hid h4
      have HFL := Lib.hid (show fls.length ≤ 4194304 by have := HL.out; have := HSL.out; omega)
      clear hi HI HG h1 h2 h3 h4
      go_wp2_with fail
      go_loopg [] fls.length (fun kq w' => ∃ O v fl, Hid (HoldR w' w.heap.size O g m v fl sv ps (qs.map letOf)) ∧ Hid (GenI qs fl) ∧ Hid (fl.length = kq) ∧ Hid (kq ≤ 4194304) ∧ Hid (Below w.heap.size w w'))
      case atStart => exact ⟨O, v, fls, HH, HGI, Lib.hid rfl, HFL, HB⟩
      case round =>
        clear HH HGI HB
        obtain ⟨O, v, fl, HH, HGI, HLN, HLE, HB⟩ := hrel
        cases gk with
        | zero =>
          have hz : fl.length = 0 := HLN.out
          go_wp2_with fail
          refine (len_net HH.out.net).mono ?_
          rintro e w2 ⟨rfl, rfl⟩
          rw [hz]
          clear hz
          obtain ⟨As, cs, rfl⟩ := own_slice HH.out.some_
          go_wp2_with fail
          generalize wr = wq at *
          have HQP := Lib.hid (show ∀ p ∈ ps, okP p.plain = true ∧ p.plain ∈ qs from fun p hp => by
            have h1 : p.plain ∈ qs := by rw [← HPP.out]; exact List.mem_map.2 ⟨p, hp, rfl⟩
            exact ⟨(HQ.out _ h1).1, h1⟩)
          have B0 := Lib.hid (Below.refl wq.heap.size wq)
          go_loopg [14] ps.length (fun kq v14 w' => ∃ (j : Nat), v14 = .int .i64 (j : Int) ∧ Hid (j + kq = ps.length) ∧ Hid (Below wq.heap.size wq w'))
          case atStart => exact ⟨0, rfl, (show _ + _ = _ by omega), B0.out⟩
          case round =>
            obtain ⟨j, rfl, HJ, HBJ⟩ := hrel
            cases gk with
            | zero =>
              have hj : j = ps.length := HJ.out
              have d1 : decide (j < ps.length) = false := decide_eq_false (by omega)
              have BF := Lib.hid (below_then HB.out HB.out.size HBJ.out)
              clear hj
              go_wp2_with fail
              go_ret
              exact ⟨rfl, BF.out⟩
            | succ k1 =>
              have hj : j < ps.length := by have := HJ.out; omega
              have d1 : decide (j < ps.length) = true := decide_eq_true hj
              obtain ⟨p, hp⟩ : ∃ p, ps[j]? = some p := ⟨_, List.getElem?_eq_getElem hj⟩
              have HJ2 := Lib.hid (HH.out.below HBJ.out)
              have hpm := List.mem_of_getElem? hp
              obtain ⟨ad, c9, hsv, _, y0, y1, y2⟩ := SomeR.at HJ2.out.some_ hp
              cases hsv
              obtain ⟨A', c', hpv, _, hC', _⟩ := (HJ2.out.pv p hpm).rd
              rw [hpv] at y2
              have HC' := Lib.hid hC'
              have HPR := Lib.hid (HJ2.out.pv p hpm)
              have HOK := Lib.hid (HQP.out p hpm)
              have HW3 := Lib.hid (show wrap64 ((j : Int) + 1) = ((j + 1 : Nat) : Int) by have := HPL.out; unfold wrap64; omega)
              have HK1 := Lib.hid (show j + 1 + k1 = ps.length by have := HJ.out; omega)
              have p0 := eq_true (show 0 ≤ (j : Int) by omega)
              have p1 := eq_true hj
              clear hp hpm hpv hC' hj HJ
              go_wp2_with fail
              refine (sent_is HJ2.out HC'.out (by have h1 := HOK.out.1; rw [okP, Bool.and_eq_true] at h1; exact h1) HPR.out.rng HPR.out.len (fun q hq => (HQ.out q hq).2) (r := true) (decide_eq_true HOK.out.2)).mono ?_
              rintro e w9 ⟨rfl, hb9⟩
              have B9 := Lib.hid (below_then HBJ.out HBJ.out.size hb9)
              clear y0 y1 y2 p0 p1 d1
              go_wp2_with fail
              go_roundg k1
              case measure => exact Nat.lt_succ_self _
              case rel => exact ⟨j + 1, by first | rfl | rw [HW3.out] | exact congrArg (Value.int .i64) HW3.out, HK1, B9⟩
        | succ k1 =>
          have hz : fl.length = k1 + 1 := HLN.out
          obtain ⟨f, hf⟩ : ∃ f, fl[0]? = some f := ⟨_, List.getElem?_eq_getElem (by omega)⟩
          have HF := Lib.hid hf
          have HZ := Lib.hid (show (fl.length : Int) = (k1 : Int) + 1 by omega)
          have HZ2 := Lib.hid (show ((fl.eraseIdx 0).length : Int) = (k1 : Int) by rw [List.length_eraseIdx_of_lt (by omega)]; omega)
          have HFM := Lib.hid (HH.out.net.fl f (List.mem_of_getElem? hf))
          have HGF := Lib.hid (HGI.out f (List.mem_of_getElem? hf))
          have e1 : decide ((0 : Int) < (k1 : Int) + 1) = true := decide_eq_true (by omega)
          clear hz hf
          go_wp2_with fail
          refine (len_net HH.out.net).mono ?_
          rintro e w2 ⟨rfl, rfl⟩
          rw [HZ.out]
          go_wp2_with fail
          refine (flips_net HH.out.net (i := 0) HF.out).mono ?_
          rintro e w2 ⟨rfl, hb2⟩
          obtain ⟨kf, hkf⟩ : ∃ kf, flipsN f.nb f.sb = kf := ⟨_, rfl⟩
          rw [hkf]
          have HKF := Lib.hid hkf
          have H2 := Lib.hid (HH.out.below hb2)
          have B2 := Lib.hid (below_then HB.out HB.out.size hb2)
          clear hkf hb2 e1
          go_wp2_with fail
          refine (len_net H2.out.net).mono ?_
          rintro e w3 ⟨rfl, rfl⟩
          rw [HZ.out]
          go_wp2_with fail
          refine (take_net (w0 := w) H2.out.net (i := 0) HF.out (by have := HLE.out; have := HLN.out; omega) B2.out rfl).mono ?_
          rintro e w3 ⟨v5, rfl, ho5, ⟨v', hN3⟩, hk3, hb3⟩
          obtain ⟨O3, h3⟩ : ∃ O3, HoldR w3 w.heap.size O3 g m v' (fl.eraseIdx 0) sv ps (qs.map letOf) := ⟨_, H2.out.next hN3 (fun k hk => hk.elim .inl (fun h => .inr h.1)) hk3⟩
          obtain ⟨A5, c5, rfl⟩ := own_slice ho5
          obtain ⟨A9, c9, he9, _, hC5⟩ := ho5.reads
          cases he9
          have ba := below_alloc (Below.refl w3.heap.size w3) (.cells #[.int .i64 f.src, .int .i64 f.dst, .slice A5 f.nb.length c5] tPk)
          have P3 := Lib.hid (blk_new w3 (.cells #[.int .i64 f.src, .int .i64 f.dst, .slice A5 f.nb.length c5] tPk))
          have H3 := Lib.hid (h3.below ba)
          have C3 := Lib.hid (Kd.C_below hC5 ba)
          have B3 := Lib.hid (below_then hb3 hb3.size ba)
          clear ho5 hN3 hk3 hb3 h3 hC5 ba H2 B2
          go_upto_region 25 with (fail)
          generalize (World.alloc w3 _) = W3 at *
          generalize w3.heap.size = b3 at *
          have hw1 : wrap64 ((k1 : Int) + 1 - 1) = (k1 : Int) := by have := HLE.out; unfold wrap64; omega
          have hw1b : (k1 : Int) + 1 - 1 = (k1 : Int) := by omega
          have hw1c : wrap64 (k1 : Int) = (k1 : Int) := by have := HLE.out; unfold wrap64; omega
          go_wp2_with fail
          refine (len_net H3.out.net).mono ?_
          rintro e w4 ⟨rfl, rfl⟩
          rw [HZ2.out]
          go_upto_region 27 with (fail)
          have HGI3 := Lib.hid (show GenI qs (fl.eraseIdx 0) from fun f' hf' => HGI.out f' (List.mem_of_mem_eraseIdx hf'))
          have HLN3 := Lib.hid (show (fl.eraseIdx 0).length = k1 by have := HZ2.out; omega)
          have HLE3 := Lib.hid (show k1 ≤ 4194304 by have := HLE.out; omega)
          have HAD := Lib.hid (show addrB 4 4 f.src = true ∧ addrB 4 4 f.dst = true by have h1 := (HQ.out _ HGF.out).1; simpa [okP] using h1)
          have HQR := Lib.hid (show ∀ q ∈ qs, ∀ z ∈ q.2.2, 0 ≤ z ∧ z < 256 from fun q hq => (HQ.out q hq).2)
          have HK8 := Lib.hid (show kf ≤ 8 * f.nb.length by rw [← HKF.out]; exact flipsN_le _ _)
          have hlb := HFM.out.lb
          have d8 : wrap64 (8 * (f.nb.length : Int)) = 8 * (f.nb.length : Int) := by unfold wrap64; omega
          have d9 : decide (8 * (f.nb.length : Int) < (kf : Int)) = false := decide_eq_false (by have := HK8.out; omega)
          clear hw1 hw1b hw1c hlb
          have cb := blkc P3.out
          generalize fl.eraseIdx 0 = fl3 at *
          have HKR := Lib.hid (show kf = 0 → (f.src, f.dst, f.nb) ∈ qs from fun h => by
            have h1 : f.nb = f.sb := flipsN_zero HFM.out.len.symm HFM.out.rn HFM.out.rs (by rw [HKF.out, h])
            rw [h1]
            exact HGF.out)
          obtain ⟨r, hr⟩ : ∃ r, decide ((f.src, f.dst, f.nb) ∈ qs) = r := ⟨_, rfl⟩
          have HM := Lib.hid hr
          clear hr
          go_cut [123] from 80 to 140 (fun v wc => v = .bool false ∧ Hid (Below W3.heap.size W3 wc))
          case first =>
            by_cases hk0 : kf = 0
            · have hr : r = true := by rw [← HM.out, decide_eq_true_eq]; exact HKR.out hk0
              subst hr
              have e0 : ((kf : Int) == 0) = true := by rw [beq_iff_eq]; omega
              clear hk0
              go_wp2_with fail
              refine (among_any H3.out.some_ H3.out.pv (by have := HPL.out; omega) C3.out HFM.out.rn).mono ?_
              rintro e w4 ⟨rfl, hb4⟩
              rw [HPP.out, HM.out]
              have P4 := Lib.hid (blk_below P3.out hb4)
              have H4 := Lib.hid hb4
              clear cb hb4
              have cb := blkc P4.out
              go_wp2_with fail
              go_meet
              case rel => exact ⟨rfl, H4⟩
            · have d0 : ((kf : Int) == 0) = false := by rw [beq_eq_false_iff_ne]; omega
              clear hk0
              go_wp2_with fail
              go_meet
              case rel => exact ⟨rfl, Lib.hid (Below.refl _ _)⟩
          case rest =>
            obtain ⟨rfl, HBC⟩ := hcut
            clear cb
            have P4 := Lib.hid (blk_below P3.out HBC.out)
            have H4 := Lib.hid (H3.out.below HBC.out)
            have C4 := Lib.hid (Kd.C_below C3.out HBC.out)
            have B4 := Lib.hid (below_then B3.out B3.out.size HBC.out)
            have HSE := Lib.hid (fun (w' : World) (hb : Below wc.heap.size wc w') => sent_is (c := c5) (H4.out.below hb) (Kd.C_below C4.out hb) HAD.out HFM.out.rn HFM.out.lb HQR.out HM.out)
            have HAM := Lib.hid (fun (w' : World) (hb : Below wc.heap.size wc w') => show Calls Try.prog 30 _ w' fun e w2 => e = .returned (.bool r) ∧ Below w'.heap.size w' w2 by
              have h := among_any (H4.out.below hb).some_ (H4.out.below hb).pv (by have := HPL.out; omega) (Kd.C_below C4.out hb) HFM.out.rn (x := f.src) (y := f.dst) (c := c5)
              rw [HPP.out, HM.out] at h
              exact h)
            have HBE := Lib.hid (fun (w' : World) (hb : Below wc.heap.size wc w') => show ∃ O v fl, Hid (HoldR w' w.heap.size O g m v fl sv ps (qs.map letOf)) ∧ Hid (GenI qs fl) ∧ Hid (fl.length = k1) ∧ Hid (k1 ≤ 4194304) ∧ Hid (Below w.heap.size w w') from ⟨_, _, _, Lib.hid (H4.out.below hb), HGI3, HLN3, HLE3, Lib.hid (below_then B4.out B4.out.size hb)⟩)
            have PB := Lib.hid (fun (w' : World) (hb : Below wc.heap.size wc w') => blkc (blk_below P4.out hb))
            go_upto_region 29 with (fail)
            have BW1 := Lib.hid (below_drew (Below.refl wc.heap.size wc))
            cases r with
            | true =>
              refine start_ (n := 17) (S := fun w' => (∀ o, w'.cell? ⟨b3, o, none⟩ = #[Value.int .i64 f.src, .int .i64 f.dst, .slice A5 f.nb.length c5][o]?)) (ds := []) #[false, false, false, false, false, false, false, false, false, false, false, false, false, false, false, false, false] (by kernel_rfl) rfl rfl ((PB.out _ BW1.out)) (fun hHeld => ?_)
              refine pure_ (i := 0) (N := some 124) (v := ?_) (a' := ?_) #[true, false, false, false, false, false, false, false, false, false, false, false, false, false, false, false, false] rfl rfl (by kernel_rfl) (fun _ _ _ h => h) (Or.inl ⟨by rfl, ?_⟩) ?_ ?_
              rotate_left
              · intro w'
                go_simp
                with_reducible rfl
              rotate_left
              · simp only [Act.put, List.setIfInBounds_toArray, List.set_cons_zero, List.set_cons_succ, i64_w, i32_w]
                rfl
              refine take_ (i := 1) (N := some 125) (v := ?_) (a' := ?_) #[true, true, false, false, false, false, false, false, false, false, false, false, false, false, false, false, false] rfl rfl (by kernel_rfl) (fun _ _ _ h => h) (Or.inl ⟨by rfl, ?_⟩) hHeld ?_ ?_
              rotate_left
              · intro w' s0
                go_simp
                with_reducible rfl
              rotate_left
              · simp only [Act.put, List.setIfInBounds_toArray, List.set_cons_zero, List.set_cons_succ, i64_w, i32_w]
                rfl
              refine one_ (i := 2) (N := some 126) #[true, true, true, false, false, false, false, false, false, false, false, false, false, false, false, false, false] rfl rfl (by kernel_rfl) (by decide) (fun K hK => ?_)
              refine goes_ Try.func21 (by kernel_rfl) rfl #[.pointer (some ⟨g, 0, none⟩), .agg #[.int .i64 f.src, .int .i64 f.dst, .slice A5 f.nb.length c5]] (by rfl) rfl rfl (by simp only [List.map_toArray, List.map_cons, List.map_nil]; rfl) ?_
              with_reducible refine ((HSE.out _ BW1.out)).mono ?_
              rintro e w2 ⟨rfl, hb2⟩
              refine ⟨_, rfl, ?_⟩
              have BW2 := Lib.hid (below_then BW1.out BW1.out.size hb2)
              refine hK.out _ _ ((PB.out _ BW2.out)) (fun hHeld => ?_)
              clear hK K
              refine norm_ (a' := ?_) ?_ ?_
              rotate_left
              · show Act.put _ (some 126) _ = _
                simp only [Act.put, List.setIfInBounds_toArray, List.set_cons_zero, List.set_cons_succ, i64_w, i32_w]
                rfl
              refine pure_ (i := 3) (N := some 127) (v := ?_) (a' := ?_) #[true, true, true, true, false, false, false, false, false, false, false, false, false, false, false, false, false] rfl rfl (by kernel_rfl) (fun _ _ _ h => h) (Or.inl ⟨by rfl, ?_⟩) ?_ ?_
              rotate_left
              · intro w'
                go_simp
                with_reducible rfl
              rotate_left
              · simp only [Act.put, List.setIfInBounds_toArray, List.set_cons_zero, List.set_cons_succ, i64_w, i32_w]
                rfl
              refine pure_ (i := 4) (N := some 128) (v := ?_) (a' := ?_) #[true, true, true, true, true, false, false, false, false, false, false, false, false, false, false, false, false] rfl rfl (by kernel_rfl) (fun _ _ _ h => h) (Or.inl ⟨by rfl, ?_⟩) ?_ ?_
              rotate_left
              · intro w'
                go_simp
                with_reducible rfl
              rotate_left
              · simp only [Act.put, List.setIfInBounds_toArray, List.set_cons_zero, List.set_cons_succ, i64_w, i32_w]
                rfl
              refine pure_ (i := 5) (N := some 129) (v := undef) (a' := ?_) #[true, true, true, true, true, true, false, false, false, false, false, false, false, false, false, false, false] rfl rfl (by kernel_rfl) (fun _ _ _ h => h) (Or.inr ⟨by rfl, rfl⟩) ?_ ?_
              rotate_left
              · simp only [Act.put, List.setIfInBounds_toArray, List.set_cons_zero, List.set_cons_succ, i64_w, i32_w]
                rfl
              refine pure_ (i := 6) (N := some 130) (v := undef) (a' := ?_) #[true, true, true, true, true, true, true, false, false, false, false, false, false, false, false, false, false] rfl rfl (by kernel_rfl) (fun _ _ _ h => h) (Or.inr ⟨by rfl, rfl⟩) ?_ ?_
              rotate_left
              · simp only [Act.put, List.setIfInBounds_toArray, List.set_cons_zero, List.set_cons_succ, i64_w, i32_w]
                rfl
              refine pure_ (i := 7) (N := some 131) (v := ?_) (a' := ?_) #[true, true, true, true, true, true, true, true, false, false, false, false, false, false, false, false, false] rfl rfl (by kernel_rfl) (fun _ _ _ h => h) (Or.inl ⟨by rfl, ?_⟩) ?_ ?_
              rotate_left
              · intro w'
                go_simp
                with_reducible rfl
              rotate_left
              · simp only [Act.put, List.setIfInBounds_toArray, List.set_cons_zero, List.set_cons_succ, i64_w, i32_w]
                rfl
              refine pure_ (i := 8) (N := some 132) (v := ?_) (a' := ?_) #[true, true, true, true, true, true, true, true, true, false, false, false, false, false, false, false, false] rfl rfl (by kernel_rfl) (fun _ _ _ h => h) (Or.inl ⟨by rfl, ?_⟩) ?_ ?_
              rotate_left
              · intro w'
                go_simp
                with_reducible rfl
              rotate_left
              · simp only [Act.put, List.setIfInBounds_toArray, List.set_cons_zero, List.set_cons_succ, i64_w, i32_w]
                rfl
              refine pure_ (i := 9) (N := some 133) (v := ?_) (a' := ?_) #[true, true, true, true, true, true, true, true, true, true, false, false, false, false, false, false, false] rfl rfl (by kernel_rfl) (fun _ _ _ h => h) (Or.inl ⟨by rfl, ?_⟩) ?_ ?_
              rotate_left
              · intro w'
                go_simp
                with_reducible rfl
              rotate_left
              · simp only [Act.put, List.setIfInBounds_toArray, List.set_cons_zero, List.set_cons_succ, i64_w, i32_w]
                rfl
              refine pure_ (i := 12) (N := some 136) (v := ?_) (a' := ?_) #[true, true, true, true, true, true, true, true, true, true, false, false, true, false, false, false, false] rfl rfl (by kernel_rfl) (fun _ _ _ h => h) (Or.inl ⟨by rfl, ?_⟩) ?_ ?_
              rotate_left
              · intro w'
                go_simp
                with_reducible rfl
              rotate_left
              · simp only [Act.put, List.setIfInBounds_toArray, List.set_cons_zero, List.set_cons_succ, i64_w, i32_w]
                rfl
              refine take_ (i := 10) (N := some 134) (v := ?_) (a' := ?_) #[true, true, true, true, true, true, true, true, true, true, true, false, true, false, false, false, false] rfl rfl (by kernel_rfl) (fun _ _ _ h => h) (Or.inl ⟨by rfl, ?_⟩) hHeld ?_ ?_
              rotate_left
              · intro w' s0
                go_simp
                with_reducible rfl
              rotate_left
              · simp only [Act.put, List.setIfInBounds_toArray, List.set_cons_zero, List.set_cons_succ, i64_w, i32_w]
                rfl
              refine take_ (i := 13) (N := some 137) (v := ?_) (a' := ?_) #[true, true, true, true, true, true, true, true, true, true, true, false, true, true, false, false, false] rfl rfl (by kernel_rfl) (fun _ _ _ h => h) (Or.inl ⟨by rfl, ?_⟩) hHeld ?_ ?_
              rotate_left
              · intro w' s0
                go_simp
                with_reducible rfl
              rotate_left
              · simp only [Act.put, List.setIfInBounds_toArray, List.set_cons_zero, List.set_cons_succ, i64_w, i32_w]
                rfl
              refine one_ (i := 11) (N := some 135) #[true, true, true, true, true, true, true, true, true, true, true, true, true, true, false, false, false] rfl rfl (by kernel_rfl) (by decide) (fun K hK => ?_)
              refine goes_ Try.func21 (by kernel_rfl) rfl #[.pointer (some ⟨g, 0, none⟩), .agg #[.int .i64 f.src, .int .i64 f.dst, .slice A5 f.nb.length c5]] (by rfl) rfl rfl (by simp only [List.map_toArray, List.map_cons, List.map_nil]; rfl) ?_
              with_reducible refine ((HSE.out _ BW2.out)).mono ?_
              rintro e w3 ⟨rfl, hb3⟩
              refine ⟨_, rfl, ?_⟩
              have BW3 := Lib.hid (below_then BW2.out BW2.out.size hb3)
              refine hK.out _ _ ((PB.out _ BW3.out)) (fun hHeld => ?_)
              clear hK K
              refine norm_ (a' := ?_) ?_ ?_
              rotate_left
              · show Act.put _ (some 135) _ = _
                simp only [Act.put, List.setIfInBounds_toArray, List.set_cons_zero, List.set_cons_succ, i64_w, i32_w]
                rfl
              refine one_ (i := 14) (N := some 138) #[true, true, true, true, true, true, true, true, true, true, true, true, true, true, true, false, false] rfl rfl (by kernel_rfl) (by decide) (fun K hK => ?_)
              refine goes_ Try.func30 (by kernel_rfl) rfl #[sv, .agg #[.int .i64 f.src, .int .i64 f.dst, .slice A5 f.nb.length c5]] (by rfl) rfl rfl (by simp only [List.map_toArray, List.map_cons, List.map_nil]; rfl) ?_
              with_reducible refine ((HAM.out _ BW3.out)).mono ?_
              rintro e w7 ⟨rfl, hb7⟩
              refine ⟨_, rfl, ?_⟩
              have BW7 := Lib.hid (below_then BW3.out BW3.out.size hb7)
              refine hK.out _ _ ((PB.out _ BW7.out)) (fun hHeld => ?_)
              clear hK K
              refine norm_ (a' := ?_) ?_ ?_
              rotate_left
              · show Act.put _ (some 138) _ = _
                simp only [Act.put, List.setIfInBounds_toArray, List.set_cons_zero, List.set_cons_succ, i64_w, i32_w]
                rfl
              refine pure_ (i := 15) (N := some 139) (v := ?_) (a' := ?_) #[true, true, true, true, true, true, true, true, true, true, true, true, true, true, true, true, false] rfl rfl (by kernel_rfl) (fun _ _ _ h => h) (Or.inl ⟨by rfl, ?_⟩) ?_ ?_
              rotate_left
              · intro w'
                go_simp
                with_reducible rfl
              rotate_left
              · simp only [Act.put, List.setIfInBounds_toArray, List.set_cons_zero, List.set_cons_succ, i64_w, i32_w]
                rfl
              refine pure_ (i := 16) (N := some 140) (v := ?_) (a' := ?_) #[true, true, true, true, true, true, true, true, true, true, true, true, true, true, true, true, true] rfl rfl (by kernel_rfl) (fun _ _ _ h => h) (Or.inl ⟨by rfl, ?_⟩) ?_ ?_
              rotate_left
              · intro w'
                go_simp
                with_reducible rfl
              rotate_left
              · simp only [Act.put, List.setIfInBounds_toArray, List.set_cons_zero, List.set_cons_succ, i64_w, i32_w]
                rfl
              refine done_ (by kernel_rfl) ?_
              go_wp2_with fail
              go_roundg k1
              case measure => exact Nat.lt_succ_self _
              case rel => exact HBE.out _ BW7.out
            | false =>
              have d0 : ((kf : Int) == 0) = false := by
                rw [beq_eq_false_iff_ne]
                intro h
                have h1 := HM.out
                rw [decide_eq_false_iff_not] at h1
                exact h1 (HKR.out (by omega))
              refine start_ (n := 17) (S := fun w' => (∀ o, w'.cell? ⟨b3, o, none⟩ = #[Value.int .i64 f.src, .int .i64 f.dst, .slice A5 f.nb.length c5][o]?)) (ds := []) #[false, false, false, false, false, false, false, false, false, false, false, false, false, false, false, false, false] (by kernel_rfl) rfl rfl ((PB.out _ BW1.out)) (fun hHeld => ?_)
              refine pure_ (i := 0) (N := some 124) (v := ?_) (a' := ?_) #[true, false, false, false, false, false, false, false, false, false, false, false, false, false, false, false, false] rfl rfl (by kernel_rfl) (fun _ _ _ h => h) (Or.inl ⟨by rfl, ?_⟩) ?_ ?_
              rotate_left
              · intro w'
                go_simp
                with_reducible rfl
              rotate_left
              · simp only [Act.put, List.setIfInBounds_toArray, List.set_cons_zero, List.set_cons_succ, i64_w, i32_w]
                rfl
              refine take_ (i := 1) (N := some 125) (v := ?_) (a' := ?_) #[true, true, false, false, false, false, false, false, false, false, false, false, false, false, false, false, false] rfl rfl (by kernel_rfl) (fun _ _ _ h => h) (Or.inl ⟨by rfl, ?_⟩) hHeld ?_ ?_
              rotate_left
              · intro w' s0
                go_simp
                with_reducible rfl
              rotate_left
              · simp only [Act.put, List.setIfInBounds_toArray, List.set_cons_zero, List.set_cons_succ, i64_w, i32_w]
                rfl
              refine one_ (i := 2) (N := some 126) #[true, true, true, false, false, false, false, false, false, false, false, false, false, false, false, false, false] rfl rfl (by kernel_rfl) (by decide) (fun K hK => ?_)
              refine goes_ Try.func21 (by kernel_rfl) rfl #[.pointer (some ⟨g, 0, none⟩), .agg #[.int .i64 f.src, .int .i64 f.dst, .slice A5 f.nb.length c5]] (by rfl) rfl rfl (by simp only [List.map_toArray, List.map_cons, List.map_nil]; rfl) ?_
              with_reducible refine ((HSE.out _ BW1.out)).mono ?_
              rintro e w2 ⟨rfl, hb2⟩
              refine ⟨_, rfl, ?_⟩
              have BW2 := Lib.hid (below_then BW1.out BW1.out.size hb2)
              refine hK.out _ _ ((PB.out _ BW2.out)) (fun hHeld => ?_)
              clear hK K
              refine norm_ (a' := ?_) ?_ ?_
              rotate_left
              · show Act.put _ (some 126) _ = _
                simp only [Act.put, List.setIfInBounds_toArray, List.set_cons_zero, List.set_cons_succ, i64_w, i32_w]
                rfl
              refine pure_ (i := 3) (N := some 127) (v := ?_) (a' := ?_) #[true, true, true, true, false, false, false, false, false, false, false, false, false, false, false, false, false] rfl rfl (by kernel_rfl) (fun _ _ _ h => h) (Or.inl ⟨by rfl, ?_⟩) ?_ ?_
              rotate_left
              · intro w'
                go_simp
                with_reducible rfl
              rotate_left
              · simp only [Act.put, List.setIfInBounds_toArray, List.set_cons_zero, List.set_cons_succ, i64_w, i32_w]
                rfl
              refine pure_ (i := 4) (N := some 128) (v := ?_) (a' := ?_) #[true, true, true, true, true, false, false, false, false, false, false, false, false, false, false, false, false] rfl rfl (by kernel_rfl) (fun _ _ _ h => h) (Or.inl ⟨by rfl, ?_⟩) ?_ ?_
              rotate_left
              · intro w'
                go_simp
                with_reducible rfl
              rotate_left
              · simp only [Act.put, List.setIfInBounds_toArray, List.set_cons_zero, List.set_cons_succ, i64_w, i32_w]
                rfl
              refine pure_ (i := 5) (N := some 129) (v := ?_) (a' := ?_) #[true, true, true, true, true, true, false, false, false, false, false, false, false, false, false, false, false] rfl rfl (by kernel_rfl) (fun _ _ _ h => h) (Or.inl ⟨by rfl, ?_⟩) ?_ ?_
              rotate_left
              · intro w'
                go_simp
                with_reducible rfl
              rotate_left
              · simp only [Act.put, List.setIfInBounds_toArray, List.set_cons_zero, List.set_cons_succ, i64_w, i32_w]
                rfl
              refine pure_ (i := 6) (N := some 130) (v := ?_) (a' := ?_) #[true, true, true, true, true, true, true, false, false, false, false, false, false, false, false, false, false] rfl rfl (by kernel_rfl) (fun _ _ _ h => h) (Or.inl ⟨by rfl, ?_⟩) ?_ ?_
              rotate_left
              · intro w'
                go_simp
                with_reducible rfl
              rotate_left
              · simp only [Act.put, List.setIfInBounds_toArray, List.set_cons_zero, List.set_cons_succ, i64_w, i32_w]
                rfl
              refine pure_ (i := 7) (N := some 131) (v := ?_) (a' := ?_) #[true, true, true, true, true, true, true, true, false, false, false, false, false, false, false, false, false] rfl rfl (by kernel_rfl) (fun _ _ _ h => h) (Or.inl ⟨by rfl, ?_⟩) ?_ ?_
              rotate_left
              · intro w'
                go_simp
                with_reducible rfl
              rotate_left
              · simp only [Act.put, List.setIfInBounds_toArray, List.set_cons_zero, List.set_cons_succ, i64_w, i32_w]
                rfl
              refine pure_ (i := 8) (N := some 132) (v := ?_) (a' := ?_) #[true, true, true, true, true, true, true, true, true, false, false, false, false, false, false, false, false] rfl rfl (by kernel_rfl) (fun _ _ _ h => h) (Or.inl ⟨by rfl, ?_⟩) ?_ ?_
              rotate_left
              · intro w'
                go_simp
                with_reducible rfl
              rotate_left
              · simp only [Act.put, List.setIfInBounds_toArray, List.set_cons_zero, List.set_cons_succ, i64_w, i32_w]
                rfl
              refine pure_ (i := 9) (N := some 133) (v := ?_) (a' := ?_) #[true, true, true, true, true, true, true, true, true, true, false, false, false, false, false, false, false] rfl rfl (by kernel_rfl) (fun _ _ _ h => h) (Or.inl ⟨by rfl, ?_⟩) ?_ ?_
              rotate_left
              · intro w'
                go_simp
                with_reducible rfl
              rotate_left
              · simp only [Act.put, List.setIfInBounds_toArray, List.set_cons_zero, List.set_cons_succ, i64_w, i32_w]
                rfl
              refine pure_ (i := 12) (N := some 136) (v := ?_) (a' := ?_) #[true, true, true, true, true, true, true, true, true, true, false, false, true, false, false, false, false] rfl rfl (by kernel_rfl) (fun _ _ _ h => h) (Or.inl ⟨by rfl, ?_⟩) ?_ ?_
              rotate_left
              · intro w'
                go_simp
                with_reducible rfl
              rotate_left
              · simp only [Act.put, List.setIfInBounds_toArray, List.set_cons_zero, List.set_cons_succ, i64_w, i32_w]
                rfl
              refine take_ (i := 10) (N := some 134) (v := ?_) (a' := ?_) #[true, true, true, true, true, true, true, true, true, true, true, false, true, false, false, false, false] rfl rfl (by kernel_rfl) (fun _ _ _ h => h) (Or.inl ⟨by rfl, ?_⟩) hHeld ?_ ?_
              rotate_left
              · intro w' s0
                go_simp
                with_reducible rfl
              rotate_left
              · simp only [Act.put, List.setIfInBounds_toArray, List.set_cons_zero, List.set_cons_succ, i64_w, i32_w]
                rfl
              refine take_ (i := 13) (N := some 137) (v := ?_) (a' := ?_) #[true, true, true, true, true, true, true, true, true, true, true, false, true, true, false, false, false] rfl rfl (by kernel_rfl) (fun _ _ _ h => h) (Or.inl ⟨by rfl, ?_⟩) hHeld ?_ ?_
              rotate_left
              · intro w' s0
                go_simp
                with_reducible rfl
              rotate_left
              · simp only [Act.put, List.setIfInBounds_toArray, List.set_cons_zero, List.set_cons_succ, i64_w, i32_w]
                rfl
              refine one_ (i := 11) (N := some 135) #[true, true, true, true, true, true, true, true, true, true, true, true, true, true, false, false, false] rfl rfl (by kernel_rfl) (by decide) (fun K hK => ?_)
              refine goes_ Try.func21 (by kernel_rfl) rfl #[.pointer (some ⟨g, 0, none⟩), .agg #[.int .i64 f.src, .int .i64 f.dst, .slice A5 f.nb.length c5]] (by rfl) rfl rfl (by simp only [List.map_toArray, List.map_cons, List.map_nil]; rfl) ?_
              with_reducible refine ((HSE.out _ BW2.out)).mono ?_
              rintro e w3 ⟨rfl, hb3⟩
              refine ⟨_, rfl, ?_⟩
              have BW3 := Lib.hid (below_then BW2.out BW2.out.size hb3)
              refine hK.out _ _ ((PB.out _ BW3.out)) (fun hHeld => ?_)
              clear hK K
              refine norm_ (a' := ?_) ?_ ?_
              rotate_left
              · show Act.put _ (some 135) _ = _
                simp only [Act.put, List.setIfInBounds_toArray, List.set_cons_zero, List.set_cons_succ, i64_w, i32_w]
                rfl
              refine one_ (i := 14) (N := some 138) #[true, true, true, true, true, true, true, true, true, true, true, true, true, true, true, false, false] rfl rfl (by kernel_rfl) (by decide) (fun K hK => ?_)
              refine goes_ Try.func30 (by kernel_rfl) rfl #[sv, .agg #[.int .i64 f.src, .int .i64 f.dst, .slice A5 f.nb.length c5]] (by rfl) rfl rfl (by simp only [List.map_toArray, List.map_cons, List.map_nil]; rfl) ?_
              with_reducible refine ((HAM.out _ BW3.out)).mono ?_
              rintro e w7 ⟨rfl, hb7⟩
              refine ⟨_, rfl, ?_⟩
              have BW7 := Lib.hid (below_then BW3.out BW3.out.size hb7)
              refine hK.out _ _ ((PB.out _ BW7.out)) (fun hHeld => ?_)
              clear hK K
              refine norm_ (a' := ?_) ?_ ?_
              rotate_left
              · show Act.put _ (some 138) _ = _
                simp only [Act.put, List.setIfInBounds_toArray, List.set_cons_zero, List.set_cons_succ, i64_w, i32_w]
                rfl
              refine pure_ (i := 15) (N := some 139) (v := ?_) (a' := ?_) #[true, true, true, true, true, true, true, true, true, true, true, true, true, true, true, true, false] rfl rfl (by kernel_rfl) (fun _ _ _ h => h) (Or.inl ⟨by rfl, ?_⟩) ?_ ?_
              rotate_left
              · intro w'
                go_simp
                with_reducible rfl
              rotate_left
              · simp only [Act.put, List.setIfInBounds_toArray, List.set_cons_zero, List.set_cons_succ, i64_w, i32_w]
                rfl
              refine pure_ (i := 16) (N := some 140) (v := ?_) (a' := ?_) #[true, true, true, true, true, true, true, true, true, true, true, true, true, true, true, true, true] rfl rfl (by kernel_rfl) (fun _ _ _ h => h) (Or.inl ⟨by rfl, ?_⟩) ?_ ?_
              rotate_left
              · intro w'
                go_simp
                with_reducible rfl
              rotate_left
              · simp only [Act.put, List.setIfInBounds_toArray, List.set_cons_zero, List.set_cons_succ, i64_w, i32_w]
                rfl
              refine done_ (by kernel_rfl) ?_
              go_wp2_with fail
              go_roundg k1
              case measure => exact Nat.lt_succ_self _
              case rel => exact HBE.out _ BW7.out
    | succ k1 =>
      have hi : i < s.length := by have := HI.out; omega
      have d1 : decide (i < s.length) = true := decide_eq_true hi
      obtain ⟨x, hx⟩ : ∃ x, s[i]? = some x := ⟨_, List.getElem?_eq_getElem hi⟩
      have hbw : Below w.heap.size w wr := by obtain ⟨O, v, fls, h1, h2, h3, h4⟩ := HG.out; exact h4
      obtain ⟨ad, A', c', rfl, y0, y1, y2, y3, y4, y5, _, _⟩ := at_St (Kd.C_below HS.out hbw) hx
      have HK := Lib.hid (HSP.out x (List.mem_of_getElem? hx))
      have HW3 := Lib.hid (show wrap64 ((i : Int) + 1) = ((i + 1 : Nat) : Int) by have := HSL.out; unfold wrap64; omega)
      have HN := Lib.hid (show l.length + 1 + i ≤ 4194304 by have := HL.out; have := HSL.out; omega)
      have HI2 := Lib.hid (show i + 1 + k1 = s.length by have := HI.out; omega)
      clear hx HI
      generalize x.1 = kd at *
      generalize x.2.1.1 = sr at *
      generalize x.2.1.2.1 = dt at *
      generalize x.2.1.2.2.length = bl at *
      generalize x.2.2.1 = I0 at *
      generalize x.2.2.2 = K0 at *
      have ba := below_alloc (Below.refl wr.heap.size wr) (.cells #[.int .i64 kd, .int .i64 sr, .int .i64 dt, .slice A' bl c', .int .i64 I0, .int .i64 K0] tSt2)
      have P1 := Lib.hid (blk_new wr (.cells #[.int .i64 kd, .int .i64 sr, .int .i64 dt, .slice A' bl c', .int .i64 I0, .int .i64 K0] tSt2))
      have p0 := eq_true (show 0 ≤ (i : Int) by omega)
      have p1 := eq_true hi
      clear hbw hi
      go_upto_region 8 with (fail)
      clear y0 y1 y2 y3 y4 y5 p0 p1 d1
      have BAX := Lib.hid ba
      clear ba
      generalize (World.alloc wr _) = W1 at *
      obtain ⟨O, v, fls, h1, h2, h3, h4⟩ := HG.out
      have H1 := Lib.hid (h1.below BAX.out)
      have HLL := Lib.hid h3
      clear h1 h2 h3 h4
      have HBE := Lib.hid (show wr.heap.size ≤ wr.heap.size from Nat.le_refl _)
      have HGB := Lib.hid (fun (w' : World) (h : Below wr.heap.size wr w') => HG.out.below h)
      clear HG
      generalize hb1 : wr.heap.size = b1 at *
      have HB1 := Lib.hid hb1
      clear hb1
      go_wp2_with fail
      refine (len_net H1.out.net).mono ?_
      rintro e w2 ⟨rfl, rfl⟩
      go_upto_if 34 with (fail)
      go_cut [] from 22 to 79 (fun wc => ∃ I : Int, (∀ o, wc.cell? ⟨b1, o, none⟩ = #[Value.int .i64 kd, .int .i64 sr, .int .i64 dt, .slice A' bl c', .int .i64 I, .int .i64 K0][o]?) ∧ Hid (GenP w g m sv ps (qs.map letOf) qs (l.length + 1 + i) wc))
      case first =>
        by_cases hz : fls.length = 0
        · have e1 : decide ((0 : Int) < (fls.length : Int)) = false := decide_eq_false (by omega)
          have e2 : decide (0 < fls.length) = false := decide_eq_false (by omega)
          clear hz
          rw [e2]
          go_wp2_with fail
          go_meet
          case rel => exact ⟨I0, blkc P1.out, Lib.hid (HGB.out _ BAX.out)⟩
        · obtain ⟨n, hn⟩ : ∃ n, fls.length = n := ⟨_, rfl⟩
          have HNN := Lib.hid hn
          have HPK := Lib.hid (pick_facts (n := n) (I := I0) (by rw [← hn]; exact Nat.pos_of_ne_zero hz) (by rw [← hn]; exact Nat.le_trans HLL.out HN.out))
          have e1 : decide ((0 : Int) < (n : Int)) = true := decide_eq_true (by omega)
          have e2 : decide (0 < n) = true := decide_eq_true (by omega)
          rw [hn, e2]
          clear hz hn
          go_upto_region 9 with (fail)
          clear e1 e2
          obtain ⟨u, hu, hjb, m5, m6, m2, m3, m4, m7, m8⟩ := HPK.out
          have PD := Lib.hid (blk_drew P1.out)
          have HD := Lib.hid (H1.out.below (w1 := W1.drew) (Below.refl W1.heap.size W1).drew)
          generalize u % n = j at *
          refine start_ (n := 10) (S := fun w' => (∀ o, w'.cell? ⟨b1, o, none⟩ = #[Value.int .i64 kd, .int .i64 sr, .int .i64 dt, .slice A' bl c', .int .i64 I0, .int .i64 K0][o]?)) (ds := [9]) #[false, false, false, false, false, false, false, false, false, false] (by kernel_rfl) rfl rfl ((blkc PD.out)) (fun hHeld => ?_)
          refine pure_ (i := 0) (N := some 35) (v := ?_) (a' := ?_) #[true, false, false, false, false, false, false, false, false, false] rfl rfl (by kernel_rfl) (fun _ _ _ h => h) (Or.inl ⟨by rfl, ?_⟩) ?_ ?_
          rotate_left
          · intro w'
            go_simp
            with_reducible rfl
          rotate_left
          · simp only [Act.put, List.setIfInBounds_toArray, List.set_cons_zero, List.set_cons_succ, i64_w, i32_w]
            rfl
          refine pure_ (i := 3) (N := some 38) (v := ?_) (a' := ?_) #[true, false, false, true, false, false, false, false, false, false] rfl rfl (by kernel_rfl) (fun _ _ _ h => h) (Or.inl ⟨by rfl, ?_⟩) ?_ ?_
          rotate_left
          · intro w'
            go_simp
            with_reducible rfl
          rotate_left
          · simp only [Act.put, List.setIfInBounds_toArray, List.set_cons_zero, List.set_cons_succ, i64_w, i32_w]
            rfl
          refine take_ (i := 1) (N := some 36) (v := ?_) (a' := ?_) #[true, true, false, true, false, false, false, false, false, false] rfl rfl (by kernel_rfl) (fun _ _ _ h => h) (Or.inl ⟨by rfl, ?_⟩) hHeld ?_ ?_
          rotate_left
          · intro w' s0
            go_simp
            with_reducible rfl
          rotate_left
          · simp only [Act.put, List.setIfInBounds_toArray, List.set_cons_zero, List.set_cons_succ, i64_w, i32_w]
            rfl
          refine pure_ (i := 2) (N := some 37) (v := ?_) (a' := ?_) #[true, true, true, true, false, false, false, false, false, false] rfl rfl (by kernel_rfl) (fun _ _ _ h => h) (Or.inl ⟨by rfl, ?_⟩) ?_ ?_
          rotate_left
          · intro w'
            go_simp
            with_reducible rfl
          rotate_left
          · simp only [Act.put, List.setIfInBounds_toArray, List.set_cons_zero, List.set_cons_succ, i64_w, i32_w]
            rfl
          refine one_ (i := 4) (N := some 39) #[true, true, true, true, true, false, false, false, false, false] rfl rfl (by kernel_rfl) (by decide) (fun K hK => ?_)
          refine goes_ Try.func12 (by kernel_rfl) rfl #[.pointer (some ⟨g, 0, none⟩)] (by rfl) rfl rfl (by simp only [List.map_toArray, List.map_cons, List.map_nil]; rfl) ?_
          with_reducible refine ((len_net HD.out.net)).mono ?_
          rintro e w9 ⟨rfl, rfl⟩
          refine ⟨_, rfl, ?_⟩
          rw [HNN.out]
          refine hK.out _ _ ((blkc PD.out)) (fun hHeld => ?_)
          clear hK K
          refine norm_ (a' := ?_) ?_ ?_
          rotate_left
          · show Act.put _ (some 39) _ = _
            simp only [Act.put, List.setIfInBounds_toArray, List.set_cons_zero, List.set_cons_succ, i64_w, i32_w]
            rfl
          refine pure_ (i := 5) (N := some 40) (v := ?_) (a' := ?_) #[true, true, true, true, true, true, false, false, false, false] rfl rfl (by kernel_rfl) (fun _ _ _ h => h) (Or.inl ⟨by rfl, ?_⟩) ?_ ?_
          rotate_left
          · intro w'
            go_simp
            with_reducible rfl
          rotate_left
          · simp only [Act.put, List.setIfInBounds_toArray, List.set_cons_zero, List.set_cons_succ, i64_w, i32_w]
            rfl
          refine pure_ (i := 6) (N := some 41) (v := ?_) (a' := ?_) #[true, true, true, true, true, true, true, false, false, false] rfl rfl (by kernel_rfl) (fun _ _ _ h => h) (Or.inl ⟨by rfl, ?_⟩) ?_ ?_
          rotate_left
          · intro w'
            go_simp
            with_reducible rfl
          rotate_left
          · simp only [Act.put, List.setIfInBounds_toArray, List.set_cons_zero, List.set_cons_succ, i64_w, i32_w]
            rfl
          refine pure_ (i := 7) (N := some 42) (v := ?_) (a' := ?_) #[true, true, true, true, true, true, true, true, false, false] rfl rfl (by kernel_rfl) (fun _ _ _ h => h) (Or.inl ⟨by rfl, ?_⟩) ?_ ?_
          rotate_left
          · intro w'
            go_simp
            with_reducible rfl
          rotate_left
          · simp only [Act.put, List.setIfInBounds_toArray, List.set_cons_zero, List.set_cons_succ, i64_w, i32_w]
            rfl
          refine pure_ (i := 8) (N := some 43) (v := ?_) (a' := ?_) #[true, true, true, true, true, true, true, true, true, false] rfl rfl (by kernel_rfl) (fun _ _ _ h => h) (Or.inl ⟨by rfl, ?_⟩) ?_ ?_
          rotate_left
          · intro w'
            go_simp
            with_reducible rfl
          rotate_left
          · simp only [Act.put, List.setIfInBounds_toArray, List.set_cons_zero, List.set_cons_succ, i64_w, i32_w]
            rfl
          refine last_ (i := 9) (N := none) #[true, true, true, true, true, true, true, true, true, true] rfl rfl (by kernel_rfl) (by decide) (fun K hK => ?_)
          have zb := blkz PD.out
          refine skip_ (w1 := ?_) (by rfl) rfl ?_ ?_
          rotate_left
          · go_simp
            rfl
          refine hK.out _ _ ?_
          clear hK K
          refine done_ (by kernel_rfl) ?_
          go_wp2_with fail
          go_meet
          case rel => exact ⟨j, blkc (blk_set PD.out 4 _), Lib.hid (HGB.out _ (Below.setCell BAX.out (p := ⟨b1, 4, none⟩) (Nat.le_refl _) _).drew)⟩
      case rest =>
        obtain ⟨I, cb, HG⟩ := hcut
        clear HGB H1 HLL P1 BAX HB1 HBE
        by_cases k4 : kd = 4
        · subst k4
          go_wp2_with fail
          refine (Does.out (copy_gen HG.out HN.out I)).mono ?_
          rintro e wd ⟨⟨r, rfl⟩, HG2⟩
          clear cb
          go_wp2_with fail
          go_roundg k1
          case measure => exact Nat.lt_succ_self _
          case rel => exact ⟨i + 1, by first | rfl | rw [HW3.out] | exact congrArg (Value.int .i64) HW3.out, HI2, Lib.hid (HG2.mono (by omega))⟩
        · have q4 : (kd == 4) = false := beq_eq_false_iff_ne.2 k4
          by_cases k5 : kd = 5
          · subst k5
            go_wp2_with fail
            refine (Does.out (swap_gen HG.out I K0)).mono ?_
            rintro e wd ⟨⟨r, rfl⟩, HG2⟩
            clear cb
            go_wp2_with fail
            go_roundg k1
            case measure => exact Nat.lt_succ_self _
            case rel => exact ⟨i + 1, by first | rfl | rw [HW3.out] | exact congrArg (Value.int .i64) HW3.out, HI2, Lib.hid (HG2.mono (by omega))⟩
          · have q5 : (kd == 5) = false := beq_eq_false_iff_ne.2 k5
            by_cases k6 : kd = 6
            · subst k6
              go_wp2_with fail
              refine (Does.out (flip_gen HG.out I K0 HK.out)).mono ?_
              rintro e wd ⟨⟨r, rfl⟩, HG2⟩
              clear cb
              go_wp2_with fail
              go_roundg k1
              case measure => exact Nat.lt_succ_self _
              case rel => exact ⟨i + 1, by first | rfl | rw [HW3.out] | exact congrArg (Value.int .i64) HW3.out, HI2, Lib.hid (HG2.mono (by omega))⟩
            · have q6 : (kd == 6) = false := beq_eq_false_iff_ne.2 k6
              by_cases k8 : kd = 8
              · subst k8
                go_wp2_with fail
                refine (Does.out (cut_gen HG.out HN.out K0)).mono ?_
                rintro e wd ⟨⟨r, rfl⟩, HG2⟩
                clear cb
                go_wp2_with fail
                go_roundg k1
                case measure => exact Nat.lt_succ_self _
                case rel => exact ⟨i + 1, by first | rfl | rw [HW3.out] | exact congrArg (Value.int .i64) HW3.out, HI2, Lib.hid (HG2.mono (by omega))⟩
              · have q8 : (kd == 8) = false := beq_eq_false_iff_ne.2 k8
                by_cases k3 : kd = 3
                · subst k3
                  go_wp2_with fail
                  refine (Does.out (drop_gen HG.out HN.out I)).mono ?_
                  rintro e wd ⟨⟨r, rfl⟩, HG2⟩
                  clear cb
                  go_wp2_with fail
                  go_roundg k1
                  case measure => exact Nat.lt_succ_self _
                  case rel => exact ⟨i + 1, by first | rfl | rw [HW3.out] | exact congrArg (Value.int .i64) HW3.out, HI2, Lib.hid (HG2.mono (by omega))⟩
                · have q3 : (kd == 3) = false := beq_eq_false_iff_ne.2 k3
                  have HG2 := HG.out
                  go_wp2_with fail
                  go_roundg k1
                  case measure => exact Nat.lt_succ_self _
                  case rel => exact ⟨i + 1, by first | rfl | rw [HW3.out] | exact congrArg (Value.int .i64) HW3.out, HI2, Lib.hid (HG2.mono (by omega))⟩
end Go.Proofs.Ytpjbgcpieijeaaa.Net
namespace Go.Proofs.Ytpjbgcpieijeaaa.Walk
open Go.RowKit Go.Proofs.Ytpjbgcpieijeaaa.Opn Go.Proofs.YtpjbgcpieijeaaaW.PrintWords
theorem mSt_len : ∀ (l : List StT), l.length ≤ sumOf mSt l
  | [] => by simp
  | x :: l => by
    have := mSt_len l
    simp only [List.length_cons, sumOf, mSt]
    omega
theorem i64_max {n : Int} (h : i64ok n) : n ≤ 9223372036854775807 := by
  simp [i64ok, Lit.wf] at h
  have h5 : IntKind.i64.max = 9223372036854775807 := by decide
  omega
theorem NetGenuine (l : List PkT) (A : Option Addr) (c : Nat) (s : List StT) (B : Option Addr) (d : Nat) (W : World) (hc : l.length ≤ c) (h : kPk.C W A l.length l) (hl : l.length ≤ 9223372036854775807) (hp : ∀ x ∈ l, pPk x) (hd : s.length ≤ d) (hs : kSt.C W B s.length s) (hsl : s.length ≤ 9223372036854775807) (hsp : ∀ x ∈ s, pSt x) (hm : sumOf mPk l + 1 ≤ 1048576) (hn : sumOf mSt s + 1 ≤ 1048576) :
    Calls Try.prog 8 #[.slice A l.length c, .slice B s.length d] W fun e W' => e = .returned (.bool true) ∧ Below W.heap.size W W' :=
  Net.genuine_any h hc (fun x hx => pk_range (hp x hx) (by have := mPk_mem hx; omega)) (by have := mPk_len l; omega) hs (by have := mSt_len s; omega) (fun x hx => i64_max (hsp x hx).2.2.2)
end Go.Proofs.Ytpjbgcpieijeaaa.Walk
