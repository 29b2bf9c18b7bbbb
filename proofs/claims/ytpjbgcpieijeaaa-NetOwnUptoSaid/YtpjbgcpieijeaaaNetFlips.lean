/- Flips: how many bits are turned. -/
import Derived.Test.YtpjbgcpieijeaaaNetOps
import Derived.Test.YtpjbgcpieijeaaaNetOnes
set_option linter.unusedVariables false
set_option linter.unusedSimpArgs false
namespace Go.Proofs.Ytpjbgcpieijeaaa.Net
open Go.RowKit Go.Proofs.Ytpjbgcpieijeaaa.Mem Go.Proofs.YtpjbgcpieijeaaaW.PrintWords Go.Proofs.YtpjbgcpieijeaaaW.PrintLast Go.Proofs.Ytpjbgcpieijeaaa.Byt Go.Proofs.Ytpjbgcpieijeaaa.Opn Go.Deep
section
variable {w w0 : World} {base g m : Nat} {O : Nat → Prop} {nd cl : Int} {v : Value} {fls : List Fl} {sent : List LtT}
set_option maxHeartbeats 3200000 in
set_option maxRecDepth 100000 in
theorem flips_not (h : NetR w base O g m nd cl v fls sent) {i : Int} (hi : atB fls.length i = false) : Calls Try.prog 16 #[.pointer (some ⟨g, 0, none⟩), .int .i64 i] w fun e w' => e = .returned (.tuple #[.int .i64 0, .int .i64 241]) ∧ Below w.heap.size w w' := by
  have BS := Lib.hid (below_alloc (Below.refl w.heap.size w) (.cells #[.int .i64 i] tI))
  have PI := Lib.hid (blk_new w (.cells #[.int .i64 i] tI))
  have HN := Lib.hid (h.below BS.out)
  have HE := Lib.hid (atE_no hi)
  clear h hi
  go_enter Try.func16, Try.ntmps16
  go_wp2_with fail
  refine (at1_any HN.out PI.out).mono ?_
  rintro e w1 ⟨rfl, rfl⟩
  rw [HE.out]
  go_wp2_with fail
  go_ret2
  exact ⟨rfl, BS.out⟩
set_option maxHeartbeats 3200000 in
set_option maxRecDepth 100000 in
theorem flips_net (h : NetR w base O g m nd cl v fls sent) {i : Nat} {f : Fl} (hi : fls[i]? = some f) : Calls Try.prog 16 #[.pointer (some ⟨g, 0, none⟩), .int .i64 (i : Int)] w fun e w' => e = .returned (.tuple #[.int .i64 (flipsN f.nb f.sb : Nat), .int .i64 0]) ∧ Below w.heap.size w w' := by
  have hil : i < fls.length := (List.getElem?_eq_some_iff.1 hi).1
  have BS := Lib.hid (below_alloc (Below.refl w.heap.size w) (.cells #[.int .i64 (i : Int)] tI))
  have PI := Lib.hid (blk_new w (.cells #[.int .i64 (i : Int)] tI))
  have HN := Lib.hid (h.below BS.out)
  have HE := Lib.hid (atE_yes (n := fls.length) (i := (i : Int)) (by simp [atB]; omega))
  have HI := Lib.hid hi
  obtain ⟨T, hT⟩ : ∃ T, flipsN f.nb f.sb = T := ⟨_, rfl⟩
  have HT := Lib.hid hT
  rw [hT]
  clear h hi hT
  go_enter Try.func16, Try.ntmps16
  go_wp2_with fail
  generalize (World.alloc w _) = W at *
  refine (at1_any HN.out PI.out).mono ?_
  rintro e w1 ⟨rfl, rfl⟩
  rw [HE.out]
  obtain ⟨ad, c, rfl, hc, hob, y0, y1, y2, y3⟩ := HN.out.way.at HI.out
  have FR := HN.out.fl f (List.mem_of_getElem? HI.out)
  obtain ⟨A1, c1, hv1, hl1, hC1⟩ := FR.s.reads
  obtain ⟨A2, c2, hv2, hl2, hC2⟩ := FR.n.reads
  rw [hv1] at y2
  rw [hv2] at y3
  have HC1 := Lib.hid hC1
  have HC2 := Lib.hid hC2
  have HLE := Lib.hid FR.len
  have HLB := Lib.hid FR.lb
  have HR := Lib.hid (And.intro FR.rs FR.rn)
  have cn := blkc HN.out.net
  have p0 := eq_true (show 0 ≤ (i : Int) by omega)
  have p1 := eq_true hil
  clear hc hob hv1 hl1 hC1 hv2 hl2 hC2 FR HE PI HN HI hil
  generalize f.src = fs at *
  generalize f.dst = fd at *
  generalize f.nb = nb at *
  generalize f.sb = sb at *
  have HTL := Lib.hid (show T ≤ 8 * nb.length from by rw [← HT.out]; exact flipsN_le nb sb)
  go_wp2_with fail
  go_loopg [26, 7] nb.length (fun kq v26 v7 w' => ∃ (j kk : Nat), v26 = .int .i64 (j : Int) ∧ v7 = .int .i64 (kk : Int) ∧ W = w' ∧ Hid (j + kq = nb.length ∧ kk + flipsN (nb.drop j) (sb.drop j) = T))
  case atStart => exact ⟨0, 0, rfl, rfl, rfl, (show _ + _ = _ by omega), by simpa using HT.out⟩
  case round =>
    obtain ⟨j, kk, rfl, rfl, rfl, HI⟩ := hrel
    cases gk with
    | zero =>
      have hj : j = nb.length := HI.out.1
      have d1 : decide (j < nb.length) = false := by simp; omega
      have hkk : kk = T := by
        have h1 := HI.out.2
        rw [List.drop_of_length_le (by omega)] at h1
        simpa [flipsN] using h1
      clear HI
      subst hkk
      clear hj
      go_wp2_with fail
      go_ret2
      exact ⟨rfl, BS.out⟩
    | succ k1 =>
      have hj : j < nb.length := by have := HI.out.1; omega
      have d1 : decide (j < nb.length) = true := by simp; omega
      obtain ⟨x, hx⟩ : ∃ x, nb[j]? = some x := ⟨_, List.getElem?_eq_getElem hj⟩
      obtain ⟨y, hy⟩ : ∃ y, sb[j]? = some y := ⟨_, List.getElem?_eq_getElem (by have := HLE.out; omega)⟩
      obtain ⟨ad1, rfl, z1⟩ := cB_at HC1.out hy
      obtain ⟨ad2, rfl, z2⟩ := cB_at HC2.out hx
      obtain ⟨xn, hxn, hxl⟩ : ∃ n : Nat, x = (n : Int) ∧ n < 256 := ⟨x.toNat, by have := HR.out.2 x (List.mem_of_getElem? hx); omega, by have := HR.out.2 x (List.mem_of_getElem? hx); omega⟩
      obtain ⟨yn, hyn, hyl⟩ : ∃ n : Nat, y = (n : Int) ∧ n < 256 := ⟨y.toNat, by have := HR.out.1 y (List.mem_of_getElem? hy); omega, by have := HR.out.1 y (List.mem_of_getElem? hy); omega⟩
      have hfd := flipsN_drop hx hy
      subst hxn hyn
      simp only [Int.toNat_natCast] at hfd
      have hxy : xn ^^^ yn < 256 := Nat.xor_lt_two_pow (n := 8) hxl hyl
      have HFD := Lib.hid hfd
      have q0 := eq_true (show 0 ≤ (j : Int) by omega)
      have q1 := eq_true hj
      have q2 := eq_true (show j < sb.length by have := HLE.out; omega)
      have HXY := Lib.hid hxy
      have hxr := u8_xor hxl hyl
      have hpl := pops_le 8 (xn ^^^ yn)
      have HI2 := Lib.hid (show j + 1 + k1 = nb.length ∧ kk + pops 8 (xn ^^^ yn) + flipsN (nb.drop (j + 1)) (sb.drop (j + 1)) = T by have h1 := HI.out; rw [hfd] at h1; omega)
      have hw2 : wrap64 ((kk : Int) + ((pops 8 (xn ^^^ yn) : Nat) : Int)) = ((kk + pops 8 (xn ^^^ yn) : Nat) : Int) := by
        have h1 := HI2.out
        have h2 := HTL.out
        have h3 := HLB.out
        unfold wrap64
        omega
      have hw3 : wrap64 ((j : Int) + 1) = ((j + 1 : Nat) : Int) := by
        have h1 := HI2.out
        have h3 := HLB.out
        clear hw2
        unfold wrap64
        omega
      have HW := Lib.hid (And.intro hw2 hw3)
      clear hj hx hy hfd hxl hyl hxy hpl hw2 hw3
      go_wp2_with fail
      refine (ones_any _ HXY.out W).mono ?_
      rintro e w2 ⟨rfl, rfl⟩
      generalize pops 8 (xn ^^^ yn) = pp at *


      go_wp2_with fail
      go_roundg k1
      case measure => exact Nat.lt_succ_self _
      case rel => exact ⟨j + 1, kk + pp, by rw [HW.out.2], by rw [HW.out.1], rfl, HI2.out⟩
end
end Go.Proofs.Ytpjbgcpieijeaaa.Net
