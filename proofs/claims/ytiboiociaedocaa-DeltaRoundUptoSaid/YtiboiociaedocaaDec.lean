/- The reader: number, int and text, by plain words; what cannot be read leaves by the reader's own panic. -/
import Derived.Test.YtiboiociaedocaaDecSpec
import Derived.Recover
set_option linter.unusedVariables false
set_option linter.unusedSimpArgs false
namespace Go.Proofs.Ytiboiociaedocaa.Leb
open Go.RowKit Go.Proofs.YtiboiociaedocaaW.PrintWords Go.Proofs.YtiboiociaedocaaW.PrintLast Go.Proofs.Ytiboiociaedocaa.CutDec Go.Proofs.Ytiboiociaedocaa.Mem Go.Proofs.Ytiboiociaedocaa.Byt
abbrev tBs : TypeId := 49
abbrev tRd : TypeId := 94
abbrev kB : Kd Int := Kd.int .u8
theorem C_lt {w : World} {A : Option Addr} {n : Nat} {bs : List Int} (h : kB.C w A n bs) : bs.length = n := h.1
theorem lebd_some {w : World} {A : Option Addr} {c : Nat} {bs : List Int} (hC : kB.C w A bs.length bs) (hc : bs.length ≤ c) (hB : IsB bs) (hl : bs.length < 1152921504606846976) {n : Nat} {q : List Int} (h : rd64 bs = some (n, q)) :
    Calls Try.prog 51 #[.slice A bs.length c] w fun e w' => e = .returned (.tuple #[.int .u64 (n : Int), .int .i64 (((lebL n).length : Nat) : Int), .int .i64 0]) ∧ Below w.heap.size w w' := by
  obtain ⟨⟨r1, r2, r3⟩, hf, hd⟩ := dec_eq hB hl
  rw [Dec64, h] at hd
  obtain ⟨rfl, rfl, rfl⟩ : r1 = (n : Int) ∧ r2 = (((lebL n).length : Nat) : Int) ∧ r3 = 0 := by simpa using hd
  exact (leb_Decode.calls _ A c bs _ _ _ w hC hc hf).mono fun e w' ⟨he, hb⟩ => ⟨he, hb.below⟩
theorem lebd_none {w : World} {A : Option Addr} {c : Nat} {bs : List Int} (hC : kB.C w A bs.length bs) (hc : bs.length ≤ c) (hB : IsB bs) (hl : bs.length < 1152921504606846976) (h : rd64 bs = none) :
    Calls Try.prog 51 #[.slice A bs.length c] w fun e w' => (∃ x, (x != 0) = true ∧ e = .returned (.tuple #[.int .u64 0, .int .i64 0, .int .i64 x])) ∧ Below w.heap.size w w' := by
  obtain ⟨⟨r1, r2, r3⟩, hf, hd⟩ := dec_eq hB hl
  rw [Dec64, h] at hd
  obtain ⟨rfl, rfl, h3⟩ : r1 = 0 ∧ r2 = 0 ∧ r3 ≠ 0 := hd
  exact (leb_Decode.calls _ A c bs _ _ _ w hC hc hf).mono fun e w' ⟨he, hb⟩ => ⟨⟨r3, by simpa using h3, he⟩, hb.below⟩
theorem read_some {w : World} {A : Option Addr} {c : Nat} {bs : List Int} (hC : kB.C w A bs.length bs) (hc : bs.length ≤ c) (hB : IsB bs) (hl : bs.length < 1152921504606846976) {n : Nat} {q : List Int} (h : rd62 bs = some (n, q)) :
    Calls Try.prog 49 #[.slice A bs.length c] w fun e w' => e = .returned (.tuple #[.int .i64 (n : Int), .int .i64 (((lebL n).length : Nat) : Int)]) ∧ Below w.heap.size w w' := by
  obtain ⟨⟨r1, r2⟩, hf, hd⟩ := read_eq hB hl
  rw [Dec62, h] at hd
  obtain ⟨rfl, rfl⟩ : r1 = (n : Int) ∧ r2 = (((lebL n).length : Nat) : Int) := by simpa using hd
  exact (hawserref08_Read.calls _ A c bs _ _ w hC hc hf).mono fun e w' ⟨he, hb⟩ => ⟨he, hb.below⟩
theorem read_none {w : World} {A : Option Addr} {c : Nat} {bs : List Int} (hC : kB.C w A bs.length bs) (hc : bs.length ≤ c) (hB : IsB bs) (hl : bs.length < 1152921504606846976) (h : rd62 bs = none) :
    Calls Try.prog 49 #[.slice A bs.length c] w fun e w' => e = .returned (.tuple #[.int .i64 0, .int .i64 0]) ∧ Below w.heap.size w w' := by
  obtain ⟨⟨r1, r2⟩, hf, hd⟩ := read_eq hB hl
  rw [Dec62, h] at hd
  obtain ⟨rfl, rfl⟩ : r1 = 0 ∧ r2 = 0 := by simpa using hd
  exact (hawserref08_Read.calls _ A c bs _ _ w hC hc hf).mono fun e w' ⟨he, hb⟩ => ⟨he, hb.below⟩
theorem B_from {w : World} {A : Option Addr} {bs : List Int} {c : Nat} (k : IntKind) (h : kB.C w A bs.length bs) {i : Nat} (hi : i ≤ bs.length) (hc : bs.length ≤ c) : ∃ A', kB.C w A' (bs.drop i).length (bs.drop i) ∧ ∀ W : World, (Instr.slice tBs (.slice A bs.length c) (some (.int k (i : Int))) none none).run Try.prog W = .ok (.slice A' (bs.drop i).length (c - i)) W := by
  obtain ⟨i0, hi0, hz0, hz1, hz2⟩ := info_parts info_u8
  refine ⟨_, Kd.C_drop (m := i) h hi (c := c) hc, fun W => ?_⟩
  have h2 := cut_from tBs 5 k Try.underlying49 hi0 1 hz1 A bs.length c (i : Int) (by omega) (by omega) W
  rw [Int.toNat_natCast] at h2
  rw [h2, List.length_drop]
  rfl
theorem B_to {w : World} {A : Option Addr} {bs : List Int} {c : Nat} (k : IntKind) (h : kB.C w A bs.length bs) {i : Nat} (hi : i ≤ bs.length) (hc : bs.length ≤ c) : kB.C w A i (bs.take i) ∧ ∀ W : World, (Instr.slice tBs (.slice A bs.length c) none (some (.int k (i : Int))) none).run Try.prog W = .ok (.slice A i c) W := by
  obtain ⟨i0, hi0, hz0, hz1, hz2⟩ := info_parts info_u8
  have := Kd.C_take h hi
  rw [List.length_take, Nat.min_eq_left hi] at this
  refine ⟨this, fun W => ?_⟩
  have h2 := cut_to tBs 5 k Try.underlying49 hi0 A bs.length c (i : Int) (by omega) (by omega) hc W
  rwa [Int.toNat_natCast] at h2
/-- A reader's block: what is left to be read. -/
def Rd (w0 w : World) (g : Nat) (bs : List Int) : Prop := ∃ A c, w.heap[g]? = some (.cells #[.slice A bs.length c] tRd (0, 0)) ∧ kB.C w0 A bs.length bs ∧ bs.length ≤ c ∧ bs.length < 1152921504606846976 ∧ IsB bs ∧ Below w0.heap.size w0 w ∧ w0.heap.size ≤ g
theorem Rd.kept {w0 w w1 : World} {g : Nat} {bs : List Int} {S : Nat → Prop} (h : Rd w0 w g bs) (hk : Kept w w1 S) (hg : ¬ S g) (hS : ∀ k, S k → w0.heap.size ≤ k) (hb : Below w0.heap.size w0 w1) : Rd w0 w1 g bs := by
  obtain ⟨A, c, h1, h2, h3, h4, h5, h6, h7⟩ := h
  exact ⟨A, c, blk_kept h1 hk hg, h2, h3, h4, h5, hb, h7⟩
abbrev boom : Ending := .panicked [{ v := .iface 90 (.agg #[]), recovered := false }]
theorem isB_drop {bs : List Int} (h : IsB bs) (i : Nat) : IsB (bs.drop i) := fun x hx => h x (List.mem_of_mem_drop hx)
theorem rd64_drop {bs : List Int} {n : Nat} {q : List Int} (hB : IsB bs) (h : rd64 bs = some (n, q)) : bs = lebL n ++ q ∧ n < 18446744073709551616 ∧ bs.drop (lebL n).length = q ∧ (lebL n).length ≤ bs.length := by
  unfold rd64 at h
  split at h
  · rename_i m r hr
    split at h
    · rename_i hlt
      injection h with h
      injection h with h1 h2
      subst h1 h2
      have := rd1_some hB hr
      refine ⟨this, hlt, by rw [this, List.drop_append_of_le_length (Nat.le_refl _), List.drop_of_length_le (Nat.le_refl _), List.nil_append], by rw [this, List.length_append]; omega⟩
    · simp at h
  · simp at h
set_option maxHeartbeats 1600000 in
set_option maxRecDepth 100000 in
theorem number_some {w0 w : World} {g : Nat} {bs : List Int} (hR : Rd w0 w g bs) {n : Nat} {q : List Int} (h : rd64 bs = some (n, q)) :
    Calls Try.prog 53 #[.pointer (some ⟨g, 0, none⟩)] w fun e w' => e = .returned (.int .u64 (n : Int)) ∧ Rd w0 w' g q ∧ Kept w w' (fun k => k = g) := by
  obtain ⟨A, c, h1, h2, h3, h4, h5, h6, h7⟩ := hR
  obtain ⟨he0, hn0, hq, hle⟩ := rd64_drop h5 h
  obtain ⟨A', hC', hcut⟩ := B_from .i64 h2 hle h3
  rw [hq] at hC' hcut
  have HR := Lib.hid (lebd_some (Kd.C_below h2 h6) h3 h5 h4 h)
  have FIN := Lib.hid (show ∀ w1, Below w.heap.size w w1 → Rd w0 (w1.setCell ⟨g, 0, none⟩ (.slice A' q.length (c - (lebL n).length))) g q ∧ Kept w (w1.setCell ⟨g, 0, none⟩ (.slice A' q.length (c - (lebL n).length))) (fun k => k = g) from fun w1 hb =>
    ⟨⟨A', c - (lebL n).length, blk_set (blk_below h1 hb) 0 (.slice A' q.length (c - (lebL n).length)), hC', by rw [← hq, List.length_drop]; omega, by rw [← hq, List.length_drop]; omega, by rw [← hq]; exact isB_drop h5 _, below_set (below_then h6 h6.size hb) h7, h7⟩, (Kept.of_below hb (fun k => k = g)).setCell (.inl rfl) _⟩)
  have B1 := Lib.hid h1
  have c0 := blkc h1
  clear h h1 h2 h3 h4 h5 h6 h7 hq hle hC' he0 hn0
  go_enter Try.func53, Try.ntmps53
  go_wp2_with fail
  refine HR.out.mono ?_
  rintro e w1 ⟨rfl, hb1⟩
  have c1 := blkc (blk_below B1.out hb1)
  have z1 := blkz (blk_below B1.out hb1)
  have HF := Lib.hid (FIN.out w1 hb1)
  clear hb1 c0 FIN HR
  go_wp2_with fail
  go_ret
  exact ⟨rfl, HF.out.1, HF.out.2⟩
set_option maxHeartbeats 1600000 in
set_option maxRecDepth 100000 in
theorem number_none {w0 w : World} {g : Nat} {bs : List Int} (hR : Rd w0 w g bs) (h : rd64 bs = none) :
    Calls Try.prog 53 #[.pointer (some ⟨g, 0, none⟩)] w fun e w' => e = boom ∧ Below w0.heap.size w0 w' ∧ Kept w w' (fun k => k = g) := by
  obtain ⟨A, c, h1, h2, h3, h4, h5, h6, h7⟩ := hR
  have HR := Lib.hid (lebd_none (Kd.C_below h2 h6) h3 h5 h4 h)
  have B0 := Lib.hid h6
  have c0 := blkc h1
  clear h h1 h2 h3 h4 h5 h6 h7
  go_enter Try.func53, Try.ntmps53
  go_wp2_with fail
  refine HR.out.mono ?_
  rintro e w1 ⟨⟨x, hx, rfl⟩, hb1⟩
  have HF := Lib.hid (And.intro (below_then B0.out B0.out.size hb1) (Kept.of_below hb1 (fun k => k = g)))
  clear hb1
  go_wp2
  exact ⟨rfl, rfl, HF.out.1, HF.out.2⟩
theorem rdI_64 {bs : List Int} {n : Nat} {q : List Int} (h : rdI bs = some (n, q)) : rd64 bs = some (n, q) ∧ n ≤ 1152921504606846976 := by
  unfold rdI at h
  unfold rd64
  split at h
  · rename_i m r hr
    rw [hr]
    simp only
    split at h
    · rename_i hle
      injection h with h
      injection h with h1 h2
      subst h1 h2
      exact ⟨if_pos (by omega), hle⟩
    · simp at h
  · simp at h
theorem rdI_no {bs : List Int} (h : rdI bs = none) : rd64 bs = none ∨ ∃ n q, rd64 bs = some (n, q) ∧ 1152921504606846976 < n := by
  unfold rdI at h
  unfold rd64
  split at h
  · rename_i m r hr
    rw [hr]
    simp only
    by_cases hm : m < 18446744073709551616
    · refine .inr ⟨m, r, if_pos hm, ?_⟩
      by_cases hle : m ≤ 1152921504606846976
      · rw [if_pos hle] at h
        simp at h
      · omega
    · exact .inl (if_neg hm)
  · rename_i hr
    rw [hr]
    exact .inl rfl
set_option maxHeartbeats 1600000 in
set_option maxRecDepth 100000 in
theorem int_some {w0 w : World} {g : Nat} {bs : List Int} (hR : Rd w0 w g bs) {n : Nat} {q : List Int} (h : rdI bs = some (n, q)) :
    Calls Try.prog 47 #[.pointer (some ⟨g, 0, none⟩)] w fun e w' => e = .returned (.int .i64 (n : Int)) ∧ Rd w0 w' g q ∧ Kept w w' (fun k => k = g) := by
  obtain ⟨h64, hle⟩ := rdI_64 h
  have HR := Lib.hid (number_some hR h64)
  have d1 : decide (1152921504606846976 < (n : Int)) = false := by simp; omega
  have HLE := Lib.hid hle
  clear hR h h64 hle
  go_enter Try.func47, Try.ntmps47
  go_wp2_with fail
  refine HR.out.mono ?_
  rintro e w1 ⟨rfl, hr1, hk1⟩
  have HF := Lib.hid (And.intro hr1 hk1)
  clear hr1 hk1
  have hw : wrap64 (n : Int) = (n : Int) := w64_nat (by have := HLE.out; omega)
  go_wp2_with fail
  go_ret
  exact ⟨by simp [hw], HF.out.1, HF.out.2⟩
set_option maxHeartbeats 1600000 in
set_option maxRecDepth 100000 in
theorem int_none {w0 w : World} {g : Nat} {bs : List Int} (hR : Rd w0 w g bs) (h : rdI bs = none) :
    Calls Try.prog 47 #[.pointer (some ⟨g, 0, none⟩)] w fun e w' => e = boom ∧ Below w0.heap.size w0 w' ∧ Kept w w' (fun k => k = g) := by
  rcases rdI_no h with h1 | ⟨n, q, h1, hn⟩
  · have HR := Lib.hid (number_none hR h1)
    clear hR h h1
    go_enter Try.func47, Try.ntmps47
    go_wp2_with fail
    refine HR.out.mono ?_
    rintro e w1 ⟨rfl, hf⟩
    have HF := Lib.hid hf
    clear hf
    go_wp2
    exact ⟨rfl, rfl, HF.out.1, HF.out.2⟩
  · have HR := Lib.hid (number_some hR h1)
    have d1 : decide (1152921504606846976 < (n : Int)) = true := by simp; omega
    clear hR h h1 hn
    go_enter Try.func47, Try.ntmps47
    go_wp2_with fail
    refine HR.out.mono ?_
    rintro e w1 ⟨rfl, hf⟩
    have HF := Lib.hid hf
    clear hf
    go_wp2
    exact ⟨rfl, rfl, by obtain ⟨_, _, _, _, _, _, _, h, _⟩ := HF.out.1; exact h, HF.out.2⟩
theorem rdT_64 {bs : List Int} {s : ByteArray} {q : List Int} (hl : bs.length < 1152921504606846976) (hB : IsB bs) (h : rdT bs = some (s, q)) : ∃ n r, rd64 bs = some (n, r) ∧ n ≤ r.length ∧ s = strOfNums (r.take n) ∧ q = r.drop n := by
  unfold rdT at h
  unfold rd64
  split at h
  · rename_i m r hr
    rw [hr]
    simp only
    split at h
    · rename_i hle
      injection h with h
      injection h with h1 h2
      have he := congrArg List.length (rd1_some hB hr)
      rw [List.length_append] at he
      exact ⟨m, r, if_pos (by omega), hle, h1.symm, h2.symm⟩
    · simp at h
  · simp at h
theorem rdT_no {bs : List Int} (h : rdT bs = none) : rd64 bs = none ∨ ∃ n q, rd64 bs = some (n, q) ∧ q.length < n := by
  unfold rdT at h
  unfold rd64
  split at h
  · rename_i m r hr
    rw [hr]
    simp only
    by_cases hm : m < 18446744073709551616
    · refine .inr ⟨m, r, if_pos hm, ?_⟩
      by_cases hle : m ≤ r.length
      · rw [if_pos hle] at h
        simp at h
      · omega
    · exact .inl (if_neg hm)
  · rename_i hr
    rw [hr]
    exact .inl rfl
set_option maxHeartbeats 1600000 in
set_option maxRecDepth 100000 in
theorem text_some {w0 w : World} {g : Nat} {bs : List Int} (hR : Rd w0 w g bs) {s : ByteArray} {q : List Int} (h : rdT bs = some (s, q)) :
    Calls Try.prog 48 #[.pointer (some ⟨g, 0, none⟩)] w fun e w' => e = .returned (.string s) ∧ Rd w0 w' g q ∧ Kept w w' (fun k => k = g) := by
  obtain ⟨n, r, h64, hle, rfl, rfl⟩ := rdT_64 (by obtain ⟨_, _, _, _, _, h, _⟩ := hR; exact h) (by obtain ⟨_, _, _, _, _, _, h, _⟩ := hR; exact h) h
  have HR := Lib.hid (number_some hR h64)
  have HLE := Lib.hid hle
  clear hR h h64
  go_enter Try.func48, Try.ntmps48
  go_wp2_with fail
  refine HR.out.mono ?_
  rintro e w1 ⟨rfl, hr1, hk1⟩
  obtain ⟨A, c, h1, h2, h3, h4, h5, h6, h7⟩ := hr1
  obtain ⟨A', hC', hcut⟩ := B_from .u64 h2 hle h3
  obtain ⟨hT, hcut2⟩ := B_to .u64 h2 hle h3
  have FIN := Lib.hid (show Rd w0 (w1.setCell ⟨g, 0, none⟩ (.slice A' (r.drop n).length (c - n))) g (r.drop n) ∧ Kept w (w1.setCell ⟨g, 0, none⟩ (.slice A' (r.drop n).length (c - n))) (fun k => k = g) from
    ⟨⟨A', c - n, blk_set h1 0 (.slice A' (r.drop n).length (c - n)), hC', by rw [List.length_drop]; omega, by rw [List.length_drop]; omega, isB_drop h5 _, below_set h6 h7, h7⟩, hk1.setCell (.inl rfl) _⟩)
  have st := Kd.C_string (src := tBs) (dst := 9) (c := c) Try.underlying49 Try.underlying5 Try.underlying9 (Kd.C_below hT h6)
  have c1 := blkc h1
  have z1 := blkz h1
  have d1 : decide ((r.length : Int) < (n : Int)) = false := by simp; omega
  have d2 : decide (r.length < n) = false := by simp; omega
  have hw : IntKind.u64.wrap (r.length : Int) = (r.length : Int) := u64_nat (by omega)
  clear hC' hT h1 h2 h3 h4 h5 h6 h7 hk1 hle HR HLE
  go_wp2_with fail
  go_ret
  have FIN' := FIN.out
  rw [List.length_drop] at FIN'
  exact ⟨rfl, FIN'.1, FIN'.2⟩
set_option maxHeartbeats 1600000 in
set_option maxRecDepth 100000 in
theorem text_none {w0 w : World} {g : Nat} {bs : List Int} (hR : Rd w0 w g bs) (h : rdT bs = none) :
    Calls Try.prog 48 #[.pointer (some ⟨g, 0, none⟩)] w fun e w' => e = boom ∧ Below w0.heap.size w0 w' ∧ Kept w w' (fun k => k = g) := by
  rcases rdT_no h with h1 | ⟨n, q, h1, hn⟩
  · have HR := Lib.hid (number_none hR h1)
    clear hR h h1
    go_enter Try.func48, Try.ntmps48
    go_wp2_with fail
    refine HR.out.mono ?_
    rintro e w1 ⟨rfl, hf⟩
    have HF := Lib.hid hf
    clear hf
    go_wp2
    exact ⟨rfl, rfl, HF.out.1, HF.out.2⟩
  · have HR := Lib.hid (number_some hR h1)
    clear hR h h1
    go_enter Try.func48, Try.ntmps48
    go_wp2_with fail
    refine HR.out.mono ?_
    rintro e w1 ⟨rfl, hf⟩
    have HF := Lib.hid hf
    obtain ⟨A, c, h1, h2, h3, h4, h5, h6, h7⟩ := hf.1
    have c1 := blkc h1
    have d1 : decide ((q.length : Int) < (n : Int)) = true := by simp; omega
    have d2 : decide (q.length < n) = true := by simp; omega
    have hw : IntKind.u64.wrap (q.length : Int) = (q.length : Int) := u64_nat (by omega)
    clear hf h1 h2 h3 h4 h5 h7 HR hn
    have HB := Lib.hid h6
    clear h6
    go_wp2
    exact ⟨rfl, rfl, HB.out, HF.out.2⟩
end Go.Proofs.Ytiboiociaedocaa.Leb
