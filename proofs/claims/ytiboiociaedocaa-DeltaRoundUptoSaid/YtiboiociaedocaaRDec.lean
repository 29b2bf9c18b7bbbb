/- The document's taken, by plain words; reading at a place of a list. -/
import Derived.Test.YtiboiociaedocaaDecode
set_option linter.unusedVariables false
set_option linter.unusedSimpArgs false
namespace Go.Proofs.Ytiboiociaedocaa.Leb
open Go.RowKit Go.Proofs.YtiboiociaedocaaW.PrintWords Go.Proofs.YtiboiociaedocaaW.PrintLast Go.Proofs.Ytiboiociaedocaa.CutDec Go.Proofs.Ytiboiociaedocaa.Mem Go.Proofs.Ytiboiociaedocaa.Byt Go.Proofs.Ytiboiociaedocaa.Chk Go.Proofs.Ytiboiociaedocaa.Opn
theorem rd62_drop {bs : List Int} {n : Nat} {q : List Int} (hB : IsB bs) (h : rd62 bs = some (n, q)) : bs = lebL n ++ q ∧ n ≤ 4611686018427387904 ∧ bs.drop (lebL n).length = q ∧ (lebL n).length ≤ bs.length := by
  unfold rd62 at h
  split at h
  · rename_i m r hr
    split at h
    · rename_i hlt
      injection h with h
      injection h with h1 h2
      subst h1 h2
      have := rd1_some hB hr
      refine ⟨this, hlt, by rw [this, List.drop_append_of_le_length (Nat.le_refl _), List.drop_of_length_le (Nat.le_refl _), List.nil_append], by rw [this, List.length_append]; omega⟩
    · simp at h
  · simp at h
theorem rdT_62 {bs : List Int} {s : ByteArray} {q : List Int} (hl : bs.length < 1152921504606846976) (hB : IsB bs) (h : rdT bs = some (s, q)) : ∃ n r, rd62 bs = some (n, r) ∧ n ≤ r.length ∧ s = strOfNums (r.take n) ∧ q = r.drop n := by
  unfold rdT at h
  unfold rd62
  split at h
  · rename_i m r hr
    rw [hr]
    simp only
    split at h
    · rename_i hle
      injection h with h
      injection h with h1 h2
      have he := congrArg List.length (rd1_some hB hr)
      rw [List.length_append] at he
      exact ⟨m, r, if_pos (by omega), hle, h1.symm, h2.symm⟩
    · simp at h
  · simp at h
theorem rdT_no62 {bs : List Int} (h : rdT bs = none) : rd62 bs = none ∨ ∃ n q, rd62 bs = some (n, q) ∧ q.length < n := by
  unfold rdT at h
  unfold rd62
  split at h
  · rename_i m r hr
    rw [hr]
    simp only
    by_cases hm : m ≤ 4611686018427387904
    · refine .inr ⟨m, r, if_pos hm, ?_⟩
      by_cases hle : m ≤ r.length
      · rw [if_pos hle] at h
        simp at h
      · omega
    · exact .inl (if_neg hm)
  · rename_i hr
    rw [hr]
    exact .inl rfl
theorem B_cut {w : World} {A : Option Addr} {bs : List Int} {c : Nat} (h : kB.C w A bs.length bs) {i j : Nat} (hij : i ≤ j) (hj : j ≤ bs.length) (hc : bs.length ≤ c) : ∃ A', kB.C w A' (j - i) ((bs.take j).drop i) ∧ ∀ W : World, (Instr.slice tBs (.slice A bs.length c) (some (.int .i64 (i : Int))) (some (.int .i64 (j : Int))) none).run Try.prog W = .ok (.slice A' (j - i) (c - i)) W := by
  obtain ⟨i0, hi0, hz0, hz1, hz2⟩ := info_parts info_u8
  have hd := Kd.C_mid h hij hj hc
  have hl : ((bs.take j).drop i).length = j - i := by rw [List.length_drop, List.length_take]; omega
  rw [hl] at hd
  refine ⟨_, hd, fun W => ?_⟩
  have h2 := cut_mid tBs 5 .i64 .i64 Try.underlying49 hi0 1 hz1 A bs.length c (i : Int) (j : Int) (by omega) (by omega) (by omega) hc W
  rw [Int.toNat_natCast, Int.toNat_natCast] at h2
  exact h2
theorem drop_take_at (bs : List Int) (k n : Nat) : (bs.take (k + n)).drop k = (bs.drop k).take n := by
  rw [List.drop_take]
  congr 1
  omega
set_option maxHeartbeats 1600000 in
set_option maxRecDepth 100000 in
theorem taken_some {w : World} {A : Option Addr} {c : Nat} {bs : List Int} (hC : kB.C w A bs.length bs) (hc : bs.length ≤ c) (hB : IsB bs) (hl : bs.length < 1152921504606846976) {s : ByteArray} {q : List Int} (h : rdT bs = some (s, q)) :
    ∃ k, 0 < k ∧ k ≤ bs.length ∧ bs.drop k = q ∧ Calls Try.prog 50 #[.slice A bs.length c] w fun e w' => e = .returned (.tuple #[.string s, .int .i64 (k : Int)]) ∧ Below w.heap.size w w' := by
  obtain ⟨n, r, h62, hle, rfl, rfl⟩ := rdT_62 hl hB h
  obtain ⟨he, hn, hq, hkl⟩ := rd62_drop hB h62
  have hp := lebL_pos n
  have hlen := congrArg List.length hq
  rw [List.length_drop] at hlen
  refine ⟨(lebL n).length + n, by omega, by omega, by rw [← List.drop_drop, hq], ?_⟩
  obtain ⟨A', hC', hcut⟩ := B_cut hC (show (lebL n).length ≤ (lebL n).length + n by omega) (by omega) hc
  rw [drop_take_at, hq, Nat.add_sub_cancel_left] at hC'
  have HR := Lib.hid (read_some hC hc hB hl h62)
  generalize (lebL n).length = k at *
  have HC := Lib.hid hC'
  have hcut : ∀ W : World, (Instr.slice tBs (.slice A bs.length c) (some (.int .i64 (k : Int))) (some (.int .i64 ((k : Int) + (n : Int)))) none).run Try.prog W = .ok (.slice A' n (c - k)) W := fun W => by
    have h2 := hcut W
    rwa [Nat.add_sub_cancel_left, Int.natCast_add] at h2
  have k0 : ((k : Int) == 0) = false := by simp; omega
  have w1 : wrap64 ((bs.length : Int) - (k : Int)) = ((bs.length - k : Nat) : Int) := by unfold wrap64; omega
  have d1 : decide (((bs.length - k : Nat) : Int) < (n : Int)) = false := by simp; omega
  have d2 : decide (bs.length - k < n) = false := by simp; omega
  have w2 : wrap64 ((k : Int) + (n : Int)) = ((k + n : Nat) : Int) := by unfold wrap64; omega
  clear hC' he hq hlen h62 h hB hC hle hkl hp hl hn
  go_enter Try.func50, Try.ntmps50
  go_wp2_with fail
  refine HR.out.mono ?_
  rintro e w1 ⟨rfl, hb1⟩
  have B1 := Lib.hid hb1
  have st := Kd.C_string (src := tBs) (dst := 9) (c := c - k) Try.underlying49 Try.underlying5 Try.underlying9 (Kd.C_below HC.out hb1)
  clear hb1 HR
  go_wp2_with fail
  go_ret2
  exact ⟨by simp [w2], B1.out⟩
set_option maxHeartbeats 1600000 in
set_option maxRecDepth 100000 in
theorem taken_none {w : World} {A : Option Addr} {c : Nat} {bs : List Int} (hC : kB.C w A bs.length bs) (hc : bs.length ≤ c) (hB : IsB bs) (hl : bs.length < 1152921504606846976) (h : rdT bs = none) :
    Calls Try.prog 50 #[.slice A bs.length c] w fun e w' => e = .returned (.tuple #[.string ⟨#[]⟩, .int .i64 0]) ∧ Below w.heap.size w w' := by
  rcases rdT_no62 h with h62 | ⟨n, q, h62, hn⟩
  · have HR := Lib.hid (read_none hC hc hB hl h62)
    clear h h62 hB hC hl
    go_enter Try.func50, Try.ntmps50
    go_wp2_with fail
    refine HR.out.mono ?_
    rintro e w1 ⟨rfl, hb1⟩
    have B1 := Lib.hid hb1
    clear hb1 HR
    go_wp2_with fail
    go_ret2
    exact ⟨rfl, B1.out⟩
  · obtain ⟨he, hn2, hq, hkl⟩ := rd62_drop hB h62
    have hp := lebL_pos n
    have hlen := congrArg List.length hq
    rw [List.length_drop] at hlen
    have HR := Lib.hid (read_some hC hc hB hl h62)
    generalize (lebL n).length = k at *
    have k0 : ((k : Int) == 0) = false := by simp; omega
    have w1 : wrap64 ((bs.length : Int) - (k : Int)) = ((bs.length - k : Nat) : Int) := by unfold wrap64; omega
    have d1 : decide (((bs.length - k : Nat) : Int) < (n : Int)) = true := by simp; omega
    have d2 : decide (bs.length - k < n) = true := by simp; omega
    clear he hq hlen h62 h hB hC hn hkl hp hl hn2
    go_enter Try.func50, Try.ntmps50
    go_wp2_with fail
    refine HR.out.mono ?_
    rintro e w1 ⟨rfl, hb1⟩
    have B1 := Lib.hid hb1
    clear hb1 HR
    go_wp2_with fail
    go_ret2
    exact ⟨rfl, B1.out⟩
/-- Bytes that are read, at a place. -/
structure Src (w : World) (A : Option Addr) (c : Nat) (bs : List Int) : Prop where
  C : kB.C w A bs.length bs
  c : bs.length ≤ c
  B : IsB bs
  l : bs.length < 1152921504606846976
section
variable {w : World} {A : Option Addr} {c : Nat} {bs : List Int}
theorem Src.at_ (h : Src w A c bs) {i : Nat} (hi : i ≤ bs.length) : ∃ A', Src w A' (c - i) (bs.drop i) ∧ ∀ W : World, (Instr.slice tBs (.slice A bs.length c) (some (.int .i64 (i : Int))) none none).run Try.prog W = .ok (.slice A' (bs.drop i).length (c - i)) W := by
  obtain ⟨A', h1, h2⟩ := B_from .i64 h.C hi h.c
  exact ⟨A', ⟨h1, by rw [List.length_drop]; have := h.c; omega, isB_drop h.B i, by rw [List.length_drop]; have := h.l; omega⟩, h2⟩
theorem Src.below {w1 : World} (h : Src w A c bs) (hb : Below w.heap.size w w1) : Src w1 A c bs := ⟨Kd.C_below h.C hb, h.c, h.B, h.l⟩
theorem Src.read_some (h : Src w A c bs) {n : Nat} {q : List Int} (hr : rd62 bs = some (n, q)) : ∃ k, 0 < k ∧ k ≤ bs.length ∧ bs.drop k = q ∧ Calls Try.prog 49 #[.slice A bs.length c] w fun e w' => e = .returned (.tuple #[.int .i64 (n : Int), .int .i64 (k : Int)]) ∧ Below w.heap.size w w' := by
  obtain ⟨_, _, h3, h4⟩ := rd62_drop h.B hr
  exact ⟨_, lebL_pos n, h4, h3, Leb.read_some h.C h.c h.B h.l hr⟩
theorem Src.read_none (h : Src w A c bs) (hr : rd62 bs = none) : Calls Try.prog 49 #[.slice A bs.length c] w fun e w' => e = .returned (.tuple #[.int .i64 0, .int .i64 0]) ∧ Below w.heap.size w w' := Leb.read_none h.C h.c h.B h.l hr
theorem Src.taken_some (h : Src w A c bs) {s : ByteArray} {q : List Int} (hr : rdT bs = some (s, q)) : ∃ k, 0 < k ∧ k ≤ bs.length ∧ bs.drop k = q ∧ Calls Try.prog 50 #[.slice A bs.length c] w fun e w' => e = .returned (.tuple #[.string s, .int .i64 (k : Int)]) ∧ Below w.heap.size w w' := Leb.taken_some h.C h.c h.B h.l hr
theorem Src.taken_none (h : Src w A c bs) (hr : rdT bs = none) : Calls Try.prog 50 #[.slice A bs.length c] w fun e w' => e = .returned (.tuple #[.string ⟨#[]⟩, .int .i64 0]) ∧ Below w.heap.size w w' := Leb.taken_none h.C h.c h.B h.l hr
end
end Go.Proofs.Ytiboiociaedocaa.Leb
