/- What the printed readers of numbers come to: the number at the front in its shortest form. -/
import Derived.Test.YtiboiociaedocaaDecPlain
import Derived.Test.YtiboiociaedocaaCutDec
import Derived.Laws.BitsAllLaws
set_option linter.unusedVariables false
set_option linter.unusedSimpArgs false
namespace Go.Proofs.Ytiboiociaedocaa.Leb
open Go.RowKit Go.Proofs.YtiboiociaedocaaW.PrintWords Go.Proofs.YtiboiociaedocaaW.PrintMore Go.Proofs.Ytiboiociaedocaa.CutDec
theorem and127 : ∀ x : Fin 256, bits .and .u8 (x.val : Int) 127 = ((x.val % 128 : Nat) : Int) := by decide +kernel
theorem and_byte {b : Int} (h0 : 0 ≤ b) (h1 : b < 256) : bits .and .u8 b 127 = ((b.toNat % 128 : Nat) : Int) := by
  have h := and127 ⟨b.toNat, by omega⟩
  simp only at h
  rwa [Int.toNat_of_nonneg h0] at h
theorem pow_seven (i : Nat) : 128 ^ i = 2 ^ (7 * i) := by
  rw [Nat.pow_mul]
theorem or_add {v i x : Nat} (hv : v < 128 ^ i) (hs : v + 128 ^ i * x < 18446744073709551616) : bits .or .u64 (v : Int) ((128 ^ i * x : Nat) : Int) = ((v + 128 ^ i * x : Nat) : Int) := by
  have h1 : 128 ^ i * x < 18446744073709551616 := by omega
  rw [u64_or_nat v (128 ^ i * x) (by omega) h1]
  congr 1
  rw [pow_seven] at hv ⊢
  have := Nat.shiftLeft_add_eq_or_of_lt hv x
  rw [Nat.shiftLeft_eq, Nat.mul_comm] at this
  rw [Nat.or_comm, ← this, Nat.add_comm]

theorem wrap7 {i : Nat} (hi : i ≤ 9) : wrap64 (7 * (i : Int)) = ((7 * i : Nat) : Int) := by unfold wrap64; omega
theorem wrap7_nn {i : Nat} (hi : i ≤ 9) : 0 ≤ wrap64 (7 * (i : Int)) := by rw [wrap7 hi]; omega
theorem wrap_s {i : Nat} (hi : i ≤ 10) : wrap64 ((i : Int) + 1) = ((i + 1 : Nat) : Int) := by unfold wrap64; omega
theorem wrap7s {i : Nat} (hi : i ≤ 9) : wrap64 (((7 * i : Nat) : Int) + 7) = ((7 * (i + 1) : Nat) : Int) := by unfold wrap64; omega
theorem u7 {i : Nat} (hi : i ≤ 9) : IntKind.u64.wrap ((7 * i : Nat) : Int) = ((7 * i : Nat) : Int) := by rw [IntKind.wrap_u64]; omega
theorem u7_nn {i : Nat} (hi : i ≤ 9) : 0 ≤ IntKind.u64.wrap ((7 * i : Nat) : Int) := by rw [u7 hi]; omega
theorem w64_nat {n : Nat} (h : n < 9223372036854775808) : wrap64 (n : Int) = (n : Int) := by unfold wrap64; omega
theorem u64_nat {n : Nat} (h : n < 18446744073709551616) : IntKind.u64.wrap (n : Int) = (n : Int) := by rw [IntKind.wrap_u64]; omega
theorem lift_pow (x i : Nat) : (x : Int) * 2 ^ i = ((2 ^ i * x : Nat) : Int) := by push_cast; rw [Int.mul_comm]
theorem shl_seven {i x : Nat} (hi : i ≤ 9) (hs : 128 ^ i * x < 18446744073709551616) : shl .u64 ((x : Nat) : Int) (wrap64 (7 * (i : Int))) = ((128 ^ i * x : Nat) : Int) := by
  rw [wrap7 hi, shl, Int.toNat_natCast, Nat.min_eq_left (show 7 * i ≤ IntKind.bits .u64 by show 7 * i ≤ 64; omega), lift_pow, ← pow_seven, u64_nat hs]
theorem rd_at {bs : List Int} {i : Nat} {b : Int} (h : bs[i]? = some b) : rd bs (i : Int) = b := by
  simp [rd, h]
/-- A number below 2^64, 2^62. -/
def rd64 (bs : List Int) : Option (Nat × List Int) := match rd1 bs with | some (n, r) => if n < 18446744073709551616 then some (n, r) else none | none => none
def rd62 (bs : List Int) : Option (Nat × List Int) := match rd1 bs with | some (n, r) => if n ≤ 4611686018427387904 then some (n, r) else none | none => none
theorem rd64_none {bs : List Int} (hB : IsB bs) (h : ∀ n r, n < 18446744073709551616 → bs ≠ lebL n ++ r) : rd64 bs = none := by
  unfold rd64
  split
  · rename_i n r hr
    rw [if_neg (fun hn => h n r hn (rd1_some hB hr))]
  · rfl
theorem rd64_some {bs : List Int} {n : Nat} {r : List Int} (h : bs = lebL n ++ r) (hn : n < 18446744073709551616) : rd64 bs = some (n, r) := by
  rw [rd64, h, rd1_leb]
  exact if_pos hn
theorem rd62_none {bs : List Int} (hB : IsB bs) (h : ∀ n r, n ≤ 4611686018427387904 → bs ≠ lebL n ++ r) : rd62 bs = none := by
  unfold rd62
  split
  · rename_i n r hr
    rw [if_neg (fun hn => h n r hn (rd1_some hB hr))]
  · rfl
theorem rd62_some {bs : List Int} {n : Nat} {r : List Int} (h : bs = lebL n ++ r) (hn : n ≤ 4611686018427387904) : rd62 bs = some (n, r) := by
  rw [rd62, h, rd1_leb]
  exact if_pos hn
/-- What leb.Decode answers. -/
def Dec64 (bs : List Int) (r : Int × Int × Int) : Prop := match rd64 bs with | some (n, q) => r = ((n : Int), (((lebL n).length : Nat) : Int), 0) | none => r.1 = 0 ∧ r.2.1 = 0 ∧ r.2.2 ≠ 0
def Dec62 (bs : List Int) (r : Int × Int) : Prop := match rd62 bs with | some (n, q) => r = ((n : Int), (((lebL n).length : Nat) : Int)) | none => r = (0, 0)
theorem pow9 : (128 : Nat) ^ 9 = 9223372036854775808 := by decide
theorem pow8 : (128 : Nat) ^ 8 = 72057594037927936 := by decide
theorem pow_le {i j : Nat} (h : i ≤ j) : (128 : Nat) ^ i ≤ 128 ^ j := Nat.pow_le_pow_right (by decide) h
theorem dec_bad {bs : List Int} (hn : rd64 bs = none) {c : Int} (hc : c ≠ 0) : Dec64 bs (0, 0, c) := by
  rw [Dec64, hn]
  exact ⟨rfl, rfl, hc⟩
theorem dec_good {bs : List Int} {n : Nat} {q : List Int} (hn : rd64 bs = some (n, q)) {m : Nat} (hm : (lebL n).length = m) : Dec64 bs ((n : Int), (m : Int), 0) := by
  rw [Dec64, hn, ← hm]
theorem dec_small {i v x : Nat} (hi : i ≤ 9) (hv : v < 128 ^ i) (hx : x < 128) (h9 : i = 9 → x ≤ 1) : 128 ^ i * x < 18446744073709551616 ∧ v + 128 ^ i * x < 18446744073709551616 := by
  by_cases h : i = 9
  · have := h9 h
    rw [h, pow9] at hv ⊢
    omega
  · have h8 := pow_le (i := i) (j := 8) (by omega)
    have h2 : 128 ^ i * x ≤ 128 ^ 8 * 127 := Nat.mul_le_mul h8 (by omega)
    rw [pow8] at h2 h8
    omega
theorem dec_val {i v : Nat} {b : Int} (hi : i ≤ 9) (hv : v < 128 ^ i) (hb0 : 0 ≤ b) (hb : b < 128) (h9 : i = 9 → b ≤ 1) : Go.bits .or .u64 (v : Int) (shl .u64 (IntKind.u64.wrap b) (wrap64 (7 * (i : Int)))) = ((v + 128 ^ i * b.toNat : Nat) : Int) := by
  obtain ⟨h1, h2⟩ := dec_small hi hv (x := b.toNat) (by omega) (fun h => by have := h9 h; omega)
  have hbn : IntKind.u64.wrap b = IntKind.u64.wrap ((b.toNat : Nat) : Int) := by rw [Int.toNat_of_nonneg hb0]
  rw [hbn, u64_nat (by omega), shl_seven hi h1, or_add hv h2]
theorem dec_last {bs : List Int} (hB : IsB bs) {i v : Nat} (hg : LebGo bs i v) (hi : i ≤ 9) {b : Int} (hb : bs[i]? = some b) (hb0 : 0 ≤ b) (hb2 : b < 128) (h9 : i = 9 → b ≤ 1) (d : Nat) : ∃ r, leb_Decode.j1 (d + 1) (v : Int) (i : Int) b false = some r ∧ Dec64 bs r := by
  obtain ⟨h1, h2⟩ := dec_small hi hg.lt (x := b.toNat) (by omega) (fun h => by have := h9 h; omega)
  have hval := dec_val hi hg.lt hb0 hb2 h9
  rw [leb_Decode.j1, if_neg (by decide), if_pos (wrap7_nn hi), hval, wrap_s (by omega)]
  by_cases hi0 : (i : Int) > 0
  · rw [if_pos hi0]
    by_cases hz : b = 0
    · rw [if_pos hz]
      subst hz
      exact ⟨_, rfl, dec_bad (rd64_none hB (fun n r _ => hg.zero hb (by omega) n r)) (by decide)⟩
    · rw [if_neg hz]
      exact ⟨_, rfl, dec_good (rd64_some (hg.last hb hb0 hb2 (fun _ => hz)) h2) (lebL_len_eq hg hb hb0 hb2 (fun _ => hz))⟩
  · rw [if_neg hi0]
    have h0 : 0 < i → b ≠ 0 := fun h => absurd h (by omega)
    exact ⟨_, rfl, dec_good (rd64_some (hg.last hb hb0 hb2 h0) h2) (lebL_len_eq hg hb hb0 hb2 h0)⟩
theorem dec_nine {bs : List Int} (hB : IsB bs) {v : Nat} (hg : LebGo bs 9 v) {b : Int} (hb : bs[9]? = some b) (h1 : 1 < b) (hb2 : b < 128) : rd64 bs = none :=
  rd64_none hB fun n r hn he => by
    have h2 := hg.last hb (by omega) hb2 (fun _ => by omega)
    have h3 := (leb_inj (he.symm.trans h2)).1
    rw [pow9] at h3
    omega
theorem dec_more {bs : List Int} {i v : Nat} (hg : LebGo bs i v) (hi : i ≤ 8) {b : Int} (hb : bs[i]? = some b) (h1 : 128 ≤ b) (hb1 : b < 256) : Go.bits .or .u64 (v : Int) (shl .u64 (IntKind.u64.wrap (Go.bits .and .u8 b 127)) (wrap64 (7 * (i : Int)))) = ((v + 128 ^ i * (b.toNat - 128) : Nat) : Int) := by
  have hp := pow_le (i := i + 1) (j := 9) (by omega)
  have hs := (hg.step hb h1 hb1).lt
  rw [pow9] at hp
  rw [and_byte (by omega) hb1, show b.toNat % 128 = b.toNat - 128 by omega, u64_nat (by omega), shl_seven (by omega) (by omega), or_add hg.lt (by omega)]
theorem dec_go {bs : List Int} (hB : IsB bs) (hl : bs.length < 1152921504606846976) (d : Nat) : ∀ (i v : Nat), LebGo bs i v → i ≤ 9 → i + d = bs.length → ∃ r, leb_Decode.l0 (d + 2) bs (v : Int) bs (bs.length : Int) (i : Int) = some r ∧ Dec64 bs r := by
  induction d with
  | zero =>
    intro i v hg hi hd
    have hn := rd64_none hB (fun n r _ => hg.short (by omega) n r)
    rw [leb_Decode.l0, if_neg (by omega)]
    by_cases h10 : (bs.length : Int) < 10
    · exact ⟨_, if_pos h10, dec_bad hn (by decide)⟩
    · exact ⟨_, if_neg h10, dec_bad hn (by decide)⟩
  | succ d ih =>
    intro i v hg hi hd
    have hlt : i < bs.length := by omega
    have hb := List.getElem?_eq_getElem hlt
    obtain ⟨hb0, hb1⟩ := hB _ (List.getElem_mem hlt)
    generalize bs[i] = b at hb hb0 hb1
    rw [leb_Decode.l0, if_pos (by omega), if_pos (by omega), if_pos (by omega), if_neg (by omega), rd_at hb]
    by_cases h1 : b ≥ 128
    · rw [if_pos h1, if_pos (wrap7_nn hi)]
      by_cases h9 : i = 9
      · subst h9
        have hn := rd64_none hB (fun n r h => (hg.step hb h1 hb1).long (by omega) (n := n) (r := r) (Nat.lt_of_lt_of_le h (by decide)))
        refine ⟨(0, 0, 11), ?_, dec_bad hn (by decide)⟩
        rw [leb_Decode.l0, show wrap64 ((((9 : Nat) : Int)) + 1) = 10 from wrap_s (by decide)]
        by_cases h10 : (10 : Int) < (bs.length : Int)
        · rw [if_pos h10, if_pos (by decide), if_pos h10, if_pos rfl, if_neg (by omega)]
        · rw [if_neg h10, if_neg (by omega)]
      · rw [dec_more hg (by omega) hb h1 hb1, wrap_s (by omega)]
        exact ih (i + 1) _ (hg.step hb h1 hb1) (by omega) (by omega)
    · rw [if_neg h1]
      have hb2 : b < 128 := by omega
      by_cases h9 : (i : Int) = 9
      · rw [if_pos h9]
        by_cases hb1' : b > 1
        · rw [decide_eq_true hb1', leb_Decode.j1, if_pos rfl]
          have hi9 : i = 9 := by omega
          subst hi9
          exact ⟨_, rfl, dec_bad (dec_nine hB hg hb hb1' hb2) (by decide)⟩
        · rw [decide_eq_false hb1']
          exact dec_last hB hg hi hb hb0 hb2 (fun _ => by omega) _
      · rw [if_neg h9]
        exact dec_last hB hg hi hb hb0 hb2 (fun h => absurd h (by omega)) _
theorem dec_eq {bs : List Int} (hB : IsB bs) (hl : bs.length < 1152921504606846976) : ∃ r, leb_Decode.f (bs.length + 2) bs = some r ∧ Dec64 bs r :=
  dec_go hB hl bs.length 0 0 (LebGo.start bs) (by omega) (by omega)
theorem shl_i64 {i x : Nat} (hi : i ≤ 8) (hs : 128 ^ i * x < 9223372036854775808) : shl .i64 ((x : Nat) : Int) (IntKind.u64.wrap ((7 * i : Nat) : Int)) = ((128 ^ i * x : Nat) : Int) := by
  rw [u7 (by omega), shl, Int.toNat_natCast, Nat.min_eq_left (show 7 * i ≤ IntKind.bits .i64 by show 7 * i ≤ 64; omega), lift_pow, ← pow_seven]
  exact (Go.Proofs.YtiboiociaedocaaW.PrintLast.i64_w _).trans (w64_nat hs)
theorem tmod128 {b : Int} (h : 0 ≤ b) : Int.tmod b 128 = ((b.toNat % 128 : Nat) : Int) := by
  obtain ⟨m, rfl⟩ := Int.eq_ofNat_of_zero_le h
  rfl
theorem read_sum {i v : Nat} {b : Int} (hi : i ≤ 8) (hv : v < 128 ^ i) (hb0 : 0 ≤ b) : wrap64 ((v : Int) + shl .i64 (wrap64 (Int.tmod b 128)) (IntKind.u64.wrap ((7 * i : Nat) : Int))) = ((v + 128 ^ i * (b.toNat % 128) : Nat) : Int) := by
  have hp := pow_le hi
  have hs : 128 ^ i * (b.toNat % 128) ≤ 128 ^ i * 127 := Nat.mul_le_mul_left _ (by omega)
  rw [pow8] at hp
  rw [tmod128 hb0, w64_nat (by omega), shl_i64 hi (by omega), ← Int.natCast_add, w64_nat (by omega)]
theorem rdr_bad {bs : List Int} (hn : rd62 bs = none) : Dec62 bs (0, 0) := by
  rw [Dec62, hn]
theorem rdr_good {bs : List Int} {n : Nat} {q : List Int} (hn : rd62 bs = some (n, q)) {m : Nat} (hm : (lebL n).length = m) : Dec62 bs ((n : Int), (m : Int)) := by
  rw [Dec62, hn, ← hm]
theorem read_fin {bs : List Int} (hB : IsB bs) {m : Nat} {n : Nat} {q : List Int} (he : bs = lebL n ++ q) (hm : (lebL n).length = m) : ∃ r, (if ((n : Nat) : Int) < 0 then some ((0 : Int), (0 : Int)) else if ((n : Nat) : Int) > 4611686018427387904 then some (0, 0) else some ((n : Int), (m : Int))) = some r ∧ Dec62 bs r := by
  rw [if_neg (by omega)]
  by_cases hbig : ((n : Nat) : Int) > 4611686018427387904
  · rw [if_pos hbig]
    exact ⟨_, rfl, rdr_bad (rd62_none hB (fun k r h he2 => by
      have h3 := (leb_inj (he2.symm.trans he)).1
      omega))⟩
  · rw [if_neg hbig]
    exact ⟨_, rfl, rdr_good (rd62_some he (by omega)) hm⟩
theorem read_go {bs : List Int} (hB : IsB bs) (hl : bs.length < 1152921504606846976) (d : Nat) : ∀ (i v : Nat), LebGo bs i v → i ≤ 9 → i + d = bs.length → ∃ r, hawserref08_Read.l0 (d + d + 2) bs (v : Int) ((7 * i : Nat) : Int) (i : Int) = some r ∧ Dec62 bs r := by
  induction d with
  | zero =>
    intro i v hg hi hd
    rw [hawserref08_Read.l0, if_neg (by omega), hawserref08_Read.j1, if_neg (by decide)]
    exact ⟨_, rfl, rdr_bad (rd62_none hB (fun n r _ => hg.short (by omega) n r))⟩
  | succ d ih =>
    intro i v hg hi hd
    have hlt : i < bs.length := by omega
    have hb := List.getElem?_eq_getElem hlt
    obtain ⟨hb0, hb1⟩ := hB _ (List.getElem_mem hlt)
    generalize bs[i] = b at hb hb0 hb1
    rw [show d + 1 + (d + 1) + 2 = (d + d + 2) + 1 + 1 by omega, hawserref08_Read.l0, if_pos (by omega)]
    by_cases h9 : i = 9
    · subst h9
      have hn := rd62_none hB (fun n r h => hg.long (by omega) (n := n) (r := r) (by rw [pow9]; omega))
      rw [show decide (((9 : Nat) : Int) < 9) = false by decide, hawserref08_Read.j1, if_neg (by decide)]
      exact ⟨_, rfl, rdr_bad hn⟩
    · have hd9 : decide ((i : Int) < 9) = true := decide_eq_true (by omega)
      have hi0 : 0 ≤ (i : Int) := by omega
      have hil : (i : Int) < (bs.length : Int) := by omega
      rw [hd9, hawserref08_Read.j1, if_pos rfl, if_pos hi0, if_pos hil, if_pos (u7_nn (by omega)), rd_at hb, read_sum (by omega) hg.lt hb0, wrap_s (by omega), wrap7s (by omega)]
      by_cases h1 : b < 128
      · have hm : b.toNat % 128 = b.toNat := by omega
        rw [if_pos h1, hm]
        by_cases hi0 : (i : Int) > 0
        · rw [if_pos hi0]
          by_cases hz : b = 0
          · rw [if_pos hz]
            subst hz
            exact ⟨_, rfl, rdr_bad (rd62_none hB (fun n r _ => hg.zero hb (by omega) n r))⟩
          · rw [if_neg hz]
            exact read_fin hB (hg.last hb hb0 h1 (fun _ => hz)) (lebL_len_eq hg hb hb0 h1 (fun _ => hz))
        · rw [if_neg hi0]
          have h0 : 0 < i → b ≠ 0 := fun h => absurd h (by omega)
          exact read_fin hB (hg.last hb hb0 h1 h0) (lebL_len_eq hg hb hb0 h1 h0)
      · have hm : b.toNat % 128 = b.toNat - 128 := by omega
        rw [if_neg h1, hm]
        exact ih (i + 1) _ (hg.step hb (by omega) hb1) (by omega) (by omega)
theorem read_eq {bs : List Int} (hB : IsB bs) (hl : bs.length < 1152921504606846976) : ∃ r, hawserref08_Read.f (bs.length + bs.length + 2) bs = some r ∧ Dec62 bs r :=
  read_go hB hl bs.length 0 0 (LebGo.start bs) (by omega) (by omega)
end Go.Proofs.Ytiboiociaedocaa.Leb
