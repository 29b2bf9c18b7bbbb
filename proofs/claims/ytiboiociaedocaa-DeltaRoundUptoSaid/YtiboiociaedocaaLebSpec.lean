/- Numbers in groups of seven bits: what put, Encode and the document's number and text write, in plain words. -/
import Derived.Test.YtiboiociaedocaaCutLeb
set_option linter.unusedVariables false
set_option linter.unusedSimpArgs false
namespace Go.Proofs.Ytiboiociaedocaa.Leb
open Go.RowKit Go.Proofs.Ytiboiociaedocaa.CutLeb Go.Proofs.YtiboiociaedocaaW.PrintWords

/-- The bytes of a number. -/
def lebL (n : Nat) : List Int := if n > 127 then ((n % 128 + 128 : Nat) : Int) :: lebL (n / 128) else [(n : Int)]
termination_by n
theorem lebL_big {n : Nat} (h : n > 127) : lebL n = ((n % 128 + 128 : Nat) : Int) :: lebL (n / 128) := by rw [lebL, if_pos h]
theorem lebL_small {n : Nat} (h : ¬ n > 127) : lebL n = [(n : Int)] := by rw [lebL, if_neg h]

theorem or128 : ∀ x : Fin 256, Go.bits .or .u8 (x.val : Int) 128 = ((x.val % 128 + 128 : Nat) : Int) := by decide +kernel
theorem or_byte (n : Nat) : Go.bits .or .u8 ((n : Int) % 256) 128 = ((n % 128 + 128 : Nat) : Int) := by
  have h := or128 ⟨n % 256, Nat.mod_lt _ (by omega)⟩
  simp only at h
  rw [show ((n : Int) % 256) = ((n % 256 : Nat) : Int) by omega, h]
  congr 2
  omega

theorem lebL_len : ∀ (k n : Nat), n < 128 ^ (k + 1) → (lebL n).length ≤ k + 1
  | 0, n, h => by rw [lebL_small (by omega)]; simp
  | k + 1, n, h => by
    by_cases h1 : n > 127
    · rw [lebL_big h1]
      have := lebL_len k (n / 128) (by rw [Nat.div_lt_iff_lt_mul (by omega)]; rw [Nat.pow_succ] at h; exact h)
      simp only [List.length_cons]; omega
    · rw [lebL_small h1]; simp
theorem lebL_pos (n : Nat) : 1 ≤ (lebL n).length := by
  rw [lebL]; split <;> simp
theorem lebL_len10 {n : Nat} (h : n < 18446744073709551616) : (lebL n).length ≤ 10 :=
  lebL_len 9 n (Nat.lt_of_lt_of_le h (by decide))

theorem put_f : ∀ (k n : Nat) (l : List Int), n < 128 ^ (k + 1) → l.length + k < 140737488355328 → leb_put.l0 (k + 1) l (n : Int) = some (l ++ lebL n)
  | 0, n, l, h, hl => by
    simp only [leb_put.l0]
    rw [if_neg (by omega), if_pos (by omega), lebL_small (by omega), show ((n : Int) % 256) = n by omega]
  | k + 1, n, l, h, hl => by
    by_cases h1 : n > 127
    · have ih := put_f k (n / 128) (l ++ [((n % 128 + 128 : Nat) : Int)]) (by rw [Nat.div_lt_iff_lt_mul (by omega)]; rw [Nat.pow_succ] at h; exact h) (by simp; omega)
      rw [leb_put.l0, if_pos (by omega), if_pos (by omega), or_byte, show ((n : Int) / 128) = ((n / 128 : Nat) : Int) by omega, ih, lebL_big h1]
      simp
    · rw [leb_put.l0, if_neg (by omega), if_pos (by omega), lebL_small h1, show ((n : Int) % 256) = n by omega]

theorem put_eq (n : Nat) (l : List Int) (h : n < 18446744073709551616) (hl : l.length + 9 < 140737488355328) : leb_put.f 10 l (n : Int) = some (l ++ lebL n) :=
  put_f 9 n l (Nat.lt_of_lt_of_le h (by decide)) hl

theorem number_f : ∀ (k n : Nat) (l : List Int), n < 128 ^ (k + 1) → n < 9223372036854775808 → l.length + k < 140737488355328 → hawserref08_number.l0 (k + 1) (n : Int) l = some (l ++ lebL n)
  | 0, n, l, h, hn, hl => by
    simp only [hawserref08_number.l0]
    rw [if_neg (by omega), if_pos (by omega), lebL_small (by omega), show ((n : Int) % 256) = n by omega]
  | k + 1, n, l, h, hn, hl => by
    by_cases h1 : n > 127
    · have ih := number_f k (n / 128) (l ++ [((n % 128 + 128 : Nat) : Int)]) (by rw [Nat.div_lt_iff_lt_mul (by omega)]; rw [Nat.pow_succ] at h; exact h) (by omega) (by simp; omega)
      have e1 : wrap64 (Int.tdiv (n : Int) 128) = ((n / 128 : Nat) : Int) := by
        rw [show Int.tdiv (n : Int) 128 = ((n / 128 : Nat) : Int) from rfl]; unfold wrap64; omega
      have e2 : (wrap64 (Int.tmod (n : Int) 128 + 128)) % 256 = ((n % 128 + 128 : Nat) : Int) := by
        rw [show Int.tmod (n : Int) 128 = ((n % 128 : Nat) : Int) from rfl]; unfold wrap64; omega
      rw [hawserref08_number.l0, if_pos (by omega), if_pos (by omega), e1, e2, ih, lebL_big h1]
      simp
    · rw [hawserref08_number.l0, if_neg (by omega), if_pos (by omega), lebL_small h1, show ((n : Int) % 256) = n by omega]
theorem number_eq (n : Nat) (h : n < 9223372036854775808) : hawserref08_number.f 9 (n : Int) = some (lebL n) := by
  have := number_f 8 n [] (Nat.lt_of_lt_of_le h (by decide)) h (by decide)
  rw [List.nil_append] at this
  exact this

/-- The bytes of several numbers. -/
def lebs : List Nat → List Int
  | [] => []
  | n :: l => lebL n ++ lebs l
theorem lebs_snoc (l : List Nat) (n : Nat) : lebs (l ++ [n]) = lebs l ++ lebL n := by
  induction l with
  | nil => simp [lebs]
  | cons a l ih => simp [lebs, ih]

theorem put_ge (n : Nat) (l : List Int) (h : n < 18446744073709551616) (hl : l.length + 9 < 140737488355328) (k : Nat) (hk : 10 ≤ k) : leb_put.f k l (n : Int) = some (l ++ lebL n) :=
  at_rounds (g := fun k => leb_put.f k l (n : Int)) (fun k => leb_put.mono _ _ k) hk (put_eq n l h hl)
theorem encode_f (l : List Nat) (hl : l.length ≤ 1000) (hn : ∀ n ∈ l, n < 18446744073709551616) (d : Nat) : ∀ (k j : Nat) (acc : List Int), l.length = j + d → acc.length ≤ 10 * j → d + 10 ≤ k →
    leb_Encode.l0 (k + 1) acc (l.map (Int.ofNat)) (l.length : Int) (j : Int) = some (acc ++ lebs (l.drop j)) := by
  induction d with
  | zero =>
    intro k j acc hd ha hk
    simp only [leb_Encode.l0]
    rw [if_neg (by omega), List.drop_of_length_le (by omega)]
    simp [lebs]
  | succ d ih =>
    intro k j acc hd ha hk
    obtain ⟨k, rfl⟩ : ∃ m, k = m + 1 := ⟨k - 1, by omega⟩
    have hj : j < l.length := by omega
    have hm := hn _ (List.getElem_mem hj)
    have hr : rd (l.map Int.ofNat) (j : Int) = ((l[j] : Nat) : Int) := by simp [rd, hj]
    have hp : leb_put.f (k + 1) acc ((l[j] : Nat) : Int) = some (acc ++ lebL l[j]) :=
      put_ge _ _ hm (by omega) _ (by omega)
    have h10 := lebL_len10 hm
    have ih := ih k (j + 1) (acc ++ lebL l[j]) (by omega) (by rw [List.length_append]; omega) (by omega)
    rw [leb_Encode.l0, if_pos (by omega), if_pos (by omega), if_pos (by rw [List.length_map]; omega), hr, hp, Option.bind_some]
    rw [show wrap64 ((j : Int) + 1) = ((j + 1 : Nat) : Int) by unfold wrap64; omega, ih, List.drop_eq_getElem_cons hj]
    simp [lebs]
theorem encode_eq (l : List Nat) (hl : l.length ≤ 1000) (hn : ∀ n ∈ l, n < 18446744073709551616) : leb_Encode.f (l.length + 11) (l.map Int.ofNat) = some (lebs l) := by
  have := encode_f l hl hn l.length (l.length + 10) 0 [] (by omega) (by simp) (by omega)
  rw [List.nil_append, List.drop_zero] at this
  unfold leb_Encode.f
  rw [List.length_map]
  exact this
theorem text_eq (s : ByteArray) (h : s.size < 140737488355318) : hawserref08_text.f 9 s = some (lebL s.size ++ bytesOf s) := by
  have := lebL_len10 (n := s.size) (by omega)
  rw [hawserref08_text.f, number_eq _ (by omega)]
  simp only [Option.bind_some]
  rw [if_pos (by omega)]
end Go.Proofs.Ytiboiociaedocaa.Leb
