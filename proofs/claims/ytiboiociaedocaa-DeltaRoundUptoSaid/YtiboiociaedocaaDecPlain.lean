/- Reading numbers, texts and updates out of bytes, in plain words: the inverse of what Encode writes. -/
import Derived.Test.YtiboiociaedocaaEncodes
set_option linter.unusedVariables false
set_option linter.unusedSimpArgs false
namespace Go.Proofs.Ytiboiociaedocaa.Leb
open Go.RowKit Go.Proofs.YtiboiociaedocaaW.PrintWords Go.Proofs.Ytiboiociaedocaa.Byt Go.Proofs.Ytiboiociaedocaa.Mem Go.Proofs.Ytiboiociaedocaa.Chk Go.Proofs.Ytiboiociaedocaa.Opn
/-- The number at the front, in its shortest form, and what stands behind. -/
def rd1 : List Int → Option (Nat × List Int)
  | [] => none
  | b :: r => if 128 ≤ b then (match rd1 r with | some (n, q) => if n = 0 then none else some (b.toNat % 128 + 128 * n, q) | none => none) else some (b.toNat, r)
theorem rd1_small {b : Int} {r : List Int} (h : b < 128) : rd1 (b :: r) = some (b.toNat, r) := by
  rw [rd1, if_neg (by omega)]
theorem rd1_big {b : Int} {r : List Int} (h : 128 ≤ b) : rd1 (b :: r) = (match rd1 r with | some (n, q) => if n = 0 then none else some (b.toNat % 128 + 128 * n, q) | none => none) := by
  rw [rd1, if_pos h]
theorem rd1_leb : ∀ (n : Nat) (r : List Int), rd1 (lebL n ++ r) = some (n, r) := by
  intro n
  induction n using Nat.strongRecOn with
  | ind n ih =>
    intro r
    by_cases h : n > 127
    · rw [lebL_big h, List.cons_append, rd1_big (by omega), ih (n / 128) (by omega) r]
      simp only
      rw [if_neg (by omega)]
      congr 2
      omega
    · rw [lebL_small h, List.singleton_append, rd1_small (by omega)]
      rfl
theorem leb_inj {n m : Nat} {r q : List Int} (h : lebL n ++ r = lebL m ++ q) : n = m ∧ r = q := by
  have h1 := rd1_leb n r
  rw [h, rd1_leb m q] at h1
  injection h1 with h1
  injection h1 with h1 h2
  exact ⟨h1.symm, h2.symm⟩
theorem leb_head {m : Nat} (hm : 0 < m) (r : List Int) : ∃ b q, lebL m ++ r = b :: q ∧ 0 < b := by
  by_cases h : m > 127
  · rw [lebL_big h]
    exact ⟨_, _, rfl, by omega⟩
  · rw [lebL_small h]
    exact ⟨_, _, rfl, by omega⟩
/-- Behind i bytes that go on, the number below them is v. -/
structure LebGo (bs : List Int) (i v : Nat) : Prop where
  lt : v < 128 ^ i
  le : i ≤ bs.length
  fwd : ∀ n r, bs = lebL n ++ r → ∃ m, n = v + 128 ^ i * m ∧ bs.drop i = lebL m ++ r ∧ (0 < i → 0 < m)
  back : ∀ m r, (0 < i → 0 < m) → bs.drop i = lebL m ++ r → bs = lebL (v + 128 ^ i * m) ++ r
theorem LebGo.start (bs : List Int) : LebGo bs 0 0 :=
  ⟨by simp, Nat.zero_le _, fun n r h => ⟨n, by simp, h, fun h => absurd h (Nat.lt_irrefl _)⟩, fun m r _ h => by simpa using h⟩
theorem LebGo.step {bs : List Int} {i v : Nat} (h : LebGo bs i v) {b : Int} (hb : bs[i]? = some b) (h1 : 128 ≤ b) (h2 : b < 256) : LebGo bs (i + 1) (v + 128 ^ i * (b.toNat - 128)) := by
  obtain ⟨hi, hbi⟩ := List.getElem?_eq_some_iff.1 hb
  have hd : bs.drop i = b :: bs.drop (i + 1) := by rw [List.drop_eq_getElem_cons hi, hbi]
  have hp : 128 ^ (i + 1) = 128 ^ i * 128 := by rw [Nat.pow_succ]
  obtain ⟨x, hx, hx1⟩ : ∃ x : Nat, b = ((x + 128 : Nat) : Int) ∧ x < 128 := ⟨b.toNat - 128, by omega, by omega⟩
  subst hx
  rw [show ((x + 128 : Nat) : Int).toNat - 128 = x by omega]
  refine ⟨?_, hi, fun n r hn => ?_, fun m r hm hr => ?_⟩
  · have h0 := h.lt
    rw [hp]
    calc v + 128 ^ i * x < 128 ^ i + 128 ^ i * x := by omega
      _ = 128 ^ i * (x + 1) := by rw [Nat.mul_add]; omega
      _ ≤ 128 ^ i * 128 := Nat.mul_le_mul_left _ (by omega)
  · obtain ⟨m, hm, hr, hp0⟩ := h.fwd n r hn
    rw [hd] at hr
    by_cases hg : m > 127
    · rw [lebL_big hg, List.cons_append] at hr
      injection hr with hr1 hr2
      refine ⟨m / 128, ?_, hr2, fun _ => by omega⟩
      rw [hm, hp, Nat.mul_assoc, Nat.add_assoc, ← Nat.mul_add, show x + 128 * (m / 128) = m by omega]
    · rw [lebL_small hg, List.singleton_append] at hr
      injection hr with hr1 hr2
      omega
  · have hm0 := hm (by omega)
    have := h.back (x + 128 * m) r (fun _ => by omega) (by
      rw [lebL_big (by omega), List.cons_append, hd, hr, show (x + 128 * m) / 128 = m by omega, show (x + 128 * m) % 128 + 128 = x + 128 by omega])
    rw [hp, Nat.mul_assoc, Nat.add_assoc, ← Nat.mul_add]
    exact this
theorem LebGo.last {bs : List Int} {i v : Nat} (h : LebGo bs i v) {b : Int} (hb : bs[i]? = some b) (h0 : 0 ≤ b) (h1 : b < 128) (h2 : 0 < i → b ≠ 0) : bs = lebL (v + 128 ^ i * b.toNat) ++ bs.drop (i + 1) := by
  obtain ⟨hi, hbi⟩ := List.getElem?_eq_some_iff.1 hb
  have hd : bs.drop i = b :: bs.drop (i + 1) := by rw [List.drop_eq_getElem_cons hi, hbi]
  refine h.back b.toNat _ (fun hi0 => by have := h2 hi0; omega) ?_
  rw [hd, lebL_small (by omega), List.singleton_append, Int.toNat_of_nonneg h0]
theorem LebGo.zero {bs : List Int} {i v : Nat} (h : LebGo bs i v) (hb : bs[i]? = some 0) (hi0 : 0 < i) (n : Nat) (r : List Int) : bs ≠ lebL n ++ r := by
  obtain ⟨hi, hbi⟩ := List.getElem?_eq_some_iff.1 hb
  have hd : bs.drop i = 0 :: bs.drop (i + 1) := by rw [List.drop_eq_getElem_cons hi, hbi]
  intro he
  obtain ⟨m, _, hr, hm⟩ := h.fwd n r he
  obtain ⟨b, q, hq, hb0⟩ := leb_head (hm hi0) r
  rw [hd, hq] at hr
  injection hr with hr
  omega
theorem LebGo.short {bs : List Int} {i v : Nat} (h : LebGo bs i v) (hi : bs.length = i) (n : Nat) (r : List Int) : bs ≠ lebL n ++ r := by
  intro he
  obtain ⟨m, _, hr, hm⟩ := h.fwd n r he
  rw [List.drop_of_length_le (by omega)] at hr
  have h2 := rd1_leb m r
  rw [← hr] at h2
  simp [rd1] at h2
theorem LebGo.long {bs : List Int} {i v : Nat} (h : LebGo bs i v) (hi : 0 < i) {n : Nat} {r : List Int} (hn : n < 128 ^ i) : bs ≠ lebL n ++ r := by
  intro he
  obtain ⟨m, hm, _, hm0⟩ := h.fwd n r he
  have := Nat.le_mul_of_pos_right (128 ^ i) (hm0 hi)
  omega
/-- A text at the front. -/
theorem lebL_len_eq {bs : List Int} {i v : Nat} (h : LebGo bs i v) {b : Int} (hb : bs[i]? = some b) (h0 : 0 ≤ b) (h1 : b < 128) (h2 : 0 < i → b ≠ 0) : (lebL (v + 128 ^ i * b.toNat)).length = i + 1 := by
  obtain ⟨hi, _⟩ := List.getElem?_eq_some_iff.1 hb
  have := congrArg List.length (h.last hb h0 h1 h2)
  rw [List.length_append, List.length_drop] at this
  omega
/-- All are bytes. -/
def IsB (bs : List Int) : Prop := ∀ x ∈ bs, 0 ≤ x ∧ x < 256
theorem strOf_bytes (s : ByteArray) : strOfNums (bytesOf s) = s := by
  cases s with
  | mk d =>
    cases d with
    | mk l =>
      simp only [strOfNums, bytesOf, List.map_map]
      congr 2
      rw [show ((fun n => UInt8.ofNat n.toNat) ∘ fun (b : UInt8) => (b.toNat : Int)) = id from funext fun b => by simp]
      simp
theorem bytes_strOf {l : List Int} (h : IsB l) : bytesOf (strOfNums l) = l := by
  rw [bytesOf, strOfNums_data, List.map_map]
  have : ∀ x ∈ l, ((fun b : UInt8 => (b.toNat : Int)) ∘ fun n : Int => UInt8.ofNat n.toNat) x = id x := by
    intro x hx
    obtain ⟨h0, h1⟩ := h x hx
    simp only [Function.comp, id, UInt8.toNat_ofNat']
    omega
  rw [List.map_congr_left this, List.map_id]
theorem lebL_isB : ∀ n, IsB (lebL n) := by
  intro n
  induction n using Nat.strongRecOn with
  | ind n ih =>
    intro x hx
    by_cases h : n > 127
    · rw [lebL_big h, List.mem_cons] at hx
      rcases hx with rfl | hx
      · omega
      · exact ih (n / 128) (by omega) x hx
    · rw [lebL_small h, List.mem_singleton] at hx
      omega
theorem rd1_some : ∀ {bs : List Int} {n : Nat} {r : List Int}, IsB bs → rd1 bs = some (n, r) → bs = lebL n ++ r
  | [], n, r, _, h => by simp [rd1] at h
  | b :: l, n, r, hb, h => by
    have hb0 := hb b (List.mem_cons_self ..)
    by_cases h1 : 128 ≤ b
    · rw [rd1_big h1] at h
      cases hq : rd1 l with
      | none => rw [hq] at h; simp at h
      | some p =>
        obtain ⟨m, q⟩ := p
        rw [hq] at h
        simp only at h
        have ih := rd1_some (fun x hx => hb x (List.mem_cons_of_mem _ hx)) hq
        split at h
        · simp at h
        · injection h with h
          injection h with h2 h3
          subst h2 h3
          rw [lebL_big (by omega), List.cons_append, show (b.toNat % 128 + 128 * m) / 128 = m by omega, ← ih]
          congr 1
          omega
    · rw [rd1_small (by omega)] at h
      injection h with h
      injection h with h2 h3
      subst h2 h3
      rw [lebL_small (by omega), List.singleton_append, Int.toNat_of_nonneg hb0.1]
/-- A number of at most 2^60. -/
def rdI (bs : List Int) : Option (Nat × List Int) := match rd1 bs with | some (n, r) => if n ≤ 1152921504606846976 then some (n, r) else none | none => none
/-- A text. -/
def rdT (bs : List Int) : Option (ByteArray × List Int) := match rd1 bs with | some (n, r) => if n ≤ r.length then some (strOfNums (r.take n), r.drop n) else none | none => none
theorem rdI_leb {n : Nat} (h : n ≤ 1152921504606846976) (r : List Int) : rdI (lebL n ++ r) = some (n, r) := by
  rw [rdI, rd1_leb]
  simp only
  rw [if_pos h]
theorem rdT_str (s : ByteArray) (r : List Int) : rdT (strB s ++ r) = some (s, r) := by
  rw [rdT, strB, List.append_assoc, rd1_leb]
  simp only
  rw [if_pos (by rw [List.length_append, bytesOf_length]; omega), List.take_append_of_le_length (by rw [bytesOf_length]; exact Nat.le_refl _), List.take_of_length_le (by rw [bytesOf_length]; exact Nat.le_refl _), strOf_bytes, List.drop_append_of_le_length (by rw [bytesOf_length]; exact Nat.le_refl _), List.drop_of_length_le (by rw [bytesOf_length]; exact Nat.le_refl _), List.nil_append]
theorem isB_right {a b : List Int} (h : IsB (a ++ b)) : IsB b := fun x hx => h x (List.mem_append_right _ hx)
theorem rdI_some {bs : List Int} {n : Nat} {r : List Int} (hb : IsB bs) (h : rdI bs = some (n, r)) : bs = lebL n ++ r ∧ n ≤ 1152921504606846976 ∧ IsB r := by
  unfold rdI at h
  split at h
  · rename_i m q hq
    split at h
    · rename_i hle
      injection h with h
      injection h with h1 h2
      subst h1 h2
      have := rd1_some hb hq
      exact ⟨this, hle, isB_right (this ▸ hb)⟩
    · simp at h
  · simp at h
theorem rdT_some {bs : List Int} {s : ByteArray} {r : List Int} (hb : IsB bs) (h : rdT bs = some (s, r)) : bs = strB s ++ r ∧ IsB r := by
  unfold rdT at h
  split at h
  · rename_i m q hq
    split at h
    · rename_i hle
      injection h with h
      injection h with h1 h2
      have he := rd1_some hb hq
      have hq' := isB_right (he ▸ hb)
      subst h1 h2
      have ht : IsB (q.take m) := fun x hx => hq' x (List.mem_of_mem_take hx)
      refine ⟨?_, fun x hx => hq' x (List.mem_of_mem_drop hx)⟩
      rw [strB, strOfNums_size, bytes_strOf ht, List.length_take, Nat.min_eq_left hle, List.append_assoc, List.take_append_drop]
      exact he
    · simp at h
  · simp at h
/-- What Decode reads. -/
def decU (bs : List Int) : Option UpdT :=
  match rdI bs with
  | none => none
  | some (sq, r1) => match rdI r1 with
    | none => none
    | some (cl, r2) => match rdI r2 with
      | none => none
      | some (nu, r3) => match rdI r3 with
        | none => none
        | some (kd, r4) => match rdT r4 with
          | none => none
          | some (key, r5) => match (if (kd : Int) = 2 then some (⟨#[]⟩, r5) else rdT r5) with
            | none => none
            | some (val, r6) => match (if (kd : Int) = 3 then rdI r6 else some (0, r6)) with
              | none => none
              | some (ver, r7) => if r7 = [] ∧ checkUpd ((sq : Int), (cl : Int), (nu : Int), (kd : Int), key, val, (ver : Int)) = 0 then some ((sq : Int), (cl : Int), (nu : Int), (kd : Int), key, val, (ver : Int)) else none
theorem ba_nil {s : ByteArray} (h : s.toList = []) : s = ⟨#[]⟩ := by
  cases s with
  | mk d =>
    have h1 : d.toList = [] := by rw [← ByteArray.toList_eq ⟨d⟩, h]
    cases d with
    | mk l =>
      simp only at h1
      subst h1
      rfl
theorem decU_enc {u : UpdT} (h : checkUpd u = 0) : decU (encU u) = some u := by
  obtain ⟨b1, b2, b3, b4, b5, b6, b7, b8, _, b10, b11, b12, b13, b14⟩ := checkUpd_bounds h
  obtain ⟨sq, cl, nu, kd, key, val, ver⟩ := u
  dsimp only at b1 b2 b3 b4 b5 b6 b7 b8 b10 b11 b12 b13 b14
  obtain ⟨sq, rfl⟩ := Int.eq_ofNat_of_zero_le (a := sq) (by omega)
  obtain ⟨cl, rfl⟩ := Int.eq_ofNat_of_zero_le (a := cl) (by omega)
  obtain ⟨nu, rfl⟩ := Int.eq_ofNat_of_zero_le (a := nu) (by omega)
  obtain ⟨kd, rfl⟩ := Int.eq_ofNat_of_zero_le (a := kd) (by omega)
  obtain ⟨ver, rfl⟩ := Int.eq_ofNat_of_zero_le (a := ver) (by omega)
  simp only [encU, lebs, Int.toNat_natCast, List.append_assoc, List.nil_append, List.append_nil]
  unfold decU
  rw [rdI_leb (by omega)]
  simp only
  rw [rdI_leb (by omega)]
  simp only
  rw [rdI_leb (by omega)]
  simp only
  rw [rdI_leb (by omega)]
  simp only
  rw [rdT_str]
  simp only
  have e1 : (if (kd : Int) = 2 then some ((⟨#[]⟩ : ByteArray), (if (kd : Int) = 2 then [] else strB val) ++ (if (kd : Int) = 3 then lebL ver else [])) else rdT ((if (kd : Int) = 2 then [] else strB val) ++ (if (kd : Int) = 3 then lebL ver else []))) = some (val, (if (kd : Int) = 3 then lebL ver else [])) := by
    by_cases hk : (kd : Int) = 2
    · rw [if_pos hk, if_pos hk, ba_nil (b13 hk)]
      rfl
    · rw [if_neg hk, if_neg hk, rdT_str]
  rw [e1]
  simp only
  have e2 : (if (kd : Int) = 3 then rdI (if (kd : Int) = 3 then lebL ver else []) else some (0, (if (kd : Int) = 3 then lebL ver else []))) = some (ver, []) := by
    by_cases hk : (kd : Int) = 3
    · rw [if_pos hk, if_pos hk]
      have := rdI_leb (n := ver) (by omega) []
      rwa [List.append_nil] at this
    · rw [if_neg hk, if_neg hk]
      have := b14 hk
      rw [show ver = 0 by omega]
  rw [e2]
  simp only
  rw [if_pos ⟨trivial, h⟩]
theorem enc_decU {bs : List Int} {u : UpdT} (hb : IsB bs) (h : decU bs = some u) : checkUpd u = 0 ∧ encU u = bs := by
  unfold decU at h
  split at h
  · simp at h
  rename_i sq r1 h1
  obtain ⟨e1, n1, hb1⟩ := rdI_some hb h1
  split at h
  · simp at h
  rename_i cl r2 h2
  obtain ⟨e2, n2, hb2⟩ := rdI_some hb1 h2
  split at h
  · simp at h
  rename_i nu r3 h3
  obtain ⟨e3, n3, hb3⟩ := rdI_some hb2 h3
  split at h
  · simp at h
  rename_i kd r4 h4
  obtain ⟨e4, n4, hb4⟩ := rdI_some hb3 h4
  split at h
  · simp at h
  rename_i key r5 h5
  obtain ⟨e5, hb5⟩ := rdT_some hb4 h5
  split at h
  · simp at h
  rename_i val r6 h6
  have e6 : r5 = (if (kd : Int) = 2 then [] else strB val) ++ r6 ∧ IsB r6 := by
    by_cases hk : (kd : Int) = 2
    · rw [if_pos hk] at h6 ⊢
      injection h6 with h6
      injection h6 with _ h6
      subst h6
      exact ⟨rfl, hb5⟩
    · rw [if_neg hk] at h6 ⊢
      exact rdT_some hb5 h6
  split at h
  · simp at h
  rename_i ver r7 h7
  have e7 : r6 = (if (kd : Int) = 3 then lebL ver else []) ++ r7 := by
    by_cases hk : (kd : Int) = 3
    · rw [if_pos hk] at h7 ⊢
      exact (rdI_some e6.2 h7).1
    · rw [if_neg hk] at h7 ⊢
      injection h7 with h7
      exact congrArg Prod.snd h7
  split at h
  · rename_i hc
    obtain ⟨rfl, hc⟩ := hc
    injection h with h
    subst h
    refine ⟨hc, ?_⟩
    simp only [encU, lebs, Int.toNat_natCast, List.append_assoc, List.nil_append]
    rw [List.append_nil] at e7
    rw [← e7, ← e6.1, ← e5, ← e4, ← e3, ← e2, ← e1]
  · simp at h
theorem decU_iff {bs : List Int} (hb : IsB bs) (u : UpdT) : decU bs = some u ↔ checkUpd u = 0 ∧ encU u = bs :=
  ⟨enc_decU hb, fun ⟨h1, h2⟩ => by rw [← h2]; exact decU_enc h1⟩
end Go.Proofs.Ytiboiociaedocaa.Leb
