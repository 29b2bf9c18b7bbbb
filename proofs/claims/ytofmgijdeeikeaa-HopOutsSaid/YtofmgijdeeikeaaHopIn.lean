/- What a farther end does: plain words. -/
import Derived.Test.YtofmgijdeeikeaaHopKinds
set_option linter.unusedVariables false
set_option linter.unusedSimpArgs false
namespace Go.Proofs.Ytofmgijdeeikeaa.Hop
open Go.RowKit Go.Proofs.Ytofmgijdeeikeaa.Mem Go.Proofs.YtofmgijdeeikeaaW.PrintWords Go.Proofs.YtofmgijdeeikeaaW.PrintLast Go.Deep
/-- How many places are taken. -/
def cntTo (f : Nat → Bool) : Nat → Nat
  | 0 => 0
  | n + 1 => cntTo f n + (if f n then 1 else 0)
theorem cntTo_le (f : Nat → Bool) : ∀ n, cntTo f n ≤ n
  | 0 => Nat.le_refl _
  | n + 1 => by have := cntTo_le f n; simp only [cntTo]; split <;> omega
theorem cntTo_congr {f g : Nat → Bool} : ∀ n, (∀ j, j < n → f j = g j) → cntTo f n = cntTo g n
  | 0, _ => rfl
  | n + 1, h => by simp only [cntTo]; rw [cntTo_congr n (fun j hj => h j (by omega)), h n (by omega)]
theorem cntTo_off {f g : Nat → Bool} {k : Nat} : ∀ n, k < n → f k = true → g k = false → (∀ j, j ≠ k → f j = g j) → cntTo f n = cntTo g n + 1
  | 0, hk, _, _, _ => by omega
  | n + 1, hk, h1, h2, h => by
    simp only [cntTo]
    by_cases e : n = k
    · subst e
      rw [cntTo_congr n (fun j hj => h j (by omega)), h1, h2]
      simp
    · rw [cntTo_off n (by omega) h1 h2 h, h n e]
      omega
theorem cntTo_pos {f : Nat → Bool} {k : Nat} : ∀ n, k < n → f k = true → 1 ≤ cntTo f n
  | 0, hk, _ => by omega
  | n + 1, hk, h => by
    simp only [cntTo]
    by_cases e : n = k
    · subst e
      rw [h]
      simp
    · have := cntTo_pos n (by omega) h
      omega
def L.cnt (l : L) : Nat := cntTo l.there 64
/-- The place of a number. -/
def L.key (l : L) (n : Int) : Nat := (n.tmod l.window).toNat
/-- What is kept under a number. -/
def L.has (l : L) (n : Int) : Bool := atB l n (l.key n)
/-- A farther end as it may be while it tells what is next. -/
structure InSt.Mid (s : InSt) : Prop where
  made : s.line.made = true
  w1 : 1 ≤ s.line.window
  w2 : s.line.window ≤ 64
  f0 : 0 ≤ s.line.from_
  f2 : s.line.from_ ≤ 2305843009213693952
  cnt : s.holds = (s.line.cnt : Int)
  in_ : ∀ k, k < 64 → s.line.there k = true → s.line.from_ + 1 ≤ (s.line.held k).seq ∧ (s.line.held k).seq < s.line.from_ + 1 + s.line.window ∧ s.line.key (s.line.held k).seq = k
/-- .. and behind a call. -/
structure InSt.Ok (s : InSt) : Prop where
  mid : s.Mid
  not : s.line.has (s.line.from_ + 1) = false
theorem key_spec {l : L} (h1 : 1 ≤ l.window) (h2 : l.window ≤ 64) {n : Int} (hn : 0 ≤ n) : n.tmod l.window = (l.key n : Int) ∧ l.key n < 64 ∧ (l.key n : Int) < l.window ∧ (l.key n : Int) = n % l.window := by
  have a := Int.tmod_nonneg l.window hn
  have b := Int.tmod_lt_of_pos n (show 0 < l.window by omega)
  have c : n.tmod l.window = n % l.window := Int.tmod_eq_emod_of_nonneg hn
  unfold L.key
  omega
/-- Two numbers of one place, within a window, are one. -/
theorem key_inj {l : L} (h1 : 1 ≤ l.window) (h2 : l.window ≤ 64) {a b f : Int} (ha : 0 ≤ f) (a1 : f ≤ a) (a2 : a < f + l.window) (b1 : f ≤ b) (b2 : b < f + l.window) (he : l.key a = l.key b) : a = b := by
  have h3 := (key_spec h1 h2 (show 0 ≤ a by omega)).2.2.2
  have h4 := (key_spec h1 h2 (show 0 ≤ b by omega)).2.2.2
  rw [he] at h3
  have h5 : a % l.window = b % l.window := by omega
  have h6 := Int.emod_add_mul_ediv a l.window
  have h7 := Int.emod_add_mul_ediv b l.window
  rw [h5] at h6
  have h8 : l.window * (a / l.window) - l.window * (b / l.window) = a - b := by omega
  rw [← Int.mul_sub] at h8
  rcases Int.lt_trichotomy (a / l.window - b / l.window) 0 with h | h | h
  · have : l.window * (a / l.window - b / l.window) ≤ l.window * (-1) := Int.mul_le_mul_of_nonneg_left (by omega) (by omega)
    omega
  · rw [h] at h8
    omega
  · have : l.window * 1 ≤ l.window * (a / l.window - b / l.window) := Int.mul_le_mul_of_nonneg_left (by omega) (by omega)
    omega
theorem has_iff (l : L) (n : Int) : l.has n = true ↔ l.there (l.key n) = true ∧ (l.held (l.key n)).seq = n := by simp [L.has, atB]
/-- The next one is told. -/
def InSt.step (s : InSt) : InSt := ⟨(s.line.setFrom (s.line.from_ + 1)).set (s.line.key (s.line.from_ + 1)) U.zero false, s.holds - 1⟩
def InSt.drain : Nat → InSt → InSt × List U
  | 0, s => (s, [])
  | n + 1, s => if s.line.has (s.line.from_ + 1) then ((s.step.drain n).1, s.line.held (s.line.key (s.line.from_ + 1)) :: (s.step.drain n).2) else (s, [])
theorem InSt.drain_no {s : InSt} (h : s.line.has (s.line.from_ + 1) = false) : ∀ n, s.drain n = (s, [])
  | 0 => rfl
  | n + 1 => by rw [InSt.drain, if_neg (by simp [h])]
theorem InSt.drain_yes {s : InSt} (h : s.line.has (s.line.from_ + 1) = true) (n : Nat) : s.drain (n + 1) = ((s.step.drain n).1, s.line.held (s.line.key (s.line.from_ + 1)) :: (s.step.drain n).2) := by rw [InSt.drain, if_pos h]
theorem InSt.Mid.step {s : InSt} (h : s.Mid) (hh : s.line.has (s.line.from_ + 1) = true) (hb : s.line.from_ < 2305843009213693952) : s.step.Mid ∧ s.step.line.cnt + 1 = s.line.cnt := by
  obtain ⟨t1, t2⟩ := (has_iff _ _).1 hh
  obtain ⟨k1, k2, k3, k4⟩ := key_spec h.w1 h.w2 (show 0 ≤ s.line.from_ + 1 by have := h.f0; omega)
  have hc : s.step.line.cnt + 1 = s.line.cnt := by
    symm
    refine cntTo_off 64 k2 t1 ?_ ?_
    · simp [InSt.step, L.set, L.setFrom]
    · intro j hj
      simp [InSt.step, L.set, L.setFrom, hj]
  refine ⟨⟨h.made, h.w1, h.w2, ?_, ?_, ?_, ?_⟩, hc⟩
  · show 0 ≤ s.line.from_ + 1
    have := h.f0
    omega
  · show s.line.from_ + 1 ≤ _
    omega
  · show s.holds - 1 = _
    have := h.cnt
    omega
  · intro k hk ht
    by_cases e : k = s.line.key (s.line.from_ + 1)
    · subst e
      simp [InSt.step, L.set, L.setFrom] at ht
    · have ht' : s.line.there k = true := by simpa [InSt.step, L.set, L.setFrom, e] using ht
      have he : (s.step.line.held k) = s.line.held k := by simp [InSt.step, L.set, L.setFrom, e]
      obtain ⟨i1, i2, i3⟩ := h.in_ k hk ht'
      have hne : (s.line.held k).seq ≠ s.line.from_ + 1 := fun e2 => e (by rw [← i3, e2])
      rw [he]
      refine ⟨?_, ?_, i3⟩
      · show s.line.from_ + 1 + 1 ≤ _
        omega
      · show _ < s.line.from_ + 1 + 1 + s.line.window
        omega
/-- With enough rounds all that is next is told. -/
theorem InSt.Mid.drained : ∀ (n : Nat) {s : InSt}, s.Mid → s.line.cnt ≤ n → s.line.from_ + n < 2305843009213693952 → (s.drain n).1.Ok
  | 0, s, h, hn, _ => by
    refine ⟨h, ?_⟩
    cases hh : s.line.has (s.line.from_ + 1) with
    | false => exact hh
    | true =>
      obtain ⟨t1, _⟩ := (has_iff _ _).1 hh
      obtain ⟨_, k2, _, _⟩ := key_spec h.w1 h.w2 (show 0 ≤ s.line.from_ + 1 by have := h.f0; omega)
      have : 1 ≤ s.line.cnt := cntTo_pos 64 k2 t1
      omega
  | n + 1, s, h, hn, hb => by
    cases hh : s.line.has (s.line.from_ + 1) with
    | false =>
      rw [InSt.drain_no hh]
      exact ⟨h, hh⟩
    | true =>
      obtain ⟨h1, h2⟩ := h.step hh (by omega)
      rw [InSt.drain_yes hh]
      exact InSt.Mid.drained n h1 (by omega) (by show s.line.from_ + 1 + (n : Int) < _; omega)
theorem cnt_le (l : L) : l.cnt ≤ 64 := cntTo_le _ _
/-- An update that comes early is kept. -/
def InSt.keep (s : InSt) (u : U) : InSt := ⟨s.line.put u, s.holds + 1⟩
/-- The next number is there. -/
def InSt.next (s : InSt) : InSt := ⟨s.line.setFrom (s.line.from_ + 1), s.holds⟩
/-- What a farther end does with an update. -/
def InSt.take (s : InSt) (u : U) : InSt × List U :=
  if s.line.from_ + 1 < u.seq ∧ u.seq < s.line.from_ + 1 + s.line.window then (if s.line.has u.seq then (s, []) else (s.keep u, []))
  else if u.seq ≠ s.line.from_ + 1 then (s, [])
  else ((s.next.drain 64).1, u :: (s.next.drain 64).2)
theorem InSt.Ok.keep {s : InSt} (h : s.Ok) {u : U} (h1 : s.line.from_ + 1 < u.seq) (h2 : u.seq < s.line.from_ + 1 + s.line.window) (hh : s.line.has u.seq = false) : (s.keep u).Ok := by
  have hf := h.mid.f0
  obtain ⟨k1, k2, k3, k4⟩ := key_spec h.mid.w1 h.mid.w2 (show 0 ≤ u.seq by omega)
  have ht : s.line.there (s.line.key u.seq) = false := by
    cases ht : s.line.there (s.line.key u.seq) with
    | false => rfl
    | true =>
      obtain ⟨i1, i2, i3⟩ := h.mid.in_ _ k2 ht
      have : (s.line.held (s.line.key u.seq)).seq = u.seq := key_inj h.mid.w1 h.mid.w2 (f := s.line.from_ + 1) (by omega) i1 i2 (by omega) h2 i3
      exact absurd ((has_iff _ _).2 ⟨ht, this⟩) (by simp [hh])
  have hc : (s.line.put u).cnt = s.line.cnt + 1 := by
    refine cntTo_off 64 k2 ?_ ht ?_
    · simp [L.put, L.set, L.key]
    · intro j hj
      have hj' : ¬ j = (u.seq.tmod s.line.window).toNat := hj
      simp [L.put, L.set, hj']
  refine ⟨⟨h.mid.made, h.mid.w1, h.mid.w2, h.mid.f0, h.mid.f2, ?_, ?_⟩, ?_⟩
  · show s.holds + 1 = ((s.line.put u).cnt : Int)
    rw [hc, h.mid.cnt]
    omega
  · intro k hk htk
    by_cases e : k = s.line.key u.seq
    · have he : (s.keep u).line.held k = u := by
        have e' : k = (u.seq.tmod s.line.window).toNat := e
        simp [InSt.keep, L.put, L.set, e']
      rw [he]
      refine ⟨?_, h2, e.symm⟩
      show s.line.from_ + 1 ≤ _
      omega
    · have e' : ¬ k = (u.seq.tmod s.line.window).toNat := e
      have ht' : s.line.there k = true := by simpa [InSt.keep, L.put, L.set, e'] using htk
      have he : (s.keep u).line.held k = s.line.held k := by simp [InSt.keep, L.put, L.set, e']
      rw [he]
      exact h.mid.in_ k hk ht'
  · have hn := h.not
    cases hh2 : (s.keep u).line.has ((s.keep u).line.from_ + 1) with
    | false => rfl
    | true =>
      obtain ⟨t1, t2⟩ := (has_iff _ _).1 hh2
      have hkk : (s.keep u).line.key ((s.keep u).line.from_ + 1) = s.line.key (s.line.from_ + 1) := rfl
      rw [hkk] at t1 t2
      by_cases e : s.line.key (s.line.from_ + 1) = s.line.key u.seq
      · have := key_inj h.mid.w1 h.mid.w2 (f := s.line.from_ + 1) (by omega) (by omega) (by have := h.mid.w1; omega) (by omega) h2 e
        omega
      · have e' : ¬ s.line.key (s.line.from_ + 1) = (u.seq.tmod s.line.window).toNat := e
        have t1' : s.line.there (s.line.key (s.line.from_ + 1)) = true := by simpa [InSt.keep, L.put, L.set, e'] using t1
        have t2' : (s.line.held (s.line.key (s.line.from_ + 1))).seq = s.line.from_ + 1 := by simpa [InSt.keep, L.put, L.set, e'] using t2
        exact absurd ((has_iff _ _).2 ⟨t1', t2'⟩) (by simp [hn])
theorem InSt.Ok.next {s : InSt} (h : s.Ok) (hb : s.line.from_ < 2305843009213693952) : s.next.Mid := by
  have hf := h.mid.f0
  refine ⟨h.mid.made, h.mid.w1, h.mid.w2, ?_, ?_, h.mid.cnt, ?_⟩
  · show 0 ≤ s.line.from_ + 1
    omega
  · show s.line.from_ + 1 ≤ _
    omega
  · intro k hk ht
    obtain ⟨i1, i2, i3⟩ := h.mid.in_ k hk ht
    have hne : (s.line.held k).seq ≠ s.line.from_ + 1 := fun e => by
      have : s.line.key (s.line.from_ + 1) = k := by rw [← e]; exact i3
      exact absurd ((has_iff s.line (s.line.from_ + 1)).2 ⟨by rw [this]; exact ht, by rw [this]; exact e⟩) (by simp [h.not])
    refine ⟨?_, ?_, i3⟩
    · show s.line.from_ + 1 + 1 ≤ (s.line.held k).seq
      omega
    · show (s.line.held k).seq < s.line.from_ + 1 + 1 + s.line.window
      omega
theorem InSt.Ok.take {s : InSt} (h : s.Ok) (u : U) (hb : s.line.from_ + 65 < 2305843009213693952) : (s.take u).1.Ok := by
  unfold InSt.take
  split
  · rename_i hw
    split
    · exact h
    · rename_i hh
      exact h.keep hw.1 hw.2 (by simpa using hh)
  · split
    · exact h
    · exact (h.next (by omega)).drained 64 (cnt_le _) (by show s.line.from_ + 1 + _ < _; omega)
theorem InSt.Ok.new {n wi : Int} (h0 : 0 ≤ n) (h1 : n ≤ 1152921504606846976) (w1 : 1 ≤ wi) (w2 : wi ≤ 64) : (⟨lineNew n wi, 0⟩ : InSt).Ok where
  mid := ⟨rfl, w1, w2, h0, by simp only [lineNew]; omega, by
    have : cntTo (fun _ => false) 64 = 0 := by decide
    show (0 : Int) = (cntTo (fun _ => false) 64 : Nat)
    rw [this]
    rfl, fun k hk ht => by simp [lineNew] at ht⟩
  not := by simp [L.has, atB, lineNew]
end Go.Proofs.Ytofmgijdeeikeaa.Hop
