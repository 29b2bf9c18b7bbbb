/- What a farther end tells: plain words. -/
import Derived.Test.YtofmgijdeeikeaaHopEq
set_option linter.unusedVariables false
set_option linter.unusedSimpArgs false
namespace Go.Proofs.Ytofmgijdeeikeaa.Hop
open Go.RowKit Go.Proofs.Ytofmgijdeeikeaa.Mem Go.Proofs.YtofmgijdeeikeaaW.PrintWords Go.Proofs.YtofmgijdeeikeaaW.PrintLast Go.Deep
/-- An update is kept. -/
def InSt.keeps (s : InSt) (x : U) : Prop := ∃ k, k < 64 ∧ s.line.there k = true ∧ s.line.held k = x
theorem keeps_step {s : InSt} {x : U} (h : s.step.keeps x) : s.keeps x := by
  obtain ⟨k, hk, ht, he⟩ := h
  by_cases e : k = s.line.key (s.line.from_ + 1)
  · subst e
    simp [InSt.step, L.set, L.setFrom] at ht
  · exact ⟨k, hk, by simpa [InSt.step, L.set, L.setFrom, e] using ht, by simpa [InSt.step, L.set, L.setFrom, e] using he⟩
theorem drain_props : ∀ (n : Nat) {s : InSt}, s.Mid → s.line.from_ + n < 2305843009213693952 →
    (s.drain n).1.line.from_ = s.line.from_ + (s.drain n).2.length ∧ (∀ (i : Nat) (x : U), (s.drain n).2[i]? = some x → x.seq = s.line.from_ + 1 + i ∧ s.keeps x) ∧ (∀ x, (s.drain n).1.keeps x → s.keeps x)
  | 0, s, _, _ => ⟨by simp [InSt.drain], fun i x hx => by simp [InSt.drain] at hx, fun x h => h⟩
  | n + 1, s, h, hb => by
    cases hh : s.line.has (s.line.from_ + 1) with
    | false =>
      rw [InSt.drain_no hh]
      exact ⟨by simp, fun i x hx => by simp at hx, fun x h => h⟩
    | true =>
      obtain ⟨h1, _⟩ := h.step hh (by omega)
      obtain ⟨t1, t2⟩ := (has_iff _ _).1 hh
      obtain ⟨_, k2, _, _⟩ := key_spec h.w1 h.w2 (show 0 ≤ s.line.from_ + 1 by have := h.f0; omega)
      have hfs : s.step.line.from_ = s.line.from_ + 1 := rfl
      obtain ⟨i1, i2, i3⟩ := drain_props n h1 (by rw [hfs]; omega)
      rw [InSt.drain_yes hh]
      refine ⟨?_, ?_, fun x hx => keeps_step (i3 x hx)⟩
      · rw [i1, hfs, List.length_cons]
        omega
      · intro i x hx
        match i, hx with
        | 0, hx =>
          simp only [List.getElem?_cons_zero, Option.some.injEq] at hx
          subst hx
          exact ⟨by rw [t2]; simp, _, k2, t1, rfl⟩
        | i + 1, hx =>
          simp only [List.getElem?_cons_succ] at hx
          obtain ⟨j1, j2⟩ := i2 i x hx
          exact ⟨by rw [j1, hfs]; omega, keeps_step j2⟩
theorem take_props {s : InSt} (h : s.Ok) (u : U) (hb : s.line.from_ + 65 < 2305843009213693952) :
    (s.take u).1.line.from_ = s.line.from_ + (s.take u).2.length ∧ (∀ (i : Nat) (x : U), (s.take u).2[i]? = some x → x.seq = s.line.from_ + 1 + i ∧ (x = u ∨ s.keeps x)) ∧ (∀ x, (s.take u).1.keeps x → x = u ∨ s.keeps x) ∧ u.seq ≠ (s.take u).1.line.from_ + 1 := by
  unfold InSt.take
  by_cases hw : s.line.from_ + 1 < u.seq ∧ u.seq < s.line.from_ + 1 + s.line.window
  · rw [if_pos hw]
    cases hh : s.line.has u.seq with
    | true => exact ⟨by simp, fun i x hx => by simp at hx, fun x hx => .inr hx, by show u.seq ≠ s.line.from_ + 1; omega⟩
    | false =>
      refine ⟨by simp [InSt.keep, L.put, L.set], fun i x hx => by simp at hx, fun x hx => ?_, by show u.seq ≠ s.line.from_ + 1; omega⟩
      obtain ⟨k, hk, ht, he⟩ := hx
      by_cases e : k = (u.seq.tmod s.line.window).toNat
      · left
        subst e
        simpa [InSt.keep, L.put, L.set] using he.symm
      · right
        exact ⟨k, hk, by simpa [InSt.keep, L.put, L.set, e] using ht, by simpa [InSt.keep, L.put, L.set, e] using he⟩
  · rw [if_neg hw]
    by_cases hn : u.seq ≠ s.line.from_ + 1
    · rw [if_pos hn]
      exact ⟨by simp, fun i x hx => by simp at hx, fun x hx => .inr hx, hn⟩
    · rw [if_neg hn]
      have hfs : s.next.line.from_ = s.line.from_ + 1 := rfl
      obtain ⟨i1, i2, i3⟩ := drain_props 64 (h.next (by omega)) (by rw [hfs]; omega)
      have hu : u.seq = s.line.from_ + 1 := by omega
      refine ⟨?_, ?_, fun x hx => .inr (i3 x hx), ?_⟩
      · rw [i1, hfs, List.length_cons]
        omega
      · intro i x hx
        match i, hx with
        | 0, hx =>
          simp only [List.getElem?_cons_zero, Option.some.injEq] at hx
          subst hx
          exact ⟨by rw [hu]; simp, .inl rfl⟩
        | i + 1, hx =>
          simp only [List.getElem?_cons_succ] at hx
          obtain ⟨j1, j2⟩ := i2 i x hx
          exact ⟨by rw [j1, hfs]; omega, .inr j2⟩
      · rw [i1, hfs]
        omega
theorem drain_len : ∀ (n : Nat) (s : InSt), (s.drain n).2.length ≤ n
  | 0, s => by simp [InSt.drain]
  | n + 1, s => by
    rw [InSt.drain]
    split
    · have := drain_len n s.step
      simp only [List.length_cons]
      omega
    · simp
theorem take_len (s : InSt) (u : U) : (s.take u).2.length ≤ 65 := by
  unfold InSt.take
  split
  · split <;> simp
  · split
    · simp
    · have := drain_len 64 s.next
      simp only [List.length_cons]
      omega
/-- What the next update brings. -/
theorem take_next_eq {s : InSt} (u : U) (hu : u.seq = s.line.from_ + 1) : s.take u = ((s.next.drain 64).1, u :: (s.next.drain 64).2) := by
  unfold InSt.take
  rw [if_neg (by omega), if_neg (by omega)]
/-- Updates laid one behind the other in a block's cells. -/
def LR (cs : Array Value) (ls : List U) : Prop := ls.length * 7 ≤ cs.size ∧ ∀ (i : Nat) (u : U), ls[i]? = some u → Held cs (i * 7) u
theorem LR.set {cs : Array Value} {ls : List U} (h : LR cs ls) {k : Nat} (hk : k < ls.length) (u : U) : LR (lay cs (k * 7) u) (ls.set k u) := by
  refine ⟨by rw [List.length_set, lay_size]; exact h.1, fun i x hx => ?_⟩
  by_cases e : i = k
  · subst e
    rw [List.getElem?_set_self hk] at hx
    cases hx
    exact lay_here (by have := h.1; omega)
  · rw [List.getElem?_set_ne (by omega)] at hx
    exact held_far (h.2 i x hx) (by omega)
end Go.Proofs.Ytofmgijdeeikeaa.Hop
